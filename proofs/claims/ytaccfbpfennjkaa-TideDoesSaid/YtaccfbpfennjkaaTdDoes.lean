/- TideDoes: tides are as the chapter says, of all deeds and questions: the walk (typed by hand). -/
import Derived.Test.YtaccfbpfennjkaaRt4
namespace Go.Proofs.Ytaccfbpfennjkaa.PTideDoes
open Go.RowKit Go.Proofs.YtaccfbpfennjkaaW.PrintWords Go.Proofs.YtaccfbpfennjkaaW.PrintLast Go.Proofs.YtaccfbpfennjkaaW.PrintMore
attribute [local go_sem] max2_int min2_int max_two min_two max_three min_three max_four min_four   -- for this text's walks alone
set_option linter.unusedVariables false
set_option linter.unusedSimpArgs false
theorem wf_i64 {x : Int} (h : (Lit.int .i64 x).wf = true) : -9223372036854775808 ≤ x ∧ x < 9223372036854775808 := by
  simp only [Lit.wf, Bool.and_eq_true, decide_eq_true_eq] at h
  have hmin : IntKind.i64.min = -9223372036854775808 := rfl
  have hmax : IntKind.i64.max = 9223372036854775807 := rfl
  omega
theorem TdAt.rebase {W W0 V : World} {g : Nat} {t : Td S24} (hw : Below W.heap.size W W0) (h : TdAt W0 V g t) : TdAt W V g t := by
  obtain ⟨a1, a2, A, c, a3, a4⟩ := h
  exact ⟨below_step hw a1, Nat.le_trans hw.size a2, A, c, a3, Kd.R_lower a4 hw.size⟩
theorem RtAt.rebase {W W0 V : World} {g : Nat} {t : Td S24} (hw : Below W.heap.size W W0) (h : RtAt W0 V g t) : RtAt W V g t := by
  obtain ⟨A, c, a1, a2, a3, a4⟩ := h
  exact ⟨A, c, below_step hw a1, Nat.le_trans hw.size a2, a3, Kd.R_lower a4 hw.size⟩
theorem TdAt.box58 {W0 W : World} {g : Nat} {t : Td S24} (h : TdAt W0 W g t) : ∀ (cs : Array Value) (q : TypeId), W.heap[g]? = some (.cells cs q (0, 0)) → q = 58 := by
  obtain ⟨_, _, A, c, a3, _⟩ := h
  intro cs q hq
  rw [a3] at hq
  injection hq with hq
  injection hq with _ hq
  exact hq.symm
theorem RtAt.box50 {W0 W : World} {g : Nat} {t : Td S24} (h : RtAt W0 W g t) : ∀ (cs : Array Value) (q : TypeId), W.heap[g]? = some (.cells cs q (0, 0)) → q = 50 := by
  obtain ⟨A, c, _, _, a3, _⟩ := h
  intro cs q hq
  rw [a3] at hq
  injection hq with hq
  injection hq with _ hq
  exact hq.symm
def errR (a : Int × Int) : Int := if sok a = true then 0 else 2
theorem td_raise2 (W0 W : World) (g : Nat) (t : Td S24) (a : Int × Int) (h : TdAt W0 W g t) : Calls Try.prog 19 #[.pointer (some ⟨g, 0, none⟩), .agg #[.int .i64 a.1, .int .i64 a.2]] W (TdPost W0 W g (if sok a = true then t.raise a else t) (.returned (.int .i64 (errR a)))) := by
  unfold errR
  by_cases hs : sok a = true
  · rw [if_pos hs, if_pos hs]; exact td_raise W0 W g t a h hs
  · rw [if_neg hs, if_neg hs]; exact td_raise_bad W0 W g t a h (by simpa using hs)
theorem rt_raise2 (W0 W : World) (g : Nat) (t : Td S24) (a : Int × Int) (h : RtAt W0 W g t) (hlen : t.l.length ≤ 64) : Calls Try.prog 20 #[.pointer (some ⟨g, 0, none⟩), .agg #[.int .i64 a.1, .int .i64 a.2]] W (RtPost W0 W g (if sok a = true then t.raise a else t) (.returned (.int .i64 (errR a)))) := by
  unfold errR
  by_cases hs : sok a = true
  · rw [if_pos hs, if_pos hs]; exact rt_raise W0 W g t a h (by omega) hs
  · rw [if_neg hs, if_neg hs]; exact rt_raise_bad W0 W g t a h (by omega) (by simpa using hs)
set_option maxHeartbeats 16000000 in
set_option maxRecDepth 100000 in
theorem rt_len (W0 W : World) (g : Nat) (t : Td S24) (h : RtAt W0 W g t) : Calls Try.prog 24 #[.pointer (some ⟨g, 0, none⟩)] W fun e w' => e = .returned (.int .i64 (t.l.length : Int)) ∧ Below W.heap.size W w' := by
  obtain ⟨A, c, h⟩ := h
  have c2 : W.cell? ⟨g, 2, none⟩ = some (.slice A t.l.length c) := (blk_cell h.box 2).trans rfl
  clear h
  go_enter Try.func24, Try.ntmps24
  go_wp2
  go_ret
  exact ⟨rfl, Below.refl _ _⟩
set_option maxHeartbeats 16000000 in
set_option maxRecDepth 100000 in
theorem kd_walk0 (a : Int × Int) (l0 : List S33) (s : S24) (A0 : Option Addr) (c0 : Nat) (w : World) (hwf : (l0.length ≤ maxLen ∧ l0.length * 64 ≤ 140737488351232 ∧ ∀ y0 ∈ l0, ((Lit.int .i64 y0.f0).wf = true ∧ (y0.f1.f0.size ≤ 140737488351232 ∧ y0.f1.f1.size ≤ 140737488351232) ∧ ((Lit.int .i64 y0.f2.f0).wf = true ∧ (Lit.int .i64 y0.f2.f1).wf = true) ∧ (Lit.int .i64 y0.f3).wf = true))) (hr0 : Kd.C k33 w A0 l0.length l0) :
    Calls Try.prog 4 #[.agg #[.int .i64 a.1, .int .i64 a.2], .slice A0 l0.length c0, .agg #[.string s.f0, .string s.f1]] w fun e w' => e = .returned (.bool true) ∧ Below w.heap.size w w' := by
  have HR0 := Aside0.mk hr0
  have HWF := Aside0.mk (fun d (hd : d ∈ l0) => bring4_f d.f0 (wf_i64 (hwf.2.2 d hd).1).1 (by have := (wf_i64 (hwf.2.2 d hd).1).2; omega))
  have HLM := Aside0.mk hwf.2.1
  clear hr0 hwf
  go_enter Try.func4, Try.ntmps4
  go_upto_region 1 with fail
  generalize hw1 : World.alloc (World.alloc w _) _ = w1
  have HB := Aside0.mk (show Below w.heap.size w w1 from by rw [← hw1]; exact below_alloc (td_alloc w _) _)
  have e1_ : (w.alloc (.cells #[.int .i64 a.1, .int .i64 a.2] 31)).heap.size = w.heap.size + 1 := Array.size_push _
  have HX := Aside0.mk (show w1.heap[w.heap.size]? = some (.cells #[.int .i64 a.1, .int .i64 a.2] 31 (0, 0)) from by rw [← hw1]; exact td_kept (blk_new w _) (td_alloc _ _))
  have HS := Aside0.mk (show w1.heap[w.heap.size + 1]? = some (.cells #[.string s.f0, .string s.f1] 24 (0, 0)) from by
    have q := blk_new (w.alloc (.cells #[.int .i64 a.1, .int .i64 a.2] 31)) (.cells #[.string s.f0, .string s.f1] 24)
    rw [e1_, hw1] at q
    exact q)
  clear hw1 e1_
  obtain ⟨n, hn⟩ : ∃ n, w.heap.size = n := ⟨_, rfl⟩
  have HNW := Aside0.mk hn
  rw [hn] at HX HS ⊢
  clear hn
  have x0 : w1.cell? ⟨n, 0, none⟩ = some (.int .i64 a.1) := (blk_cell HX.out 0).trans rfl
  have x1 : w1.cell? ⟨n, 1, none⟩ = some (.int .i64 a.2) := (blk_cell HX.out 1).trans rfl
  by_cases hs : sok a = true
  case neg =>
    have HSK := Aside0.mk (show sok a = false from by simpa using hs)
    clear hs
    go_wp2_with fail
    refine (td_newbad a _ HSK.out).mono ?_
    rintro e w2 ⟨rfl, hb⟩
    clear x0 x1
    have HX_ := Aside0.mk (td_kept HX.out hb)
    clear HX
    have HX := Aside0.mk HX_.out
    clear HX_
    have HB_ := Aside0.mk (below_step HB.out hb)
    clear HB
    have HB := Aside0.mk HB_.out
    clear HB_
    clear hb
    have x0 : w2.cell? ⟨n, 0, none⟩ = some (.int .i64 a.1) := (blk_cell HX.out 0).trans rfl
    have x1 : w2.cell? ⟨n, 1, none⟩ = some (.int .i64 a.2) := (blk_cell HX.out 1).trans rfl
    go_wp2_with fail
    refine (rt_newbad a _ HSK.out).mono ?_
    rintro e w3 ⟨rfl, hb⟩
    clear x0 x1
    have HB_ := Aside0.mk (below_step HB.out hb)
    clear HB
    have HB := Aside0.mk HB_.out
    clear HB_
    clear hb
    go_wp2_with fail
    go_loopg [11] 1 (fun kq v w' => v = .int .i64 0 ∧ Aside0 (Below w.heap.size w w'))
    case atStart => exact ⟨rfl, HB⟩
    case round =>
      clear HB
      obtain ⟨rfl, HB⟩ := hrel
      by_cases h1 : 0 < l0.length
      case' pos =>
        have d1 : decide ((0 : Int) < (l0.length : Int)) = true := decide_eq_true (by omega)
        have d1n : decide (0 < l0.length) = true := decide_eq_true h1
        clear h1
      case' neg =>
        have d1 : decide ((0 : Int) < (l0.length : Int)) = false := decide_eq_false (by omega)
        have d1n : decide (0 < l0.length) = false := decide_eq_false h1
        clear h1
      all_goals
        go_wp2_with fail
        refine (td_works _).mono ?_
        rintro e w4 ⟨rfl, hb⟩
        have HZ := Aside0.mk (below_step HB.out hb)
        clear hb
        go_wp2_with fail
        go_ret
        exact ⟨rfl, HZ.out⟩
  have HSK := Aside0.mk hs
  clear hs
  go_wp2_with fail
  refine (td_new a _ HSK.out).mono ?_
  rintro e w2 ⟨g, rfl, hT⟩
  have hb := hT.below
  have HT := Aside0.mk (hT.rebase HB.out)
  have HSG := Aside0.mk (show some (n + 1) ≠ some g from by intro e; injection e with e; have h1 := blk_lt HS.out; have h2 := hT.own; omega)
  clear x0 x1 hT
  have HX_ := Aside0.mk (td_kept HX.out hb)
  clear HX
  have HX := Aside0.mk HX_.out
  clear HX_
  have HS_ := Aside0.mk (td_kept HS.out hb)
  clear HS
  have HS := Aside0.mk HS_.out
  clear HS_
  have HB_ := Aside0.mk (below_step HB.out hb)
  clear HB
  have HB := Aside0.mk HB_.out
  clear HB_
  clear hb
  have x0 : w2.cell? ⟨n, 0, none⟩ = some (.int .i64 a.1) := (blk_cell HX.out 0).trans rfl
  have x1 : w2.cell? ⟨n, 1, none⟩ = some (.int .i64 a.2) := (blk_cell HX.out 1).trans rfl
  go_wp2_with fail
  refine (rt_new a _ HSK.out).mono ?_
  rintro e w3 ⟨gr, rfl, hQ⟩
  have hb := hQ.below
  have HQ := Aside0.mk (hQ.rebase HB.out)
  have HSR := Aside0.mk (show some (n + 1) ≠ some gr from by intro e; injection e with e; have h1 := blk_lt HS.out; have h2 := hQ.own; omega)
  have HGG := Aside0.mk (show g ≠ gr from by have h1 := HT.out.lt; have h2 := hQ.own; omega)
  clear x0 x1 hQ
  have HS_ := Aside0.mk (td_kept HS.out hb)
  clear HS
  have HS := Aside0.mk HS_.out
  clear HS_
  have HT_ := Aside0.mk (HT.out.step hb)
  clear HT
  have HT := Aside0.mk HT_.out
  clear HT_
  have HB_ := Aside0.mk (below_step HB.out hb)
  clear HB
  have HB := Aside0.mk HB_.out
  clear HB_
  clear hb
  obtain ⟨t, ht⟩ : ∃ t, (⟨a, []⟩ : Td S24) = t := ⟨_, rfl⟩
  have HI := Aside0.mk (show t.l.length ≤ 64 from by rw [← ht]; exact Nat.zero_le _)
  rw [ht] at HT HQ
  clear ht HX HB
  go_wp2_with fail
  go_loopg [11] 151 (fun kq v wr => ∃ (i : Nat) (t : Td S24), v = .int .i64 (i : Int) ∧ Aside0 (i + kq = 151) ∧ Aside0 (t.l.length ≤ 64) ∧ Aside0 (TdAt w wr g t) ∧ Aside0 (RtAt w wr gr t) ∧ Aside0 (wr.heap[n + 1]? = some (.cells #[.string s.f0, .string s.f1] 24 (0, 0))))
  case atStart => exact ⟨0, t, rfl, ⟨rfl⟩, HI, HT, HQ, HS⟩
  case round =>
    clear HI HT HQ HS
    obtain ⟨i, t, rfl, HK, HI, HT, HQ, HS⟩ := hrel
    by_cases hgo : i < l0.length ∧ i < 150
    case pos =>
      obtain ⟨h1, h2⟩ := hgo
      have d1 : decide ((i : Int) < (l0.length : Int)) = true := decide_eq_true (by omega)
      have d1n : decide (i < l0.length) = true := decide_eq_true (by omega)
      have d2 : decide ((i : Int) < 150) = true := decide_eq_true (by omega)
      have d2n : decide (i < 150) = true := decide_eq_true (by omega)
      obtain ⟨ad2, ea, d, hd, hld⟩ := ld_T33 HR0.out i h1
      cases ea
      have hmem : d ∈ l0 := by
        rw [← hd, List.getD_eq_getElem?_getD, List.getElem?_eq_getElem h1]
        exact List.getElem_mem h1
      have HBR := Aside0.mk (HWF.out d hmem)
      have HLD := Aside0.mk (hld wr HT.out.below)
      have HH := Aside0.mk (And.intro h1 h2)
      have p0 := eq_true (show (0 : Int) ≤ (i : Int) by omega)
      have q0 := eq_true (show (i : Int) < (l0.length : Int) by omega)
      have q0n := eq_true h1
      have hwi : Go.RowKit.wrap64 ((i : Int) + 1) = ((i + 1 : Nat) : Int) := by
        unfold Go.RowKit.wrap64
        omega
      have HWI := Aside0.mk hwi
      have HWI2 := Aside0.mk ((i64_w ((i : Int) + 1)).trans hwi)
      clear hwi h1 h2 hd hld hmem
      go_upto_region 9 with (first | (refine wpList_load_at rfl 33 _ rfl _ (by rfl) _ _ HLD.out Try.underlying33 rfl (by kernel_rfl) ?_) | (refine wpList_store_row rfl 33 _ _ rfl wr.heap.size _ (by rfl) (by rfl) _ _ (blk_new _ _) (by kernel_rfl) (by rfl) (by kernel_rfl) ?_))
      clear HLD
      generalize hw : World.setRow _ _ _ = w6
      have HD := Aside0.mk (show w6.heap[wr.heap.size]? = some (.cells #[.int .i64 d.f0, .string d.f1.f0, .string d.f1.f1, .int .i64 d.f2.f0, .int .i64 d.f2.f1, .int .i64 d.f3] 33 (0, 0)) from by rw [← hw]; exact setRow_heap _ _ _ _ _ _ (blk_new _ _))
      have hb : Below wr.heap.size wr w6 := by rw [← hw]; exact td_row (td_alloc _ _) (Nat.le_refl _) _
      clear hw
      have HDG := Aside0.mk (show some wr.heap.size ≠ some g from by intro e; injection e with e; have h1 := HT.out.lt; omega)
      have HDR := Aside0.mk (show some wr.heap.size ≠ some gr from by intro e; injection e with e; have h1 := HQ.out.lt; omega)
      have HT_ := Aside0.mk (HT.out.step hb)
      clear HT
      have HT := Aside0.mk HT_.out
      clear HT_
      have HQ_ := Aside0.mk (HQ.out.step hb)
      clear HQ
      have HQ := Aside0.mk HQ_.out
      clear HQ_
      have HS_ := Aside0.mk (td_kept HS.out hb)
      clear HS
      have HS := Aside0.mk HS_.out
      clear HS_
      clear hb
      generalize wr.heap.size = gd at HD HDG HDR ⊢
      have y0 : w6.cell? ⟨gd, 0, none⟩ = some (.int .i64 d.f0) := (blk_cell HD.out 0).trans rfl
      go_wp2_with fail
      refine (scriptoriumref00_Bring.calls d.f0 4 _ _ HBR.out).mono ?_
      rintro e w7 ⟨rfl, hb⟩
      have hb := hb.below
      clear y0
      have HT_ := Aside0.mk (HT.out.step hb)
      clear HT
      have HT := Aside0.mk HT_.out
      clear HT_
      have HQ_ := Aside0.mk (HQ.out.step hb)
      clear HQ
      have HQ := Aside0.mk HQ_.out
      clear HQ_
      have HS_ := Aside0.mk (td_kept HS.out hb)
      clear HS
      have HS := Aside0.mk HS_.out
      clear HS_
      have HD_ := Aside0.mk (td_kept HD.out hb)
      clear HD
      have HD := Aside0.mk HD_.out
      clear HD_
      clear hb
      by_cases hk : bring4 d.f0 = 3
      case pos =>
        have e3 : (bring4 d.f0 == 3) = true := beq_iff_eq.mpr hk
        have e4 : (errR (d.f2.f0, d.f2.f1) != errR (d.f2.f0, d.f2.f1)) = false := by simp
        clear hk
        go_upto_region 10 with fail
        refine wp_region_noPanic ?_
        refine wp_region_held_drew (S := (fun V => V.cell? ⟨gd, 1, none⟩ = some (.string d.f1.f0) ∧ V.cell? ⟨gd, 2, none⟩ = some (.string d.f1.f1) ∧ V.cell? ⟨gd, 3, none⟩ = some (.int .i64 d.f2.f0) ∧ V.cell? ⟨gd, 4, none⟩ = some (.int .i64 d.f2.f1) ∧ V.cell? ⟨gd, 5, none⟩ = some (.int .i64 d.f3))) (by kernel_rfl) ⟨(blk_cell (td_kept HD.out (below_drew1 (Below.refl _ _))) 1).trans rfl, (blk_cell (td_kept HD.out (below_drew1 (Below.refl _ _))) 2).trans rfl, (blk_cell (td_kept HD.out (below_drew1 (Below.refl _ _))) 3).trans rfl, (blk_cell (td_kept HD.out (below_drew1 (Below.refl _ _))) 4).trans rfl, (blk_cell (td_kept HD.out (below_drew1 (Below.refl _ _))) 5).trans rfl⟩ (fun hHeld => ?_)
        generalize hwd : World.drew _ = wd at hHeld ⊢
        have hb : Below w7.heap.size w7 wd := by rw [← hwd]; exact below_drew1 (Below.refl _ _)
        clear hwd
        have HT_ := Aside0.mk (HT.out.step hb)
        clear HT
        have HT := Aside0.mk HT_.out
        clear HT_
        have HQ_ := Aside0.mk (HQ.out.step hb)
        clear HQ
        have HQ := Aside0.mk HQ_.out
        clear HQ_
        have HS_ := Aside0.mk (td_kept HS.out hb)
        clear HS
        have HS := Aside0.mk HS_.out
        clear HS_
        have HD_ := Aside0.mk (td_kept HD.out hb)
        clear HD
        have HD := Aside0.mk HD_.out
        clear HD_
        clear hb
        refine tk_ (i := 0) (oi := ⟨some 63, _, _, _, _, none⟩) (v := ?v1) rfl (by rfl) ?y1 (by with_reducible assumption) ?r1
        case y1 => (intro V_ hSw; (try dsimp only at hSw); go_simp; (try with_reducible rfl))
        try simp only [Act.put, List.setIfInBounds_toArray, List.set_cons_zero, List.set_cons_succ]
        refine tk_ (i := 1) (oi := ⟨some 64, _, _, _, _, none⟩) (v := ?v2) rfl (by rfl) ?y2 (by with_reducible assumption) ?r2
        case y2 => (intro V_ hSw; (try dsimp only at hSw); go_simp; (try with_reducible rfl))
        try simp only [Act.put, List.setIfInBounds_toArray, List.set_cons_zero, List.set_cons_succ]
        refine tk_ (i := 2) (oi := ⟨some 65, _, _, _, _, none⟩) (v := ?v3) rfl (by rfl) ?y3 (by with_reducible assumption) ?r3
        case y3 => (intro V_ hSw; (try dsimp only at hSw); go_simp; (try with_reducible rfl))
        try simp only [Act.put, List.setIfInBounds_toArray, List.set_cons_zero, List.set_cons_succ]
        refine tk_ (i := 4) (oi := ⟨some 67, _, _, _, _, none⟩) (v := ?v4) rfl (by rfl) ?y4 (by with_reducible assumption) ?r4
        case y4 => (intro V_ hSw; (try dsimp only at hSw); go_simp; (try with_reducible rfl))
        try simp only [Act.put, List.setIfInBounds_toArray, List.set_cons_zero, List.set_cons_succ]
        refine tk_ (i := 5) (oi := ⟨some 68, _, _, _, _, none⟩) (v := ?v5) rfl (by rfl) ?y5 (by with_reducible assumption) ?r5
        case y5 => (intro V_ hSw; (try dsimp only at hSw); go_simp; (try with_reducible rfl))
        try simp only [Act.put, List.setIfInBounds_toArray, List.set_cons_zero, List.set_cons_succ]
        refine tk_ (i := 6) (oi := ⟨some 69, _, _, _, _, none⟩) (v := ?v6) rfl (by rfl) ?y6 (by with_reducible assumption) ?r6
        case y6 => (intro V_ hSw; (try dsimp only at hSw); go_simp; (try with_reducible rfl))
        try simp only [Act.put, List.setIfInBounds_toArray, List.set_cons_zero, List.set_cons_succ]
        refine wpAnyH_ready (rs := [3]) (by kernel_rfl) (by simp) (AllReadyH.cons (o := ⟨some 66, _, _, _, _, none⟩) rfl (fun K hK => ?_) AllReadyH.nil)
        go_simp
        refine (td_raise2 w wd g t (d.f2.f0, d.f2.f1) HT.out).mono ?_
        rintro e we ⟨rfl, hT, hN⟩
        have HQ_ := Aside0.mk (HQ.out.turn hN hT.below HGG.out.symm HT.out.box58)
        have HS_ := Aside0.mk (hN.blk HS.out HSG.out (by decide))
        have HD_ := Aside0.mk (hN.blk HD.out HDG.out (by decide))
        clear HT HQ HS HD
        have HT := Aside0.mk hT
        have HQ := Aside0.mk HQ_.out
        have HS := Aside0.mk HS_.out
        clear HS_
        have HD := Aside0.mk HD_.out
        clear HD_
        clear hT hN HQ_
        refine hK.out _ _ ⟨(blk_cell HD.out 1).trans rfl, (blk_cell HD.out 2).trans rfl, (blk_cell HD.out 3).trans rfl, (blk_cell HD.out 4).trans rfl, (blk_cell HD.out 5).trans rfl⟩ (fun hHeld => ?_)
        clear hK K
        try simp only [Act.put, List.setIfInBounds_toArray, List.set_cons_zero, List.set_cons_succ]
        refine wpAnyH_ready (rs := [7]) (by kernel_rfl) (by simp) (AllReadyH.cons (o := ⟨some 70, _, _, _, _, none⟩) rfl (fun K hK => ?_) AllReadyH.nil)
        go_simp
        refine (rt_raise2 w we gr t (d.f2.f0, d.f2.f1) HQ.out HI.out).mono ?_
        rintro e wf ⟨rfl, hQ, hN⟩
        have HT_ := Aside0.mk (HT.out.rturn hN hQ.below HGG.out HQ.out.box50)
        have HS_ := Aside0.mk (hN.blk HS.out HSR.out (by decide))
        have HD_ := Aside0.mk (hN.blk HD.out HDR.out (by decide))
        clear HT HQ HS HD
        have HQ := Aside0.mk hQ
        have HT := Aside0.mk HT_.out
        have HS := Aside0.mk HS_.out
        clear HS_
        have HD := Aside0.mk HD_.out
        clear HD_
        clear hQ hN HT_
        refine hK.out _ _ ⟨(blk_cell HD.out 1).trans rfl, (blk_cell HD.out 2).trans rfl, (blk_cell HD.out 3).trans rfl, (blk_cell HD.out 4).trans rfl, (blk_cell HD.out 5).trans rfl⟩ (fun hHeld => ?_)
        clear hK K
        try simp only [Act.put, List.setIfInBounds_toArray, List.set_cons_zero, List.set_cons_succ]
        refine tk_ (i := 8) (oi := ⟨some 71, _, _, _, _, none⟩) (v := ?v7) rfl (by rfl) ?y7 (by with_reducible assumption) ?r7
        case y7 => (intro V_ hSw; (try dsimp only at hSw); go_simp; (try with_reducible rfl))
        try simp only [Act.put, List.setIfInBounds_toArray, List.set_cons_zero, List.set_cons_succ]
        refine wpAnyH_done (by kernel_rfl) ?_ _
        refine NoPanic.normal ?_
        clear hHeld
        have HI2 := Aside0.mk (show (if sok (d.f2.f0, d.f2.f1) = true then t.raise (d.f2.f0, d.f2.f1) else t).l.length ≤ 64 from by split; exact raise_len t HI.out _; exact HI.out)
        obtain ⟨t', ht'⟩ : ∃ t', (if sok (d.f2.f0, d.f2.f1) = true then t.raise (d.f2.f0, d.f2.f1) else t) = t' := ⟨_, rfl⟩
        rw [ht'] at HT HQ HI2
        clear ht'
        obtain ⟨X, hX⟩ : ∃ X, t'.maxF s d.f3 = X := ⟨_, rfl⟩
        obtain ⟨Z, hZ⟩ : ∃ Z, t'.maxF d.f1 0 = Z := ⟨_, rfl⟩
        have HXX := Aside0.mk hX
        have HZZ := Aside0.mk hZ
        clear hX hZ
        go_upto_region 14 with fail
        have s0 : wf.cell? ⟨n + 1, 0, none⟩ = some (.string s.f0) := (blk_cell HS.out 0).trans rfl
        have s1 : wf.cell? ⟨n + 1, 1, none⟩ = some (.string s.f1) := (blk_cell HS.out 1).trans rfl
        have y5 : wf.cell? ⟨gd, 5, none⟩ = some (.int .i64 d.f3) := (blk_cell HD.out 5).trans rfl
        go_wp2_with fail
        refine (td_max w wf g t' s d.f3 HT.out).mono ?_
        rintro e wg ⟨rfl, hb⟩
        rw [HXX.out]
        clear s0 s1 y5
        have HT_ := Aside0.mk (HT.out.step hb)
        clear HT
        have HT := Aside0.mk HT_.out
        clear HT_
        have HQ_ := Aside0.mk (HQ.out.step hb)
        clear HQ
        have HQ := Aside0.mk HQ_.out
        clear HQ_
        have HS_ := Aside0.mk (td_kept HS.out hb)
        clear HS
        have HS := Aside0.mk HS_.out
        clear HS_
        have HD_ := Aside0.mk (td_kept HD.out hb)
        clear HD
        have HD := Aside0.mk HD_.out
        clear HD_
        clear hb
        go_upto_region 15 with fail
        generalize hw : World.alloc wg _ = wh
        have H1 := Aside0.mk (show wh.heap[wg.heap.size]? = some (.cells #[.int .i64 X.1.1, .int .i64 X.1.2] 31 (0, 0)) from by rw [← hw]; exact blk_new _ _)
        have hb : Below wg.heap.size wg wh := by rw [← hw]; exact td_alloc _ _
        clear hw
        have HT_ := Aside0.mk (HT.out.step hb)
        clear HT
        have HT := Aside0.mk HT_.out
        clear HT_
        have HQ_ := Aside0.mk (HQ.out.step hb)
        clear HQ
        have HQ := Aside0.mk HQ_.out
        clear HQ_
        have HS_ := Aside0.mk (td_kept HS.out hb)
        clear HS
        have HS := Aside0.mk HS_.out
        clear HS_
        have HD_ := Aside0.mk (td_kept HD.out hb)
        clear HD
        have HD := Aside0.mk HD_.out
        clear HD_
        clear hb
        generalize wg.heap.size = gx at H1 ⊢
        have s0 : wh.cell? ⟨n + 1, 0, none⟩ = some (.string s.f0) := (blk_cell HS.out 0).trans rfl
        have s1 : wh.cell? ⟨n + 1, 1, none⟩ = some (.string s.f1) := (blk_cell HS.out 1).trans rfl
        have y5 : wh.cell? ⟨gd, 5, none⟩ = some (.int .i64 d.f3) := (blk_cell HD.out 5).trans rfl
        go_wp2_with fail
        refine (rt_max w wh gr t' s d.f3 HQ.out).mono ?_
        rintro e wi ⟨rfl, hb⟩
        rw [HXX.out]
        clear s0 s1 y5
        have HT_ := Aside0.mk (HT.out.step hb)
        clear HT
        have HT := Aside0.mk HT_.out
        clear HT_
        have HQ_ := Aside0.mk (HQ.out.step hb)
        clear HQ
        have HQ := Aside0.mk HQ_.out
        clear HQ_
        have HS_ := Aside0.mk (td_kept HS.out hb)
        clear HS
        have HS := Aside0.mk HS_.out
        clear HS_
        have HD_ := Aside0.mk (td_kept HD.out hb)
        clear HD
        have HD := Aside0.mk HD_.out
        clear HD_
        have H1_ := Aside0.mk (td_kept H1.out hb)
        clear H1
        have H1 := Aside0.mk H1_.out
        clear H1_
        clear hb
        go_upto_region 16 with fail
        generalize hw : World.alloc wi _ = wj
        have H2 := Aside0.mk (show wj.heap[wi.heap.size]? = some (.cells #[.int .i64 X.1.1, .int .i64 X.1.2] 31 (0, 0)) from by rw [← hw]; exact blk_new _ _)
        have hb : Below wi.heap.size wi wj := by rw [← hw]; exact td_alloc _ _
        clear hw
        have HT_ := Aside0.mk (HT.out.step hb)
        clear HT
        have HT := Aside0.mk HT_.out
        clear HT_
        have HQ_ := Aside0.mk (HQ.out.step hb)
        clear HQ
        have HQ := Aside0.mk HQ_.out
        clear HQ_
        have HS_ := Aside0.mk (td_kept HS.out hb)
        clear HS
        have HS := Aside0.mk HS_.out
        clear HS_
        have HD_ := Aside0.mk (td_kept HD.out hb)
        clear HD
        have HD := Aside0.mk HD_.out
        clear HD_
        have H1_ := Aside0.mk (td_kept H1.out hb)
        clear H1
        have H1 := Aside0.mk H1_.out
        clear H1_
        clear hb
        generalize wi.heap.size = gy at H2 ⊢
        have y1 : wj.cell? ⟨gd, 1, none⟩ = some (.string d.f1.f0) := (blk_cell HD.out 1).trans rfl
        have y2 : wj.cell? ⟨gd, 2, none⟩ = some (.string d.f1.f1) := (blk_cell HD.out 2).trans rfl
        go_wp2_with fail
        refine (td_max w wj g t' d.f1 0 HT.out).mono ?_
        rintro e wk ⟨rfl, hb⟩
        rw [HZZ.out]
        clear y1 y2
        have HT_ := Aside0.mk (HT.out.step hb)
        clear HT
        have HT := Aside0.mk HT_.out
        clear HT_
        have HQ_ := Aside0.mk (HQ.out.step hb)
        clear HQ
        have HQ := Aside0.mk HQ_.out
        clear HQ_
        have HS_ := Aside0.mk (td_kept HS.out hb)
        clear HS
        have HS := Aside0.mk HS_.out
        clear HS_
        have HD_ := Aside0.mk (td_kept HD.out hb)
        clear HD
        have HD := Aside0.mk HD_.out
        clear HD_
        have H1_ := Aside0.mk (td_kept H1.out hb)
        clear H1
        have H1 := Aside0.mk H1_.out
        clear H1_
        have H2_ := Aside0.mk (td_kept H2.out hb)
        clear H2
        have H2 := Aside0.mk H2_.out
        clear H2_
        clear hb
        go_upto_region 17 with fail
        generalize hw : World.alloc wk _ = wl
        have H3 := Aside0.mk (show wl.heap[wk.heap.size]? = some (.cells #[.int .i64 Z.1.1, .int .i64 Z.1.2] 31 (0, 0)) from by rw [← hw]; exact blk_new _ _)
        have hb : Below wk.heap.size wk wl := by rw [← hw]; exact td_alloc _ _
        clear hw
        have HT_ := Aside0.mk (HT.out.step hb)
        clear HT
        have HT := Aside0.mk HT_.out
        clear HT_
        have HQ_ := Aside0.mk (HQ.out.step hb)
        clear HQ
        have HQ := Aside0.mk HQ_.out
        clear HQ_
        have HS_ := Aside0.mk (td_kept HS.out hb)
        clear HS
        have HS := Aside0.mk HS_.out
        clear HS_
        have HD_ := Aside0.mk (td_kept HD.out hb)
        clear HD
        have HD := Aside0.mk HD_.out
        clear HD_
        have H1_ := Aside0.mk (td_kept H1.out hb)
        clear H1
        have H1 := Aside0.mk H1_.out
        clear H1_
        have H2_ := Aside0.mk (td_kept H2.out hb)
        clear H2
        have H2 := Aside0.mk H2_.out
        clear H2_
        clear hb
        generalize wk.heap.size = gz at H3 ⊢
        have y1 : wl.cell? ⟨gd, 1, none⟩ = some (.string d.f1.f0) := (blk_cell HD.out 1).trans rfl
        have y2 : wl.cell? ⟨gd, 2, none⟩ = some (.string d.f1.f1) := (blk_cell HD.out 2).trans rfl
        go_wp2_with fail
        refine (rt_max w wl gr t' d.f1 0 HQ.out).mono ?_
        rintro e wm ⟨rfl, hb⟩
        rw [HZZ.out]
        clear y1 y2
        have HT_ := Aside0.mk (HT.out.step hb)
        clear HT
        have HT := Aside0.mk HT_.out
        clear HT_
        have HQ_ := Aside0.mk (HQ.out.step hb)
        clear HQ
        have HQ := Aside0.mk HQ_.out
        clear HQ_
        have HS_ := Aside0.mk (td_kept HS.out hb)
        clear HS
        have HS := Aside0.mk HS_.out
        clear HS_
        have HD_ := Aside0.mk (td_kept HD.out hb)
        clear HD
        have HD := Aside0.mk HD_.out
        clear HD_
        have H1_ := Aside0.mk (td_kept H1.out hb)
        clear H1
        have H1 := Aside0.mk H1_.out
        clear H1_
        have H2_ := Aside0.mk (td_kept H2.out hb)
        clear H2
        have H2 := Aside0.mk H2_.out
        clear H2_
        have H3_ := Aside0.mk (td_kept H3.out hb)
        clear H3
        have H3 := Aside0.mk H3_.out
        clear H3_
        clear hb
        go_upto_region 18 with fail
        generalize hw : World.alloc wm _ = wo
        have H4 := Aside0.mk (show wo.heap[wm.heap.size]? = some (.cells #[.int .i64 Z.1.1, .int .i64 Z.1.2] 31 (0, 0)) from by rw [← hw]; exact blk_new _ _)
        have hb : Below wm.heap.size wm wo := by rw [← hw]; exact td_alloc _ _
        clear hw
        have HT_ := Aside0.mk (HT.out.step hb)
        clear HT
        have HT := Aside0.mk HT_.out
        clear HT_
        have HQ_ := Aside0.mk (HQ.out.step hb)
        clear HQ
        have HQ := Aside0.mk HQ_.out
        clear HQ_
        have HS_ := Aside0.mk (td_kept HS.out hb)
        clear HS
        have HS := Aside0.mk HS_.out
        clear HS_
        have H1_ := Aside0.mk (td_kept H1.out hb)
        clear H1
        have H1 := Aside0.mk H1_.out
        clear H1_
        have H2_ := Aside0.mk (td_kept H2.out hb)
        clear H2
        have H2 := Aside0.mk H2_.out
        clear H2_
        have H3_ := Aside0.mk (td_kept H3.out hb)
        clear H3
        have H3 := Aside0.mk H3_.out
        clear H3_
        clear hb
        generalize wm.heap.size = gw at H4 ⊢
        clear HD
        obtain ⟨A_, c_, hrb⟩ := HQ.out
        have HRB := Aside0.mk hrb.box
        clear hrb
        have e7 : (X.2 != X.2) = false := by simp
        have e8 : (Z.2 != Z.2) = false := by simp
        have e9 : ((t'.l.length : Int) != (t'.l.length : Int)) = false := by simp
        refine wp_region_noPanic ?_
        refine wp_region_held_drew (S := (fun V => V.cell? ⟨gx, 0, none⟩ = some (.int .i64 X.1.1) ∧ V.cell? ⟨gx, 1, none⟩ = some (.int .i64 X.1.2) ∧ V.cell? ⟨gy, 0, none⟩ = some (.int .i64 X.1.1) ∧ V.cell? ⟨gy, 1, none⟩ = some (.int .i64 X.1.2) ∧ V.cell? ⟨gz, 0, none⟩ = some (.int .i64 Z.1.1) ∧ V.cell? ⟨gz, 1, none⟩ = some (.int .i64 Z.1.2) ∧ V.cell? ⟨gw, 0, none⟩ = some (.int .i64 Z.1.1) ∧ V.cell? ⟨gw, 1, none⟩ = some (.int .i64 Z.1.2) ∧ V.cell? ⟨gr, 0, none⟩ = some (.int .i64 t'.low.1) ∧ V.cell? ⟨gr, 1, none⟩ = some (.int .i64 t'.low.2))) (by kernel_rfl) ⟨(blk_cell (td_kept H1.out (below_drew1 (Below.refl _ _))) 0).trans rfl, (blk_cell (td_kept H1.out (below_drew1 (Below.refl _ _))) 1).trans rfl, (blk_cell (td_kept H2.out (below_drew1 (Below.refl _ _))) 0).trans rfl, (blk_cell (td_kept H2.out (below_drew1 (Below.refl _ _))) 1).trans rfl, (blk_cell (td_kept H3.out (below_drew1 (Below.refl _ _))) 0).trans rfl, (blk_cell (td_kept H3.out (below_drew1 (Below.refl _ _))) 1).trans rfl, (blk_cell (td_kept H4.out (below_drew1 (Below.refl _ _))) 0).trans rfl, (blk_cell (td_kept H4.out (below_drew1 (Below.refl _ _))) 1).trans rfl, (blk_cell (td_kept HRB.out (below_drew1 (Below.refl _ _))) 0).trans rfl, (blk_cell (td_kept HRB.out (below_drew1 (Below.refl _ _))) 1).trans rfl⟩ (fun hHeld => ?_)
        generalize hwd : World.drew _ = wd at hHeld ⊢
        have hb : Below wo.heap.size wo wd := by rw [← hwd]; exact below_drew1 (Below.refl _ _)
        clear hwd
        have H1_ := Aside0.mk (td_kept H1.out hb)
        clear H1
        have H1 := Aside0.mk H1_.out
        clear H1_
        have H2_ := Aside0.mk (td_kept H2.out hb)
        clear H2
        have H2 := Aside0.mk H2_.out
        clear H2_
        have H3_ := Aside0.mk (td_kept H3.out hb)
        clear H3
        have H3 := Aside0.mk H3_.out
        clear H3_
        have H4_ := Aside0.mk (td_kept H4.out hb)
        clear H4
        have H4 := Aside0.mk H4_.out
        clear H4_
        have HT_ := Aside0.mk (HT.out.step hb)
        clear HT
        have HT := Aside0.mk HT_.out
        clear HT_
        have HQ_ := Aside0.mk (HQ.out.step hb)
        clear HQ
        have HQ := Aside0.mk HQ_.out
        clear HQ_
        have HS_ := Aside0.mk (td_kept HS.out hb)
        clear HS
        have HS := Aside0.mk HS_.out
        clear HS_
        have HRB_ := Aside0.mk (td_kept HRB.out hb)
        clear HRB
        have HRB := Aside0.mk HRB_.out
        clear HRB_
        clear hb
        refine tk_ (i := 0) (oi := ⟨some 119, _, _, _, _, none⟩) (v := ?v8) rfl (by rfl) ?y8 (by with_reducible assumption) ?r8
        case y8 => (intro V_ hSw; (try dsimp only at hSw); go_simp; (try with_reducible rfl))
        try simp only [Act.put, List.setIfInBounds_toArray, List.set_cons_zero, List.set_cons_succ]
        refine tk_ (i := 1) (oi := ⟨some 120, _, _, _, _, none⟩) (v := ?v9) rfl (by rfl) ?y9 (by with_reducible assumption) ?r9
        case y9 => (intro V_ hSw; (try dsimp only at hSw); go_simp; (try with_reducible rfl))
        try simp only [Act.put, List.setIfInBounds_toArray, List.set_cons_zero, List.set_cons_succ]
        refine tk_ (i := 2) (oi := ⟨some 121, _, _, _, _, none⟩) (v := ?v10) rfl (by rfl) ?y10 (by with_reducible assumption) ?r10
        case y10 => (intro V_ hSw; (try dsimp only at hSw); go_simp; (try with_reducible rfl))
        try simp only [Act.put, List.setIfInBounds_toArray, List.set_cons_zero, List.set_cons_succ]
        refine tk_ (i := 3) (oi := ⟨some 122, _, _, _, _, none⟩) (v := ?v11) rfl (by rfl) ?y11 (by with_reducible assumption) ?r11
        case y11 => (intro V_ hSw; (try dsimp only at hSw); go_simp; (try with_reducible rfl))
        try simp only [Act.put, List.setIfInBounds_toArray, List.set_cons_zero, List.set_cons_succ]
        refine tk_ (i := 4) (oi := ⟨some 123, _, _, _, _, some (3, false)⟩) (v := ?v12) rfl (by rfl) ?y12 (by with_reducible assumption) ?r12
        case y12 => (intro V_ hSw; (try dsimp only at hSw); go_simp; (try with_reducible rfl))
        try simp only [Act.put, List.setIfInBounds_toArray, List.set_cons_zero, List.set_cons_succ]
        refine tk_ (i := 5) (oi := ⟨some 124, _, _, _, _, some (3, false)⟩) (v := ?v13) rfl (by rfl) ?y13 (by with_reducible assumption) ?r13
        case y13 => (intro V_ hSw; (try dsimp only at hSw); go_simp; (try with_reducible rfl))
        try simp only [Act.put, List.setIfInBounds_toArray, List.set_cons_zero, List.set_cons_succ]
        refine tk_ (i := 6) (oi := ⟨some 125, _, _, _, _, some (3, false)⟩) (v := ?v14) rfl (by rfl) ?y14 (by with_reducible assumption) ?r14
        case y14 => (intro V_ hSw; (try dsimp only at hSw); go_simp; (try with_reducible rfl))
        try simp only [Act.put, List.setIfInBounds_toArray, List.set_cons_zero, List.set_cons_succ]
        refine tk_ (i := 7) (oi := ⟨some 126, _, _, _, _, none⟩) (v := ?v15) rfl (by rfl) ?y15 (by with_reducible assumption) ?r15
        case y15 => (intro V_ hSw; (try dsimp only at hSw); go_simp; (try with_reducible rfl))
        try simp only [Act.put, List.setIfInBounds_toArray, List.set_cons_zero, List.set_cons_succ]
        refine tk_ (i := 8) (oi := ⟨some 127, _, _, _, _, none⟩) (v := ?v16) rfl (by rfl) ?y16 (by with_reducible assumption) ?r16
        case y16 => (intro V_ hSw; (try dsimp only at hSw); go_simp; (try with_reducible rfl))
        try simp only [Act.put, List.setIfInBounds_toArray, List.set_cons_zero, List.set_cons_succ]
        refine tk_ (i := 9) (oi := ⟨some 128, _, _, _, _, some (8, false)⟩) (v := ?v17) rfl (by rfl) ?y17 (by with_reducible assumption) ?r17
        case y17 => (intro V_ hSw; (try dsimp only at hSw); go_simp; (try with_reducible rfl))
        try simp only [Act.put, List.setIfInBounds_toArray, List.set_cons_zero, List.set_cons_succ]
        refine tk_ (i := 10) (oi := ⟨some 129, _, _, _, _, some (8, false)⟩) (v := ?v18) rfl (by rfl) ?y18 (by with_reducible assumption) ?r18
        case y18 => (intro V_ hSw; (try dsimp only at hSw); go_simp; (try with_reducible rfl))
        try simp only [Act.put, List.setIfInBounds_toArray, List.set_cons_zero, List.set_cons_succ]
        refine tk_ (i := 11) (oi := ⟨some 130, _, _, _, _, some (8, false)⟩) (v := ?v19) rfl (by rfl) ?y19 (by with_reducible assumption) ?r19
        case y19 => (intro V_ hSw; (try dsimp only at hSw); go_simp; (try with_reducible rfl))
        try simp only [Act.put, List.setIfInBounds_toArray, List.set_cons_zero, List.set_cons_succ]
        refine tk_ (i := 12) (oi := ⟨some 131, _, _, _, _, none⟩) (v := ?v20) rfl (by rfl) ?y20 (by with_reducible assumption) ?r20
        case y20 => (intro V_ hSw; (try dsimp only at hSw); go_simp; (try with_reducible rfl))
        try simp only [Act.put, List.setIfInBounds_toArray, List.set_cons_zero, List.set_cons_succ]
        refine tk_ (i := 13) (oi := ⟨some 132, _, _, _, _, none⟩) (v := ?v21) rfl (by rfl) ?y21 (by with_reducible assumption) ?r21
        case y21 => (intro V_ hSw; (try dsimp only at hSw); go_simp; (try with_reducible rfl))
        try simp only [Act.put, List.setIfInBounds_toArray, List.set_cons_zero, List.set_cons_succ]
        refine tk_ (i := 14) (oi := ⟨some 133, _, _, _, _, some (13, false)⟩) (v := ?v22) rfl (by rfl) ?y22 (by with_reducible assumption) ?r22
        case y22 => (intro V_ hSw; (try dsimp only at hSw); go_simp; (try with_reducible rfl))
        try simp only [Act.put, List.setIfInBounds_toArray, List.set_cons_zero, List.set_cons_succ]
        refine tk_ (i := 15) (oi := ⟨some 134, _, _, _, _, some (13, false)⟩) (v := ?v23) rfl (by rfl) ?y23 (by with_reducible assumption) ?r23
        case y23 => (intro V_ hSw; (try dsimp only at hSw); go_simp; (try with_reducible rfl))
        try simp only [Act.put, List.setIfInBounds_toArray, List.set_cons_zero, List.set_cons_succ]
        refine tk_ (i := 16) (oi := ⟨some 135, _, _, _, _, some (13, false)⟩) (v := ?v24) rfl (by rfl) ?y24 (by with_reducible assumption) ?r24
        case y24 => (intro V_ hSw; (try dsimp only at hSw); go_simp; (try with_reducible rfl))
        try simp only [Act.put, List.setIfInBounds_toArray, List.set_cons_zero, List.set_cons_succ]
        refine tk_ (i := 17) (oi := ⟨some 136, _, _, _, _, none⟩) (v := ?v25) rfl (by rfl) ?y25 (by with_reducible assumption) ?r25
        case y25 => (intro V_ hSw; (try dsimp only at hSw); go_simp; (try with_reducible rfl))
        try simp only [Act.put, List.setIfInBounds_toArray, List.set_cons_zero, List.set_cons_succ]
        refine tk_ (i := 18) (oi := ⟨some 137, _, _, _, _, none⟩) (v := ?v26) rfl (by rfl) ?y26 (by with_reducible assumption) ?r26
        case y26 => (intro V_ hSw; (try dsimp only at hSw); go_simp; (try with_reducible rfl))
        try simp only [Act.put, List.setIfInBounds_toArray, List.set_cons_zero, List.set_cons_succ]
        refine tk_ (i := 19) (oi := ⟨some 138, _, _, _, _, some (18, false)⟩) (v := ?v27) rfl (by rfl) ?y27 (by with_reducible assumption) ?r27
        case y27 => (intro V_ hSw; (try dsimp only at hSw); go_simp; (try with_reducible rfl))
        try simp only [Act.put, List.setIfInBounds_toArray, List.set_cons_zero, List.set_cons_succ]
        refine tk_ (i := 21) (oi := ⟨some 140, _, _, _, _, some (18, false)⟩) (v := ?v28) rfl (by rfl) ?y28 (by with_reducible assumption) ?r28
        case y28 => (intro V_ hSw; (try dsimp only at hSw); go_simp; (try with_reducible rfl))
        try simp only [Act.put, List.setIfInBounds_toArray, List.set_cons_zero, List.set_cons_succ]
        refine tk_ (i := 22) (oi := ⟨some 141, _, _, _, _, some (18, false)⟩) (v := ?v29) rfl (by rfl) ?y29 (by with_reducible assumption) ?r29
        case y29 => (intro V_ hSw; (try dsimp only at hSw); go_simp; (try with_reducible rfl))
        try simp only [Act.put, List.setIfInBounds_toArray, List.set_cons_zero, List.set_cons_succ]
        refine tk_ (i := 23) (oi := ⟨some 142, _, _, _, _, some (18, false)⟩) (v := ?v30) rfl (by rfl) ?y30 (by with_reducible assumption) ?r30
        case y30 => (intro V_ hSw; (try dsimp only at hSw); go_simp; (try with_reducible rfl))
        try simp only [Act.put, List.setIfInBounds_toArray, List.set_cons_zero, List.set_cons_succ]
        refine tk_ (i := 24) (oi := ⟨some 143, _, _, _, _, some (18, false)⟩) (v := ?v31) rfl (by rfl) ?y31 (by with_reducible assumption) ?r31
        case y31 => (intro V_ hSw; (try dsimp only at hSw); go_simp; (try with_reducible rfl))
        try simp only [Act.put, List.setIfInBounds_toArray, List.set_cons_zero, List.set_cons_succ]
        refine wpAnyH_ready (rs := [20]) (by kernel_rfl) (by simp) (AllReadyH.cons (o := ⟨some 139, _, _, _, _, some (18, false)⟩) rfl (fun K hK => ?_) AllReadyH.nil)
        go_simp
        refine (td_low w _ g t' HT.out).mono ?_
        rintro e wq1 ⟨rfl, hb⟩
        have H1_ := Aside0.mk (td_kept H1.out hb)
        clear H1
        have H1 := Aside0.mk H1_.out
        clear H1_
        have H2_ := Aside0.mk (td_kept H2.out hb)
        clear H2
        have H2 := Aside0.mk H2_.out
        clear H2_
        have H3_ := Aside0.mk (td_kept H3.out hb)
        clear H3
        have H3 := Aside0.mk H3_.out
        clear H3_
        have H4_ := Aside0.mk (td_kept H4.out hb)
        clear H4
        have H4 := Aside0.mk H4_.out
        clear H4_
        have HT_ := Aside0.mk (HT.out.step hb)
        clear HT
        have HT := Aside0.mk HT_.out
        clear HT_
        have HQ_ := Aside0.mk (HQ.out.step hb)
        clear HQ
        have HQ := Aside0.mk HQ_.out
        clear HQ_
        have HS_ := Aside0.mk (td_kept HS.out hb)
        clear HS
        have HS := Aside0.mk HS_.out
        clear HS_
        have HRB_ := Aside0.mk (td_kept HRB.out hb)
        clear HRB
        have HRB := Aside0.mk HRB_.out
        clear HRB_
        clear hb
        refine hK.out _ _ ⟨(blk_cell (td_kept H1.out (Below.refl _ _)) 0).trans rfl, (blk_cell (td_kept H1.out (Below.refl _ _)) 1).trans rfl, (blk_cell (td_kept H2.out (Below.refl _ _)) 0).trans rfl, (blk_cell (td_kept H2.out (Below.refl _ _)) 1).trans rfl, (blk_cell (td_kept H3.out (Below.refl _ _)) 0).trans rfl, (blk_cell (td_kept H3.out (Below.refl _ _)) 1).trans rfl, (blk_cell (td_kept H4.out (Below.refl _ _)) 0).trans rfl, (blk_cell (td_kept H4.out (Below.refl _ _)) 1).trans rfl, (blk_cell (td_kept HRB.out (Below.refl _ _)) 0).trans rfl, (blk_cell (td_kept HRB.out (Below.refl _ _)) 1).trans rfl⟩ (fun hHeld => ?_)
        clear hK K
        try simp only [Act.put, List.setIfInBounds_toArray, List.set_cons_zero, List.set_cons_succ]
        refine tk_ (i := 25) (oi := ⟨some 144, _, _, _, _, some (18, false)⟩) (v := ?v32) rfl (by rfl) ?y32 (by with_reducible assumption) ?r32
        case y32 => (intro V_ hSw; (try dsimp only at hSw); go_simp; (try with_reducible rfl))
        try simp only [Act.put, List.setIfInBounds_toArray, List.set_cons_zero, List.set_cons_succ]
        refine tk_ (i := 26) (oi := ⟨some 145, _, _, _, _, none⟩) (v := ?v33) rfl (by rfl) ?y33 (by with_reducible assumption) ?r33
        case y33 => (intro V_ hSw; (try dsimp only at hSw); go_simp; (try with_reducible rfl))
        try simp only [Act.put, List.setIfInBounds_toArray, List.set_cons_zero, List.set_cons_succ]
        refine tk_ (i := 27) (oi := ⟨some 146, _, _, _, _, none⟩) (v := ?v34) rfl (by rfl) ?y34 (by with_reducible assumption) ?r34
        case y34 => (intro V_ hSw; (try dsimp only at hSw); go_simp; (try with_reducible rfl))
        try simp only [Act.put, List.setIfInBounds_toArray, List.set_cons_zero, List.set_cons_succ]
        refine tk_ (i := 28) (oi := ⟨some 147, _, _, _, _, some (27, false)⟩) (v := ?v35) rfl (by rfl) ?y35 (by with_reducible assumption) ?r35
        case y35 => (intro V_ hSw; (try dsimp only at hSw); go_simp; (try with_reducible rfl))
        try simp only [Act.put, List.setIfInBounds_toArray, List.set_cons_zero, List.set_cons_succ]
        refine tk_ (i := 30) (oi := ⟨some 149, _, _, _, _, some (27, false)⟩) (v := ?v36) rfl (by rfl) ?y36 (by with_reducible assumption) ?r36
        case y36 => (intro V_ hSw; (try dsimp only at hSw); go_simp; (try with_reducible rfl))
        try simp only [Act.put, List.setIfInBounds_toArray, List.set_cons_zero, List.set_cons_succ]
        refine wpAnyH_ready (rs := [29]) (by kernel_rfl) (by simp) (AllReadyH.cons (o := ⟨some 148, _, _, _, _, some (27, false)⟩) rfl (fun K hK => ?_) AllReadyH.nil)
        go_simp
        refine (td_len w _ g t' HT.out).mono ?_
        rintro e wq2 ⟨rfl, hb⟩
        have H1_ := Aside0.mk (td_kept H1.out hb)
        clear H1
        have H1 := Aside0.mk H1_.out
        clear H1_
        have H2_ := Aside0.mk (td_kept H2.out hb)
        clear H2
        have H2 := Aside0.mk H2_.out
        clear H2_
        have H3_ := Aside0.mk (td_kept H3.out hb)
        clear H3
        have H3 := Aside0.mk H3_.out
        clear H3_
        have H4_ := Aside0.mk (td_kept H4.out hb)
        clear H4
        have H4 := Aside0.mk H4_.out
        clear H4_
        have HT_ := Aside0.mk (HT.out.step hb)
        clear HT
        have HT := Aside0.mk HT_.out
        clear HT_
        have HQ_ := Aside0.mk (HQ.out.step hb)
        clear HQ
        have HQ := Aside0.mk HQ_.out
        clear HQ_
        have HS_ := Aside0.mk (td_kept HS.out hb)
        clear HS
        have HS := Aside0.mk HS_.out
        clear HS_
        have HRB_ := Aside0.mk (td_kept HRB.out hb)
        clear HRB
        have HRB := Aside0.mk HRB_.out
        clear HRB_
        clear hb
        refine hK.out _ _ ⟨(blk_cell (td_kept H1.out (Below.refl _ _)) 0).trans rfl, (blk_cell (td_kept H1.out (Below.refl _ _)) 1).trans rfl, (blk_cell (td_kept H2.out (Below.refl _ _)) 0).trans rfl, (blk_cell (td_kept H2.out (Below.refl _ _)) 1).trans rfl, (blk_cell (td_kept H3.out (Below.refl _ _)) 0).trans rfl, (blk_cell (td_kept H3.out (Below.refl _ _)) 1).trans rfl, (blk_cell (td_kept H4.out (Below.refl _ _)) 0).trans rfl, (blk_cell (td_kept H4.out (Below.refl _ _)) 1).trans rfl, (blk_cell (td_kept HRB.out (Below.refl _ _)) 0).trans rfl, (blk_cell (td_kept HRB.out (Below.refl _ _)) 1).trans rfl⟩ (fun hHeld => ?_)
        clear hK K
        try simp only [Act.put, List.setIfInBounds_toArray, List.set_cons_zero, List.set_cons_succ]
        refine wpAnyH_ready (rs := [31]) (by kernel_rfl) (by simp) (AllReadyH.cons (o := ⟨some 150, _, _, _, _, some (27, false)⟩) rfl (fun K hK => ?_) AllReadyH.nil)
        go_simp
        refine (rt_len w _ gr t' HQ.out).mono ?_
        rintro e wq3 ⟨rfl, hb⟩
        have H1_ := Aside0.mk (td_kept H1.out hb)
        clear H1
        have H1 := Aside0.mk H1_.out
        clear H1_
        have H2_ := Aside0.mk (td_kept H2.out hb)
        clear H2
        have H2 := Aside0.mk H2_.out
        clear H2_
        have H3_ := Aside0.mk (td_kept H3.out hb)
        clear H3
        have H3 := Aside0.mk H3_.out
        clear H3_
        have H4_ := Aside0.mk (td_kept H4.out hb)
        clear H4
        have H4 := Aside0.mk H4_.out
        clear H4_
        have HT_ := Aside0.mk (HT.out.step hb)
        clear HT
        have HT := Aside0.mk HT_.out
        clear HT_
        have HQ_ := Aside0.mk (HQ.out.step hb)
        clear HQ
        have HQ := Aside0.mk HQ_.out
        clear HQ_
        have HS_ := Aside0.mk (td_kept HS.out hb)
        clear HS
        have HS := Aside0.mk HS_.out
        clear HS_
        have HRB_ := Aside0.mk (td_kept HRB.out hb)
        clear HRB
        have HRB := Aside0.mk HRB_.out
        clear HRB_
        clear hb
        refine hK.out _ _ ⟨(blk_cell (td_kept H1.out (Below.refl _ _)) 0).trans rfl, (blk_cell (td_kept H1.out (Below.refl _ _)) 1).trans rfl, (blk_cell (td_kept H2.out (Below.refl _ _)) 0).trans rfl, (blk_cell (td_kept H2.out (Below.refl _ _)) 1).trans rfl, (blk_cell (td_kept H3.out (Below.refl _ _)) 0).trans rfl, (blk_cell (td_kept H3.out (Below.refl _ _)) 1).trans rfl, (blk_cell (td_kept H4.out (Below.refl _ _)) 0).trans rfl, (blk_cell (td_kept H4.out (Below.refl _ _)) 1).trans rfl, (blk_cell (td_kept HRB.out (Below.refl _ _)) 0).trans rfl, (blk_cell (td_kept HRB.out (Below.refl _ _)) 1).trans rfl⟩ (fun hHeld => ?_)
        clear hK K
        try simp only [Act.put, List.setIfInBounds_toArray, List.set_cons_zero, List.set_cons_succ]
        refine tk_ (i := 32) (oi := ⟨some 151, _, _, _, _, some (27, false)⟩) (v := ?v37) rfl (by rfl) ?y37 (by with_reducible assumption) ?r37
        case y37 => (intro V_ hSw; (try dsimp only at hSw); go_simp; (try with_reducible rfl))
        try simp only [Act.put, List.setIfInBounds_toArray, List.set_cons_zero, List.set_cons_succ]
        refine tk_ (i := 33) (oi := ⟨some 152, _, _, _, _, none⟩) (v := ?v38) rfl (by rfl) ?y38 (by with_reducible assumption) ?r38
        case y38 => (intro V_ hSw; (try dsimp only at hSw); go_simp; (try with_reducible rfl))
        try simp only [Act.put, List.setIfInBounds_toArray, List.set_cons_zero, List.set_cons_succ]
        refine wpAnyH_done (by kernel_rfl) ?_ _
        refine NoPanic.normal ?_
        clear hHeld
        go_wp2_with fail
        go_roundg (150 - i)
        case measure => have h1 := HK.out; have h2 := HH.out.2; omega
        case rel => exact ⟨i + 1, t', congrArg (Value.int .i64) (by first | exact HWI.out | exact HWI2.out | rfl | omega), ⟨by have h1 := HK.out; have h2 := HH.out.2; omega⟩, HI2, HT, HQ, HS⟩
      case neg =>
        have e3 : (bring4 d.f0 == 3) = false := beq_eq_false_iff_ne.mpr hk
        have e4 : (addErr d.f1 (d.f2.f0, d.f2.f1) d.f3 != addErr d.f1 (d.f2.f0, d.f2.f1) d.f3) = false := by simp
        clear hk
        go_upto_region 12 with fail
        refine wp_region_noPanic ?_
        refine wp_region_held_drew (S := (fun V => V.cell? ⟨gd, 1, none⟩ = some (.string d.f1.f0) ∧ V.cell? ⟨gd, 2, none⟩ = some (.string d.f1.f1) ∧ V.cell? ⟨gd, 3, none⟩ = some (.int .i64 d.f2.f0) ∧ V.cell? ⟨gd, 4, none⟩ = some (.int .i64 d.f2.f1) ∧ V.cell? ⟨gd, 5, none⟩ = some (.int .i64 d.f3))) (by kernel_rfl) ⟨(blk_cell (td_kept HD.out (below_drew1 (Below.refl _ _))) 1).trans rfl, (blk_cell (td_kept HD.out (below_drew1 (Below.refl _ _))) 2).trans rfl, (blk_cell (td_kept HD.out (below_drew1 (Below.refl _ _))) 3).trans rfl, (blk_cell (td_kept HD.out (below_drew1 (Below.refl _ _))) 4).trans rfl, (blk_cell (td_kept HD.out (below_drew1 (Below.refl _ _))) 5).trans rfl⟩ (fun hHeld => ?_)
        generalize hwd : World.drew _ = wd at hHeld ⊢
        have hb : Below w7.heap.size w7 wd := by rw [← hwd]; exact below_drew1 (Below.refl _ _)
        clear hwd
        have HT_ := Aside0.mk (HT.out.step hb)
        clear HT
        have HT := Aside0.mk HT_.out
        clear HT_
        have HQ_ := Aside0.mk (HQ.out.step hb)
        clear HQ
        have HQ := Aside0.mk HQ_.out
        clear HQ_
        have HS_ := Aside0.mk (td_kept HS.out hb)
        clear HS
        have HS := Aside0.mk HS_.out
        clear HS_
        have HD_ := Aside0.mk (td_kept HD.out hb)
        clear HD
        have HD := Aside0.mk HD_.out
        clear HD_
        clear hb
        refine tk_ (i := 0) (oi := ⟨some 72, _, _, _, _, none⟩) (v := ?v39) rfl (by rfl) ?y39 (by with_reducible assumption) ?r39
        case y39 => (intro V_ hSw; (try dsimp only at hSw); go_simp; (try with_reducible rfl))
        try simp only [Act.put, List.setIfInBounds_toArray, List.set_cons_zero, List.set_cons_succ]
        refine tk_ (i := 1) (oi := ⟨some 73, _, _, _, _, none⟩) (v := ?v40) rfl (by rfl) ?y40 (by with_reducible assumption) ?r40
        case y40 => (intro V_ hSw; (try dsimp only at hSw); go_simp; (try with_reducible rfl))
        try simp only [Act.put, List.setIfInBounds_toArray, List.set_cons_zero, List.set_cons_succ]
        refine tk_ (i := 2) (oi := ⟨some 74, _, _, _, _, none⟩) (v := ?v41) rfl (by rfl) ?y41 (by with_reducible assumption) ?r41
        case y41 => (intro V_ hSw; (try dsimp only at hSw); go_simp; (try with_reducible rfl))
        try simp only [Act.put, List.setIfInBounds_toArray, List.set_cons_zero, List.set_cons_succ]
        refine tk_ (i := 3) (oi := ⟨some 75, _, _, _, _, none⟩) (v := ?v42) rfl (by rfl) ?y42 (by with_reducible assumption) ?r42
        case y42 => (intro V_ hSw; (try dsimp only at hSw); go_simp; (try with_reducible rfl))
        try simp only [Act.put, List.setIfInBounds_toArray, List.set_cons_zero, List.set_cons_succ]
        refine tk_ (i := 4) (oi := ⟨some 76, _, _, _, _, none⟩) (v := ?v43) rfl (by rfl) ?y43 (by with_reducible assumption) ?r43
        case y43 => (intro V_ hSw; (try dsimp only at hSw); go_simp; (try with_reducible rfl))
        try simp only [Act.put, List.setIfInBounds_toArray, List.set_cons_zero, List.set_cons_succ]
        refine tk_ (i := 5) (oi := ⟨some 77, _, _, _, _, none⟩) (v := ?v44) rfl (by rfl) ?y44 (by with_reducible assumption) ?r44
        case y44 => (intro V_ hSw; (try dsimp only at hSw); go_simp; (try with_reducible rfl))
        try simp only [Act.put, List.setIfInBounds_toArray, List.set_cons_zero, List.set_cons_succ]
        refine tk_ (i := 6) (oi := ⟨some 78, _, _, _, _, none⟩) (v := ?v45) rfl (by rfl) ?y45 (by with_reducible assumption) ?r45
        case y45 => (intro V_ hSw; (try dsimp only at hSw); go_simp; (try with_reducible rfl))
        try simp only [Act.put, List.setIfInBounds_toArray, List.set_cons_zero, List.set_cons_succ]
        refine tk_ (i := 8) (oi := ⟨some 80, _, _, _, _, none⟩) (v := ?v46) rfl (by rfl) ?y46 (by with_reducible assumption) ?r46
        case y46 => (intro V_ hSw; (try dsimp only at hSw); go_simp; (try with_reducible rfl))
        try simp only [Act.put, List.setIfInBounds_toArray, List.set_cons_zero, List.set_cons_succ]
        refine tk_ (i := 9) (oi := ⟨some 81, _, _, _, _, none⟩) (v := ?v47) rfl (by rfl) ?y47 (by with_reducible assumption) ?r47
        case y47 => (intro V_ hSw; (try dsimp only at hSw); go_simp; (try with_reducible rfl))
        try simp only [Act.put, List.setIfInBounds_toArray, List.set_cons_zero, List.set_cons_succ]
        refine tk_ (i := 10) (oi := ⟨some 82, _, _, _, _, none⟩) (v := ?v48) rfl (by rfl) ?y48 (by with_reducible assumption) ?r48
        case y48 => (intro V_ hSw; (try dsimp only at hSw); go_simp; (try with_reducible rfl))
        try simp only [Act.put, List.setIfInBounds_toArray, List.set_cons_zero, List.set_cons_succ]
        refine tk_ (i := 11) (oi := ⟨some 83, _, _, _, _, none⟩) (v := ?v49) rfl (by rfl) ?y49 (by with_reducible assumption) ?r49
        case y49 => (intro V_ hSw; (try dsimp only at hSw); go_simp; (try with_reducible rfl))
        try simp only [Act.put, List.setIfInBounds_toArray, List.set_cons_zero, List.set_cons_succ]
        refine tk_ (i := 12) (oi := ⟨some 84, _, _, _, _, none⟩) (v := ?v50) rfl (by rfl) ?y50 (by with_reducible assumption) ?r50
        case y50 => (intro V_ hSw; (try dsimp only at hSw); go_simp; (try with_reducible rfl))
        try simp only [Act.put, List.setIfInBounds_toArray, List.set_cons_zero, List.set_cons_succ]
        refine tk_ (i := 13) (oi := ⟨some 85, _, _, _, _, none⟩) (v := ?v51) rfl (by rfl) ?y51 (by with_reducible assumption) ?r51
        case y51 => (intro V_ hSw; (try dsimp only at hSw); go_simp; (try with_reducible rfl))
        try simp only [Act.put, List.setIfInBounds_toArray, List.set_cons_zero, List.set_cons_succ]
        refine tk_ (i := 14) (oi := ⟨some 86, _, _, _, _, none⟩) (v := ?v52) rfl (by rfl) ?y52 (by with_reducible assumption) ?r52
        case y52 => (intro V_ hSw; (try dsimp only at hSw); go_simp; (try with_reducible rfl))
        try simp only [Act.put, List.setIfInBounds_toArray, List.set_cons_zero, List.set_cons_succ]
        refine wpAnyH_ready (rs := [7]) (by kernel_rfl) (by simp) (AllReadyH.cons (o := ⟨some 79, _, _, _, _, none⟩) rfl (fun K hK => ?_) AllReadyH.nil)
        go_simp
        refine (td_add w wd g t d.f1 (d.f2.f0, d.f2.f1) d.f3 HT.out HI.out).mono ?_
        rintro e we ⟨rfl, hT, hN⟩
        have HQ_ := Aside0.mk (HQ.out.turn hN hT.below HGG.out.symm HT.out.box58)
        have HS_ := Aside0.mk (hN.blk HS.out HSG.out (by decide))
        have HD_ := Aside0.mk (hN.blk HD.out HDG.out (by decide))
        clear HT HQ HS HD
        have HT := Aside0.mk hT
        have HQ := Aside0.mk HQ_.out
        have HS := Aside0.mk HS_.out
        clear HS_
        have HD := Aside0.mk HD_.out
        clear HD_
        clear hT hN HQ_
        refine hK.out _ _ ⟨(blk_cell HD.out 1).trans rfl, (blk_cell HD.out 2).trans rfl, (blk_cell HD.out 3).trans rfl, (blk_cell HD.out 4).trans rfl, (blk_cell HD.out 5).trans rfl⟩ (fun hHeld => ?_)
        clear hK K
        try simp only [Act.put, List.setIfInBounds_toArray, List.set_cons_zero, List.set_cons_succ]
        refine wpAnyH_ready (rs := [15]) (by kernel_rfl) (by simp) (AllReadyH.cons (o := ⟨some 87, _, _, _, _, none⟩) rfl (fun K hK => ?_) AllReadyH.nil)
        go_simp
        refine (rt_add w we gr t d.f1 (d.f2.f0, d.f2.f1) d.f3 HQ.out HI.out).mono ?_
        rintro e wf ⟨rfl, hQ, hN⟩
        have HT_ := Aside0.mk (HT.out.rturn hN hQ.below HGG.out HQ.out.box50)
        have HS_ := Aside0.mk (hN.blk HS.out HSR.out (by decide))
        have HD_ := Aside0.mk (hN.blk HD.out HDR.out (by decide))
        clear HT HQ HS HD
        have HQ := Aside0.mk hQ
        have HT := Aside0.mk HT_.out
        have HS := Aside0.mk HS_.out
        clear HS_
        have HD := Aside0.mk HD_.out
        clear HD_
        clear hQ hN HT_
        refine hK.out _ _ ⟨(blk_cell HD.out 1).trans rfl, (blk_cell HD.out 2).trans rfl, (blk_cell HD.out 3).trans rfl, (blk_cell HD.out 4).trans rfl, (blk_cell HD.out 5).trans rfl⟩ (fun hHeld => ?_)
        clear hK K
        try simp only [Act.put, List.setIfInBounds_toArray, List.set_cons_zero, List.set_cons_succ]
        refine tk_ (i := 16) (oi := ⟨some 88, _, _, _, _, none⟩) (v := ?v53) rfl (by rfl) ?y53 (by with_reducible assumption) ?r53
        case y53 => (intro V_ hSw; (try dsimp only at hSw); go_simp; (try with_reducible rfl))
        try simp only [Act.put, List.setIfInBounds_toArray, List.set_cons_zero, List.set_cons_succ]
        refine wpAnyH_done (by kernel_rfl) ?_ _
        refine NoPanic.normal ?_
        clear hHeld
        have HI2 := Aside0.mk (show (if addErr d.f1 (d.f2.f0, d.f2.f1) d.f3 = 0 then t.add d.f1 (d.f2.f0, d.f2.f1) d.f3 else t).l.length ≤ 64 from by split; exact add_len t HI.out _ _ _; exact HI.out)
        obtain ⟨t', ht'⟩ : ∃ t', (if addErr d.f1 (d.f2.f0, d.f2.f1) d.f3 = 0 then t.add d.f1 (d.f2.f0, d.f2.f1) d.f3 else t) = t' := ⟨_, rfl⟩
        rw [ht'] at HT HQ HI2
        clear ht'
        obtain ⟨X, hX⟩ : ∃ X, t'.maxF s d.f3 = X := ⟨_, rfl⟩
        obtain ⟨Z, hZ⟩ : ∃ Z, t'.maxF d.f1 0 = Z := ⟨_, rfl⟩
        have HXX := Aside0.mk hX
        have HZZ := Aside0.mk hZ
        clear hX hZ
        go_upto_region 14 with fail
        have s0 : wf.cell? ⟨n + 1, 0, none⟩ = some (.string s.f0) := (blk_cell HS.out 0).trans rfl
        have s1 : wf.cell? ⟨n + 1, 1, none⟩ = some (.string s.f1) := (blk_cell HS.out 1).trans rfl
        have y5 : wf.cell? ⟨gd, 5, none⟩ = some (.int .i64 d.f3) := (blk_cell HD.out 5).trans rfl
        go_wp2_with fail
        refine (td_max w wf g t' s d.f3 HT.out).mono ?_
        rintro e wg ⟨rfl, hb⟩
        rw [HXX.out]
        clear s0 s1 y5
        have HT_ := Aside0.mk (HT.out.step hb)
        clear HT
        have HT := Aside0.mk HT_.out
        clear HT_
        have HQ_ := Aside0.mk (HQ.out.step hb)
        clear HQ
        have HQ := Aside0.mk HQ_.out
        clear HQ_
        have HS_ := Aside0.mk (td_kept HS.out hb)
        clear HS
        have HS := Aside0.mk HS_.out
        clear HS_
        have HD_ := Aside0.mk (td_kept HD.out hb)
        clear HD
        have HD := Aside0.mk HD_.out
        clear HD_
        clear hb
        go_upto_region 15 with fail
        generalize hw : World.alloc wg _ = wh
        have H1 := Aside0.mk (show wh.heap[wg.heap.size]? = some (.cells #[.int .i64 X.1.1, .int .i64 X.1.2] 31 (0, 0)) from by rw [← hw]; exact blk_new _ _)
        have hb : Below wg.heap.size wg wh := by rw [← hw]; exact td_alloc _ _
        clear hw
        have HT_ := Aside0.mk (HT.out.step hb)
        clear HT
        have HT := Aside0.mk HT_.out
        clear HT_
        have HQ_ := Aside0.mk (HQ.out.step hb)
        clear HQ
        have HQ := Aside0.mk HQ_.out
        clear HQ_
        have HS_ := Aside0.mk (td_kept HS.out hb)
        clear HS
        have HS := Aside0.mk HS_.out
        clear HS_
        have HD_ := Aside0.mk (td_kept HD.out hb)
        clear HD
        have HD := Aside0.mk HD_.out
        clear HD_
        clear hb
        generalize wg.heap.size = gx at H1 ⊢
        have s0 : wh.cell? ⟨n + 1, 0, none⟩ = some (.string s.f0) := (blk_cell HS.out 0).trans rfl
        have s1 : wh.cell? ⟨n + 1, 1, none⟩ = some (.string s.f1) := (blk_cell HS.out 1).trans rfl
        have y5 : wh.cell? ⟨gd, 5, none⟩ = some (.int .i64 d.f3) := (blk_cell HD.out 5).trans rfl
        go_wp2_with fail
        refine (rt_max w wh gr t' s d.f3 HQ.out).mono ?_
        rintro e wi ⟨rfl, hb⟩
        rw [HXX.out]
        clear s0 s1 y5
        have HT_ := Aside0.mk (HT.out.step hb)
        clear HT
        have HT := Aside0.mk HT_.out
        clear HT_
        have HQ_ := Aside0.mk (HQ.out.step hb)
        clear HQ
        have HQ := Aside0.mk HQ_.out
        clear HQ_
        have HS_ := Aside0.mk (td_kept HS.out hb)
        clear HS
        have HS := Aside0.mk HS_.out
        clear HS_
        have HD_ := Aside0.mk (td_kept HD.out hb)
        clear HD
        have HD := Aside0.mk HD_.out
        clear HD_
        have H1_ := Aside0.mk (td_kept H1.out hb)
        clear H1
        have H1 := Aside0.mk H1_.out
        clear H1_
        clear hb
        go_upto_region 16 with fail
        generalize hw : World.alloc wi _ = wj
        have H2 := Aside0.mk (show wj.heap[wi.heap.size]? = some (.cells #[.int .i64 X.1.1, .int .i64 X.1.2] 31 (0, 0)) from by rw [← hw]; exact blk_new _ _)
        have hb : Below wi.heap.size wi wj := by rw [← hw]; exact td_alloc _ _
        clear hw
        have HT_ := Aside0.mk (HT.out.step hb)
        clear HT
        have HT := Aside0.mk HT_.out
        clear HT_
        have HQ_ := Aside0.mk (HQ.out.step hb)
        clear HQ
        have HQ := Aside0.mk HQ_.out
        clear HQ_
        have HS_ := Aside0.mk (td_kept HS.out hb)
        clear HS
        have HS := Aside0.mk HS_.out
        clear HS_
        have HD_ := Aside0.mk (td_kept HD.out hb)
        clear HD
        have HD := Aside0.mk HD_.out
        clear HD_
        have H1_ := Aside0.mk (td_kept H1.out hb)
        clear H1
        have H1 := Aside0.mk H1_.out
        clear H1_
        clear hb
        generalize wi.heap.size = gy at H2 ⊢
        have y1 : wj.cell? ⟨gd, 1, none⟩ = some (.string d.f1.f0) := (blk_cell HD.out 1).trans rfl
        have y2 : wj.cell? ⟨gd, 2, none⟩ = some (.string d.f1.f1) := (blk_cell HD.out 2).trans rfl
        go_wp2_with fail
        refine (td_max w wj g t' d.f1 0 HT.out).mono ?_
        rintro e wk ⟨rfl, hb⟩
        rw [HZZ.out]
        clear y1 y2
        have HT_ := Aside0.mk (HT.out.step hb)
        clear HT
        have HT := Aside0.mk HT_.out
        clear HT_
        have HQ_ := Aside0.mk (HQ.out.step hb)
        clear HQ
        have HQ := Aside0.mk HQ_.out
        clear HQ_
        have HS_ := Aside0.mk (td_kept HS.out hb)
        clear HS
        have HS := Aside0.mk HS_.out
        clear HS_
        have HD_ := Aside0.mk (td_kept HD.out hb)
        clear HD
        have HD := Aside0.mk HD_.out
        clear HD_
        have H1_ := Aside0.mk (td_kept H1.out hb)
        clear H1
        have H1 := Aside0.mk H1_.out
        clear H1_
        have H2_ := Aside0.mk (td_kept H2.out hb)
        clear H2
        have H2 := Aside0.mk H2_.out
        clear H2_
        clear hb
        go_upto_region 17 with fail
        generalize hw : World.alloc wk _ = wl
        have H3 := Aside0.mk (show wl.heap[wk.heap.size]? = some (.cells #[.int .i64 Z.1.1, .int .i64 Z.1.2] 31 (0, 0)) from by rw [← hw]; exact blk_new _ _)
        have hb : Below wk.heap.size wk wl := by rw [← hw]; exact td_alloc _ _
        clear hw
        have HT_ := Aside0.mk (HT.out.step hb)
        clear HT
        have HT := Aside0.mk HT_.out
        clear HT_
        have HQ_ := Aside0.mk (HQ.out.step hb)
        clear HQ
        have HQ := Aside0.mk HQ_.out
        clear HQ_
        have HS_ := Aside0.mk (td_kept HS.out hb)
        clear HS
        have HS := Aside0.mk HS_.out
        clear HS_
        have HD_ := Aside0.mk (td_kept HD.out hb)
        clear HD
        have HD := Aside0.mk HD_.out
        clear HD_
        have H1_ := Aside0.mk (td_kept H1.out hb)
        clear H1
        have H1 := Aside0.mk H1_.out
        clear H1_
        have H2_ := Aside0.mk (td_kept H2.out hb)
        clear H2
        have H2 := Aside0.mk H2_.out
        clear H2_
        clear hb
        generalize wk.heap.size = gz at H3 ⊢
        have y1 : wl.cell? ⟨gd, 1, none⟩ = some (.string d.f1.f0) := (blk_cell HD.out 1).trans rfl
        have y2 : wl.cell? ⟨gd, 2, none⟩ = some (.string d.f1.f1) := (blk_cell HD.out 2).trans rfl
        go_wp2_with fail
        refine (rt_max w wl gr t' d.f1 0 HQ.out).mono ?_
        rintro e wm ⟨rfl, hb⟩
        rw [HZZ.out]
        clear y1 y2
        have HT_ := Aside0.mk (HT.out.step hb)
        clear HT
        have HT := Aside0.mk HT_.out
        clear HT_
        have HQ_ := Aside0.mk (HQ.out.step hb)
        clear HQ
        have HQ := Aside0.mk HQ_.out
        clear HQ_
        have HS_ := Aside0.mk (td_kept HS.out hb)
        clear HS
        have HS := Aside0.mk HS_.out
        clear HS_
        have HD_ := Aside0.mk (td_kept HD.out hb)
        clear HD
        have HD := Aside0.mk HD_.out
        clear HD_
        have H1_ := Aside0.mk (td_kept H1.out hb)
        clear H1
        have H1 := Aside0.mk H1_.out
        clear H1_
        have H2_ := Aside0.mk (td_kept H2.out hb)
        clear H2
        have H2 := Aside0.mk H2_.out
        clear H2_
        have H3_ := Aside0.mk (td_kept H3.out hb)
        clear H3
        have H3 := Aside0.mk H3_.out
        clear H3_
        clear hb
        go_upto_region 18 with fail
        generalize hw : World.alloc wm _ = wo
        have H4 := Aside0.mk (show wo.heap[wm.heap.size]? = some (.cells #[.int .i64 Z.1.1, .int .i64 Z.1.2] 31 (0, 0)) from by rw [← hw]; exact blk_new _ _)
        have hb : Below wm.heap.size wm wo := by rw [← hw]; exact td_alloc _ _
        clear hw
        have HT_ := Aside0.mk (HT.out.step hb)
        clear HT
        have HT := Aside0.mk HT_.out
        clear HT_
        have HQ_ := Aside0.mk (HQ.out.step hb)
        clear HQ
        have HQ := Aside0.mk HQ_.out
        clear HQ_
        have HS_ := Aside0.mk (td_kept HS.out hb)
        clear HS
        have HS := Aside0.mk HS_.out
        clear HS_
        have H1_ := Aside0.mk (td_kept H1.out hb)
        clear H1
        have H1 := Aside0.mk H1_.out
        clear H1_
        have H2_ := Aside0.mk (td_kept H2.out hb)
        clear H2
        have H2 := Aside0.mk H2_.out
        clear H2_
        have H3_ := Aside0.mk (td_kept H3.out hb)
        clear H3
        have H3 := Aside0.mk H3_.out
        clear H3_
        clear hb
        generalize wm.heap.size = gw at H4 ⊢
        clear HD
        obtain ⟨A_, c_, hrb⟩ := HQ.out
        have HRB := Aside0.mk hrb.box
        clear hrb
        have e7 : (X.2 != X.2) = false := by simp
        have e8 : (Z.2 != Z.2) = false := by simp
        have e9 : ((t'.l.length : Int) != (t'.l.length : Int)) = false := by simp
        refine wp_region_noPanic ?_
        refine wp_region_held_drew (S := (fun V => V.cell? ⟨gx, 0, none⟩ = some (.int .i64 X.1.1) ∧ V.cell? ⟨gx, 1, none⟩ = some (.int .i64 X.1.2) ∧ V.cell? ⟨gy, 0, none⟩ = some (.int .i64 X.1.1) ∧ V.cell? ⟨gy, 1, none⟩ = some (.int .i64 X.1.2) ∧ V.cell? ⟨gz, 0, none⟩ = some (.int .i64 Z.1.1) ∧ V.cell? ⟨gz, 1, none⟩ = some (.int .i64 Z.1.2) ∧ V.cell? ⟨gw, 0, none⟩ = some (.int .i64 Z.1.1) ∧ V.cell? ⟨gw, 1, none⟩ = some (.int .i64 Z.1.2) ∧ V.cell? ⟨gr, 0, none⟩ = some (.int .i64 t'.low.1) ∧ V.cell? ⟨gr, 1, none⟩ = some (.int .i64 t'.low.2))) (by kernel_rfl) ⟨(blk_cell (td_kept H1.out (below_drew1 (Below.refl _ _))) 0).trans rfl, (blk_cell (td_kept H1.out (below_drew1 (Below.refl _ _))) 1).trans rfl, (blk_cell (td_kept H2.out (below_drew1 (Below.refl _ _))) 0).trans rfl, (blk_cell (td_kept H2.out (below_drew1 (Below.refl _ _))) 1).trans rfl, (blk_cell (td_kept H3.out (below_drew1 (Below.refl _ _))) 0).trans rfl, (blk_cell (td_kept H3.out (below_drew1 (Below.refl _ _))) 1).trans rfl, (blk_cell (td_kept H4.out (below_drew1 (Below.refl _ _))) 0).trans rfl, (blk_cell (td_kept H4.out (below_drew1 (Below.refl _ _))) 1).trans rfl, (blk_cell (td_kept HRB.out (below_drew1 (Below.refl _ _))) 0).trans rfl, (blk_cell (td_kept HRB.out (below_drew1 (Below.refl _ _))) 1).trans rfl⟩ (fun hHeld => ?_)
        generalize hwd : World.drew _ = wd at hHeld ⊢
        have hb : Below wo.heap.size wo wd := by rw [← hwd]; exact below_drew1 (Below.refl _ _)
        clear hwd
        have H1_ := Aside0.mk (td_kept H1.out hb)
        clear H1
        have H1 := Aside0.mk H1_.out
        clear H1_
        have H2_ := Aside0.mk (td_kept H2.out hb)
        clear H2
        have H2 := Aside0.mk H2_.out
        clear H2_
        have H3_ := Aside0.mk (td_kept H3.out hb)
        clear H3
        have H3 := Aside0.mk H3_.out
        clear H3_
        have H4_ := Aside0.mk (td_kept H4.out hb)
        clear H4
        have H4 := Aside0.mk H4_.out
        clear H4_
        have HT_ := Aside0.mk (HT.out.step hb)
        clear HT
        have HT := Aside0.mk HT_.out
        clear HT_
        have HQ_ := Aside0.mk (HQ.out.step hb)
        clear HQ
        have HQ := Aside0.mk HQ_.out
        clear HQ_
        have HS_ := Aside0.mk (td_kept HS.out hb)
        clear HS
        have HS := Aside0.mk HS_.out
        clear HS_
        have HRB_ := Aside0.mk (td_kept HRB.out hb)
        clear HRB
        have HRB := Aside0.mk HRB_.out
        clear HRB_
        clear hb
        refine tk_ (i := 0) (oi := ⟨some 119, _, _, _, _, none⟩) (v := ?v54) rfl (by rfl) ?y54 (by with_reducible assumption) ?r54
        case y54 => (intro V_ hSw; (try dsimp only at hSw); go_simp; (try with_reducible rfl))
        try simp only [Act.put, List.setIfInBounds_toArray, List.set_cons_zero, List.set_cons_succ]
        refine tk_ (i := 1) (oi := ⟨some 120, _, _, _, _, none⟩) (v := ?v55) rfl (by rfl) ?y55 (by with_reducible assumption) ?r55
        case y55 => (intro V_ hSw; (try dsimp only at hSw); go_simp; (try with_reducible rfl))
        try simp only [Act.put, List.setIfInBounds_toArray, List.set_cons_zero, List.set_cons_succ]
        refine tk_ (i := 2) (oi := ⟨some 121, _, _, _, _, none⟩) (v := ?v56) rfl (by rfl) ?y56 (by with_reducible assumption) ?r56
        case y56 => (intro V_ hSw; (try dsimp only at hSw); go_simp; (try with_reducible rfl))
        try simp only [Act.put, List.setIfInBounds_toArray, List.set_cons_zero, List.set_cons_succ]
        refine tk_ (i := 3) (oi := ⟨some 122, _, _, _, _, none⟩) (v := ?v57) rfl (by rfl) ?y57 (by with_reducible assumption) ?r57
        case y57 => (intro V_ hSw; (try dsimp only at hSw); go_simp; (try with_reducible rfl))
        try simp only [Act.put, List.setIfInBounds_toArray, List.set_cons_zero, List.set_cons_succ]
        refine tk_ (i := 4) (oi := ⟨some 123, _, _, _, _, some (3, false)⟩) (v := ?v58) rfl (by rfl) ?y58 (by with_reducible assumption) ?r58
        case y58 => (intro V_ hSw; (try dsimp only at hSw); go_simp; (try with_reducible rfl))
        try simp only [Act.put, List.setIfInBounds_toArray, List.set_cons_zero, List.set_cons_succ]
        refine tk_ (i := 5) (oi := ⟨some 124, _, _, _, _, some (3, false)⟩) (v := ?v59) rfl (by rfl) ?y59 (by with_reducible assumption) ?r59
        case y59 => (intro V_ hSw; (try dsimp only at hSw); go_simp; (try with_reducible rfl))
        try simp only [Act.put, List.setIfInBounds_toArray, List.set_cons_zero, List.set_cons_succ]
        refine tk_ (i := 6) (oi := ⟨some 125, _, _, _, _, some (3, false)⟩) (v := ?v60) rfl (by rfl) ?y60 (by with_reducible assumption) ?r60
        case y60 => (intro V_ hSw; (try dsimp only at hSw); go_simp; (try with_reducible rfl))
        try simp only [Act.put, List.setIfInBounds_toArray, List.set_cons_zero, List.set_cons_succ]
        refine tk_ (i := 7) (oi := ⟨some 126, _, _, _, _, none⟩) (v := ?v61) rfl (by rfl) ?y61 (by with_reducible assumption) ?r61
        case y61 => (intro V_ hSw; (try dsimp only at hSw); go_simp; (try with_reducible rfl))
        try simp only [Act.put, List.setIfInBounds_toArray, List.set_cons_zero, List.set_cons_succ]
        refine tk_ (i := 8) (oi := ⟨some 127, _, _, _, _, none⟩) (v := ?v62) rfl (by rfl) ?y62 (by with_reducible assumption) ?r62
        case y62 => (intro V_ hSw; (try dsimp only at hSw); go_simp; (try with_reducible rfl))
        try simp only [Act.put, List.setIfInBounds_toArray, List.set_cons_zero, List.set_cons_succ]
        refine tk_ (i := 9) (oi := ⟨some 128, _, _, _, _, some (8, false)⟩) (v := ?v63) rfl (by rfl) ?y63 (by with_reducible assumption) ?r63
        case y63 => (intro V_ hSw; (try dsimp only at hSw); go_simp; (try with_reducible rfl))
        try simp only [Act.put, List.setIfInBounds_toArray, List.set_cons_zero, List.set_cons_succ]
        refine tk_ (i := 10) (oi := ⟨some 129, _, _, _, _, some (8, false)⟩) (v := ?v64) rfl (by rfl) ?y64 (by with_reducible assumption) ?r64
        case y64 => (intro V_ hSw; (try dsimp only at hSw); go_simp; (try with_reducible rfl))
        try simp only [Act.put, List.setIfInBounds_toArray, List.set_cons_zero, List.set_cons_succ]
        refine tk_ (i := 11) (oi := ⟨some 130, _, _, _, _, some (8, false)⟩) (v := ?v65) rfl (by rfl) ?y65 (by with_reducible assumption) ?r65
        case y65 => (intro V_ hSw; (try dsimp only at hSw); go_simp; (try with_reducible rfl))
        try simp only [Act.put, List.setIfInBounds_toArray, List.set_cons_zero, List.set_cons_succ]
        refine tk_ (i := 12) (oi := ⟨some 131, _, _, _, _, none⟩) (v := ?v66) rfl (by rfl) ?y66 (by with_reducible assumption) ?r66
        case y66 => (intro V_ hSw; (try dsimp only at hSw); go_simp; (try with_reducible rfl))
        try simp only [Act.put, List.setIfInBounds_toArray, List.set_cons_zero, List.set_cons_succ]
        refine tk_ (i := 13) (oi := ⟨some 132, _, _, _, _, none⟩) (v := ?v67) rfl (by rfl) ?y67 (by with_reducible assumption) ?r67
        case y67 => (intro V_ hSw; (try dsimp only at hSw); go_simp; (try with_reducible rfl))
        try simp only [Act.put, List.setIfInBounds_toArray, List.set_cons_zero, List.set_cons_succ]
        refine tk_ (i := 14) (oi := ⟨some 133, _, _, _, _, some (13, false)⟩) (v := ?v68) rfl (by rfl) ?y68 (by with_reducible assumption) ?r68
        case y68 => (intro V_ hSw; (try dsimp only at hSw); go_simp; (try with_reducible rfl))
        try simp only [Act.put, List.setIfInBounds_toArray, List.set_cons_zero, List.set_cons_succ]
        refine tk_ (i := 15) (oi := ⟨some 134, _, _, _, _, some (13, false)⟩) (v := ?v69) rfl (by rfl) ?y69 (by with_reducible assumption) ?r69
        case y69 => (intro V_ hSw; (try dsimp only at hSw); go_simp; (try with_reducible rfl))
        try simp only [Act.put, List.setIfInBounds_toArray, List.set_cons_zero, List.set_cons_succ]
        refine tk_ (i := 16) (oi := ⟨some 135, _, _, _, _, some (13, false)⟩) (v := ?v70) rfl (by rfl) ?y70 (by with_reducible assumption) ?r70
        case y70 => (intro V_ hSw; (try dsimp only at hSw); go_simp; (try with_reducible rfl))
        try simp only [Act.put, List.setIfInBounds_toArray, List.set_cons_zero, List.set_cons_succ]
        refine tk_ (i := 17) (oi := ⟨some 136, _, _, _, _, none⟩) (v := ?v71) rfl (by rfl) ?y71 (by with_reducible assumption) ?r71
        case y71 => (intro V_ hSw; (try dsimp only at hSw); go_simp; (try with_reducible rfl))
        try simp only [Act.put, List.setIfInBounds_toArray, List.set_cons_zero, List.set_cons_succ]
        refine tk_ (i := 18) (oi := ⟨some 137, _, _, _, _, none⟩) (v := ?v72) rfl (by rfl) ?y72 (by with_reducible assumption) ?r72
        case y72 => (intro V_ hSw; (try dsimp only at hSw); go_simp; (try with_reducible rfl))
        try simp only [Act.put, List.setIfInBounds_toArray, List.set_cons_zero, List.set_cons_succ]
        refine tk_ (i := 19) (oi := ⟨some 138, _, _, _, _, some (18, false)⟩) (v := ?v73) rfl (by rfl) ?y73 (by with_reducible assumption) ?r73
        case y73 => (intro V_ hSw; (try dsimp only at hSw); go_simp; (try with_reducible rfl))
        try simp only [Act.put, List.setIfInBounds_toArray, List.set_cons_zero, List.set_cons_succ]
        refine tk_ (i := 21) (oi := ⟨some 140, _, _, _, _, some (18, false)⟩) (v := ?v74) rfl (by rfl) ?y74 (by with_reducible assumption) ?r74
        case y74 => (intro V_ hSw; (try dsimp only at hSw); go_simp; (try with_reducible rfl))
        try simp only [Act.put, List.setIfInBounds_toArray, List.set_cons_zero, List.set_cons_succ]
        refine tk_ (i := 22) (oi := ⟨some 141, _, _, _, _, some (18, false)⟩) (v := ?v75) rfl (by rfl) ?y75 (by with_reducible assumption) ?r75
        case y75 => (intro V_ hSw; (try dsimp only at hSw); go_simp; (try with_reducible rfl))
        try simp only [Act.put, List.setIfInBounds_toArray, List.set_cons_zero, List.set_cons_succ]
        refine tk_ (i := 23) (oi := ⟨some 142, _, _, _, _, some (18, false)⟩) (v := ?v76) rfl (by rfl) ?y76 (by with_reducible assumption) ?r76
        case y76 => (intro V_ hSw; (try dsimp only at hSw); go_simp; (try with_reducible rfl))
        try simp only [Act.put, List.setIfInBounds_toArray, List.set_cons_zero, List.set_cons_succ]
        refine tk_ (i := 24) (oi := ⟨some 143, _, _, _, _, some (18, false)⟩) (v := ?v77) rfl (by rfl) ?y77 (by with_reducible assumption) ?r77
        case y77 => (intro V_ hSw; (try dsimp only at hSw); go_simp; (try with_reducible rfl))
        try simp only [Act.put, List.setIfInBounds_toArray, List.set_cons_zero, List.set_cons_succ]
        refine wpAnyH_ready (rs := [20]) (by kernel_rfl) (by simp) (AllReadyH.cons (o := ⟨some 139, _, _, _, _, some (18, false)⟩) rfl (fun K hK => ?_) AllReadyH.nil)
        go_simp
        refine (td_low w _ g t' HT.out).mono ?_
        rintro e wq4 ⟨rfl, hb⟩
        have H1_ := Aside0.mk (td_kept H1.out hb)
        clear H1
        have H1 := Aside0.mk H1_.out
        clear H1_
        have H2_ := Aside0.mk (td_kept H2.out hb)
        clear H2
        have H2 := Aside0.mk H2_.out
        clear H2_
        have H3_ := Aside0.mk (td_kept H3.out hb)
        clear H3
        have H3 := Aside0.mk H3_.out
        clear H3_
        have H4_ := Aside0.mk (td_kept H4.out hb)
        clear H4
        have H4 := Aside0.mk H4_.out
        clear H4_
        have HT_ := Aside0.mk (HT.out.step hb)
        clear HT
        have HT := Aside0.mk HT_.out
        clear HT_
        have HQ_ := Aside0.mk (HQ.out.step hb)
        clear HQ
        have HQ := Aside0.mk HQ_.out
        clear HQ_
        have HS_ := Aside0.mk (td_kept HS.out hb)
        clear HS
        have HS := Aside0.mk HS_.out
        clear HS_
        have HRB_ := Aside0.mk (td_kept HRB.out hb)
        clear HRB
        have HRB := Aside0.mk HRB_.out
        clear HRB_
        clear hb
        refine hK.out _ _ ⟨(blk_cell (td_kept H1.out (Below.refl _ _)) 0).trans rfl, (blk_cell (td_kept H1.out (Below.refl _ _)) 1).trans rfl, (blk_cell (td_kept H2.out (Below.refl _ _)) 0).trans rfl, (blk_cell (td_kept H2.out (Below.refl _ _)) 1).trans rfl, (blk_cell (td_kept H3.out (Below.refl _ _)) 0).trans rfl, (blk_cell (td_kept H3.out (Below.refl _ _)) 1).trans rfl, (blk_cell (td_kept H4.out (Below.refl _ _)) 0).trans rfl, (blk_cell (td_kept H4.out (Below.refl _ _)) 1).trans rfl, (blk_cell (td_kept HRB.out (Below.refl _ _)) 0).trans rfl, (blk_cell (td_kept HRB.out (Below.refl _ _)) 1).trans rfl⟩ (fun hHeld => ?_)
        clear hK K
        try simp only [Act.put, List.setIfInBounds_toArray, List.set_cons_zero, List.set_cons_succ]
        refine tk_ (i := 25) (oi := ⟨some 144, _, _, _, _, some (18, false)⟩) (v := ?v78) rfl (by rfl) ?y78 (by with_reducible assumption) ?r78
        case y78 => (intro V_ hSw; (try dsimp only at hSw); go_simp; (try with_reducible rfl))
        try simp only [Act.put, List.setIfInBounds_toArray, List.set_cons_zero, List.set_cons_succ]
        refine tk_ (i := 26) (oi := ⟨some 145, _, _, _, _, none⟩) (v := ?v79) rfl (by rfl) ?y79 (by with_reducible assumption) ?r79
        case y79 => (intro V_ hSw; (try dsimp only at hSw); go_simp; (try with_reducible rfl))
        try simp only [Act.put, List.setIfInBounds_toArray, List.set_cons_zero, List.set_cons_succ]
        refine tk_ (i := 27) (oi := ⟨some 146, _, _, _, _, none⟩) (v := ?v80) rfl (by rfl) ?y80 (by with_reducible assumption) ?r80
        case y80 => (intro V_ hSw; (try dsimp only at hSw); go_simp; (try with_reducible rfl))
        try simp only [Act.put, List.setIfInBounds_toArray, List.set_cons_zero, List.set_cons_succ]
        refine tk_ (i := 28) (oi := ⟨some 147, _, _, _, _, some (27, false)⟩) (v := ?v81) rfl (by rfl) ?y81 (by with_reducible assumption) ?r81
        case y81 => (intro V_ hSw; (try dsimp only at hSw); go_simp; (try with_reducible rfl))
        try simp only [Act.put, List.setIfInBounds_toArray, List.set_cons_zero, List.set_cons_succ]
        refine tk_ (i := 30) (oi := ⟨some 149, _, _, _, _, some (27, false)⟩) (v := ?v82) rfl (by rfl) ?y82 (by with_reducible assumption) ?r82
        case y82 => (intro V_ hSw; (try dsimp only at hSw); go_simp; (try with_reducible rfl))
        try simp only [Act.put, List.setIfInBounds_toArray, List.set_cons_zero, List.set_cons_succ]
        refine wpAnyH_ready (rs := [29]) (by kernel_rfl) (by simp) (AllReadyH.cons (o := ⟨some 148, _, _, _, _, some (27, false)⟩) rfl (fun K hK => ?_) AllReadyH.nil)
        go_simp
        refine (td_len w _ g t' HT.out).mono ?_
        rintro e wq5 ⟨rfl, hb⟩
        have H1_ := Aside0.mk (td_kept H1.out hb)
        clear H1
        have H1 := Aside0.mk H1_.out
        clear H1_
        have H2_ := Aside0.mk (td_kept H2.out hb)
        clear H2
        have H2 := Aside0.mk H2_.out
        clear H2_
        have H3_ := Aside0.mk (td_kept H3.out hb)
        clear H3
        have H3 := Aside0.mk H3_.out
        clear H3_
        have H4_ := Aside0.mk (td_kept H4.out hb)
        clear H4
        have H4 := Aside0.mk H4_.out
        clear H4_
        have HT_ := Aside0.mk (HT.out.step hb)
        clear HT
        have HT := Aside0.mk HT_.out
        clear HT_
        have HQ_ := Aside0.mk (HQ.out.step hb)
        clear HQ
        have HQ := Aside0.mk HQ_.out
        clear HQ_
        have HS_ := Aside0.mk (td_kept HS.out hb)
        clear HS
        have HS := Aside0.mk HS_.out
        clear HS_
        have HRB_ := Aside0.mk (td_kept HRB.out hb)
        clear HRB
        have HRB := Aside0.mk HRB_.out
        clear HRB_
        clear hb
        refine hK.out _ _ ⟨(blk_cell (td_kept H1.out (Below.refl _ _)) 0).trans rfl, (blk_cell (td_kept H1.out (Below.refl _ _)) 1).trans rfl, (blk_cell (td_kept H2.out (Below.refl _ _)) 0).trans rfl, (blk_cell (td_kept H2.out (Below.refl _ _)) 1).trans rfl, (blk_cell (td_kept H3.out (Below.refl _ _)) 0).trans rfl, (blk_cell (td_kept H3.out (Below.refl _ _)) 1).trans rfl, (blk_cell (td_kept H4.out (Below.refl _ _)) 0).trans rfl, (blk_cell (td_kept H4.out (Below.refl _ _)) 1).trans rfl, (blk_cell (td_kept HRB.out (Below.refl _ _)) 0).trans rfl, (blk_cell (td_kept HRB.out (Below.refl _ _)) 1).trans rfl⟩ (fun hHeld => ?_)
        clear hK K
        try simp only [Act.put, List.setIfInBounds_toArray, List.set_cons_zero, List.set_cons_succ]
        refine wpAnyH_ready (rs := [31]) (by kernel_rfl) (by simp) (AllReadyH.cons (o := ⟨some 150, _, _, _, _, some (27, false)⟩) rfl (fun K hK => ?_) AllReadyH.nil)
        go_simp
        refine (rt_len w _ gr t' HQ.out).mono ?_
        rintro e wq6 ⟨rfl, hb⟩
        have H1_ := Aside0.mk (td_kept H1.out hb)
        clear H1
        have H1 := Aside0.mk H1_.out
        clear H1_
        have H2_ := Aside0.mk (td_kept H2.out hb)
        clear H2
        have H2 := Aside0.mk H2_.out
        clear H2_
        have H3_ := Aside0.mk (td_kept H3.out hb)
        clear H3
        have H3 := Aside0.mk H3_.out
        clear H3_
        have H4_ := Aside0.mk (td_kept H4.out hb)
        clear H4
        have H4 := Aside0.mk H4_.out
        clear H4_
        have HT_ := Aside0.mk (HT.out.step hb)
        clear HT
        have HT := Aside0.mk HT_.out
        clear HT_
        have HQ_ := Aside0.mk (HQ.out.step hb)
        clear HQ
        have HQ := Aside0.mk HQ_.out
        clear HQ_
        have HS_ := Aside0.mk (td_kept HS.out hb)
        clear HS
        have HS := Aside0.mk HS_.out
        clear HS_
        have HRB_ := Aside0.mk (td_kept HRB.out hb)
        clear HRB
        have HRB := Aside0.mk HRB_.out
        clear HRB_
        clear hb
        refine hK.out _ _ ⟨(blk_cell (td_kept H1.out (Below.refl _ _)) 0).trans rfl, (blk_cell (td_kept H1.out (Below.refl _ _)) 1).trans rfl, (blk_cell (td_kept H2.out (Below.refl _ _)) 0).trans rfl, (blk_cell (td_kept H2.out (Below.refl _ _)) 1).trans rfl, (blk_cell (td_kept H3.out (Below.refl _ _)) 0).trans rfl, (blk_cell (td_kept H3.out (Below.refl _ _)) 1).trans rfl, (blk_cell (td_kept H4.out (Below.refl _ _)) 0).trans rfl, (blk_cell (td_kept H4.out (Below.refl _ _)) 1).trans rfl, (blk_cell (td_kept HRB.out (Below.refl _ _)) 0).trans rfl, (blk_cell (td_kept HRB.out (Below.refl _ _)) 1).trans rfl⟩ (fun hHeld => ?_)
        clear hK K
        try simp only [Act.put, List.setIfInBounds_toArray, List.set_cons_zero, List.set_cons_succ]
        refine tk_ (i := 32) (oi := ⟨some 151, _, _, _, _, some (27, false)⟩) (v := ?v83) rfl (by rfl) ?y83 (by with_reducible assumption) ?r83
        case y83 => (intro V_ hSw; (try dsimp only at hSw); go_simp; (try with_reducible rfl))
        try simp only [Act.put, List.setIfInBounds_toArray, List.set_cons_zero, List.set_cons_succ]
        refine tk_ (i := 33) (oi := ⟨some 152, _, _, _, _, none⟩) (v := ?v84) rfl (by rfl) ?y84 (by with_reducible assumption) ?r84
        case y84 => (intro V_ hSw; (try dsimp only at hSw); go_simp; (try with_reducible rfl))
        try simp only [Act.put, List.setIfInBounds_toArray, List.set_cons_zero, List.set_cons_succ]
        refine wpAnyH_done (by kernel_rfl) ?_ _
        refine NoPanic.normal ?_
        clear hHeld
        go_wp2_with fail
        go_roundg (150 - i)
        case measure => have h1 := HK.out; have h2 := HH.out.2; omega
        case rel => exact ⟨i + 1, t', congrArg (Value.int .i64) (by first | exact HWI.out | exact HWI2.out | rfl | omega), ⟨by have h1 := HK.out; have h2 := HH.out.2; omega⟩, HI2, HT, HQ, HS⟩
    case neg =>
      by_cases h1 : i < l0.length
      case' pos =>
        have h2 : ¬ i < 150 := fun h => hgo ⟨h1, h⟩
        have d1 : decide ((i : Int) < (l0.length : Int)) = true := decide_eq_true (by omega)
        have d1n : decide (i < l0.length) = true := decide_eq_true (by omega)
        have d2 : decide ((i : Int) < 150) = false := decide_eq_false (by omega)
        have d2n : decide (i < 150) = false := decide_eq_false (by omega)
        clear h1 h2 hgo
      case' neg =>
        have d1 : decide ((i : Int) < (l0.length : Int)) = false := decide_eq_false (by omega)
        have d1n : decide (i < l0.length) = false := decide_eq_false (by omega)
        clear h1 hgo
      all_goals
        go_wp2_with fail
        refine (td_works _).mono ?_
        rintro e w4 ⟨rfl, hb⟩
        have HZ := Aside0.mk (below_step HT.out.below hb)
        clear hb
        go_wp2_with fail
        go_ret
        exact ⟨rfl, HZ.out⟩
theorem kd_walk (a0 : S31) (l0 : List S33) (s : S24) (A0 : Option Addr) (c0 : Nat) (w : World) (hwf : (l0.length ≤ maxLen ∧ l0.length * 64 ≤ 140737488351232 ∧ ∀ y0 ∈ l0, ((Lit.int .i64 y0.f0).wf = true ∧ (y0.f1.f0.size ≤ 140737488351232 ∧ y0.f1.f1.size ≤ 140737488351232) ∧ ((Lit.int .i64 y0.f2.f0).wf = true ∧ (Lit.int .i64 y0.f2.f1).wf = true) ∧ (Lit.int .i64 y0.f3).wf = true))) (hr0 : Kd.C k33 w A0 l0.length l0) :
    Calls Try.prog 4 #[.agg #[.int .i64 a0.f0, .int .i64 a0.f1], .slice A0 l0.length c0, .agg #[.string s.f0, .string s.f1]] w fun e w' => e = .returned (.bool true) ∧ Below w.heap.size w w' := kd_walk0 (a0.f0, a0.f1) l0 s A0 c0 w hwf hr0
end Go.Proofs.Ytaccfbpfennjkaa.PTideDoes

