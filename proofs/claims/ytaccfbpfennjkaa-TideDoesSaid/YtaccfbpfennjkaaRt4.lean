/- The document's tide (typed by hand): Add: a read put behind the others. -/
import Derived.Test.YtaccfbpfennjkaaRt3
namespace Go.Proofs.Ytaccfbpfennjkaa.PTideDoes
open Go.RowKit Go.Proofs.YtaccfbpfennjkaaW.PrintWords Go.Proofs.YtaccfbpfennjkaaW.PrintLast Go.Proofs.YtaccfbpfennjkaaW.PrintMore
attribute [local go_sem] max2_int min2_int max_two min_two max_three min_three max_four min_four   -- for this text's walks alone
set_option linter.unusedVariables false
set_option linter.unusedSimpArgs false
theorem Tn.of_grownR67 {B : Nat} {g : Option Nat} {W W' : World} {v : Value} {l : List (Rd S24)} (h : W.grownBy W' v.ownBlock) (hr : Kd.R k63 67 W B (fun _ => True) v l) : Tn B g 67 W W' :=
  ⟨h.os, h.tape, h.output, h.size, fun b hb hk => h.block b hb (by
    intro e
    obtain ⟨cells, hc⟩ := Kd.R_typed hr b e.symm
    have hbb := Kd.R_base hr b e.symm
    rcases hk with hk | ⟨_, hk⟩
    · omega
    · exact hk _ _ hc)⟩
set_option maxHeartbeats 16000000 in
set_option maxRecDepth 100000 in
theorem rt_add_small (W0 W : World) (g : Nat) (t : Td S24) (A : Option Addr) (c : Nat) (s : S24) (a : Int × Int) (o : Int) (h : RtA W0 W g t A c) (hs : spErr s = 0) (hk : sok a = true) (ho : own o = true) (hl : tlt t.low a) (hm : ∀ j, j < t.l.length → same s o (t.l.getD j z63) = false) (hlen : t.l.length ≤ 64) (h64 : (t.l ++ [({ s := s, at_ := a, o := o } : Rd S24)]).length ≤ 64) : Calls Try.prog 21 #[.pointer (some ⟨g, 0, none⟩), .agg #[.string s.f0, .string s.f1], .agg #[.int .i64 a.1, .int .i64 a.2], .int .i64 o] W (RtPost W0 W g { t with l := t.l ++ [({ s := s, at_ := a, o := o } : Rd S24)] } (.returned (.int .i64 0))) := by
  have HT0 := Aside0.mk h
  have HS := Aside0.mk hs
  have HK := Aside0.mk hk
  have HW := Aside0.mk ho
  have HLW := Aside0.mk (decide_eq_true hl)
  have HROW0 := Aside0.mk h.row
  have HLM := Aside0.mk (Kd.C_max (Kd.R_reads' h.row).2.2)
  have HSMA := Aside0.mk hm
  have HLEN := Aside0.mk hlen
  obtain ⟨L, hL⟩ : ∃ L, t.l ++ [({ s := s, at_ := a, o := o } : Rd S24)] = L := ⟨_, rfl⟩
  have HL := Aside0.mk hL
  have HLL := Aside0.mk (show L.length = t.l.length + 1 from by rw [← hL]; simp)
  rw [hL] at h64
  rw [hL]
  have d6 : decide ((64 : Int) < (L.length : Int)) = false := decide_eq_false (by omega)
  have d6n : decide (64 < L.length) = false := decide_eq_false (by omega)
  clear h hs hk ho hl hm hL h64 hlen
  go_enter Try.func21, Try.ntmps21
  go_upto_region 1 with fail
  generalize hw1 : World.alloc (World.alloc W _) _ = w1
  have hb : Below W.heap.size W w1 := by rw [← hw1]; exact below_alloc (td_alloc W _) _
  have e1_ : (W.alloc (.cells #[.string s.f0, .string s.f1] 24)).heap.size = W.heap.size + 1 := Array.size_push _
  have HX := Aside0.mk (show w1.heap[W.heap.size]? = some (.cells #[.string s.f0, .string s.f1] 24 (0, 0)) from by rw [← hw1]; exact td_kept (blk_new W _) (td_alloc _ _))
  have HA := Aside0.mk (show w1.heap[W.heap.size + 1]? = some (.cells #[.int .i64 a.1, .int .i64 a.2] 31 (0, 0)) from by
    have q := blk_new (W.alloc (.cells #[.string s.f0, .string s.f1] 24)) (.cells #[.int .i64 a.1, .int .i64 a.2] 31)
    rw [e1_, hw1] at q
    exact q)
  have HNG := Aside0.mk (And.intro (Nat.ne_of_gt HT0.out.lt) (show W.heap.size + 1 ≠ g from by have := HT0.out.lt; omega))
  have HT := Aside0.mk (HT0.out.step hb)
  have HN := Aside0.mk (Tn.of_below (B := W0.heap.size) (g := some g) (ty := 67) hb)
  have HB := Aside0.mk hb
  clear hw1 hb e1_
  generalize W.heap.size = n at HX HA HNG ⊢
  have x0 : w1.cell? ⟨n, 0, none⟩ = some (.string s.f0) := (blk_cell HX.out 0).trans rfl
  have x1 : w1.cell? ⟨n, 1, none⟩ = some (.string s.f1) := (blk_cell HX.out 1).trans rfl
  go_wp2_with fail
  refine (rl_sp s _).mono ?_
  rintro e w3 ⟨rfl, hb⟩
  clear x0 x1
  have HX_ := Aside0.mk (td_kept HX.out hb)
  clear HX
  have HX := Aside0.mk HX_.out
  clear HX_
  have HA_ := Aside0.mk (td_kept HA.out hb)
  clear HA
  have HA := Aside0.mk HA_.out
  clear HA_
  have HT_ := Aside0.mk (HT.out.step hb)
  clear HT
  have HT := Aside0.mk HT_.out
  clear HT_
  have HN_ := Aside0.mk (HN.out.trans (Tn.of_below hb))
  clear HN
  have HN := Aside0.mk HN_.out
  clear HN_
  have HB_ := Aside0.mk (below_step HB.out hb)
  clear HB
  have HB := Aside0.mk HB_.out
  clear HB_
  clear hb
  rw [HS.out]
  have a0 : w3.cell? ⟨n + 1, 0, none⟩ = some (.int .i64 a.1) := (blk_cell HA.out 0).trans rfl
  have a1 : w3.cell? ⟨n + 1, 1, none⟩ = some (.int .i64 a.2) := (blk_cell HA.out 1).trans rfl
  go_wp2_with fail
  refine (rl_chk a _).mono ?_
  rintro e w4 ⟨rfl, hb⟩
  clear a0 a1
  have HX_ := Aside0.mk (td_kept HX.out hb)
  clear HX
  have HX := Aside0.mk HX_.out
  clear HX_
  have HA_ := Aside0.mk (td_kept HA.out hb)
  clear HA
  have HA := Aside0.mk HA_.out
  clear HA_
  have HT_ := Aside0.mk (HT.out.step hb)
  clear HT
  have HT := Aside0.mk HT_.out
  clear HT_
  have HN_ := Aside0.mk (HN.out.trans (Tn.of_below hb))
  clear HN
  have HN := Aside0.mk HN_.out
  clear HN_
  have HB_ := Aside0.mk (below_step HB.out hb)
  clear HB
  have HB := Aside0.mk HB_.out
  clear HB_
  clear hb
  rw [HK.out]
  go_wp2_with fail
  refine (rl_own o _).mono ?_
  rintro e w5 ⟨rfl, hb⟩
  have HX_ := Aside0.mk (td_kept HX.out hb)
  clear HX
  have HX := Aside0.mk HX_.out
  clear HX_
  have HA_ := Aside0.mk (td_kept HA.out hb)
  clear HA
  have HA := Aside0.mk HA_.out
  clear HA_
  have HT_ := Aside0.mk (HT.out.step hb)
  clear HT
  have HT := Aside0.mk HT_.out
  clear HT_
  have HN_ := Aside0.mk (HN.out.trans (Tn.of_below hb))
  clear HN
  have HN := Aside0.mk HN_.out
  clear HN_
  have HB_ := Aside0.mk (below_step HB.out hb)
  clear HB
  have HB := Aside0.mk HB_.out
  clear HB_
  clear hb
  rw [HW.out]
  go_upto_region 6 with fail
  refine wp_region_noPanic ?_
  refine wp_region_held_drew (S := (fun V => V.cell? ⟨n + 1, 0, none⟩ = some (.int .i64 a.1) ∧ V.cell? ⟨n + 1, 1, none⟩ = some (.int .i64 a.2) ∧ V.cell? ⟨g, 0, none⟩ = some (.int .i64 t.low.1) ∧ V.cell? ⟨g, 1, none⟩ = some (.int .i64 t.low.2))) (by kernel_rfl) ⟨(blk_cell (td_kept HA.out (below_drew1 (Below.refl _ _))) 0).trans rfl, (blk_cell (td_kept HA.out (below_drew1 (Below.refl _ _))) 1).trans rfl, (blk_cell (td_kept HT.out.box (below_drew1 (Below.refl _ _))) 0).trans rfl, (blk_cell (td_kept HT.out.box (below_drew1 (Below.refl _ _))) 1).trans rfl⟩ (fun hHeld => ?_)
  generalize hwd : World.drew _ = wd at hHeld ⊢
  have hb : Below w5.heap.size w5 wd := by rw [← hwd]; exact below_drew1 (Below.refl _ _)
  clear hwd
  have HX_ := Aside0.mk (td_kept HX.out hb)
  clear HX
  have HX := Aside0.mk HX_.out
  clear HX_
  have HA_ := Aside0.mk (td_kept HA.out hb)
  clear HA
  have HA := Aside0.mk HA_.out
  clear HA_
  have HT_ := Aside0.mk (HT.out.step hb)
  clear HT
  have HT := Aside0.mk HT_.out
  clear HT_
  have HN_ := Aside0.mk (HN.out.trans (Tn.of_below hb))
  clear HN
  have HN := Aside0.mk HN_.out
  clear HN_
  have HB_ := Aside0.mk (below_step HB.out hb)
  clear HB
  have HB := Aside0.mk HB_.out
  clear HB_
  clear hb
  refine tk_ (i := 0) (oi := ⟨some 26, _, _, _, _, none⟩) (v := ?v1) rfl (by rfl) ?y1 (by with_reducible assumption) ?r1
  case y1 => (intro V_ hSw; (try dsimp only at hSw); go_simp; (try with_reducible rfl))
  try simp only [Act.put, List.setIfInBounds_toArray, List.set_cons_zero, List.set_cons_succ]
  refine tk_ (i := 1) (oi := ⟨some 27, _, _, _, _, none⟩) (v := ?v2) rfl (by rfl) ?y2 (by with_reducible assumption) ?r2
  case y2 => (intro V_ hSw; (try dsimp only at hSw); go_simp; (try with_reducible rfl))
  try simp only [Act.put, List.setIfInBounds_toArray, List.set_cons_zero, List.set_cons_succ]
  refine tk_ (i := 2) (oi := ⟨some 28, _, _, _, _, none⟩) (v := ?v3) rfl (by rfl) ?y3 (by with_reducible assumption) ?r3
  case y3 => (intro V_ hSw; (try dsimp only at hSw); go_simp; (try with_reducible rfl))
  try simp only [Act.put, List.setIfInBounds_toArray, List.set_cons_zero, List.set_cons_succ]
  refine tk_ (i := 3) (oi := ⟨some 29, _, _, _, _, none⟩) (v := ?v4) rfl (by rfl) ?y4 (by with_reducible assumption) ?r4
  case y4 => (intro V_ hSw; (try dsimp only at hSw); go_simp; (try with_reducible rfl))
  try simp only [Act.put, List.setIfInBounds_toArray, List.set_cons_zero, List.set_cons_succ]
  refine tk_ (i := 4) (oi := ⟨some 30, _, _, _, _, none⟩) (v := ?v5) rfl (by rfl) ?y5 (by with_reducible assumption) ?r5
  case y5 => (intro V_ hSw; (try dsimp only at hSw); go_simp; (try with_reducible rfl))
  try simp only [Act.put, List.setIfInBounds_toArray, List.set_cons_zero, List.set_cons_succ]
  refine wpAnyH_ready (rs := [5]) (by kernel_rfl) (by simp) (AllReadyH.cons (o := ⟨some 31, _, _, _, _, none⟩) rfl (fun K hK => ?_) AllReadyH.nil)
  go_simp
  refine (rl_less t.low a _).mono ?_
  rintro e w6 ⟨rfl, hb⟩
  have HX_ := Aside0.mk (td_kept HX.out hb)
  clear HX
  have HX := Aside0.mk HX_.out
  clear HX_
  have HA_ := Aside0.mk (td_kept HA.out hb)
  clear HA
  have HA := Aside0.mk HA_.out
  clear HA_
  have HT_ := Aside0.mk (HT.out.step hb)
  clear HT
  have HT := Aside0.mk HT_.out
  clear HT_
  have HN_ := Aside0.mk (HN.out.trans (Tn.of_below hb))
  clear HN
  have HN := Aside0.mk HN_.out
  clear HN_
  have HB_ := Aside0.mk (below_step HB.out hb)
  clear HB
  have HB := Aside0.mk HB_.out
  clear HB_
  clear hb
  rw [HLW.out]
  refine hK.out _ _ ⟨(blk_cell (td_kept HA.out (Below.refl _ _)) 0).trans rfl, (blk_cell (td_kept HA.out (Below.refl _ _)) 1).trans rfl, (blk_cell (td_kept HT.out.box (Below.refl _ _)) 0).trans rfl, (blk_cell (td_kept HT.out.box (Below.refl _ _)) 1).trans rfl⟩ (fun hHeld => ?_)
  clear hK K
  try simp only [Act.put, List.setIfInBounds_toArray, List.set_cons_zero, List.set_cons_succ]
  refine tk_ (i := 6) (oi := ⟨some 32, _, _, _, _, none⟩) (v := ?v6) rfl (by rfl) ?y6 (by with_reducible assumption) ?r6
  case y6 => (intro V_ hSw; (try dsimp only at hSw); go_simp; (try with_reducible rfl))
  try simp only [Act.put, List.setIfInBounds_toArray, List.set_cons_zero, List.set_cons_succ]
  refine wpAnyH_done (by kernel_rfl) ?_ _
  refine NoPanic.normal ?_
  clear hHeld
  go_wp2_with fail
  go_loopg [10] (t.l.length + 1) (fun gg v wr => ∃ (i : Nat), v = .int .i64 (i : Int) ∧ Aside0 (i + gg = t.l.length + 1) ∧ Aside0 (i ≤ t.l.length) ∧ Aside0 (RtA W0 wr g t A c) ∧ Aside0 (Tn W0.heap.size (some g) 67 W wr) ∧ Aside0 (Below W.heap.size W wr) ∧ Aside0 (wr.heap[n]? = some (.cells #[.string s.f0, .string s.f1] 24 (0, 0))) ∧ Aside0 (wr.heap[n + 1]? = some (.cells #[.int .i64 a.1, .int .i64 a.2] 31 (0, 0))))
  case atStart => exact ⟨0, rfl, ⟨by omega⟩, ⟨Nat.zero_le _⟩, HT, HN, HB, HX, HA⟩
  case round =>
    clear HT HN HB HX HA
    obtain ⟨i, rfl, HI, HIL, HT, HN, HB, HX, HA⟩ := hrel
    by_cases hlt : i < t.l.length
    case pos =>
      have d1 : decide ((i : Int) < (t.l.length : Int)) = true := decide_eq_true (by omega)
      have d1n : decide (i < t.l.length) = true := decide_eq_true hlt
      obtain ⟨r, c', er, hbr, hltr, cellsr, hcellr⟩ := Kd.R_form HROW0.out (by omega)
      injection er with er _ ec
      subst er; subst ec
      clear hbr hltr hcellr
      obtain ⟨ad, ea, y, hy, hld⟩ := ld_T63 (Kd.R_reads' HROW0.out).2.2 i hlt
      cases ea
      rw [add_plain] at hld
      have HLC := Aside0.mk (fun (V : World) (hV : Below W.heap.size W V) => (show V.cell? ⟨r, i * 5, none⟩ = some (.string y.s.f0) ∧ V.cell? ⟨r, i * 5 + 1, none⟩ = some (.string y.s.f1) ∧ V.cell? ⟨r, i * 5 + 2, none⟩ = some (.int .i64 y.at_.1) ∧ V.cell? ⟨r, i * 5 + 3, none⟩ = some (.int .i64 y.at_.2) ∧ V.cell? ⟨r, i * 5 + 4, none⟩ = some (.int .i64 y.o) from ⟨by have q := (hV.cell (World.block_lt_of_cell? W _ (hld 0 _ rfl))).trans (hld 0 _ rfl); exact q, by have q := (hV.cell (World.block_lt_of_cell? W _ (hld 1 _ rfl))).trans (hld 1 _ rfl); rw [add_field _ _ 1 (by omega)] at q; exact q, by have q := (hV.cell (World.block_lt_of_cell? W _ (hld 2 _ rfl))).trans (hld 2 _ rfl); rw [add_field _ _ 2 (by omega)] at q; exact q, by have q := (hV.cell (World.block_lt_of_cell? W _ (hld 3 _ rfl))).trans (hld 3 _ rfl); rw [add_field _ _ 3 (by omega)] at q; exact q, by have q := (hV.cell (World.block_lt_of_cell? W _ (hld 4 _ rfl))).trans (hld 4 _ rfl); rw [add_field _ _ 4 (by omega)] at q; exact q⟩))
      have HY := Aside0.mk hy
      have HLT := Aside0.mk hlt
      have p0 := eq_true (show (0 : Int) ≤ (i : Int) by omega)
      have q0 := eq_true (show (i : Int) < (t.l.length : Int) by omega)
      have q0n := eq_true hlt
      have g2 : wr.cell? ⟨g, 2, none⟩ = some (.slice (some ⟨r, 0, none⟩) t.l.length c) := (blk_cell HT.out.box 2).trans rfl
      have hwi : Go.RowKit.wrap64 ((i : Int) + 1) = ((i + 1 : Nat) : Int) := by
        have := HLM.out
        unfold Go.RowKit.wrap64
        omega
      have HWI := Aside0.mk hwi
      have HWI2 := Aside0.mk ((i64_w ((i : Int) + 1)).trans hwi)
      clear hwi
      have HSM := Aside0.mk (show same s o y = false from by have q := HSMA.out i HLT.out; rw [HY.out] at q; exact q)
      clear hy hld hlt
      by_cases h0 : y.s.f0.toList = s.f0.toList
      case neg =>
        have e0 := eq_false h0
        clear h0
        go_upto_region 11 with fail
        clear g2
        refine wp_region_noPanic ?_
        refine wp_region_held_drew (S := (fun V => (V.cell? ⟨r, i * 5, none⟩ = some (.string y.s.f0) ∧ V.cell? ⟨r, i * 5 + 1, none⟩ = some (.string y.s.f1) ∧ V.cell? ⟨r, i * 5 + 2, none⟩ = some (.int .i64 y.at_.1) ∧ V.cell? ⟨r, i * 5 + 3, none⟩ = some (.int .i64 y.at_.2) ∧ V.cell? ⟨r, i * 5 + 4, none⟩ = some (.int .i64 y.o)) ∧ V.cell? ⟨g, 2, none⟩ = some (.slice (some ⟨r, 0, none⟩) t.l.length c) ∧ V.cell? ⟨n, 0, none⟩ = some (.string s.f0) ∧ V.cell? ⟨n, 1, none⟩ = some (.string s.f1))) (by kernel_rfl) ⟨HLC.out _ (below_step HB.out (below_drew1 (Below.refl _ _))), (blk_cell (td_kept HT.out.box (below_drew1 (Below.refl _ _))) 2).trans rfl, (blk_cell (td_kept HX.out (below_drew1 (Below.refl _ _))) 0).trans rfl, (blk_cell (td_kept HX.out (below_drew1 (Below.refl _ _))) 1).trans rfl⟩ (fun hHeld => ?_)
        generalize hwd : World.drew _ = wd at hHeld ⊢
        have hb : Below wr.heap.size wr wd := by rw [← hwd]; exact below_drew1 (Below.refl _ _)
        clear hwd
        have HX_ := Aside0.mk (td_kept HX.out hb)
        clear HX
        have HX := Aside0.mk HX_.out
        clear HX_
        have HA_ := Aside0.mk (td_kept HA.out hb)
        clear HA
        have HA := Aside0.mk HA_.out
        clear HA_
        have HT_ := Aside0.mk (HT.out.step hb)
        clear HT
        have HT := Aside0.mk HT_.out
        clear HT_
        have HN_ := Aside0.mk (HN.out.trans (Tn.of_below hb))
        clear HN
        have HN := Aside0.mk HN_.out
        clear HN_
        have HB_ := Aside0.mk (below_step HB.out hb)
        clear HB
        have HB := Aside0.mk HB_.out
        clear HB_
        clear hb
        refine tk_ (i := 0) (oi := ⟨some 42, _, _, _, _, none⟩) (v := ?v7) rfl (by rfl) ?y7 (by with_reducible assumption) ?r7
        case y7 => (intro V_ hSw; (try dsimp only at hSw); go_simp; (try with_reducible rfl))
        try simp only [Act.put, List.setIfInBounds_toArray, List.set_cons_zero, List.set_cons_succ]
        refine tk_ (i := 1) (oi := ⟨some 43, _, _, _, _, none⟩) (v := ?v8) rfl (by rfl) ?y8 (by with_reducible assumption) ?r8
        case y8 => (intro V_ hSw; (try dsimp only at hSw); go_simp; (try with_reducible rfl))
        try simp only [Act.put, List.setIfInBounds_toArray, List.set_cons_zero, List.set_cons_succ]
        refine tk_ (i := 2) (oi := ⟨some 44, _, _, _, _, none⟩) (v := ?v9) rfl (by rfl) ?y9 (by with_reducible assumption) ?r9
        case y9 => (intro V_ hSw; (try dsimp only at hSw); go_simp; (try with_reducible rfl))
        try simp only [Act.put, List.setIfInBounds_toArray, List.set_cons_zero, List.set_cons_succ]
        refine tk_ (i := 3) (oi := ⟨some 45, _, _, _, _, none⟩) (v := ?v10) rfl (by rfl) ?y10 (by with_reducible assumption) ?r10
        case y10 => (intro V_ hSw; (try dsimp only at hSw); go_simp; (try with_reducible rfl))
        try simp only [Act.put, List.setIfInBounds_toArray, List.set_cons_zero, List.set_cons_succ]
        refine tk_ (i := 4) (oi := ⟨some 46, _, _, _, _, none⟩) (v := ?v11) rfl (by rfl) ?y11 (by with_reducible assumption) ?r11
        case y11 => (intro V_ hSw; (try dsimp only at hSw); go_simp; (try with_reducible rfl))
        try simp only [Act.put, List.setIfInBounds_toArray, List.set_cons_zero, List.set_cons_succ]
        refine tk_ (i := 5) (oi := ⟨some 47, _, _, _, _, none⟩) (v := ?v12) rfl (by rfl) ?y12 (by with_reducible assumption) ?r12
        case y12 => (intro V_ hSw; (try dsimp only at hSw); go_simp; (try with_reducible rfl))
        try simp only [Act.put, List.setIfInBounds_toArray, List.set_cons_zero, List.set_cons_succ]
        refine tk_ (i := 6) (oi := ⟨some 48, _, _, _, _, none⟩) (v := ?v13) rfl (by rfl) ?y13 (by with_reducible assumption) ?r13
        case y13 => (intro V_ hSw; (try dsimp only at hSw); go_simp; (try with_reducible rfl))
        try simp only [Act.put, List.setIfInBounds_toArray, List.set_cons_zero, List.set_cons_succ]
        refine tk_ (i := 7) (oi := ⟨some 49, _, _, _, _, none⟩) (v := ?v14) rfl (by rfl) ?y14 (by with_reducible assumption) ?r14
        case y14 => (intro V_ hSw; (try dsimp only at hSw); go_simp; (try with_reducible rfl))
        try simp only [Act.put, List.setIfInBounds_toArray, List.set_cons_zero, List.set_cons_succ]
        refine tk_ (i := 8) (oi := ⟨some 50, _, _, _, _, none⟩) (v := ?v15) rfl (by rfl) ?y15 (by with_reducible assumption) ?r15
        case y15 => (intro V_ hSw; (try dsimp only at hSw); go_simp; (try with_reducible rfl))
        try simp only [Act.put, List.setIfInBounds_toArray, List.set_cons_zero, List.set_cons_succ]
        refine tk_ (i := 9) (oi := ⟨some 51, _, _, _, _, none⟩) (v := ?v16) rfl (by rfl) ?y16 (by with_reducible assumption) ?r16
        case y16 => (intro V_ hSw; (try dsimp only at hSw); go_simp; (try with_reducible rfl))
        try simp only [Act.put, List.setIfInBounds_toArray, List.set_cons_zero, List.set_cons_succ]
        refine tk_ (i := 10) (oi := ⟨some 52, _, _, _, _, none⟩) (v := ?v17) rfl (by rfl) ?y17 (by with_reducible assumption) ?r17
        case y17 => (intro V_ hSw; (try dsimp only at hSw); go_simp; (try with_reducible rfl))
        try simp only [Act.put, List.setIfInBounds_toArray, List.set_cons_zero, List.set_cons_succ]
        refine tk0_ (i := 11) (oi := ⟨some 53, _, _, _, _, some (10, true)⟩) rfl (by rfl) (by with_reducible assumption) ?_
        try simp only [Act.put, List.setIfInBounds_toArray, List.set_cons_zero, List.set_cons_succ]
        refine tk0_ (i := 12) (oi := ⟨some 54, _, _, _, _, some (10, true)⟩) rfl (by rfl) (by with_reducible assumption) ?_
        try simp only [Act.put, List.setIfInBounds_toArray, List.set_cons_zero, List.set_cons_succ]
        refine tk0_ (i := 13) (oi := ⟨some 55, _, _, _, _, some (10, true)⟩) rfl (by rfl) (by with_reducible assumption) ?_
        try simp only [Act.put, List.setIfInBounds_toArray, List.set_cons_zero, List.set_cons_succ]
        refine tk0_ (i := 14) (oi := ⟨some 56, _, _, _, _, some (10, true)⟩) rfl (by rfl) (by with_reducible assumption) ?_
        try simp only [Act.put, List.setIfInBounds_toArray, List.set_cons_zero, List.set_cons_succ]
        refine tk0_ (i := 15) (oi := ⟨some 57, _, _, _, _, some (10, true)⟩) rfl (by rfl) (by with_reducible assumption) ?_
        try simp only [Act.put, List.setIfInBounds_toArray, List.set_cons_zero, List.set_cons_succ]
        refine tk0_ (i := 16) (oi := ⟨some 58, _, _, _, _, some (10, true)⟩) rfl (by rfl) (by with_reducible assumption) ?_
        try simp only [Act.put, List.setIfInBounds_toArray, List.set_cons_zero, List.set_cons_succ]
        refine tk0_ (i := 17) (oi := ⟨some 59, _, _, _, _, some (10, true)⟩) rfl (by rfl) (by with_reducible assumption) ?_
        try simp only [Act.put, List.setIfInBounds_toArray, List.set_cons_zero, List.set_cons_succ]
        refine tk0_ (i := 18) (oi := ⟨some 60, _, _, _, _, some (10, true)⟩) rfl (by rfl) (by with_reducible assumption) ?_
        try simp only [Act.put, List.setIfInBounds_toArray, List.set_cons_zero, List.set_cons_succ]
        refine tk0_ (i := 19) (oi := ⟨some 61, _, _, _, _, some (10, true)⟩) rfl (by rfl) (by with_reducible assumption) ?_
        try simp only [Act.put, List.setIfInBounds_toArray, List.set_cons_zero, List.set_cons_succ]
        refine tk0_ (i := 20) (oi := ⟨some 62, _, _, _, _, some (10, true)⟩) rfl (by rfl) (by with_reducible assumption) ?_
        try simp only [Act.put, List.setIfInBounds_toArray, List.set_cons_zero, List.set_cons_succ]
        refine tk_ (i := 21) (oi := ⟨some 63, _, _, _, _, none⟩) (v := ?v28) rfl (by rfl) ?y28 (by with_reducible assumption) ?r28
        case y28 => (intro V_ hSw; (try dsimp only at hSw); go_simp; (try with_reducible rfl))
        try simp only [Act.put, List.setIfInBounds_toArray, List.set_cons_zero, List.set_cons_succ]
        refine wpAnyH_done (by kernel_rfl) ?_ _
        refine NoPanic.normal ?_
        clear hHeld
        go_wp2_with fail
        go_roundg (t.l.length - i)
        case measure => have h1 := HI.out; have h2 := HLT.out; omega
        case rel => exact ⟨i + 1, congrArg (Value.int .i64) (by first | exact HWI.out | exact HWI2.out | rfl | omega), ⟨by have h1 := HI.out; have h2 := HLT.out; omega⟩, ⟨HLT.out⟩, HT, HN, HB, HX, HA⟩
      case pos =>
        by_cases h1 : y.s.f1.toList = s.f1.toList
        case neg =>
          have e0 := eq_true h0
          have e1 := eq_false h1
          clear h0 h1
          go_upto_region 11 with fail
          clear g2
          refine wp_region_noPanic ?_
          refine wp_region_held_drew (S := (fun V => (V.cell? ⟨r, i * 5, none⟩ = some (.string y.s.f0) ∧ V.cell? ⟨r, i * 5 + 1, none⟩ = some (.string y.s.f1) ∧ V.cell? ⟨r, i * 5 + 2, none⟩ = some (.int .i64 y.at_.1) ∧ V.cell? ⟨r, i * 5 + 3, none⟩ = some (.int .i64 y.at_.2) ∧ V.cell? ⟨r, i * 5 + 4, none⟩ = some (.int .i64 y.o)) ∧ V.cell? ⟨g, 2, none⟩ = some (.slice (some ⟨r, 0, none⟩) t.l.length c) ∧ V.cell? ⟨n, 0, none⟩ = some (.string s.f0) ∧ V.cell? ⟨n, 1, none⟩ = some (.string s.f1))) (by kernel_rfl) ⟨HLC.out _ (below_step HB.out (below_drew1 (Below.refl _ _))), (blk_cell (td_kept HT.out.box (below_drew1 (Below.refl _ _))) 2).trans rfl, (blk_cell (td_kept HX.out (below_drew1 (Below.refl _ _))) 0).trans rfl, (blk_cell (td_kept HX.out (below_drew1 (Below.refl _ _))) 1).trans rfl⟩ (fun hHeld => ?_)
          generalize hwd : World.drew _ = wd at hHeld ⊢
          have hb : Below wr.heap.size wr wd := by rw [← hwd]; exact below_drew1 (Below.refl _ _)
          clear hwd
          have HX_ := Aside0.mk (td_kept HX.out hb)
          clear HX
          have HX := Aside0.mk HX_.out
          clear HX_
          have HA_ := Aside0.mk (td_kept HA.out hb)
          clear HA
          have HA := Aside0.mk HA_.out
          clear HA_
          have HT_ := Aside0.mk (HT.out.step hb)
          clear HT
          have HT := Aside0.mk HT_.out
          clear HT_
          have HN_ := Aside0.mk (HN.out.trans (Tn.of_below hb))
          clear HN
          have HN := Aside0.mk HN_.out
          clear HN_
          have HB_ := Aside0.mk (below_step HB.out hb)
          clear HB
          have HB := Aside0.mk HB_.out
          clear HB_
          clear hb
          refine tk_ (i := 0) (oi := ⟨some 42, _, _, _, _, none⟩) (v := ?v29) rfl (by rfl) ?y29 (by with_reducible assumption) ?r29
          case y29 => (intro V_ hSw; (try dsimp only at hSw); go_simp; (try with_reducible rfl))
          try simp only [Act.put, List.setIfInBounds_toArray, List.set_cons_zero, List.set_cons_succ]
          refine tk_ (i := 1) (oi := ⟨some 43, _, _, _, _, none⟩) (v := ?v30) rfl (by rfl) ?y30 (by with_reducible assumption) ?r30
          case y30 => (intro V_ hSw; (try dsimp only at hSw); go_simp; (try with_reducible rfl))
          try simp only [Act.put, List.setIfInBounds_toArray, List.set_cons_zero, List.set_cons_succ]
          refine tk_ (i := 2) (oi := ⟨some 44, _, _, _, _, none⟩) (v := ?v31) rfl (by rfl) ?y31 (by with_reducible assumption) ?r31
          case y31 => (intro V_ hSw; (try dsimp only at hSw); go_simp; (try with_reducible rfl))
          try simp only [Act.put, List.setIfInBounds_toArray, List.set_cons_zero, List.set_cons_succ]
          refine tk_ (i := 3) (oi := ⟨some 45, _, _, _, _, none⟩) (v := ?v32) rfl (by rfl) ?y32 (by with_reducible assumption) ?r32
          case y32 => (intro V_ hSw; (try dsimp only at hSw); go_simp; (try with_reducible rfl))
          try simp only [Act.put, List.setIfInBounds_toArray, List.set_cons_zero, List.set_cons_succ]
          refine tk_ (i := 4) (oi := ⟨some 46, _, _, _, _, none⟩) (v := ?v33) rfl (by rfl) ?y33 (by with_reducible assumption) ?r33
          case y33 => (intro V_ hSw; (try dsimp only at hSw); go_simp; (try with_reducible rfl))
          try simp only [Act.put, List.setIfInBounds_toArray, List.set_cons_zero, List.set_cons_succ]
          refine tk_ (i := 5) (oi := ⟨some 47, _, _, _, _, none⟩) (v := ?v34) rfl (by rfl) ?y34 (by with_reducible assumption) ?r34
          case y34 => (intro V_ hSw; (try dsimp only at hSw); go_simp; (try with_reducible rfl))
          try simp only [Act.put, List.setIfInBounds_toArray, List.set_cons_zero, List.set_cons_succ]
          refine tk_ (i := 6) (oi := ⟨some 48, _, _, _, _, none⟩) (v := ?v35) rfl (by rfl) ?y35 (by with_reducible assumption) ?r35
          case y35 => (intro V_ hSw; (try dsimp only at hSw); go_simp; (try with_reducible rfl))
          try simp only [Act.put, List.setIfInBounds_toArray, List.set_cons_zero, List.set_cons_succ]
          refine tk_ (i := 7) (oi := ⟨some 49, _, _, _, _, none⟩) (v := ?v36) rfl (by rfl) ?y36 (by with_reducible assumption) ?r36
          case y36 => (intro V_ hSw; (try dsimp only at hSw); go_simp; (try with_reducible rfl))
          try simp only [Act.put, List.setIfInBounds_toArray, List.set_cons_zero, List.set_cons_succ]
          refine tk_ (i := 8) (oi := ⟨some 50, _, _, _, _, none⟩) (v := ?v37) rfl (by rfl) ?y37 (by with_reducible assumption) ?r37
          case y37 => (intro V_ hSw; (try dsimp only at hSw); go_simp; (try with_reducible rfl))
          try simp only [Act.put, List.setIfInBounds_toArray, List.set_cons_zero, List.set_cons_succ]
          refine tk_ (i := 9) (oi := ⟨some 51, _, _, _, _, none⟩) (v := ?v38) rfl (by rfl) ?y38 (by with_reducible assumption) ?r38
          case y38 => (intro V_ hSw; (try dsimp only at hSw); go_simp; (try with_reducible rfl))
          try simp only [Act.put, List.setIfInBounds_toArray, List.set_cons_zero, List.set_cons_succ]
          refine tk_ (i := 10) (oi := ⟨some 52, _, _, _, _, none⟩) (v := ?v39) rfl (by rfl) ?y39 (by with_reducible assumption) ?r39
          case y39 => (intro V_ hSw; (try dsimp only at hSw); go_simp; (try with_reducible rfl))
          try simp only [Act.put, List.setIfInBounds_toArray, List.set_cons_zero, List.set_cons_succ]
          refine tk0_ (i := 11) (oi := ⟨some 53, _, _, _, _, some (10, true)⟩) rfl (by rfl) (by with_reducible assumption) ?_
          try simp only [Act.put, List.setIfInBounds_toArray, List.set_cons_zero, List.set_cons_succ]
          refine tk0_ (i := 12) (oi := ⟨some 54, _, _, _, _, some (10, true)⟩) rfl (by rfl) (by with_reducible assumption) ?_
          try simp only [Act.put, List.setIfInBounds_toArray, List.set_cons_zero, List.set_cons_succ]
          refine tk0_ (i := 13) (oi := ⟨some 55, _, _, _, _, some (10, true)⟩) rfl (by rfl) (by with_reducible assumption) ?_
          try simp only [Act.put, List.setIfInBounds_toArray, List.set_cons_zero, List.set_cons_succ]
          refine tk0_ (i := 14) (oi := ⟨some 56, _, _, _, _, some (10, true)⟩) rfl (by rfl) (by with_reducible assumption) ?_
          try simp only [Act.put, List.setIfInBounds_toArray, List.set_cons_zero, List.set_cons_succ]
          refine tk0_ (i := 15) (oi := ⟨some 57, _, _, _, _, some (10, true)⟩) rfl (by rfl) (by with_reducible assumption) ?_
          try simp only [Act.put, List.setIfInBounds_toArray, List.set_cons_zero, List.set_cons_succ]
          refine tk0_ (i := 16) (oi := ⟨some 58, _, _, _, _, some (10, true)⟩) rfl (by rfl) (by with_reducible assumption) ?_
          try simp only [Act.put, List.setIfInBounds_toArray, List.set_cons_zero, List.set_cons_succ]
          refine tk0_ (i := 17) (oi := ⟨some 59, _, _, _, _, some (10, true)⟩) rfl (by rfl) (by with_reducible assumption) ?_
          try simp only [Act.put, List.setIfInBounds_toArray, List.set_cons_zero, List.set_cons_succ]
          refine tk0_ (i := 18) (oi := ⟨some 60, _, _, _, _, some (10, true)⟩) rfl (by rfl) (by with_reducible assumption) ?_
          try simp only [Act.put, List.setIfInBounds_toArray, List.set_cons_zero, List.set_cons_succ]
          refine tk0_ (i := 19) (oi := ⟨some 61, _, _, _, _, some (10, true)⟩) rfl (by rfl) (by with_reducible assumption) ?_
          try simp only [Act.put, List.setIfInBounds_toArray, List.set_cons_zero, List.set_cons_succ]
          refine tk0_ (i := 20) (oi := ⟨some 62, _, _, _, _, some (10, true)⟩) rfl (by rfl) (by with_reducible assumption) ?_
          try simp only [Act.put, List.setIfInBounds_toArray, List.set_cons_zero, List.set_cons_succ]
          refine tk_ (i := 21) (oi := ⟨some 63, _, _, _, _, none⟩) (v := ?v50) rfl (by rfl) ?y50 (by with_reducible assumption) ?r50
          case y50 => (intro V_ hSw; (try dsimp only at hSw); go_simp; (try with_reducible rfl))
          try simp only [Act.put, List.setIfInBounds_toArray, List.set_cons_zero, List.set_cons_succ]
          refine wpAnyH_done (by kernel_rfl) ?_ _
          refine NoPanic.normal ?_
          clear hHeld
          go_wp2_with fail
          go_roundg (t.l.length - i)
          case measure => have h1 := HI.out; have h2 := HLT.out; omega
          case rel => exact ⟨i + 1, congrArg (Value.int .i64) (by first | exact HWI.out | exact HWI2.out | rfl | omega), ⟨by have h1 := HI.out; have h2 := HLT.out; omega⟩, ⟨HLT.out⟩, HT, HN, HB, HX, HA⟩
        case pos =>
          have e2 : (y.o == o) = false := by
            have q := HSM.out
            unfold same at q
            rw [h0, h1] at q
            simpa using q
          have e2p : ¬ y.o = o := by simpa using e2
          have e0 := eq_true h0
          have e1 := eq_true h1
          have e3 := eq_false e2p
          clear h0 h1 e2p
          go_upto_region 11 with fail
          clear g2
          refine wp_region_noPanic ?_
          refine wp_region_held_drew (S := (fun V => (V.cell? ⟨r, i * 5, none⟩ = some (.string y.s.f0) ∧ V.cell? ⟨r, i * 5 + 1, none⟩ = some (.string y.s.f1) ∧ V.cell? ⟨r, i * 5 + 2, none⟩ = some (.int .i64 y.at_.1) ∧ V.cell? ⟨r, i * 5 + 3, none⟩ = some (.int .i64 y.at_.2) ∧ V.cell? ⟨r, i * 5 + 4, none⟩ = some (.int .i64 y.o)) ∧ V.cell? ⟨g, 2, none⟩ = some (.slice (some ⟨r, 0, none⟩) t.l.length c) ∧ V.cell? ⟨n, 0, none⟩ = some (.string s.f0) ∧ V.cell? ⟨n, 1, none⟩ = some (.string s.f1))) (by kernel_rfl) ⟨HLC.out _ (below_step HB.out (below_drew1 (Below.refl _ _))), (blk_cell (td_kept HT.out.box (below_drew1 (Below.refl _ _))) 2).trans rfl, (blk_cell (td_kept HX.out (below_drew1 (Below.refl _ _))) 0).trans rfl, (blk_cell (td_kept HX.out (below_drew1 (Below.refl _ _))) 1).trans rfl⟩ (fun hHeld => ?_)
          generalize hwd : World.drew _ = wd at hHeld ⊢
          have hb : Below wr.heap.size wr wd := by rw [← hwd]; exact below_drew1 (Below.refl _ _)
          clear hwd
          have HX_ := Aside0.mk (td_kept HX.out hb)
          clear HX
          have HX := Aside0.mk HX_.out
          clear HX_
          have HA_ := Aside0.mk (td_kept HA.out hb)
          clear HA
          have HA := Aside0.mk HA_.out
          clear HA_
          have HT_ := Aside0.mk (HT.out.step hb)
          clear HT
          have HT := Aside0.mk HT_.out
          clear HT_
          have HN_ := Aside0.mk (HN.out.trans (Tn.of_below hb))
          clear HN
          have HN := Aside0.mk HN_.out
          clear HN_
          have HB_ := Aside0.mk (below_step HB.out hb)
          clear HB
          have HB := Aside0.mk HB_.out
          clear HB_
          clear hb
          refine tk_ (i := 0) (oi := ⟨some 42, _, _, _, _, none⟩) (v := ?v51) rfl (by rfl) ?y51 (by with_reducible assumption) ?r51
          case y51 => (intro V_ hSw; (try dsimp only at hSw); go_simp; (try with_reducible rfl))
          try simp only [Act.put, List.setIfInBounds_toArray, List.set_cons_zero, List.set_cons_succ]
          refine tk_ (i := 1) (oi := ⟨some 43, _, _, _, _, none⟩) (v := ?v52) rfl (by rfl) ?y52 (by with_reducible assumption) ?r52
          case y52 => (intro V_ hSw; (try dsimp only at hSw); go_simp; (try with_reducible rfl))
          try simp only [Act.put, List.setIfInBounds_toArray, List.set_cons_zero, List.set_cons_succ]
          refine tk_ (i := 2) (oi := ⟨some 44, _, _, _, _, none⟩) (v := ?v53) rfl (by rfl) ?y53 (by with_reducible assumption) ?r53
          case y53 => (intro V_ hSw; (try dsimp only at hSw); go_simp; (try with_reducible rfl))
          try simp only [Act.put, List.setIfInBounds_toArray, List.set_cons_zero, List.set_cons_succ]
          refine tk_ (i := 3) (oi := ⟨some 45, _, _, _, _, none⟩) (v := ?v54) rfl (by rfl) ?y54 (by with_reducible assumption) ?r54
          case y54 => (intro V_ hSw; (try dsimp only at hSw); go_simp; (try with_reducible rfl))
          try simp only [Act.put, List.setIfInBounds_toArray, List.set_cons_zero, List.set_cons_succ]
          refine tk_ (i := 4) (oi := ⟨some 46, _, _, _, _, none⟩) (v := ?v55) rfl (by rfl) ?y55 (by with_reducible assumption) ?r55
          case y55 => (intro V_ hSw; (try dsimp only at hSw); go_simp; (try with_reducible rfl))
          try simp only [Act.put, List.setIfInBounds_toArray, List.set_cons_zero, List.set_cons_succ]
          refine tk_ (i := 5) (oi := ⟨some 47, _, _, _, _, none⟩) (v := ?v56) rfl (by rfl) ?y56 (by with_reducible assumption) ?r56
          case y56 => (intro V_ hSw; (try dsimp only at hSw); go_simp; (try with_reducible rfl))
          try simp only [Act.put, List.setIfInBounds_toArray, List.set_cons_zero, List.set_cons_succ]
          refine tk_ (i := 6) (oi := ⟨some 48, _, _, _, _, none⟩) (v := ?v57) rfl (by rfl) ?y57 (by with_reducible assumption) ?r57
          case y57 => (intro V_ hSw; (try dsimp only at hSw); go_simp; (try with_reducible rfl))
          try simp only [Act.put, List.setIfInBounds_toArray, List.set_cons_zero, List.set_cons_succ]
          refine tk_ (i := 7) (oi := ⟨some 49, _, _, _, _, none⟩) (v := ?v58) rfl (by rfl) ?y58 (by with_reducible assumption) ?r58
          case y58 => (intro V_ hSw; (try dsimp only at hSw); go_simp; (try with_reducible rfl))
          try simp only [Act.put, List.setIfInBounds_toArray, List.set_cons_zero, List.set_cons_succ]
          refine tk_ (i := 8) (oi := ⟨some 50, _, _, _, _, none⟩) (v := ?v59) rfl (by rfl) ?y59 (by with_reducible assumption) ?r59
          case y59 => (intro V_ hSw; (try dsimp only at hSw); go_simp; (try with_reducible rfl))
          try simp only [Act.put, List.setIfInBounds_toArray, List.set_cons_zero, List.set_cons_succ]
          refine tk_ (i := 9) (oi := ⟨some 51, _, _, _, _, none⟩) (v := ?v60) rfl (by rfl) ?y60 (by with_reducible assumption) ?r60
          case y60 => (intro V_ hSw; (try dsimp only at hSw); go_simp; (try with_reducible rfl))
          try simp only [Act.put, List.setIfInBounds_toArray, List.set_cons_zero, List.set_cons_succ]
          refine tk_ (i := 10) (oi := ⟨some 52, _, _, _, _, none⟩) (v := ?v61) rfl (by rfl) ?y61 (by with_reducible assumption) ?r61
          case y61 => (intro V_ hSw; (try dsimp only at hSw); go_simp; (try with_reducible rfl))
          try simp only [Act.put, List.setIfInBounds_toArray, List.set_cons_zero, List.set_cons_succ]
          refine tk_ (i := 11) (oi := ⟨some 53, _, _, _, _, some (10, true)⟩) (v := ?v62) rfl (by rfl) ?y62 (by with_reducible assumption) ?r62
          case y62 => (intro V_ hSw; (try dsimp only at hSw); go_simp; (try with_reducible rfl))
          try simp only [Act.put, List.setIfInBounds_toArray, List.set_cons_zero, List.set_cons_succ]
          refine tk_ (i := 12) (oi := ⟨some 54, _, _, _, _, some (10, true)⟩) (v := ?v63) rfl (by rfl) ?y63 (by with_reducible assumption) ?r63
          case y63 => (intro V_ hSw; (try dsimp only at hSw); go_simp; (try with_reducible rfl))
          try simp only [Act.put, List.setIfInBounds_toArray, List.set_cons_zero, List.set_cons_succ]
          refine tk_ (i := 13) (oi := ⟨some 55, _, _, _, _, some (10, true)⟩) (v := ?v64) rfl (by rfl) ?y64 (by with_reducible assumption) ?r64
          case y64 => (intro V_ hSw; (try dsimp only at hSw); go_simp; (try with_reducible rfl))
          try simp only [Act.put, List.setIfInBounds_toArray, List.set_cons_zero, List.set_cons_succ]
          refine tk_ (i := 14) (oi := ⟨some 56, _, _, _, _, some (10, true)⟩) (v := ?v65) rfl (by rfl) ?y65 (by with_reducible assumption) ?r65
          case y65 => (intro V_ hSw; (try dsimp only at hSw); go_simp; (try with_reducible rfl))
          try simp only [Act.put, List.setIfInBounds_toArray, List.set_cons_zero, List.set_cons_succ]
          refine tk_ (i := 15) (oi := ⟨some 57, _, _, _, _, some (10, true)⟩) (v := ?v66) rfl (by rfl) ?y66 (by with_reducible assumption) ?r66
          case y66 => (intro V_ hSw; (try dsimp only at hSw); go_simp; (try with_reducible rfl))
          try simp only [Act.put, List.setIfInBounds_toArray, List.set_cons_zero, List.set_cons_succ]
          refine tk_ (i := 16) (oi := ⟨some 58, _, _, _, _, some (10, true)⟩) (v := ?v67) rfl (by rfl) ?y67 (by with_reducible assumption) ?r67
          case y67 => (intro V_ hSw; (try dsimp only at hSw); go_simp; (try with_reducible rfl))
          try simp only [Act.put, List.setIfInBounds_toArray, List.set_cons_zero, List.set_cons_succ]
          refine tk_ (i := 17) (oi := ⟨some 59, _, _, _, _, some (10, true)⟩) (v := ?v68) rfl (by rfl) ?y68 (by with_reducible assumption) ?r68
          case y68 => (intro V_ hSw; (try dsimp only at hSw); go_simp; (try with_reducible rfl))
          try simp only [Act.put, List.setIfInBounds_toArray, List.set_cons_zero, List.set_cons_succ]
          refine tk_ (i := 18) (oi := ⟨some 60, _, _, _, _, some (10, true)⟩) (v := ?v69) rfl (by rfl) ?y69 (by with_reducible assumption) ?r69
          case y69 => (intro V_ hSw; (try dsimp only at hSw); go_simp; (try with_reducible rfl))
          try simp only [Act.put, List.setIfInBounds_toArray, List.set_cons_zero, List.set_cons_succ]
          refine tk_ (i := 19) (oi := ⟨some 61, _, _, _, _, some (10, true)⟩) (v := ?v70) rfl (by rfl) ?y70 (by with_reducible assumption) ?r70
          case y70 => (intro V_ hSw; (try dsimp only at hSw); go_simp; (try with_reducible rfl))
          try simp only [Act.put, List.setIfInBounds_toArray, List.set_cons_zero, List.set_cons_succ]
          refine tk_ (i := 20) (oi := ⟨some 62, _, _, _, _, some (10, true)⟩) (v := ?v71) rfl (by rfl) ?y71 (by with_reducible assumption) ?r71
          case y71 => (intro V_ hSw; (try dsimp only at hSw); go_simp; (try with_reducible rfl))
          try simp only [Act.put, List.setIfInBounds_toArray, List.set_cons_zero, List.set_cons_succ]
          refine tk_ (i := 21) (oi := ⟨some 63, _, _, _, _, none⟩) (v := ?v72) rfl (by rfl) ?y72 (by with_reducible assumption) ?r72
          case y72 => (intro V_ hSw; (try dsimp only at hSw); go_simp; (try with_reducible rfl))
          try simp only [Act.put, List.setIfInBounds_toArray, List.set_cons_zero, List.set_cons_succ]
          refine wpAnyH_done (by kernel_rfl) ?_ _
          refine NoPanic.normal ?_
          clear hHeld
          go_wp2_with fail
          go_roundg (t.l.length - i)
          case measure => have h1 := HI.out; have h2 := HLT.out; omega
          case rel => exact ⟨i + 1, congrArg (Value.int .i64) (by first | exact HWI.out | exact HWI2.out | rfl | omega), ⟨by have h1 := HI.out; have h2 := HLT.out; omega⟩, ⟨HLT.out⟩, HT, HN, HB, HX, HA⟩
    case neg =>
      have d1 : decide ((i : Int) < (t.l.length : Int)) = false := decide_eq_false (by omega)
      have d1n : decide (i < t.l.length) = false := decide_eq_false hlt
      have g2 : wr.cell? ⟨g, 2, none⟩ = some (.slice A t.l.length c) := (blk_cell HT.out.box 2).trans rfl
      clear HB HI HIL hlt
      go_upto_region 14 with fail
      clear g2
      refine wp_region_noPanic ?_
      refine wp_region_held_drew (S := (fun V => V.cell? ⟨n, 0, none⟩ = some (.string s.f0) ∧ V.cell? ⟨n, 1, none⟩ = some (.string s.f1) ∧ V.cell? ⟨n + 1, 0, none⟩ = some (.int .i64 a.1) ∧ V.cell? ⟨n + 1, 1, none⟩ = some (.int .i64 a.2))) (by kernel_rfl) ⟨(blk_cell (td_kept HX.out (below_drew1 (Below.refl _ _))) 0).trans rfl, (blk_cell (td_kept HX.out (below_drew1 (Below.refl _ _))) 1).trans rfl, (blk_cell (td_kept HA.out (below_drew1 (Below.refl _ _))) 0).trans rfl, (blk_cell (td_kept HA.out (below_drew1 (Below.refl _ _))) 1).trans rfl⟩ (fun hHeld => ?_)
      generalize hwd : World.drew _ = wd at hHeld ⊢
      have hb : Below wr.heap.size wr wd := by rw [← hwd]; exact below_drew1 (Below.refl _ _)
      clear hwd
      have HX_ := Aside0.mk (td_kept HX.out hb)
      clear HX
      have HX := Aside0.mk HX_.out
      clear HX_
      have HA_ := Aside0.mk (td_kept HA.out hb)
      clear HA
      have HA := Aside0.mk HA_.out
      clear HA_
      have HT_ := Aside0.mk (HT.out.step hb)
      clear HT
      have HT := Aside0.mk HT_.out
      clear HT_
      have HN_ := Aside0.mk (HN.out.trans (Tn.of_below hb))
      clear HN
      have HN := Aside0.mk HN_.out
      clear HN_
      clear hb
      refine tk_ (i := 0) (oi := ⟨some 81, _, _, _, _, none⟩) (v := ?v73) rfl (by rfl) ?y73 (by with_reducible assumption) ?r73
      case y73 => (intro V_ hSw; (try dsimp only at hSw); go_simp; (try with_reducible rfl))
      try simp only [Act.put, List.setIfInBounds_toArray, List.set_cons_zero, List.set_cons_succ]
      refine tk_ (i := 1) (oi := ⟨some 82, _, _, _, _, none⟩) (v := ?v74) rfl (by rfl) ?y74 (by with_reducible assumption) ?r74
      case y74 => (intro V_ hSw; (try dsimp only at hSw); go_simp; (try with_reducible rfl))
      try simp only [Act.put, List.setIfInBounds_toArray, List.set_cons_zero, List.set_cons_succ]
      refine tk_ (i := 2) (oi := ⟨some 83, _, _, _, _, none⟩) (v := ?v75) rfl (by rfl) ?y75 (by with_reducible assumption) ?r75
      case y75 => (intro V_ hSw; (try dsimp only at hSw); go_simp; (try with_reducible rfl))
      try simp only [Act.put, List.setIfInBounds_toArray, List.set_cons_zero, List.set_cons_succ]
      refine tk_ (i := 3) (oi := ⟨some 84, _, _, _, _, none⟩) (v := ?v76) rfl (by rfl) ?y76 (by with_reducible assumption) ?r76
      case y76 => (intro V_ hSw; (try dsimp only at hSw); go_simp; (try with_reducible rfl))
      try simp only [Act.put, List.setIfInBounds_toArray, List.set_cons_zero, List.set_cons_succ]
      refine tk_ (i := 5) (oi := ⟨some 86, _, _, _, _, none⟩) (v := ?v77) rfl (by rfl) ?y77 (by with_reducible assumption) ?r77
      case y77 => (intro V_ hSw; (try dsimp only at hSw); go_simp; (try with_reducible rfl))
      try simp only [Act.put, List.setIfInBounds_toArray, List.set_cons_zero, List.set_cons_succ]
      refine tk_ (i := 6) (oi := ⟨some 87, _, _, _, _, none⟩) (v := ?v78) rfl (by rfl) ?y78 (by with_reducible assumption) ?r78
      case y78 => (intro V_ hSw; (try dsimp only at hSw); go_simp; (try with_reducible rfl))
      try simp only [Act.put, List.setIfInBounds_toArray, List.set_cons_zero, List.set_cons_succ]
      refine tk_ (i := 7) (oi := ⟨some 88, _, _, _, _, none⟩) (v := ?v79) rfl (by rfl) ?y79 (by with_reducible assumption) ?r79
      case y79 => (intro V_ hSw; (try dsimp only at hSw); go_simp; (try with_reducible rfl))
      try simp only [Act.put, List.setIfInBounds_toArray, List.set_cons_zero, List.set_cons_succ]
      refine tk_ (i := 8) (oi := ⟨some 89, _, _, _, _, none⟩) (v := ?v80) rfl (by rfl) ?y80 (by with_reducible assumption) ?r80
      case y80 => (intro V_ hSw; (try dsimp only at hSw); go_simp; (try with_reducible rfl))
      try simp only [Act.put, List.setIfInBounds_toArray, List.set_cons_zero, List.set_cons_succ]
      refine wpAnyH_ready (rs := [4, 9]) (by kernel_rfl) (by simp) ?_
      refine AllReadyH.cons (o := ⟨some 85, _, _, _, _, none⟩) rfl (fun K hK => ?_) ?_
      · have g3 : wd.cell? ⟨g, 2, none⟩ = some (.slice A t.l.length c) := (blk_cell HT.out.box 2).trans rfl
        go_simp
        clear g3
        refine hK.out _ _ hHeld (fun hHeld => ?_)
        clear hK K
        try simp only [Act.put, List.setIfInBounds_toArray, List.set_cons_zero, List.set_cons_succ]
        refine wpAnyH_ready (rs := [9]) (by kernel_rfl) (by simp) (AllReadyH.cons (o := ⟨some 90, _, _, _, _, none⟩) rfl (fun K hK => ?_) AllReadyH.nil)
        refine Kd.R_lit_step k63 (w0 := wd) wd.heap.size 67 ?hg (N := 90) ?hd (xs := ([({ s := s, at_ := a, o := o } : Rd S24)] : List (Rd S24))) (inner := [.string s.f0, .string s.f1, .int .i64 a.1, .int .i64 a.2, .int .i64 o]) (ok := fun _ => True) (okp := fun _ => True) ?hr ?hp (fun _ hk => hk) trivial (Below.refl _ _) (Nat.le_refl _) (by simp) ?_
        case hg => rfl
        case hd => rfl
        case hr => first | (go_simp; done) | (go_simp; rfl)
        case hp => exact Reps.c5 (k63_mkM _ _ _ ({ s := s, at_ := a, o := o } : Rd S24)) (Reps.none _ _)
        intro vy wl hoy hb hgy hny
        obtain ⟨Ay, cy, ey⟩ := Kd.R_slice hoy
        subst ey
        have HCY := Aside0.mk (Kd.R_reads' hoy).2.2
        clear hoy hgy hny
        have HX_ := Aside0.mk (td_kept HX.out hb)
        clear HX
        have HX := Aside0.mk HX_.out
        clear HX_
        have HA_ := Aside0.mk (td_kept HA.out hb)
        clear HA
        have HA := Aside0.mk HA_.out
        clear HA_
        have HT_ := Aside0.mk (HT.out.step hb)
        clear HT
        have HT := Aside0.mk HT_.out
        clear HT_
        have HN_ := Aside0.mk (HN.out.trans (Tn.of_below hb))
        clear HN
        have HN := Aside0.mk HN_.out
        clear HN_
        clear hb
        refine hK.out _ _ ⟨(blk_cell HX.out 0).trans rfl, (blk_cell HX.out 1).trans rfl, (blk_cell HA.out 0).trans rfl, (blk_cell HA.out 1).trans rfl⟩ (fun hHeld => ?_)
        clear hK K
        try simp only [Act.put, List.setIfInBounds_toArray, List.set_cons_zero, List.set_cons_succ]
        refine wpAnyH_ready (rs := [10]) (by kernel_rfl) (by simp) (AllReadyH.cons (o := ⟨some 91, _, _, _, _, none⟩) rfl (fun K hK => ?_) AllReadyH.nil)
        refine Kd.R_append_rows_step k63 (Rr := k63.K wl) (w0 := W0) W0.heap.size rfl (.tmp 85) (.tmp 90) 48 67 _ 56 rfl Try.underlying48 info67 rfl (show 0 < 5 by omega) (by omega) (.slice A t.l.length c) t.l [({ s := s, at_ := a, o := o } : Rd S24)] Ay 1 cy (fun _ => True) (fun _ => False) rfl rfl ?aO ?aR (fun x cs h => by rw [k63_open h]; exact k63_mkM _ _ _ x) (fun _ h => h.elim) (fun _ _ => trivial) ?aB ?aS ?aL ?_
        case aO => exact HT.out.row
        case aR => exact HCY.out
        case aB => exact HT.out.below
        case aS => exact HT.out.below.size
        case aL => have := HLEN.out; omega
        intro v8 w8 ho8 hb8 hg8 hat8
        obtain ⟨A8, c8, e8⟩ := Kd.R_slice ho8
        subst e8
        have hn8 := Tn.of_grownR67 (g := none) hg8 HT.out.row
        have HX_ := Aside0.mk (hn8.blk HX.out (by simp) (by decide))
        have HA_ := Aside0.mk (hn8.blk HA.out (by simp) (by decide))
        have HG8 := Aside0.mk (hn8.blk HT.out.box (by simp) (by decide))
        have HN8 := Aside0.mk (HN.out.trans hn8.any)
        have HB8 := Aside0.mk hb8
        have HOWN := Aside0.mk HT.out.own
        rw [HL.out] at ho8
        rw [HL.out]
        have HR8 := Aside0.mk ho8
        clear ho8 hb8 hg8 hat8 hn8 HX HA HT HN HCY
        refine hK.out _ _ ⟨(blk_cell HX_.out 0).trans rfl, (blk_cell HX_.out 1).trans rfl, (blk_cell HA_.out 0).trans rfl, (blk_cell HA_.out 1).trans rfl⟩ (fun hHeld => ?_)
        clear hK K
        try simp only [Act.put, List.setIfInBounds_toArray, List.set_cons_zero, List.set_cons_succ]
        refine tk_ (i := 11) (oi := ⟨some 92, _, _, _, _, none⟩) (v := ?v81) rfl (by rfl) ?y81 (by with_reducible assumption) ?r81
        case y81 => (intro V_ hSw; (try dsimp only at hSw); go_simp; (try with_reducible rfl))
        try simp only [Act.put, List.setIfInBounds_toArray, List.set_cons_zero, List.set_cons_succ]
        refine tk_ (i := 12) (oi := ⟨some 93, _, _, _, _, none⟩) (v := ?v82) rfl (by rfl) ?y82 (by with_reducible assumption) ?r82
        case y82 => (intro V_ hSw; (try dsimp only at hSw); go_simp; (try with_reducible rfl))
        try simp only [Act.put, List.setIfInBounds_toArray, List.set_cons_zero, List.set_cons_succ]
        refine wpAnyH_ready (rs := [13]) (by kernel_rfl) (by simp) (AllReadyH.cons (o := ⟨none, _, _, _, _, none⟩) rfl (fun K hK => ?_) AllReadyH.nil)
        have g3 : w8.cell? ⟨g, 2, none⟩ = some (.slice A t.l.length c) := (blk_cell HG8.out 2).trans rfl
        have f3 := blk_frozen HG8.out 2
        go_simp
        clear g3 f3
        have HT := Aside0.mk (rt_setl HB8.out HOWN.out HG8.out HR8.out)
        have HN := Aside0.mk (HN8.out.trans (Tn.set (i := 2) HOWN.out (.slice A8 L.length c8)))
        have HX := Aside0.mk (blk_far HX_.out (p := ⟨g, 2, none⟩) HNG.out.1 (.slice A8 L.length c8))
        have HA := Aside0.mk (blk_far HA_.out (p := ⟨g, 2, none⟩) HNG.out.2 (.slice A8 L.length c8))
        clear HG8 HN8 HB8 HR8 HX_ HA_
        refine hK.out _ _ ⟨(blk_cell HX.out 0).trans rfl, (blk_cell HX.out 1).trans rfl, (blk_cell HA.out 0).trans rfl, (blk_cell HA.out 1).trans rfl⟩ (fun hHeld => ?_)
        clear hK K
        try simp only [Act.put, List.setIfInBounds_toArray, List.set_cons_zero, List.set_cons_succ]
        refine wpAnyH_done (by kernel_rfl) ?_ _
        refine NoPanic.normal ?_
        clear hHeld HX HA
        generalize hw9 : World.setCell _ _ _ = w9 at HT HN ⊢
        clear hw9
        have g3 : w9.cell? ⟨g, 2, none⟩ = some (.slice A8 L.length c8) := (blk_cell HT.out.box 2).trans rfl
        go_wp2_with fail
        go_ret
        exact ⟨rfl, ⟨_, _, HT.out⟩, HN.out⟩
      refine AllReadyH.cons (o := ⟨some 90, _, _, _, _, none⟩) rfl (fun K hK => ?_) ?_
      · refine Kd.R_lit_step k63 (w0 := wd) wd.heap.size 67 ?hg (N := 90) ?hd (xs := ([({ s := s, at_ := a, o := o } : Rd S24)] : List (Rd S24))) (inner := [.string s.f0, .string s.f1, .int .i64 a.1, .int .i64 a.2, .int .i64 o]) (ok := fun _ => True) (okp := fun _ => True) ?hr ?hp (fun _ hk => hk) trivial (Below.refl _ _) (Nat.le_refl _) (by simp) ?_
        case hg => rfl
        case hd => rfl
        case hr => first | (go_simp; done) | (go_simp; rfl)
        case hp => exact Reps.c5 (k63_mkM _ _ _ ({ s := s, at_ := a, o := o } : Rd S24)) (Reps.none _ _)
        intro vy wl hoy hb hgy hny
        obtain ⟨Ay, cy, ey⟩ := Kd.R_slice hoy
        subst ey
        have HCY := Aside0.mk (Kd.R_reads' hoy).2.2
        clear hoy hgy hny
        have HX_ := Aside0.mk (td_kept HX.out hb)
        clear HX
        have HX := Aside0.mk HX_.out
        clear HX_
        have HA_ := Aside0.mk (td_kept HA.out hb)
        clear HA
        have HA := Aside0.mk HA_.out
        clear HA_
        have HT_ := Aside0.mk (HT.out.step hb)
        clear HT
        have HT := Aside0.mk HT_.out
        clear HT_
        have HN_ := Aside0.mk (HN.out.trans (Tn.of_below hb))
        clear HN
        have HN := Aside0.mk HN_.out
        clear HN_
        clear hb
        refine hK.out _ _ ⟨(blk_cell HX.out 0).trans rfl, (blk_cell HX.out 1).trans rfl, (blk_cell HA.out 0).trans rfl, (blk_cell HA.out 1).trans rfl⟩ (fun hHeld => ?_)
        clear hK K
        try simp only [Act.put, List.setIfInBounds_toArray, List.set_cons_zero, List.set_cons_succ]
        refine wpAnyH_ready (rs := [4]) (by kernel_rfl) (by simp) (AllReadyH.cons (o := ⟨some 85, _, _, _, _, none⟩) rfl (fun K hK => ?_) AllReadyH.nil)
        have g3 : wl.cell? ⟨g, 2, none⟩ = some (.slice A t.l.length c) := (blk_cell HT.out.box 2).trans rfl
        go_simp
        clear g3
        refine hK.out _ _ hHeld (fun hHeld => ?_)
        clear hK K
        try simp only [Act.put, List.setIfInBounds_toArray, List.set_cons_zero, List.set_cons_succ]
        refine wpAnyH_ready (rs := [10]) (by kernel_rfl) (by simp) (AllReadyH.cons (o := ⟨some 91, _, _, _, _, none⟩) rfl (fun K hK => ?_) AllReadyH.nil)
        refine Kd.R_append_rows_step k63 (Rr := k63.K wl) (w0 := W0) W0.heap.size rfl (.tmp 85) (.tmp 90) 48 67 _ 56 rfl Try.underlying48 info67 rfl (show 0 < 5 by omega) (by omega) (.slice A t.l.length c) t.l [({ s := s, at_ := a, o := o } : Rd S24)] Ay 1 cy (fun _ => True) (fun _ => False) rfl rfl ?aO ?aR (fun x cs h => by rw [k63_open h]; exact k63_mkM _ _ _ x) (fun _ h => h.elim) (fun _ _ => trivial) ?aB ?aS ?aL ?_
        case aO => exact HT.out.row
        case aR => exact HCY.out
        case aB => exact HT.out.below
        case aS => exact HT.out.below.size
        case aL => have := HLEN.out; omega
        intro v8 w8 ho8 hb8 hg8 hat8
        obtain ⟨A8, c8, e8⟩ := Kd.R_slice ho8
        subst e8
        have hn8 := Tn.of_grownR67 (g := none) hg8 HT.out.row
        have HX_ := Aside0.mk (hn8.blk HX.out (by simp) (by decide))
        have HA_ := Aside0.mk (hn8.blk HA.out (by simp) (by decide))
        have HG8 := Aside0.mk (hn8.blk HT.out.box (by simp) (by decide))
        have HN8 := Aside0.mk (HN.out.trans hn8.any)
        have HB8 := Aside0.mk hb8
        have HOWN := Aside0.mk HT.out.own
        rw [HL.out] at ho8
        rw [HL.out]
        have HR8 := Aside0.mk ho8
        clear ho8 hb8 hg8 hat8 hn8 HX HA HT HN HCY
        refine hK.out _ _ ⟨(blk_cell HX_.out 0).trans rfl, (blk_cell HX_.out 1).trans rfl, (blk_cell HA_.out 0).trans rfl, (blk_cell HA_.out 1).trans rfl⟩ (fun hHeld => ?_)
        clear hK K
        try simp only [Act.put, List.setIfInBounds_toArray, List.set_cons_zero, List.set_cons_succ]
        refine tk_ (i := 11) (oi := ⟨some 92, _, _, _, _, none⟩) (v := ?v83) rfl (by rfl) ?y83 (by with_reducible assumption) ?r83
        case y83 => (intro V_ hSw; (try dsimp only at hSw); go_simp; (try with_reducible rfl))
        try simp only [Act.put, List.setIfInBounds_toArray, List.set_cons_zero, List.set_cons_succ]
        refine tk_ (i := 12) (oi := ⟨some 93, _, _, _, _, none⟩) (v := ?v84) rfl (by rfl) ?y84 (by with_reducible assumption) ?r84
        case y84 => (intro V_ hSw; (try dsimp only at hSw); go_simp; (try with_reducible rfl))
        try simp only [Act.put, List.setIfInBounds_toArray, List.set_cons_zero, List.set_cons_succ]
        refine wpAnyH_ready (rs := [13]) (by kernel_rfl) (by simp) (AllReadyH.cons (o := ⟨none, _, _, _, _, none⟩) rfl (fun K hK => ?_) AllReadyH.nil)
        have g3 : w8.cell? ⟨g, 2, none⟩ = some (.slice A t.l.length c) := (blk_cell HG8.out 2).trans rfl
        have f3 := blk_frozen HG8.out 2
        go_simp
        clear g3 f3
        have HT := Aside0.mk (rt_setl HB8.out HOWN.out HG8.out HR8.out)
        have HN := Aside0.mk (HN8.out.trans (Tn.set (i := 2) HOWN.out (.slice A8 L.length c8)))
        have HX := Aside0.mk (blk_far HX_.out (p := ⟨g, 2, none⟩) HNG.out.1 (.slice A8 L.length c8))
        have HA := Aside0.mk (blk_far HA_.out (p := ⟨g, 2, none⟩) HNG.out.2 (.slice A8 L.length c8))
        clear HG8 HN8 HB8 HR8 HX_ HA_
        refine hK.out _ _ ⟨(blk_cell HX.out 0).trans rfl, (blk_cell HX.out 1).trans rfl, (blk_cell HA.out 0).trans rfl, (blk_cell HA.out 1).trans rfl⟩ (fun hHeld => ?_)
        clear hK K
        try simp only [Act.put, List.setIfInBounds_toArray, List.set_cons_zero, List.set_cons_succ]
        refine wpAnyH_done (by kernel_rfl) ?_ _
        refine NoPanic.normal ?_
        clear hHeld HX HA
        generalize hw9 : World.setCell _ _ _ = w9 at HT HN ⊢
        clear hw9
        have g3 : w9.cell? ⟨g, 2, none⟩ = some (.slice A8 L.length c8) := (blk_cell HT.out.box 2).trans rfl
        go_wp2_with fail
        go_ret
        exact ⟨rfl, ⟨_, _, HT.out⟩, HN.out⟩
      exact AllReadyH.nil
set_option maxHeartbeats 16000000 in
set_option maxRecDepth 100000 in
theorem rt_add_big (W0 W : World) (g : Nat) (t : Td S24) (A : Option Addr) (c : Nat) (s : S24) (a : Int × Int) (o : Int) (h : RtA W0 W g t A c) (hs : spErr s = 0) (hk : sok a = true) (ho : own o = true) (hl : tlt t.low a) (hm : ∀ j, j < t.l.length → same s o (t.l.getD j z63) = false) (hlen : t.l.length ≤ 64) (h64 : ¬ (t.l ++ [({ s := s, at_ := a, o := o } : Rd S24)]).length ≤ 64) : Calls Try.prog 21 #[.pointer (some ⟨g, 0, none⟩), .agg #[.string s.f0, .string s.f1], .agg #[.int .i64 a.1, .int .i64 a.2], .int .i64 o] W (RtPost W0 W g (Td.forget { low := Td.least ((t.l ++ [({ s := s, at_ := a, o := o } : Rd S24)]).getD 0 z63).at_ (t.l ++ [({ s := s, at_ := a, o := o } : Rd S24)]), l := t.l ++ [({ s := s, at_ := a, o := o } : Rd S24)] }) (.returned (.int .i64 0))) := by
  have HT0 := Aside0.mk h
  have HS := Aside0.mk hs
  have HK := Aside0.mk hk
  have HW := Aside0.mk ho
  have HLW := Aside0.mk (decide_eq_true hl)
  have HROW0 := Aside0.mk h.row
  have HLM := Aside0.mk (Kd.C_max (Kd.R_reads' h.row).2.2)
  have HSMA := Aside0.mk hm
  have HLEN := Aside0.mk hlen
  obtain ⟨L, hL⟩ : ∃ L, t.l ++ [({ s := s, at_ := a, o := o } : Rd S24)] = L := ⟨_, rfl⟩
  have HL := Aside0.mk hL
  have HLL := Aside0.mk (show L.length = t.l.length + 1 from by rw [← hL]; simp)
  rw [hL] at h64
  rw [hL]
  have d6 : decide ((64 : Int) < (L.length : Int)) = true := decide_eq_true (by omega)
  have d6n : decide (64 < L.length) = true := decide_eq_true (by omega)
  have HPOS := Aside0.mk (show 0 < L.length from by omega)
  obtain ⟨M, hM⟩ : ∃ M, Td.least (L.getD 0 z63).at_ L = M := ⟨_, rfl⟩
  have HMX := Aside0.mk hM
  rw [hM]
  clear h hs hk ho hl hm hL h64 hlen hM
  go_enter Try.func21, Try.ntmps21
  go_upto_region 1 with fail
  generalize hw1 : World.alloc (World.alloc W _) _ = w1
  have hb : Below W.heap.size W w1 := by rw [← hw1]; exact below_alloc (td_alloc W _) _
  have e1_ : (W.alloc (.cells #[.string s.f0, .string s.f1] 24)).heap.size = W.heap.size + 1 := Array.size_push _
  have HX := Aside0.mk (show w1.heap[W.heap.size]? = some (.cells #[.string s.f0, .string s.f1] 24 (0, 0)) from by rw [← hw1]; exact td_kept (blk_new W _) (td_alloc _ _))
  have HA := Aside0.mk (show w1.heap[W.heap.size + 1]? = some (.cells #[.int .i64 a.1, .int .i64 a.2] 31 (0, 0)) from by
    have q := blk_new (W.alloc (.cells #[.string s.f0, .string s.f1] 24)) (.cells #[.int .i64 a.1, .int .i64 a.2] 31)
    rw [e1_, hw1] at q
    exact q)
  have HNG := Aside0.mk (And.intro (Nat.ne_of_gt HT0.out.lt) (show W.heap.size + 1 ≠ g from by have := HT0.out.lt; omega))
  have HT := Aside0.mk (HT0.out.step hb)
  have HN := Aside0.mk (Tn.of_below (B := W0.heap.size) (g := some g) (ty := 67) hb)
  have HB := Aside0.mk hb
  clear hw1 hb e1_
  generalize W.heap.size = n at HX HA HNG ⊢
  have x0 : w1.cell? ⟨n, 0, none⟩ = some (.string s.f0) := (blk_cell HX.out 0).trans rfl
  have x1 : w1.cell? ⟨n, 1, none⟩ = some (.string s.f1) := (blk_cell HX.out 1).trans rfl
  go_wp2_with fail
  refine (rl_sp s _).mono ?_
  rintro e w3 ⟨rfl, hb⟩
  clear x0 x1
  have HX_ := Aside0.mk (td_kept HX.out hb)
  clear HX
  have HX := Aside0.mk HX_.out
  clear HX_
  have HA_ := Aside0.mk (td_kept HA.out hb)
  clear HA
  have HA := Aside0.mk HA_.out
  clear HA_
  have HT_ := Aside0.mk (HT.out.step hb)
  clear HT
  have HT := Aside0.mk HT_.out
  clear HT_
  have HN_ := Aside0.mk (HN.out.trans (Tn.of_below hb))
  clear HN
  have HN := Aside0.mk HN_.out
  clear HN_
  have HB_ := Aside0.mk (below_step HB.out hb)
  clear HB
  have HB := Aside0.mk HB_.out
  clear HB_
  clear hb
  rw [HS.out]
  have a0 : w3.cell? ⟨n + 1, 0, none⟩ = some (.int .i64 a.1) := (blk_cell HA.out 0).trans rfl
  have a1 : w3.cell? ⟨n + 1, 1, none⟩ = some (.int .i64 a.2) := (blk_cell HA.out 1).trans rfl
  go_wp2_with fail
  refine (rl_chk a _).mono ?_
  rintro e w4 ⟨rfl, hb⟩
  clear a0 a1
  have HX_ := Aside0.mk (td_kept HX.out hb)
  clear HX
  have HX := Aside0.mk HX_.out
  clear HX_
  have HA_ := Aside0.mk (td_kept HA.out hb)
  clear HA
  have HA := Aside0.mk HA_.out
  clear HA_
  have HT_ := Aside0.mk (HT.out.step hb)
  clear HT
  have HT := Aside0.mk HT_.out
  clear HT_
  have HN_ := Aside0.mk (HN.out.trans (Tn.of_below hb))
  clear HN
  have HN := Aside0.mk HN_.out
  clear HN_
  have HB_ := Aside0.mk (below_step HB.out hb)
  clear HB
  have HB := Aside0.mk HB_.out
  clear HB_
  clear hb
  rw [HK.out]
  go_wp2_with fail
  refine (rl_own o _).mono ?_
  rintro e w5 ⟨rfl, hb⟩
  have HX_ := Aside0.mk (td_kept HX.out hb)
  clear HX
  have HX := Aside0.mk HX_.out
  clear HX_
  have HA_ := Aside0.mk (td_kept HA.out hb)
  clear HA
  have HA := Aside0.mk HA_.out
  clear HA_
  have HT_ := Aside0.mk (HT.out.step hb)
  clear HT
  have HT := Aside0.mk HT_.out
  clear HT_
  have HN_ := Aside0.mk (HN.out.trans (Tn.of_below hb))
  clear HN
  have HN := Aside0.mk HN_.out
  clear HN_
  have HB_ := Aside0.mk (below_step HB.out hb)
  clear HB
  have HB := Aside0.mk HB_.out
  clear HB_
  clear hb
  rw [HW.out]
  go_upto_region 6 with fail
  refine wp_region_noPanic ?_
  refine wp_region_held_drew (S := (fun V => V.cell? ⟨n + 1, 0, none⟩ = some (.int .i64 a.1) ∧ V.cell? ⟨n + 1, 1, none⟩ = some (.int .i64 a.2) ∧ V.cell? ⟨g, 0, none⟩ = some (.int .i64 t.low.1) ∧ V.cell? ⟨g, 1, none⟩ = some (.int .i64 t.low.2))) (by kernel_rfl) ⟨(blk_cell (td_kept HA.out (below_drew1 (Below.refl _ _))) 0).trans rfl, (blk_cell (td_kept HA.out (below_drew1 (Below.refl _ _))) 1).trans rfl, (blk_cell (td_kept HT.out.box (below_drew1 (Below.refl _ _))) 0).trans rfl, (blk_cell (td_kept HT.out.box (below_drew1 (Below.refl _ _))) 1).trans rfl⟩ (fun hHeld => ?_)
  generalize hwd : World.drew _ = wd at hHeld ⊢
  have hb : Below w5.heap.size w5 wd := by rw [← hwd]; exact below_drew1 (Below.refl _ _)
  clear hwd
  have HX_ := Aside0.mk (td_kept HX.out hb)
  clear HX
  have HX := Aside0.mk HX_.out
  clear HX_
  have HA_ := Aside0.mk (td_kept HA.out hb)
  clear HA
  have HA := Aside0.mk HA_.out
  clear HA_
  have HT_ := Aside0.mk (HT.out.step hb)
  clear HT
  have HT := Aside0.mk HT_.out
  clear HT_
  have HN_ := Aside0.mk (HN.out.trans (Tn.of_below hb))
  clear HN
  have HN := Aside0.mk HN_.out
  clear HN_
  have HB_ := Aside0.mk (below_step HB.out hb)
  clear HB
  have HB := Aside0.mk HB_.out
  clear HB_
  clear hb
  refine tk_ (i := 0) (oi := ⟨some 26, _, _, _, _, none⟩) (v := ?v85) rfl (by rfl) ?y85 (by with_reducible assumption) ?r85
  case y85 => (intro V_ hSw; (try dsimp only at hSw); go_simp; (try with_reducible rfl))
  try simp only [Act.put, List.setIfInBounds_toArray, List.set_cons_zero, List.set_cons_succ]
  refine tk_ (i := 1) (oi := ⟨some 27, _, _, _, _, none⟩) (v := ?v86) rfl (by rfl) ?y86 (by with_reducible assumption) ?r86
  case y86 => (intro V_ hSw; (try dsimp only at hSw); go_simp; (try with_reducible rfl))
  try simp only [Act.put, List.setIfInBounds_toArray, List.set_cons_zero, List.set_cons_succ]
  refine tk_ (i := 2) (oi := ⟨some 28, _, _, _, _, none⟩) (v := ?v87) rfl (by rfl) ?y87 (by with_reducible assumption) ?r87
  case y87 => (intro V_ hSw; (try dsimp only at hSw); go_simp; (try with_reducible rfl))
  try simp only [Act.put, List.setIfInBounds_toArray, List.set_cons_zero, List.set_cons_succ]
  refine tk_ (i := 3) (oi := ⟨some 29, _, _, _, _, none⟩) (v := ?v88) rfl (by rfl) ?y88 (by with_reducible assumption) ?r88
  case y88 => (intro V_ hSw; (try dsimp only at hSw); go_simp; (try with_reducible rfl))
  try simp only [Act.put, List.setIfInBounds_toArray, List.set_cons_zero, List.set_cons_succ]
  refine tk_ (i := 4) (oi := ⟨some 30, _, _, _, _, none⟩) (v := ?v89) rfl (by rfl) ?y89 (by with_reducible assumption) ?r89
  case y89 => (intro V_ hSw; (try dsimp only at hSw); go_simp; (try with_reducible rfl))
  try simp only [Act.put, List.setIfInBounds_toArray, List.set_cons_zero, List.set_cons_succ]
  refine wpAnyH_ready (rs := [5]) (by kernel_rfl) (by simp) (AllReadyH.cons (o := ⟨some 31, _, _, _, _, none⟩) rfl (fun K hK => ?_) AllReadyH.nil)
  go_simp
  refine (rl_less t.low a _).mono ?_
  rintro e w6 ⟨rfl, hb⟩
  have HX_ := Aside0.mk (td_kept HX.out hb)
  clear HX
  have HX := Aside0.mk HX_.out
  clear HX_
  have HA_ := Aside0.mk (td_kept HA.out hb)
  clear HA
  have HA := Aside0.mk HA_.out
  clear HA_
  have HT_ := Aside0.mk (HT.out.step hb)
  clear HT
  have HT := Aside0.mk HT_.out
  clear HT_
  have HN_ := Aside0.mk (HN.out.trans (Tn.of_below hb))
  clear HN
  have HN := Aside0.mk HN_.out
  clear HN_
  have HB_ := Aside0.mk (below_step HB.out hb)
  clear HB
  have HB := Aside0.mk HB_.out
  clear HB_
  clear hb
  rw [HLW.out]
  refine hK.out _ _ ⟨(blk_cell (td_kept HA.out (Below.refl _ _)) 0).trans rfl, (blk_cell (td_kept HA.out (Below.refl _ _)) 1).trans rfl, (blk_cell (td_kept HT.out.box (Below.refl _ _)) 0).trans rfl, (blk_cell (td_kept HT.out.box (Below.refl _ _)) 1).trans rfl⟩ (fun hHeld => ?_)
  clear hK K
  try simp only [Act.put, List.setIfInBounds_toArray, List.set_cons_zero, List.set_cons_succ]
  refine tk_ (i := 6) (oi := ⟨some 32, _, _, _, _, none⟩) (v := ?v90) rfl (by rfl) ?y90 (by with_reducible assumption) ?r90
  case y90 => (intro V_ hSw; (try dsimp only at hSw); go_simp; (try with_reducible rfl))
  try simp only [Act.put, List.setIfInBounds_toArray, List.set_cons_zero, List.set_cons_succ]
  refine wpAnyH_done (by kernel_rfl) ?_ _
  refine NoPanic.normal ?_
  clear hHeld
  go_wp2_with fail
  go_loopg [10] (t.l.length + 1) (fun gg v wr => ∃ (i : Nat), v = .int .i64 (i : Int) ∧ Aside0 (i + gg = t.l.length + 1) ∧ Aside0 (i ≤ t.l.length) ∧ Aside0 (RtA W0 wr g t A c) ∧ Aside0 (Tn W0.heap.size (some g) 67 W wr) ∧ Aside0 (Below W.heap.size W wr) ∧ Aside0 (wr.heap[n]? = some (.cells #[.string s.f0, .string s.f1] 24 (0, 0))) ∧ Aside0 (wr.heap[n + 1]? = some (.cells #[.int .i64 a.1, .int .i64 a.2] 31 (0, 0))))
  case atStart => exact ⟨0, rfl, ⟨by omega⟩, ⟨Nat.zero_le _⟩, HT, HN, HB, HX, HA⟩
  case round =>
    clear HT HN HB HX HA
    obtain ⟨i, rfl, HI, HIL, HT, HN, HB, HX, HA⟩ := hrel
    by_cases hlt : i < t.l.length
    case pos =>
      have d1 : decide ((i : Int) < (t.l.length : Int)) = true := decide_eq_true (by omega)
      have d1n : decide (i < t.l.length) = true := decide_eq_true hlt
      obtain ⟨r, c', er, hbr, hltr, cellsr, hcellr⟩ := Kd.R_form HROW0.out (by omega)
      injection er with er _ ec
      subst er; subst ec
      clear hbr hltr hcellr
      obtain ⟨ad, ea, y, hy, hld⟩ := ld_T63 (Kd.R_reads' HROW0.out).2.2 i hlt
      cases ea
      rw [add_plain] at hld
      have HLC := Aside0.mk (fun (V : World) (hV : Below W.heap.size W V) => (show V.cell? ⟨r, i * 5, none⟩ = some (.string y.s.f0) ∧ V.cell? ⟨r, i * 5 + 1, none⟩ = some (.string y.s.f1) ∧ V.cell? ⟨r, i * 5 + 2, none⟩ = some (.int .i64 y.at_.1) ∧ V.cell? ⟨r, i * 5 + 3, none⟩ = some (.int .i64 y.at_.2) ∧ V.cell? ⟨r, i * 5 + 4, none⟩ = some (.int .i64 y.o) from ⟨by have q := (hV.cell (World.block_lt_of_cell? W _ (hld 0 _ rfl))).trans (hld 0 _ rfl); exact q, by have q := (hV.cell (World.block_lt_of_cell? W _ (hld 1 _ rfl))).trans (hld 1 _ rfl); rw [add_field _ _ 1 (by omega)] at q; exact q, by have q := (hV.cell (World.block_lt_of_cell? W _ (hld 2 _ rfl))).trans (hld 2 _ rfl); rw [add_field _ _ 2 (by omega)] at q; exact q, by have q := (hV.cell (World.block_lt_of_cell? W _ (hld 3 _ rfl))).trans (hld 3 _ rfl); rw [add_field _ _ 3 (by omega)] at q; exact q, by have q := (hV.cell (World.block_lt_of_cell? W _ (hld 4 _ rfl))).trans (hld 4 _ rfl); rw [add_field _ _ 4 (by omega)] at q; exact q⟩))
      have HY := Aside0.mk hy
      have HLT := Aside0.mk hlt
      have p0 := eq_true (show (0 : Int) ≤ (i : Int) by omega)
      have q0 := eq_true (show (i : Int) < (t.l.length : Int) by omega)
      have q0n := eq_true hlt
      have g2 : wr.cell? ⟨g, 2, none⟩ = some (.slice (some ⟨r, 0, none⟩) t.l.length c) := (blk_cell HT.out.box 2).trans rfl
      have hwi : Go.RowKit.wrap64 ((i : Int) + 1) = ((i + 1 : Nat) : Int) := by
        have := HLM.out
        unfold Go.RowKit.wrap64
        omega
      have HWI := Aside0.mk hwi
      have HWI2 := Aside0.mk ((i64_w ((i : Int) + 1)).trans hwi)
      clear hwi
      have HSM := Aside0.mk (show same s o y = false from by have q := HSMA.out i HLT.out; rw [HY.out] at q; exact q)
      clear hy hld hlt
      by_cases h0 : y.s.f0.toList = s.f0.toList
      case neg =>
        have e0 := eq_false h0
        clear h0
        go_upto_region 11 with fail
        clear g2
        refine wp_region_noPanic ?_
        refine wp_region_held_drew (S := (fun V => (V.cell? ⟨r, i * 5, none⟩ = some (.string y.s.f0) ∧ V.cell? ⟨r, i * 5 + 1, none⟩ = some (.string y.s.f1) ∧ V.cell? ⟨r, i * 5 + 2, none⟩ = some (.int .i64 y.at_.1) ∧ V.cell? ⟨r, i * 5 + 3, none⟩ = some (.int .i64 y.at_.2) ∧ V.cell? ⟨r, i * 5 + 4, none⟩ = some (.int .i64 y.o)) ∧ V.cell? ⟨g, 2, none⟩ = some (.slice (some ⟨r, 0, none⟩) t.l.length c) ∧ V.cell? ⟨n, 0, none⟩ = some (.string s.f0) ∧ V.cell? ⟨n, 1, none⟩ = some (.string s.f1))) (by kernel_rfl) ⟨HLC.out _ (below_step HB.out (below_drew1 (Below.refl _ _))), (blk_cell (td_kept HT.out.box (below_drew1 (Below.refl _ _))) 2).trans rfl, (blk_cell (td_kept HX.out (below_drew1 (Below.refl _ _))) 0).trans rfl, (blk_cell (td_kept HX.out (below_drew1 (Below.refl _ _))) 1).trans rfl⟩ (fun hHeld => ?_)
        generalize hwd : World.drew _ = wd at hHeld ⊢
        have hb : Below wr.heap.size wr wd := by rw [← hwd]; exact below_drew1 (Below.refl _ _)
        clear hwd
        have HX_ := Aside0.mk (td_kept HX.out hb)
        clear HX
        have HX := Aside0.mk HX_.out
        clear HX_
        have HA_ := Aside0.mk (td_kept HA.out hb)
        clear HA
        have HA := Aside0.mk HA_.out
        clear HA_
        have HT_ := Aside0.mk (HT.out.step hb)
        clear HT
        have HT := Aside0.mk HT_.out
        clear HT_
        have HN_ := Aside0.mk (HN.out.trans (Tn.of_below hb))
        clear HN
        have HN := Aside0.mk HN_.out
        clear HN_
        have HB_ := Aside0.mk (below_step HB.out hb)
        clear HB
        have HB := Aside0.mk HB_.out
        clear HB_
        clear hb
        refine tk_ (i := 0) (oi := ⟨some 42, _, _, _, _, none⟩) (v := ?v91) rfl (by rfl) ?y91 (by with_reducible assumption) ?r91
        case y91 => (intro V_ hSw; (try dsimp only at hSw); go_simp; (try with_reducible rfl))
        try simp only [Act.put, List.setIfInBounds_toArray, List.set_cons_zero, List.set_cons_succ]
        refine tk_ (i := 1) (oi := ⟨some 43, _, _, _, _, none⟩) (v := ?v92) rfl (by rfl) ?y92 (by with_reducible assumption) ?r92
        case y92 => (intro V_ hSw; (try dsimp only at hSw); go_simp; (try with_reducible rfl))
        try simp only [Act.put, List.setIfInBounds_toArray, List.set_cons_zero, List.set_cons_succ]
        refine tk_ (i := 2) (oi := ⟨some 44, _, _, _, _, none⟩) (v := ?v93) rfl (by rfl) ?y93 (by with_reducible assumption) ?r93
        case y93 => (intro V_ hSw; (try dsimp only at hSw); go_simp; (try with_reducible rfl))
        try simp only [Act.put, List.setIfInBounds_toArray, List.set_cons_zero, List.set_cons_succ]
        refine tk_ (i := 3) (oi := ⟨some 45, _, _, _, _, none⟩) (v := ?v94) rfl (by rfl) ?y94 (by with_reducible assumption) ?r94
        case y94 => (intro V_ hSw; (try dsimp only at hSw); go_simp; (try with_reducible rfl))
        try simp only [Act.put, List.setIfInBounds_toArray, List.set_cons_zero, List.set_cons_succ]
        refine tk_ (i := 4) (oi := ⟨some 46, _, _, _, _, none⟩) (v := ?v95) rfl (by rfl) ?y95 (by with_reducible assumption) ?r95
        case y95 => (intro V_ hSw; (try dsimp only at hSw); go_simp; (try with_reducible rfl))
        try simp only [Act.put, List.setIfInBounds_toArray, List.set_cons_zero, List.set_cons_succ]
        refine tk_ (i := 5) (oi := ⟨some 47, _, _, _, _, none⟩) (v := ?v96) rfl (by rfl) ?y96 (by with_reducible assumption) ?r96
        case y96 => (intro V_ hSw; (try dsimp only at hSw); go_simp; (try with_reducible rfl))
        try simp only [Act.put, List.setIfInBounds_toArray, List.set_cons_zero, List.set_cons_succ]
        refine tk_ (i := 6) (oi := ⟨some 48, _, _, _, _, none⟩) (v := ?v97) rfl (by rfl) ?y97 (by with_reducible assumption) ?r97
        case y97 => (intro V_ hSw; (try dsimp only at hSw); go_simp; (try with_reducible rfl))
        try simp only [Act.put, List.setIfInBounds_toArray, List.set_cons_zero, List.set_cons_succ]
        refine tk_ (i := 7) (oi := ⟨some 49, _, _, _, _, none⟩) (v := ?v98) rfl (by rfl) ?y98 (by with_reducible assumption) ?r98
        case y98 => (intro V_ hSw; (try dsimp only at hSw); go_simp; (try with_reducible rfl))
        try simp only [Act.put, List.setIfInBounds_toArray, List.set_cons_zero, List.set_cons_succ]
        refine tk_ (i := 8) (oi := ⟨some 50, _, _, _, _, none⟩) (v := ?v99) rfl (by rfl) ?y99 (by with_reducible assumption) ?r99
        case y99 => (intro V_ hSw; (try dsimp only at hSw); go_simp; (try with_reducible rfl))
        try simp only [Act.put, List.setIfInBounds_toArray, List.set_cons_zero, List.set_cons_succ]
        refine tk_ (i := 9) (oi := ⟨some 51, _, _, _, _, none⟩) (v := ?v100) rfl (by rfl) ?y100 (by with_reducible assumption) ?r100
        case y100 => (intro V_ hSw; (try dsimp only at hSw); go_simp; (try with_reducible rfl))
        try simp only [Act.put, List.setIfInBounds_toArray, List.set_cons_zero, List.set_cons_succ]
        refine tk_ (i := 10) (oi := ⟨some 52, _, _, _, _, none⟩) (v := ?v101) rfl (by rfl) ?y101 (by with_reducible assumption) ?r101
        case y101 => (intro V_ hSw; (try dsimp only at hSw); go_simp; (try with_reducible rfl))
        try simp only [Act.put, List.setIfInBounds_toArray, List.set_cons_zero, List.set_cons_succ]
        refine tk0_ (i := 11) (oi := ⟨some 53, _, _, _, _, some (10, true)⟩) rfl (by rfl) (by with_reducible assumption) ?_
        try simp only [Act.put, List.setIfInBounds_toArray, List.set_cons_zero, List.set_cons_succ]
        refine tk0_ (i := 12) (oi := ⟨some 54, _, _, _, _, some (10, true)⟩) rfl (by rfl) (by with_reducible assumption) ?_
        try simp only [Act.put, List.setIfInBounds_toArray, List.set_cons_zero, List.set_cons_succ]
        refine tk0_ (i := 13) (oi := ⟨some 55, _, _, _, _, some (10, true)⟩) rfl (by rfl) (by with_reducible assumption) ?_
        try simp only [Act.put, List.setIfInBounds_toArray, List.set_cons_zero, List.set_cons_succ]
        refine tk0_ (i := 14) (oi := ⟨some 56, _, _, _, _, some (10, true)⟩) rfl (by rfl) (by with_reducible assumption) ?_
        try simp only [Act.put, List.setIfInBounds_toArray, List.set_cons_zero, List.set_cons_succ]
        refine tk0_ (i := 15) (oi := ⟨some 57, _, _, _, _, some (10, true)⟩) rfl (by rfl) (by with_reducible assumption) ?_
        try simp only [Act.put, List.setIfInBounds_toArray, List.set_cons_zero, List.set_cons_succ]
        refine tk0_ (i := 16) (oi := ⟨some 58, _, _, _, _, some (10, true)⟩) rfl (by rfl) (by with_reducible assumption) ?_
        try simp only [Act.put, List.setIfInBounds_toArray, List.set_cons_zero, List.set_cons_succ]
        refine tk0_ (i := 17) (oi := ⟨some 59, _, _, _, _, some (10, true)⟩) rfl (by rfl) (by with_reducible assumption) ?_
        try simp only [Act.put, List.setIfInBounds_toArray, List.set_cons_zero, List.set_cons_succ]
        refine tk0_ (i := 18) (oi := ⟨some 60, _, _, _, _, some (10, true)⟩) rfl (by rfl) (by with_reducible assumption) ?_
        try simp only [Act.put, List.setIfInBounds_toArray, List.set_cons_zero, List.set_cons_succ]
        refine tk0_ (i := 19) (oi := ⟨some 61, _, _, _, _, some (10, true)⟩) rfl (by rfl) (by with_reducible assumption) ?_
        try simp only [Act.put, List.setIfInBounds_toArray, List.set_cons_zero, List.set_cons_succ]
        refine tk0_ (i := 20) (oi := ⟨some 62, _, _, _, _, some (10, true)⟩) rfl (by rfl) (by with_reducible assumption) ?_
        try simp only [Act.put, List.setIfInBounds_toArray, List.set_cons_zero, List.set_cons_succ]
        refine tk_ (i := 21) (oi := ⟨some 63, _, _, _, _, none⟩) (v := ?v112) rfl (by rfl) ?y112 (by with_reducible assumption) ?r112
        case y112 => (intro V_ hSw; (try dsimp only at hSw); go_simp; (try with_reducible rfl))
        try simp only [Act.put, List.setIfInBounds_toArray, List.set_cons_zero, List.set_cons_succ]
        refine wpAnyH_done (by kernel_rfl) ?_ _
        refine NoPanic.normal ?_
        clear hHeld
        go_wp2_with fail
        go_roundg (t.l.length - i)
        case measure => have h1 := HI.out; have h2 := HLT.out; omega
        case rel => exact ⟨i + 1, congrArg (Value.int .i64) (by first | exact HWI.out | exact HWI2.out | rfl | omega), ⟨by have h1 := HI.out; have h2 := HLT.out; omega⟩, ⟨HLT.out⟩, HT, HN, HB, HX, HA⟩
      case pos =>
        by_cases h1 : y.s.f1.toList = s.f1.toList
        case neg =>
          have e0 := eq_true h0
          have e1 := eq_false h1
          clear h0 h1
          go_upto_region 11 with fail
          clear g2
          refine wp_region_noPanic ?_
          refine wp_region_held_drew (S := (fun V => (V.cell? ⟨r, i * 5, none⟩ = some (.string y.s.f0) ∧ V.cell? ⟨r, i * 5 + 1, none⟩ = some (.string y.s.f1) ∧ V.cell? ⟨r, i * 5 + 2, none⟩ = some (.int .i64 y.at_.1) ∧ V.cell? ⟨r, i * 5 + 3, none⟩ = some (.int .i64 y.at_.2) ∧ V.cell? ⟨r, i * 5 + 4, none⟩ = some (.int .i64 y.o)) ∧ V.cell? ⟨g, 2, none⟩ = some (.slice (some ⟨r, 0, none⟩) t.l.length c) ∧ V.cell? ⟨n, 0, none⟩ = some (.string s.f0) ∧ V.cell? ⟨n, 1, none⟩ = some (.string s.f1))) (by kernel_rfl) ⟨HLC.out _ (below_step HB.out (below_drew1 (Below.refl _ _))), (blk_cell (td_kept HT.out.box (below_drew1 (Below.refl _ _))) 2).trans rfl, (blk_cell (td_kept HX.out (below_drew1 (Below.refl _ _))) 0).trans rfl, (blk_cell (td_kept HX.out (below_drew1 (Below.refl _ _))) 1).trans rfl⟩ (fun hHeld => ?_)
          generalize hwd : World.drew _ = wd at hHeld ⊢
          have hb : Below wr.heap.size wr wd := by rw [← hwd]; exact below_drew1 (Below.refl _ _)
          clear hwd
          have HX_ := Aside0.mk (td_kept HX.out hb)
          clear HX
          have HX := Aside0.mk HX_.out
          clear HX_
          have HA_ := Aside0.mk (td_kept HA.out hb)
          clear HA
          have HA := Aside0.mk HA_.out
          clear HA_
          have HT_ := Aside0.mk (HT.out.step hb)
          clear HT
          have HT := Aside0.mk HT_.out
          clear HT_
          have HN_ := Aside0.mk (HN.out.trans (Tn.of_below hb))
          clear HN
          have HN := Aside0.mk HN_.out
          clear HN_
          have HB_ := Aside0.mk (below_step HB.out hb)
          clear HB
          have HB := Aside0.mk HB_.out
          clear HB_
          clear hb
          refine tk_ (i := 0) (oi := ⟨some 42, _, _, _, _, none⟩) (v := ?v113) rfl (by rfl) ?y113 (by with_reducible assumption) ?r113
          case y113 => (intro V_ hSw; (try dsimp only at hSw); go_simp; (try with_reducible rfl))
          try simp only [Act.put, List.setIfInBounds_toArray, List.set_cons_zero, List.set_cons_succ]
          refine tk_ (i := 1) (oi := ⟨some 43, _, _, _, _, none⟩) (v := ?v114) rfl (by rfl) ?y114 (by with_reducible assumption) ?r114
          case y114 => (intro V_ hSw; (try dsimp only at hSw); go_simp; (try with_reducible rfl))
          try simp only [Act.put, List.setIfInBounds_toArray, List.set_cons_zero, List.set_cons_succ]
          refine tk_ (i := 2) (oi := ⟨some 44, _, _, _, _, none⟩) (v := ?v115) rfl (by rfl) ?y115 (by with_reducible assumption) ?r115
          case y115 => (intro V_ hSw; (try dsimp only at hSw); go_simp; (try with_reducible rfl))
          try simp only [Act.put, List.setIfInBounds_toArray, List.set_cons_zero, List.set_cons_succ]
          refine tk_ (i := 3) (oi := ⟨some 45, _, _, _, _, none⟩) (v := ?v116) rfl (by rfl) ?y116 (by with_reducible assumption) ?r116
          case y116 => (intro V_ hSw; (try dsimp only at hSw); go_simp; (try with_reducible rfl))
          try simp only [Act.put, List.setIfInBounds_toArray, List.set_cons_zero, List.set_cons_succ]
          refine tk_ (i := 4) (oi := ⟨some 46, _, _, _, _, none⟩) (v := ?v117) rfl (by rfl) ?y117 (by with_reducible assumption) ?r117
          case y117 => (intro V_ hSw; (try dsimp only at hSw); go_simp; (try with_reducible rfl))
          try simp only [Act.put, List.setIfInBounds_toArray, List.set_cons_zero, List.set_cons_succ]
          refine tk_ (i := 5) (oi := ⟨some 47, _, _, _, _, none⟩) (v := ?v118) rfl (by rfl) ?y118 (by with_reducible assumption) ?r118
          case y118 => (intro V_ hSw; (try dsimp only at hSw); go_simp; (try with_reducible rfl))
          try simp only [Act.put, List.setIfInBounds_toArray, List.set_cons_zero, List.set_cons_succ]
          refine tk_ (i := 6) (oi := ⟨some 48, _, _, _, _, none⟩) (v := ?v119) rfl (by rfl) ?y119 (by with_reducible assumption) ?r119
          case y119 => (intro V_ hSw; (try dsimp only at hSw); go_simp; (try with_reducible rfl))
          try simp only [Act.put, List.setIfInBounds_toArray, List.set_cons_zero, List.set_cons_succ]
          refine tk_ (i := 7) (oi := ⟨some 49, _, _, _, _, none⟩) (v := ?v120) rfl (by rfl) ?y120 (by with_reducible assumption) ?r120
          case y120 => (intro V_ hSw; (try dsimp only at hSw); go_simp; (try with_reducible rfl))
          try simp only [Act.put, List.setIfInBounds_toArray, List.set_cons_zero, List.set_cons_succ]
          refine tk_ (i := 8) (oi := ⟨some 50, _, _, _, _, none⟩) (v := ?v121) rfl (by rfl) ?y121 (by with_reducible assumption) ?r121
          case y121 => (intro V_ hSw; (try dsimp only at hSw); go_simp; (try with_reducible rfl))
          try simp only [Act.put, List.setIfInBounds_toArray, List.set_cons_zero, List.set_cons_succ]
          refine tk_ (i := 9) (oi := ⟨some 51, _, _, _, _, none⟩) (v := ?v122) rfl (by rfl) ?y122 (by with_reducible assumption) ?r122
          case y122 => (intro V_ hSw; (try dsimp only at hSw); go_simp; (try with_reducible rfl))
          try simp only [Act.put, List.setIfInBounds_toArray, List.set_cons_zero, List.set_cons_succ]
          refine tk_ (i := 10) (oi := ⟨some 52, _, _, _, _, none⟩) (v := ?v123) rfl (by rfl) ?y123 (by with_reducible assumption) ?r123
          case y123 => (intro V_ hSw; (try dsimp only at hSw); go_simp; (try with_reducible rfl))
          try simp only [Act.put, List.setIfInBounds_toArray, List.set_cons_zero, List.set_cons_succ]
          refine tk0_ (i := 11) (oi := ⟨some 53, _, _, _, _, some (10, true)⟩) rfl (by rfl) (by with_reducible assumption) ?_
          try simp only [Act.put, List.setIfInBounds_toArray, List.set_cons_zero, List.set_cons_succ]
          refine tk0_ (i := 12) (oi := ⟨some 54, _, _, _, _, some (10, true)⟩) rfl (by rfl) (by with_reducible assumption) ?_
          try simp only [Act.put, List.setIfInBounds_toArray, List.set_cons_zero, List.set_cons_succ]
          refine tk0_ (i := 13) (oi := ⟨some 55, _, _, _, _, some (10, true)⟩) rfl (by rfl) (by with_reducible assumption) ?_
          try simp only [Act.put, List.setIfInBounds_toArray, List.set_cons_zero, List.set_cons_succ]
          refine tk0_ (i := 14) (oi := ⟨some 56, _, _, _, _, some (10, true)⟩) rfl (by rfl) (by with_reducible assumption) ?_
          try simp only [Act.put, List.setIfInBounds_toArray, List.set_cons_zero, List.set_cons_succ]
          refine tk0_ (i := 15) (oi := ⟨some 57, _, _, _, _, some (10, true)⟩) rfl (by rfl) (by with_reducible assumption) ?_
          try simp only [Act.put, List.setIfInBounds_toArray, List.set_cons_zero, List.set_cons_succ]
          refine tk0_ (i := 16) (oi := ⟨some 58, _, _, _, _, some (10, true)⟩) rfl (by rfl) (by with_reducible assumption) ?_
          try simp only [Act.put, List.setIfInBounds_toArray, List.set_cons_zero, List.set_cons_succ]
          refine tk0_ (i := 17) (oi := ⟨some 59, _, _, _, _, some (10, true)⟩) rfl (by rfl) (by with_reducible assumption) ?_
          try simp only [Act.put, List.setIfInBounds_toArray, List.set_cons_zero, List.set_cons_succ]
          refine tk0_ (i := 18) (oi := ⟨some 60, _, _, _, _, some (10, true)⟩) rfl (by rfl) (by with_reducible assumption) ?_
          try simp only [Act.put, List.setIfInBounds_toArray, List.set_cons_zero, List.set_cons_succ]
          refine tk0_ (i := 19) (oi := ⟨some 61, _, _, _, _, some (10, true)⟩) rfl (by rfl) (by with_reducible assumption) ?_
          try simp only [Act.put, List.setIfInBounds_toArray, List.set_cons_zero, List.set_cons_succ]
          refine tk0_ (i := 20) (oi := ⟨some 62, _, _, _, _, some (10, true)⟩) rfl (by rfl) (by with_reducible assumption) ?_
          try simp only [Act.put, List.setIfInBounds_toArray, List.set_cons_zero, List.set_cons_succ]
          refine tk_ (i := 21) (oi := ⟨some 63, _, _, _, _, none⟩) (v := ?v134) rfl (by rfl) ?y134 (by with_reducible assumption) ?r134
          case y134 => (intro V_ hSw; (try dsimp only at hSw); go_simp; (try with_reducible rfl))
          try simp only [Act.put, List.setIfInBounds_toArray, List.set_cons_zero, List.set_cons_succ]
          refine wpAnyH_done (by kernel_rfl) ?_ _
          refine NoPanic.normal ?_
          clear hHeld
          go_wp2_with fail
          go_roundg (t.l.length - i)
          case measure => have h1 := HI.out; have h2 := HLT.out; omega
          case rel => exact ⟨i + 1, congrArg (Value.int .i64) (by first | exact HWI.out | exact HWI2.out | rfl | omega), ⟨by have h1 := HI.out; have h2 := HLT.out; omega⟩, ⟨HLT.out⟩, HT, HN, HB, HX, HA⟩
        case pos =>
          have e2 : (y.o == o) = false := by
            have q := HSM.out
            unfold same at q
            rw [h0, h1] at q
            simpa using q
          have e2p : ¬ y.o = o := by simpa using e2
          have e0 := eq_true h0
          have e1 := eq_true h1
          have e3 := eq_false e2p
          clear h0 h1 e2p
          go_upto_region 11 with fail
          clear g2
          refine wp_region_noPanic ?_
          refine wp_region_held_drew (S := (fun V => (V.cell? ⟨r, i * 5, none⟩ = some (.string y.s.f0) ∧ V.cell? ⟨r, i * 5 + 1, none⟩ = some (.string y.s.f1) ∧ V.cell? ⟨r, i * 5 + 2, none⟩ = some (.int .i64 y.at_.1) ∧ V.cell? ⟨r, i * 5 + 3, none⟩ = some (.int .i64 y.at_.2) ∧ V.cell? ⟨r, i * 5 + 4, none⟩ = some (.int .i64 y.o)) ∧ V.cell? ⟨g, 2, none⟩ = some (.slice (some ⟨r, 0, none⟩) t.l.length c) ∧ V.cell? ⟨n, 0, none⟩ = some (.string s.f0) ∧ V.cell? ⟨n, 1, none⟩ = some (.string s.f1))) (by kernel_rfl) ⟨HLC.out _ (below_step HB.out (below_drew1 (Below.refl _ _))), (blk_cell (td_kept HT.out.box (below_drew1 (Below.refl _ _))) 2).trans rfl, (blk_cell (td_kept HX.out (below_drew1 (Below.refl _ _))) 0).trans rfl, (blk_cell (td_kept HX.out (below_drew1 (Below.refl _ _))) 1).trans rfl⟩ (fun hHeld => ?_)
          generalize hwd : World.drew _ = wd at hHeld ⊢
          have hb : Below wr.heap.size wr wd := by rw [← hwd]; exact below_drew1 (Below.refl _ _)
          clear hwd
          have HX_ := Aside0.mk (td_kept HX.out hb)
          clear HX
          have HX := Aside0.mk HX_.out
          clear HX_
          have HA_ := Aside0.mk (td_kept HA.out hb)
          clear HA
          have HA := Aside0.mk HA_.out
          clear HA_
          have HT_ := Aside0.mk (HT.out.step hb)
          clear HT
          have HT := Aside0.mk HT_.out
          clear HT_
          have HN_ := Aside0.mk (HN.out.trans (Tn.of_below hb))
          clear HN
          have HN := Aside0.mk HN_.out
          clear HN_
          have HB_ := Aside0.mk (below_step HB.out hb)
          clear HB
          have HB := Aside0.mk HB_.out
          clear HB_
          clear hb
          refine tk_ (i := 0) (oi := ⟨some 42, _, _, _, _, none⟩) (v := ?v135) rfl (by rfl) ?y135 (by with_reducible assumption) ?r135
          case y135 => (intro V_ hSw; (try dsimp only at hSw); go_simp; (try with_reducible rfl))
          try simp only [Act.put, List.setIfInBounds_toArray, List.set_cons_zero, List.set_cons_succ]
          refine tk_ (i := 1) (oi := ⟨some 43, _, _, _, _, none⟩) (v := ?v136) rfl (by rfl) ?y136 (by with_reducible assumption) ?r136
          case y136 => (intro V_ hSw; (try dsimp only at hSw); go_simp; (try with_reducible rfl))
          try simp only [Act.put, List.setIfInBounds_toArray, List.set_cons_zero, List.set_cons_succ]
          refine tk_ (i := 2) (oi := ⟨some 44, _, _, _, _, none⟩) (v := ?v137) rfl (by rfl) ?y137 (by with_reducible assumption) ?r137
          case y137 => (intro V_ hSw; (try dsimp only at hSw); go_simp; (try with_reducible rfl))
          try simp only [Act.put, List.setIfInBounds_toArray, List.set_cons_zero, List.set_cons_succ]
          refine tk_ (i := 3) (oi := ⟨some 45, _, _, _, _, none⟩) (v := ?v138) rfl (by rfl) ?y138 (by with_reducible assumption) ?r138
          case y138 => (intro V_ hSw; (try dsimp only at hSw); go_simp; (try with_reducible rfl))
          try simp only [Act.put, List.setIfInBounds_toArray, List.set_cons_zero, List.set_cons_succ]
          refine tk_ (i := 4) (oi := ⟨some 46, _, _, _, _, none⟩) (v := ?v139) rfl (by rfl) ?y139 (by with_reducible assumption) ?r139
          case y139 => (intro V_ hSw; (try dsimp only at hSw); go_simp; (try with_reducible rfl))
          try simp only [Act.put, List.setIfInBounds_toArray, List.set_cons_zero, List.set_cons_succ]
          refine tk_ (i := 5) (oi := ⟨some 47, _, _, _, _, none⟩) (v := ?v140) rfl (by rfl) ?y140 (by with_reducible assumption) ?r140
          case y140 => (intro V_ hSw; (try dsimp only at hSw); go_simp; (try with_reducible rfl))
          try simp only [Act.put, List.setIfInBounds_toArray, List.set_cons_zero, List.set_cons_succ]
          refine tk_ (i := 6) (oi := ⟨some 48, _, _, _, _, none⟩) (v := ?v141) rfl (by rfl) ?y141 (by with_reducible assumption) ?r141
          case y141 => (intro V_ hSw; (try dsimp only at hSw); go_simp; (try with_reducible rfl))
          try simp only [Act.put, List.setIfInBounds_toArray, List.set_cons_zero, List.set_cons_succ]
          refine tk_ (i := 7) (oi := ⟨some 49, _, _, _, _, none⟩) (v := ?v142) rfl (by rfl) ?y142 (by with_reducible assumption) ?r142
          case y142 => (intro V_ hSw; (try dsimp only at hSw); go_simp; (try with_reducible rfl))
          try simp only [Act.put, List.setIfInBounds_toArray, List.set_cons_zero, List.set_cons_succ]
          refine tk_ (i := 8) (oi := ⟨some 50, _, _, _, _, none⟩) (v := ?v143) rfl (by rfl) ?y143 (by with_reducible assumption) ?r143
          case y143 => (intro V_ hSw; (try dsimp only at hSw); go_simp; (try with_reducible rfl))
          try simp only [Act.put, List.setIfInBounds_toArray, List.set_cons_zero, List.set_cons_succ]
          refine tk_ (i := 9) (oi := ⟨some 51, _, _, _, _, none⟩) (v := ?v144) rfl (by rfl) ?y144 (by with_reducible assumption) ?r144
          case y144 => (intro V_ hSw; (try dsimp only at hSw); go_simp; (try with_reducible rfl))
          try simp only [Act.put, List.setIfInBounds_toArray, List.set_cons_zero, List.set_cons_succ]
          refine tk_ (i := 10) (oi := ⟨some 52, _, _, _, _, none⟩) (v := ?v145) rfl (by rfl) ?y145 (by with_reducible assumption) ?r145
          case y145 => (intro V_ hSw; (try dsimp only at hSw); go_simp; (try with_reducible rfl))
          try simp only [Act.put, List.setIfInBounds_toArray, List.set_cons_zero, List.set_cons_succ]
          refine tk_ (i := 11) (oi := ⟨some 53, _, _, _, _, some (10, true)⟩) (v := ?v146) rfl (by rfl) ?y146 (by with_reducible assumption) ?r146
          case y146 => (intro V_ hSw; (try dsimp only at hSw); go_simp; (try with_reducible rfl))
          try simp only [Act.put, List.setIfInBounds_toArray, List.set_cons_zero, List.set_cons_succ]
          refine tk_ (i := 12) (oi := ⟨some 54, _, _, _, _, some (10, true)⟩) (v := ?v147) rfl (by rfl) ?y147 (by with_reducible assumption) ?r147
          case y147 => (intro V_ hSw; (try dsimp only at hSw); go_simp; (try with_reducible rfl))
          try simp only [Act.put, List.setIfInBounds_toArray, List.set_cons_zero, List.set_cons_succ]
          refine tk_ (i := 13) (oi := ⟨some 55, _, _, _, _, some (10, true)⟩) (v := ?v148) rfl (by rfl) ?y148 (by with_reducible assumption) ?r148
          case y148 => (intro V_ hSw; (try dsimp only at hSw); go_simp; (try with_reducible rfl))
          try simp only [Act.put, List.setIfInBounds_toArray, List.set_cons_zero, List.set_cons_succ]
          refine tk_ (i := 14) (oi := ⟨some 56, _, _, _, _, some (10, true)⟩) (v := ?v149) rfl (by rfl) ?y149 (by with_reducible assumption) ?r149
          case y149 => (intro V_ hSw; (try dsimp only at hSw); go_simp; (try with_reducible rfl))
          try simp only [Act.put, List.setIfInBounds_toArray, List.set_cons_zero, List.set_cons_succ]
          refine tk_ (i := 15) (oi := ⟨some 57, _, _, _, _, some (10, true)⟩) (v := ?v150) rfl (by rfl) ?y150 (by with_reducible assumption) ?r150
          case y150 => (intro V_ hSw; (try dsimp only at hSw); go_simp; (try with_reducible rfl))
          try simp only [Act.put, List.setIfInBounds_toArray, List.set_cons_zero, List.set_cons_succ]
          refine tk_ (i := 16) (oi := ⟨some 58, _, _, _, _, some (10, true)⟩) (v := ?v151) rfl (by rfl) ?y151 (by with_reducible assumption) ?r151
          case y151 => (intro V_ hSw; (try dsimp only at hSw); go_simp; (try with_reducible rfl))
          try simp only [Act.put, List.setIfInBounds_toArray, List.set_cons_zero, List.set_cons_succ]
          refine tk_ (i := 17) (oi := ⟨some 59, _, _, _, _, some (10, true)⟩) (v := ?v152) rfl (by rfl) ?y152 (by with_reducible assumption) ?r152
          case y152 => (intro V_ hSw; (try dsimp only at hSw); go_simp; (try with_reducible rfl))
          try simp only [Act.put, List.setIfInBounds_toArray, List.set_cons_zero, List.set_cons_succ]
          refine tk_ (i := 18) (oi := ⟨some 60, _, _, _, _, some (10, true)⟩) (v := ?v153) rfl (by rfl) ?y153 (by with_reducible assumption) ?r153
          case y153 => (intro V_ hSw; (try dsimp only at hSw); go_simp; (try with_reducible rfl))
          try simp only [Act.put, List.setIfInBounds_toArray, List.set_cons_zero, List.set_cons_succ]
          refine tk_ (i := 19) (oi := ⟨some 61, _, _, _, _, some (10, true)⟩) (v := ?v154) rfl (by rfl) ?y154 (by with_reducible assumption) ?r154
          case y154 => (intro V_ hSw; (try dsimp only at hSw); go_simp; (try with_reducible rfl))
          try simp only [Act.put, List.setIfInBounds_toArray, List.set_cons_zero, List.set_cons_succ]
          refine tk_ (i := 20) (oi := ⟨some 62, _, _, _, _, some (10, true)⟩) (v := ?v155) rfl (by rfl) ?y155 (by with_reducible assumption) ?r155
          case y155 => (intro V_ hSw; (try dsimp only at hSw); go_simp; (try with_reducible rfl))
          try simp only [Act.put, List.setIfInBounds_toArray, List.set_cons_zero, List.set_cons_succ]
          refine tk_ (i := 21) (oi := ⟨some 63, _, _, _, _, none⟩) (v := ?v156) rfl (by rfl) ?y156 (by with_reducible assumption) ?r156
          case y156 => (intro V_ hSw; (try dsimp only at hSw); go_simp; (try with_reducible rfl))
          try simp only [Act.put, List.setIfInBounds_toArray, List.set_cons_zero, List.set_cons_succ]
          refine wpAnyH_done (by kernel_rfl) ?_ _
          refine NoPanic.normal ?_
          clear hHeld
          go_wp2_with fail
          go_roundg (t.l.length - i)
          case measure => have h1 := HI.out; have h2 := HLT.out; omega
          case rel => exact ⟨i + 1, congrArg (Value.int .i64) (by first | exact HWI.out | exact HWI2.out | rfl | omega), ⟨by have h1 := HI.out; have h2 := HLT.out; omega⟩, ⟨HLT.out⟩, HT, HN, HB, HX, HA⟩
    case neg =>
      have d1 : decide ((i : Int) < (t.l.length : Int)) = false := decide_eq_false (by omega)
      have d1n : decide (i < t.l.length) = false := decide_eq_false hlt
      have g2 : wr.cell? ⟨g, 2, none⟩ = some (.slice A t.l.length c) := (blk_cell HT.out.box 2).trans rfl
      clear HB HI HIL hlt
      go_upto_region 14 with fail
      clear g2
      refine wp_region_noPanic ?_
      refine wp_region_held_drew (S := (fun V => V.cell? ⟨n, 0, none⟩ = some (.string s.f0) ∧ V.cell? ⟨n, 1, none⟩ = some (.string s.f1) ∧ V.cell? ⟨n + 1, 0, none⟩ = some (.int .i64 a.1) ∧ V.cell? ⟨n + 1, 1, none⟩ = some (.int .i64 a.2))) (by kernel_rfl) ⟨(blk_cell (td_kept HX.out (below_drew1 (Below.refl _ _))) 0).trans rfl, (blk_cell (td_kept HX.out (below_drew1 (Below.refl _ _))) 1).trans rfl, (blk_cell (td_kept HA.out (below_drew1 (Below.refl _ _))) 0).trans rfl, (blk_cell (td_kept HA.out (below_drew1 (Below.refl _ _))) 1).trans rfl⟩ (fun hHeld => ?_)
      generalize hwd : World.drew _ = wd at hHeld ⊢
      have hb : Below wr.heap.size wr wd := by rw [← hwd]; exact below_drew1 (Below.refl _ _)
      clear hwd
      have HX_ := Aside0.mk (td_kept HX.out hb)
      clear HX
      have HX := Aside0.mk HX_.out
      clear HX_
      have HA_ := Aside0.mk (td_kept HA.out hb)
      clear HA
      have HA := Aside0.mk HA_.out
      clear HA_
      have HT_ := Aside0.mk (HT.out.step hb)
      clear HT
      have HT := Aside0.mk HT_.out
      clear HT_
      have HN_ := Aside0.mk (HN.out.trans (Tn.of_below hb))
      clear HN
      have HN := Aside0.mk HN_.out
      clear HN_
      clear hb
      refine tk_ (i := 0) (oi := ⟨some 81, _, _, _, _, none⟩) (v := ?v157) rfl (by rfl) ?y157 (by with_reducible assumption) ?r157
      case y157 => (intro V_ hSw; (try dsimp only at hSw); go_simp; (try with_reducible rfl))
      try simp only [Act.put, List.setIfInBounds_toArray, List.set_cons_zero, List.set_cons_succ]
      refine tk_ (i := 1) (oi := ⟨some 82, _, _, _, _, none⟩) (v := ?v158) rfl (by rfl) ?y158 (by with_reducible assumption) ?r158
      case y158 => (intro V_ hSw; (try dsimp only at hSw); go_simp; (try with_reducible rfl))
      try simp only [Act.put, List.setIfInBounds_toArray, List.set_cons_zero, List.set_cons_succ]
      refine tk_ (i := 2) (oi := ⟨some 83, _, _, _, _, none⟩) (v := ?v159) rfl (by rfl) ?y159 (by with_reducible assumption) ?r159
      case y159 => (intro V_ hSw; (try dsimp only at hSw); go_simp; (try with_reducible rfl))
      try simp only [Act.put, List.setIfInBounds_toArray, List.set_cons_zero, List.set_cons_succ]
      refine tk_ (i := 3) (oi := ⟨some 84, _, _, _, _, none⟩) (v := ?v160) rfl (by rfl) ?y160 (by with_reducible assumption) ?r160
      case y160 => (intro V_ hSw; (try dsimp only at hSw); go_simp; (try with_reducible rfl))
      try simp only [Act.put, List.setIfInBounds_toArray, List.set_cons_zero, List.set_cons_succ]
      refine tk_ (i := 5) (oi := ⟨some 86, _, _, _, _, none⟩) (v := ?v161) rfl (by rfl) ?y161 (by with_reducible assumption) ?r161
      case y161 => (intro V_ hSw; (try dsimp only at hSw); go_simp; (try with_reducible rfl))
      try simp only [Act.put, List.setIfInBounds_toArray, List.set_cons_zero, List.set_cons_succ]
      refine tk_ (i := 6) (oi := ⟨some 87, _, _, _, _, none⟩) (v := ?v162) rfl (by rfl) ?y162 (by with_reducible assumption) ?r162
      case y162 => (intro V_ hSw; (try dsimp only at hSw); go_simp; (try with_reducible rfl))
      try simp only [Act.put, List.setIfInBounds_toArray, List.set_cons_zero, List.set_cons_succ]
      refine tk_ (i := 7) (oi := ⟨some 88, _, _, _, _, none⟩) (v := ?v163) rfl (by rfl) ?y163 (by with_reducible assumption) ?r163
      case y163 => (intro V_ hSw; (try dsimp only at hSw); go_simp; (try with_reducible rfl))
      try simp only [Act.put, List.setIfInBounds_toArray, List.set_cons_zero, List.set_cons_succ]
      refine tk_ (i := 8) (oi := ⟨some 89, _, _, _, _, none⟩) (v := ?v164) rfl (by rfl) ?y164 (by with_reducible assumption) ?r164
      case y164 => (intro V_ hSw; (try dsimp only at hSw); go_simp; (try with_reducible rfl))
      try simp only [Act.put, List.setIfInBounds_toArray, List.set_cons_zero, List.set_cons_succ]
      refine wpAnyH_ready (rs := [4, 9]) (by kernel_rfl) (by simp) ?_
      refine AllReadyH.cons (o := ⟨some 85, _, _, _, _, none⟩) rfl (fun K hK => ?_) ?_
      · have g3 : wd.cell? ⟨g, 2, none⟩ = some (.slice A t.l.length c) := (blk_cell HT.out.box 2).trans rfl
        go_simp
        clear g3
        refine hK.out _ _ hHeld (fun hHeld => ?_)
        clear hK K
        try simp only [Act.put, List.setIfInBounds_toArray, List.set_cons_zero, List.set_cons_succ]
        refine wpAnyH_ready (rs := [9]) (by kernel_rfl) (by simp) (AllReadyH.cons (o := ⟨some 90, _, _, _, _, none⟩) rfl (fun K hK => ?_) AllReadyH.nil)
        refine Kd.R_lit_step k63 (w0 := wd) wd.heap.size 67 ?hg (N := 90) ?hd (xs := ([({ s := s, at_ := a, o := o } : Rd S24)] : List (Rd S24))) (inner := [.string s.f0, .string s.f1, .int .i64 a.1, .int .i64 a.2, .int .i64 o]) (ok := fun _ => True) (okp := fun _ => True) ?hr ?hp (fun _ hk => hk) trivial (Below.refl _ _) (Nat.le_refl _) (by simp) ?_
        case hg => rfl
        case hd => rfl
        case hr => first | (go_simp; done) | (go_simp; rfl)
        case hp => exact Reps.c5 (k63_mkM _ _ _ ({ s := s, at_ := a, o := o } : Rd S24)) (Reps.none _ _)
        intro vy wl hoy hb hgy hny
        obtain ⟨Ay, cy, ey⟩ := Kd.R_slice hoy
        subst ey
        have HCY := Aside0.mk (Kd.R_reads' hoy).2.2
        clear hoy hgy hny
        have HX_ := Aside0.mk (td_kept HX.out hb)
        clear HX
        have HX := Aside0.mk HX_.out
        clear HX_
        have HA_ := Aside0.mk (td_kept HA.out hb)
        clear HA
        have HA := Aside0.mk HA_.out
        clear HA_
        have HT_ := Aside0.mk (HT.out.step hb)
        clear HT
        have HT := Aside0.mk HT_.out
        clear HT_
        have HN_ := Aside0.mk (HN.out.trans (Tn.of_below hb))
        clear HN
        have HN := Aside0.mk HN_.out
        clear HN_
        clear hb
        refine hK.out _ _ ⟨(blk_cell HX.out 0).trans rfl, (blk_cell HX.out 1).trans rfl, (blk_cell HA.out 0).trans rfl, (blk_cell HA.out 1).trans rfl⟩ (fun hHeld => ?_)
        clear hK K
        try simp only [Act.put, List.setIfInBounds_toArray, List.set_cons_zero, List.set_cons_succ]
        refine wpAnyH_ready (rs := [10]) (by kernel_rfl) (by simp) (AllReadyH.cons (o := ⟨some 91, _, _, _, _, none⟩) rfl (fun K hK => ?_) AllReadyH.nil)
        refine Kd.R_append_rows_step k63 (Rr := k63.K wl) (w0 := W0) W0.heap.size rfl (.tmp 85) (.tmp 90) 48 67 _ 56 rfl Try.underlying48 info67 rfl (show 0 < 5 by omega) (by omega) (.slice A t.l.length c) t.l [({ s := s, at_ := a, o := o } : Rd S24)] Ay 1 cy (fun _ => True) (fun _ => False) rfl rfl ?aO ?aR (fun x cs h => by rw [k63_open h]; exact k63_mkM _ _ _ x) (fun _ h => h.elim) (fun _ _ => trivial) ?aB ?aS ?aL ?_
        case aO => exact HT.out.row
        case aR => exact HCY.out
        case aB => exact HT.out.below
        case aS => exact HT.out.below.size
        case aL => have := HLEN.out; omega
        intro v8 w8 ho8 hb8 hg8 hat8
        obtain ⟨A8, c8, e8⟩ := Kd.R_slice ho8
        subst e8
        have hn8 := Tn.of_grownR67 (g := none) hg8 HT.out.row
        have HX_ := Aside0.mk (hn8.blk HX.out (by simp) (by decide))
        have HA_ := Aside0.mk (hn8.blk HA.out (by simp) (by decide))
        have HG8 := Aside0.mk (hn8.blk HT.out.box (by simp) (by decide))
        have HN8 := Aside0.mk (HN.out.trans hn8.any)
        have HB8 := Aside0.mk hb8
        have HOWN := Aside0.mk HT.out.own
        rw [HL.out] at ho8
        rw [HL.out]
        have HR8 := Aside0.mk ho8
        clear ho8 hb8 hg8 hat8 hn8 HX HA HT HN HCY
        refine hK.out _ _ ⟨(blk_cell HX_.out 0).trans rfl, (blk_cell HX_.out 1).trans rfl, (blk_cell HA_.out 0).trans rfl, (blk_cell HA_.out 1).trans rfl⟩ (fun hHeld => ?_)
        clear hK K
        try simp only [Act.put, List.setIfInBounds_toArray, List.set_cons_zero, List.set_cons_succ]
        refine tk_ (i := 11) (oi := ⟨some 92, _, _, _, _, none⟩) (v := ?v165) rfl (by rfl) ?y165 (by with_reducible assumption) ?r165
        case y165 => (intro V_ hSw; (try dsimp only at hSw); go_simp; (try with_reducible rfl))
        try simp only [Act.put, List.setIfInBounds_toArray, List.set_cons_zero, List.set_cons_succ]
        refine tk_ (i := 12) (oi := ⟨some 93, _, _, _, _, none⟩) (v := ?v166) rfl (by rfl) ?y166 (by with_reducible assumption) ?r166
        case y166 => (intro V_ hSw; (try dsimp only at hSw); go_simp; (try with_reducible rfl))
        try simp only [Act.put, List.setIfInBounds_toArray, List.set_cons_zero, List.set_cons_succ]
        refine wpAnyH_ready (rs := [13]) (by kernel_rfl) (by simp) (AllReadyH.cons (o := ⟨none, _, _, _, _, none⟩) rfl (fun K hK => ?_) AllReadyH.nil)
        have g3 : w8.cell? ⟨g, 2, none⟩ = some (.slice A t.l.length c) := (blk_cell HG8.out 2).trans rfl
        have f3 := blk_frozen HG8.out 2
        go_simp
        clear g3 f3
        have HT := Aside0.mk (rt_setl HB8.out HOWN.out HG8.out HR8.out)
        have HN := Aside0.mk (HN8.out.trans (Tn.set (i := 2) HOWN.out (.slice A8 L.length c8)))
        have HX := Aside0.mk (blk_far HX_.out (p := ⟨g, 2, none⟩) HNG.out.1 (.slice A8 L.length c8))
        have HA := Aside0.mk (blk_far HA_.out (p := ⟨g, 2, none⟩) HNG.out.2 (.slice A8 L.length c8))
        clear HG8 HN8 HB8 HR8 HX_ HA_
        refine hK.out _ _ ⟨(blk_cell HX.out 0).trans rfl, (blk_cell HX.out 1).trans rfl, (blk_cell HA.out 0).trans rfl, (blk_cell HA.out 1).trans rfl⟩ (fun hHeld => ?_)
        clear hK K
        try simp only [Act.put, List.setIfInBounds_toArray, List.set_cons_zero, List.set_cons_succ]
        refine wpAnyH_done (by kernel_rfl) ?_ _
        refine NoPanic.normal ?_
        clear hHeld HX HA
        generalize hw9 : World.setCell _ _ _ = w9 at HT HN ⊢
        clear hw9
        have g3 : w9.cell? ⟨g, 2, none⟩ = some (.slice A8 L.length c8) := (blk_cell HT.out.box 2).trans rfl
        obtain ⟨r, c9, er, hbr, hlt, cellsr, hcell⟩ := Kd.R_form HT.out.row HPOS.out
        injection er with er _ ec
        subst er; subst ec
        clear hbr hlt hcell
        obtain ⟨ad, e0, y0, hy0, hld⟩ := ld_T63 (Kd.R_reads' HT.out.row).2.2 0 HPOS.out
        cases e0
        rw [add_plain] at hld
        have HY0 := Aside0.mk hy0
        have l2 : w9.cell? ⟨r, 2, none⟩ = some (.int .i64 y0.at_.1) := by have := hld 2 _ rfl; rw [add_field _ _ 2 (by omega)] at this; exact this
        have l3 : w9.cell? ⟨r, 3, none⟩ = some (.int .i64 y0.at_.2) := by have := hld 3 _ rfl; rw [add_field _ _ 3 (by omega)] at this; exact this
        have p9 := eq_true (show (0 : Int) < (L.length : Int) by have := HPOS.out; omega)
        have p9n := eq_true (show 0 < L.length from HPOS.out)
        clear hy0 hld
        go_upto_region 17 with fail
        clear l2 l3 p9 p9n
        generalize hwx : World.alloc w9 _ = wx
        have hb : Below w9.heap.size w9 wx := by rw [← hwx]; exact td_alloc _ _
        have HZ := Aside0.mk (show wx.heap[w9.heap.size]? = some (.cells #[.int .i64 y0.at_.1, .int .i64 y0.at_.2] 31 (0, 0)) from by rw [← hwx]; exact blk_new _ _)
        have HZG := Aside0.mk (show g ≠ w9.heap.size from Nat.ne_of_lt HT.out.lt)
        have HZB := Aside0.mk (show W0.heap.size ≤ w9.heap.size from HT.out.below.size)
        have HZW := Aside0.mk (show W.heap.size ≤ w9.heap.size from HN.out.size)
        clear hwx g3
        have HT_ := Aside0.mk (HT.out.step hb)
        clear HT
        have HT := Aside0.mk HT_.out
        clear HT_
        have HN_ := Aside0.mk (HN.out.trans (Tn.of_below hb))
        clear HN
        have HN := Aside0.mk HN_.out
        clear HN_
        clear hb
        generalize w9.heap.size = gz at HZ HZG HZB HZW ⊢
        have HLM2 := Aside0.mk (Kd.C_max (Kd.R_reads' HT.out.row).2.2)
        have HM0 := Aside0.mk (show Td.least y0.at_ (L.drop 1) = M from by
          have q := least_drop (L := L) (m := y0.at_) (i := 0) HPOS.out
          rw [HY0.out, ite_self, List.drop_zero] at q
          rw [← q, ← HMX.out, HY0.out])
        go_wp2_with fail
        go_loopg [12] (L.length + 1) (fun gg v wr => ∃ (j : Nat) (m : Int × Int), v = .int .i64 (j : Int) ∧ Aside0 (j + gg = L.length + 2) ∧ Aside0 (j ≤ L.length) ∧ Aside0 (Td.least m (L.drop j) = M) ∧ Aside0 (RtA W0 wr g { low := t.low, l := L } (some ⟨r, 0, none⟩) c8) ∧ Aside0 (Tn W0.heap.size (some g) 67 W wr) ∧ Aside0 (wr.heap[gz]? = some (.cells #[.int .i64 m.1, .int .i64 m.2] 31 (0, 0))))
        case atStart => exact ⟨1, y0.at_, rfl, ⟨by omega⟩, ⟨HPOS.out⟩, HM0, HT, HN, HZ⟩
        case round =>
          clear HT HN HZ
          obtain ⟨j, m, rfl, HJ, HJL, HM, HT, HN, HZ⟩ := hrel
          have g3 : wr.cell? ⟨g, 2, none⟩ = some (.slice (some ⟨r, 0, none⟩) L.length c8) := (blk_cell HT.out.box 2).trans rfl
          by_cases hlt : j < L.length
          case neg =>
            have d2 : decide ((j : Int) < (L.length : Int)) = false := decide_eq_false (by omega)
            have d2n : decide (j < L.length) = false := decide_eq_false hlt
            have ei : j = L.length := by have := HJL.out; omega
            have hm := HM.out
            rw [ei, List.drop_length] at hm
            have HMM := Aside0.mk (show m = M from hm)
            clear hm ei hlt
            have z0 : wr.cell? ⟨gz, 0, none⟩ = some (.int .i64 m.1) := (blk_cell HZ.out 0).trans rfl
            have z1 : wr.cell? ⟨gz, 1, none⟩ = some (.int .i64 m.2) := (blk_cell HZ.out 1).trans rfl
            have u1 : wr.cell? ⟨g, 0, none⟩ = some (.int .i64 t.low.1) := (blk_cell HT.out.box 0).trans rfl
            have u2 : wr.cell? ⟨g, 1, none⟩ = some (.int .i64 t.low.2) := (blk_cell HT.out.box 1).trans rfl
            have f1 := blk_frozen HT.out.box 0
            have f2 := blk_frozen HT.out.box 1
            go_upto_region 23 with fail
            have HN_ := Aside0.mk ((HN.out.trans (Tn.set (i := 0) HT.out.own (.int .i64 m.1))).trans (Tn.set (i := 1) HT.out.own (.int .i64 m.2)))
            have HT_ := Aside0.mk (rt_setlow m HT.out)
            clear HT HN u1 u2 z0 z1 f1 f2 g3 HZ
            generalize hwx : World.setCell _ _ _ = wx at HT_ HN_ ⊢
            clear hwx
            go_wp2_with fail
            refine (rt_forget W0 wx g _ ⟨_, _, HT_.out⟩ (by show L.length ≤ 65; have h1 := HLL.out; have h2 := HLEN.out; omega)).mono ?_
            rintro e wz ⟨rfl, hTz, hNz⟩
            have HTz := Aside0.mk hTz
            have HNz := Aside0.mk (HN_.out.trans hNz)
            clear hTz hNz
            go_wp2_with fail
            go_ret
            exact ⟨rfl, by have q := HTz.out; rw [HMM.out] at q; exact q, HNz.out⟩
          case pos =>
            have d2 : decide ((j : Int) < (L.length : Int)) = true := decide_eq_true (by omega)
            have d2n : decide (j < L.length) = true := decide_eq_true hlt
            have hmd := least_drop (m := m) hlt
            obtain ⟨ad, e0, y, hy, hld⟩ := ld_T63 (Kd.R_reads' HT.out.row).2.2 j hlt
            cases e0
            rw [hy] at hmd
            rw [add_plain] at hld
            have HMD := Aside0.mk hmd
            have HLC2 := Aside0.mk (fun (V : World) (hV : Below wr.heap.size wr V) => And.intro (show V.cell? ⟨r, j * 5 + 2, none⟩ = some (.int .i64 y.at_.1) from by have q := (hV.cell (World.block_lt_of_cell? wr _ (hld 2 _ rfl))).trans (hld 2 _ rfl); rw [add_field _ _ 2 (by omega)] at q; exact q) (show V.cell? ⟨r, j * 5 + 3, none⟩ = some (.int .i64 y.at_.2) from by have q := (hV.cell (World.block_lt_of_cell? wr _ (hld 3 _ rfl))).trans (hld 3 _ rfl); rw [add_field _ _ 3 (by omega)] at q; exact q))
            have HLT := Aside0.mk hlt
            have p0 := eq_true (show (0 : Int) ≤ (j : Int) by omega)
            have q0 := eq_true (show (j : Int) < (L.length : Int) by omega)
            have q0n := eq_true hlt
            have hwi : Go.RowKit.wrap64 ((j : Int) + 1) = ((j + 1 : Nat) : Int) := by
              have := HLM2.out
              unfold Go.RowKit.wrap64
              omega
            have HWI := Aside0.mk hwi
            have HWI2 := Aside0.mk ((i64_w ((j : Int) + 1)).trans hwi)
            clear hy hmd hld hlt hwi
            go_upto_region 20 with fail
            clear g3
            refine wp_region_noPanic ?_
            refine wp_region_held_drew (S := (fun V => V.cell? ⟨g, 2, none⟩ = some (.slice (some ⟨r, 0, none⟩) L.length c8) ∧ V.cell? ⟨gz, 0, none⟩ = some (.int .i64 m.1) ∧ V.cell? ⟨gz, 1, none⟩ = some (.int .i64 m.2) ∧ V.cell? ⟨r, j * 5 + 2, none⟩ = some (.int .i64 y.at_.1) ∧ V.cell? ⟨r, j * 5 + 3, none⟩ = some (.int .i64 y.at_.2))) (by kernel_rfl) ⟨(blk_cell (td_kept HT.out.box (below_drew1 (Below.refl _ _))) 2).trans rfl, (blk_cell (td_kept HZ.out (below_drew1 (Below.refl _ _))) 0).trans rfl, (blk_cell (td_kept HZ.out (below_drew1 (Below.refl _ _))) 1).trans rfl, HLC2.out _ (below_drew1 (Below.refl _ _))⟩ (fun hHeld => ?_)
            generalize hwd : World.drew _ = wd at hHeld ⊢
            have hb : Below wr.heap.size wr wd := by rw [← hwd]; exact below_drew1 (Below.refl _ _)
            clear hwd
            have HLC2_ := Aside0.mk (fun (V : World) (hV : Below wd.heap.size wd V) => HLC2.out V (below_step hb hV))
            clear HLC2
            have HLC2 := Aside0.mk HLC2_.out
            clear HLC2_
            have HT_ := Aside0.mk (HT.out.step hb)
            clear HT
            have HT := Aside0.mk HT_.out
            clear HT_
            have HN_ := Aside0.mk (HN.out.trans (Tn.of_below hb))
            clear HN
            have HN := Aside0.mk HN_.out
            clear HN_
            have HZ_ := Aside0.mk (td_kept HZ.out hb)
            clear HZ
            have HZ := Aside0.mk HZ_.out
            clear HZ_
            clear hb
            refine tk_ (i := 0) (oi := ⟨some 116, _, _, _, _, none⟩) (v := ?v167) rfl (by rfl) ?y167 (by with_reducible assumption) ?r167
            case y167 => (intro V_ hSw; (try dsimp only at hSw); go_simp; (try with_reducible rfl))
            try simp only [Act.put, List.setIfInBounds_toArray, List.set_cons_zero, List.set_cons_succ]
            refine tk_ (i := 1) (oi := ⟨some 117, _, _, _, _, none⟩) (v := ?v168) rfl (by rfl) ?y168 (by with_reducible assumption) ?r168
            case y168 => (intro V_ hSw; (try dsimp only at hSw); go_simp; (try with_reducible rfl))
            try simp only [Act.put, List.setIfInBounds_toArray, List.set_cons_zero, List.set_cons_succ]
            refine tk_ (i := 2) (oi := ⟨some 118, _, _, _, _, none⟩) (v := ?v169) rfl (by rfl) ?y169 (by with_reducible assumption) ?r169
            case y169 => (intro V_ hSw; (try dsimp only at hSw); go_simp; (try with_reducible rfl))
            try simp only [Act.put, List.setIfInBounds_toArray, List.set_cons_zero, List.set_cons_succ]
            refine tk_ (i := 3) (oi := ⟨some 119, _, _, _, _, none⟩) (v := ?v170) rfl (by rfl) ?y170 (by with_reducible assumption) ?r170
            case y170 => (intro V_ hSw; (try dsimp only at hSw); go_simp; (try with_reducible rfl))
            try simp only [Act.put, List.setIfInBounds_toArray, List.set_cons_zero, List.set_cons_succ]
            refine tk_ (i := 4) (oi := ⟨some 120, _, _, _, _, none⟩) (v := ?v171) rfl (by rfl) ?y171 (by with_reducible assumption) ?r171
            case y171 => (intro V_ hSw; (try dsimp only at hSw); go_simp; (try with_reducible rfl))
            try simp only [Act.put, List.setIfInBounds_toArray, List.set_cons_zero, List.set_cons_succ]
            refine tk_ (i := 5) (oi := ⟨some 121, _, _, _, _, none⟩) (v := ?v172) rfl (by rfl) ?y172 (by with_reducible assumption) ?r172
            case y172 => (intro V_ hSw; (try dsimp only at hSw); go_simp; (try with_reducible rfl))
            try simp only [Act.put, List.setIfInBounds_toArray, List.set_cons_zero, List.set_cons_succ]
            refine tk_ (i := 6) (oi := ⟨some 122, _, _, _, _, none⟩) (v := ?v173) rfl (by rfl) ?y173 (by with_reducible assumption) ?r173
            case y173 => (intro V_ hSw; (try dsimp only at hSw); go_simp; (try with_reducible rfl))
            try simp only [Act.put, List.setIfInBounds_toArray, List.set_cons_zero, List.set_cons_succ]
            refine tk_ (i := 7) (oi := ⟨some 123, _, _, _, _, none⟩) (v := ?v174) rfl (by rfl) ?y174 (by with_reducible assumption) ?r174
            case y174 => (intro V_ hSw; (try dsimp only at hSw); go_simp; (try with_reducible rfl))
            try simp only [Act.put, List.setIfInBounds_toArray, List.set_cons_zero, List.set_cons_succ]
            refine tk_ (i := 8) (oi := ⟨some 124, _, _, _, _, none⟩) (v := ?v175) rfl (by rfl) ?y175 (by with_reducible assumption) ?r175
            case y175 => (intro V_ hSw; (try dsimp only at hSw); go_simp; (try with_reducible rfl))
            try simp only [Act.put, List.setIfInBounds_toArray, List.set_cons_zero, List.set_cons_succ]
            refine wpAnyH_ready (rs := [9]) (by kernel_rfl) (by simp) (AllReadyH.cons (o := ⟨some 125, _, _, _, _, none⟩) rfl (fun K hK => ?_) AllReadyH.nil)
            go_simp
            refine (rl_less y.at_ m _).mono ?_
            rintro e we ⟨rfl, hb⟩
            have HLC3 := Aside0.mk (HLC2.out _ hb)
            have HT_ := Aside0.mk (HT.out.step hb)
            clear HT
            have HT := Aside0.mk HT_.out
            clear HT_
            have HN_ := Aside0.mk (HN.out.trans (Tn.of_below hb))
            clear HN
            have HN := Aside0.mk HN_.out
            clear HN_
            have HZ_ := Aside0.mk (td_kept HZ.out hb)
            clear HZ
            have HZ := Aside0.mk HZ_.out
            clear HZ_
            clear hb
            refine hK.out _ _ ⟨(blk_cell HT.out.box 2).trans rfl, (blk_cell HZ.out 0).trans rfl, (blk_cell HZ.out 1).trans rfl, HLC3.out⟩ (fun hHeld => ?_)
            clear hK K
            try simp only [Act.put, List.setIfInBounds_toArray, List.set_cons_zero, List.set_cons_succ]
            refine wpAnyH_done (by kernel_rfl) ?_ _
            refine NoPanic.normal ?_
            clear hHeld
            by_cases hc : tlt y.at_ m
            case pos =>
              have HC := Aside0.mk hc
              rw [decide_eq_true hc]
              clear hc
              have g2 : we.cell? ⟨g, 2, none⟩ = some (.slice (some ⟨r, 0, none⟩) L.length c8) := (blk_cell HT.out.box 2).trans rfl
              obtain ⟨v2, v3⟩ := HLC3.out
              have u1 : we.cell? ⟨gz, 0, none⟩ = some (.int .i64 m.1) := (blk_cell HZ.out 0).trans rfl
              have u2 : we.cell? ⟨gz, 1, none⟩ = some (.int .i64 m.2) := (blk_cell HZ.out 1).trans rfl
              have f1 := blk_frozen HZ.out 0
              have f2 := blk_frozen HZ.out 1
              go_wp2_with fail
              have hm1 := blk_put (cs' := #[.int .i64 y.at_.1, .int .i64 m.2]) HZ.out 0 (.int .i64 y.at_.1) rfl
              have hm2 := blk_put (cs' := #[.int .i64 y.at_.1, .int .i64 y.at_.2]) hm1 1 (.int .i64 y.at_.2) rfl
              have HT_ := Aside0.mk ((HT.out.far HZ.out (i := 0) (by decide) HZB.out HZG.out (.int .i64 y.at_.1)).far hm1 (i := 1) (by decide) HZB.out HZG.out (.int .i64 y.at_.2))
              have HN_ := Aside0.mk ((HN.out.far HZW.out (i := 0) (.int .i64 y.at_.1)).far HZW.out (i := 1) (.int .i64 y.at_.2))
              have HZ_ := Aside0.mk hm2
              clear HT HN HZ u1 u2 v2 v3 f1 f2 g2 hm1 hm2
              have HT := Aside0.mk HT_.out
              have HN := Aside0.mk HN_.out
              have HZ := Aside0.mk HZ_.out
              go_roundg (L.length + 1 - j)
              case measure => have h1 := HJ.out; have h2 := HLT.out; omega
              case rel => exact ⟨j + 1, y.at_, congrArg (Value.int .i64) (by first | exact HWI.out | exact HWI2.out | rfl | omega), ⟨by have h1 := HJ.out; have h2 := HLT.out; omega⟩, ⟨HLT.out⟩, ⟨by have h1 := HMD.out; rw [if_pos HC.out] at h1; exact h1.symm.trans HM.out⟩, HT, HN, HZ⟩
            case neg =>
              have HC := Aside0.mk hc
              rw [decide_eq_false hc]
              clear hc
              go_wp2_with fail
              go_roundg (L.length + 1 - j)
              case measure => have h1 := HJ.out; have h2 := HLT.out; omega
              case rel => exact ⟨j + 1, m, congrArg (Value.int .i64) (by first | exact HWI.out | exact HWI2.out | rfl | omega), ⟨by have h1 := HJ.out; have h2 := HLT.out; omega⟩, ⟨HLT.out⟩, ⟨by have h1 := HMD.out; rw [if_neg HC.out] at h1; exact h1.symm.trans HM.out⟩, HT, HN, HZ⟩
      refine AllReadyH.cons (o := ⟨some 90, _, _, _, _, none⟩) rfl (fun K hK => ?_) ?_
      · refine Kd.R_lit_step k63 (w0 := wd) wd.heap.size 67 ?hg (N := 90) ?hd (xs := ([({ s := s, at_ := a, o := o } : Rd S24)] : List (Rd S24))) (inner := [.string s.f0, .string s.f1, .int .i64 a.1, .int .i64 a.2, .int .i64 o]) (ok := fun _ => True) (okp := fun _ => True) ?hr ?hp (fun _ hk => hk) trivial (Below.refl _ _) (Nat.le_refl _) (by simp) ?_
        case hg => rfl
        case hd => rfl
        case hr => first | (go_simp; done) | (go_simp; rfl)
        case hp => exact Reps.c5 (k63_mkM _ _ _ ({ s := s, at_ := a, o := o } : Rd S24)) (Reps.none _ _)
        intro vy wl hoy hb hgy hny
        obtain ⟨Ay, cy, ey⟩ := Kd.R_slice hoy
        subst ey
        have HCY := Aside0.mk (Kd.R_reads' hoy).2.2
        clear hoy hgy hny
        have HX_ := Aside0.mk (td_kept HX.out hb)
        clear HX
        have HX := Aside0.mk HX_.out
        clear HX_
        have HA_ := Aside0.mk (td_kept HA.out hb)
        clear HA
        have HA := Aside0.mk HA_.out
        clear HA_
        have HT_ := Aside0.mk (HT.out.step hb)
        clear HT
        have HT := Aside0.mk HT_.out
        clear HT_
        have HN_ := Aside0.mk (HN.out.trans (Tn.of_below hb))
        clear HN
        have HN := Aside0.mk HN_.out
        clear HN_
        clear hb
        refine hK.out _ _ ⟨(blk_cell HX.out 0).trans rfl, (blk_cell HX.out 1).trans rfl, (blk_cell HA.out 0).trans rfl, (blk_cell HA.out 1).trans rfl⟩ (fun hHeld => ?_)
        clear hK K
        try simp only [Act.put, List.setIfInBounds_toArray, List.set_cons_zero, List.set_cons_succ]
        refine wpAnyH_ready (rs := [4]) (by kernel_rfl) (by simp) (AllReadyH.cons (o := ⟨some 85, _, _, _, _, none⟩) rfl (fun K hK => ?_) AllReadyH.nil)
        have g3 : wl.cell? ⟨g, 2, none⟩ = some (.slice A t.l.length c) := (blk_cell HT.out.box 2).trans rfl
        go_simp
        clear g3
        refine hK.out _ _ hHeld (fun hHeld => ?_)
        clear hK K
        try simp only [Act.put, List.setIfInBounds_toArray, List.set_cons_zero, List.set_cons_succ]
        refine wpAnyH_ready (rs := [10]) (by kernel_rfl) (by simp) (AllReadyH.cons (o := ⟨some 91, _, _, _, _, none⟩) rfl (fun K hK => ?_) AllReadyH.nil)
        refine Kd.R_append_rows_step k63 (Rr := k63.K wl) (w0 := W0) W0.heap.size rfl (.tmp 85) (.tmp 90) 48 67 _ 56 rfl Try.underlying48 info67 rfl (show 0 < 5 by omega) (by omega) (.slice A t.l.length c) t.l [({ s := s, at_ := a, o := o } : Rd S24)] Ay 1 cy (fun _ => True) (fun _ => False) rfl rfl ?aO ?aR (fun x cs h => by rw [k63_open h]; exact k63_mkM _ _ _ x) (fun _ h => h.elim) (fun _ _ => trivial) ?aB ?aS ?aL ?_
        case aO => exact HT.out.row
        case aR => exact HCY.out
        case aB => exact HT.out.below
        case aS => exact HT.out.below.size
        case aL => have := HLEN.out; omega
        intro v8 w8 ho8 hb8 hg8 hat8
        obtain ⟨A8, c8, e8⟩ := Kd.R_slice ho8
        subst e8
        have hn8 := Tn.of_grownR67 (g := none) hg8 HT.out.row
        have HX_ := Aside0.mk (hn8.blk HX.out (by simp) (by decide))
        have HA_ := Aside0.mk (hn8.blk HA.out (by simp) (by decide))
        have HG8 := Aside0.mk (hn8.blk HT.out.box (by simp) (by decide))
        have HN8 := Aside0.mk (HN.out.trans hn8.any)
        have HB8 := Aside0.mk hb8
        have HOWN := Aside0.mk HT.out.own
        rw [HL.out] at ho8
        rw [HL.out]
        have HR8 := Aside0.mk ho8
        clear ho8 hb8 hg8 hat8 hn8 HX HA HT HN HCY
        refine hK.out _ _ ⟨(blk_cell HX_.out 0).trans rfl, (blk_cell HX_.out 1).trans rfl, (blk_cell HA_.out 0).trans rfl, (blk_cell HA_.out 1).trans rfl⟩ (fun hHeld => ?_)
        clear hK K
        try simp only [Act.put, List.setIfInBounds_toArray, List.set_cons_zero, List.set_cons_succ]
        refine tk_ (i := 11) (oi := ⟨some 92, _, _, _, _, none⟩) (v := ?v176) rfl (by rfl) ?y176 (by with_reducible assumption) ?r176
        case y176 => (intro V_ hSw; (try dsimp only at hSw); go_simp; (try with_reducible rfl))
        try simp only [Act.put, List.setIfInBounds_toArray, List.set_cons_zero, List.set_cons_succ]
        refine tk_ (i := 12) (oi := ⟨some 93, _, _, _, _, none⟩) (v := ?v177) rfl (by rfl) ?y177 (by with_reducible assumption) ?r177
        case y177 => (intro V_ hSw; (try dsimp only at hSw); go_simp; (try with_reducible rfl))
        try simp only [Act.put, List.setIfInBounds_toArray, List.set_cons_zero, List.set_cons_succ]
        refine wpAnyH_ready (rs := [13]) (by kernel_rfl) (by simp) (AllReadyH.cons (o := ⟨none, _, _, _, _, none⟩) rfl (fun K hK => ?_) AllReadyH.nil)
        have g3 : w8.cell? ⟨g, 2, none⟩ = some (.slice A t.l.length c) := (blk_cell HG8.out 2).trans rfl
        have f3 := blk_frozen HG8.out 2
        go_simp
        clear g3 f3
        have HT := Aside0.mk (rt_setl HB8.out HOWN.out HG8.out HR8.out)
        have HN := Aside0.mk (HN8.out.trans (Tn.set (i := 2) HOWN.out (.slice A8 L.length c8)))
        have HX := Aside0.mk (blk_far HX_.out (p := ⟨g, 2, none⟩) HNG.out.1 (.slice A8 L.length c8))
        have HA := Aside0.mk (blk_far HA_.out (p := ⟨g, 2, none⟩) HNG.out.2 (.slice A8 L.length c8))
        clear HG8 HN8 HB8 HR8 HX_ HA_
        refine hK.out _ _ ⟨(blk_cell HX.out 0).trans rfl, (blk_cell HX.out 1).trans rfl, (blk_cell HA.out 0).trans rfl, (blk_cell HA.out 1).trans rfl⟩ (fun hHeld => ?_)
        clear hK K
        try simp only [Act.put, List.setIfInBounds_toArray, List.set_cons_zero, List.set_cons_succ]
        refine wpAnyH_done (by kernel_rfl) ?_ _
        refine NoPanic.normal ?_
        clear hHeld HX HA
        generalize hw9 : World.setCell _ _ _ = w9 at HT HN ⊢
        clear hw9
        have g3 : w9.cell? ⟨g, 2, none⟩ = some (.slice A8 L.length c8) := (blk_cell HT.out.box 2).trans rfl
        obtain ⟨r, c9, er, hbr, hlt, cellsr, hcell⟩ := Kd.R_form HT.out.row HPOS.out
        injection er with er _ ec
        subst er; subst ec
        clear hbr hlt hcell
        obtain ⟨ad, e0, y0, hy0, hld⟩ := ld_T63 (Kd.R_reads' HT.out.row).2.2 0 HPOS.out
        cases e0
        rw [add_plain] at hld
        have HY0 := Aside0.mk hy0
        have l2 : w9.cell? ⟨r, 2, none⟩ = some (.int .i64 y0.at_.1) := by have := hld 2 _ rfl; rw [add_field _ _ 2 (by omega)] at this; exact this
        have l3 : w9.cell? ⟨r, 3, none⟩ = some (.int .i64 y0.at_.2) := by have := hld 3 _ rfl; rw [add_field _ _ 3 (by omega)] at this; exact this
        have p9 := eq_true (show (0 : Int) < (L.length : Int) by have := HPOS.out; omega)
        have p9n := eq_true (show 0 < L.length from HPOS.out)
        clear hy0 hld
        go_upto_region 17 with fail
        clear l2 l3 p9 p9n
        generalize hwx : World.alloc w9 _ = wx
        have hb : Below w9.heap.size w9 wx := by rw [← hwx]; exact td_alloc _ _
        have HZ := Aside0.mk (show wx.heap[w9.heap.size]? = some (.cells #[.int .i64 y0.at_.1, .int .i64 y0.at_.2] 31 (0, 0)) from by rw [← hwx]; exact blk_new _ _)
        have HZG := Aside0.mk (show g ≠ w9.heap.size from Nat.ne_of_lt HT.out.lt)
        have HZB := Aside0.mk (show W0.heap.size ≤ w9.heap.size from HT.out.below.size)
        have HZW := Aside0.mk (show W.heap.size ≤ w9.heap.size from HN.out.size)
        clear hwx g3
        have HT_ := Aside0.mk (HT.out.step hb)
        clear HT
        have HT := Aside0.mk HT_.out
        clear HT_
        have HN_ := Aside0.mk (HN.out.trans (Tn.of_below hb))
        clear HN
        have HN := Aside0.mk HN_.out
        clear HN_
        clear hb
        generalize w9.heap.size = gz at HZ HZG HZB HZW ⊢
        have HLM2 := Aside0.mk (Kd.C_max (Kd.R_reads' HT.out.row).2.2)
        have HM0 := Aside0.mk (show Td.least y0.at_ (L.drop 1) = M from by
          have q := least_drop (L := L) (m := y0.at_) (i := 0) HPOS.out
          rw [HY0.out, ite_self, List.drop_zero] at q
          rw [← q, ← HMX.out, HY0.out])
        go_wp2_with fail
        go_loopg [12] (L.length + 1) (fun gg v wr => ∃ (j : Nat) (m : Int × Int), v = .int .i64 (j : Int) ∧ Aside0 (j + gg = L.length + 2) ∧ Aside0 (j ≤ L.length) ∧ Aside0 (Td.least m (L.drop j) = M) ∧ Aside0 (RtA W0 wr g { low := t.low, l := L } (some ⟨r, 0, none⟩) c8) ∧ Aside0 (Tn W0.heap.size (some g) 67 W wr) ∧ Aside0 (wr.heap[gz]? = some (.cells #[.int .i64 m.1, .int .i64 m.2] 31 (0, 0))))
        case atStart => exact ⟨1, y0.at_, rfl, ⟨by omega⟩, ⟨HPOS.out⟩, HM0, HT, HN, HZ⟩
        case round =>
          clear HT HN HZ
          obtain ⟨j, m, rfl, HJ, HJL, HM, HT, HN, HZ⟩ := hrel
          have g3 : wr.cell? ⟨g, 2, none⟩ = some (.slice (some ⟨r, 0, none⟩) L.length c8) := (blk_cell HT.out.box 2).trans rfl
          by_cases hlt : j < L.length
          case neg =>
            have d2 : decide ((j : Int) < (L.length : Int)) = false := decide_eq_false (by omega)
            have d2n : decide (j < L.length) = false := decide_eq_false hlt
            have ei : j = L.length := by have := HJL.out; omega
            have hm := HM.out
            rw [ei, List.drop_length] at hm
            have HMM := Aside0.mk (show m = M from hm)
            clear hm ei hlt
            have z0 : wr.cell? ⟨gz, 0, none⟩ = some (.int .i64 m.1) := (blk_cell HZ.out 0).trans rfl
            have z1 : wr.cell? ⟨gz, 1, none⟩ = some (.int .i64 m.2) := (blk_cell HZ.out 1).trans rfl
            have u1 : wr.cell? ⟨g, 0, none⟩ = some (.int .i64 t.low.1) := (blk_cell HT.out.box 0).trans rfl
            have u2 : wr.cell? ⟨g, 1, none⟩ = some (.int .i64 t.low.2) := (blk_cell HT.out.box 1).trans rfl
            have f1 := blk_frozen HT.out.box 0
            have f2 := blk_frozen HT.out.box 1
            go_upto_region 23 with fail
            have HN_ := Aside0.mk ((HN.out.trans (Tn.set (i := 0) HT.out.own (.int .i64 m.1))).trans (Tn.set (i := 1) HT.out.own (.int .i64 m.2)))
            have HT_ := Aside0.mk (rt_setlow m HT.out)
            clear HT HN u1 u2 z0 z1 f1 f2 g3 HZ
            generalize hwx : World.setCell _ _ _ = wx at HT_ HN_ ⊢
            clear hwx
            go_wp2_with fail
            refine (rt_forget W0 wx g _ ⟨_, _, HT_.out⟩ (by show L.length ≤ 65; have h1 := HLL.out; have h2 := HLEN.out; omega)).mono ?_
            rintro e wz ⟨rfl, hTz, hNz⟩
            have HTz := Aside0.mk hTz
            have HNz := Aside0.mk (HN_.out.trans hNz)
            clear hTz hNz
            go_wp2_with fail
            go_ret
            exact ⟨rfl, by have q := HTz.out; rw [HMM.out] at q; exact q, HNz.out⟩
          case pos =>
            have d2 : decide ((j : Int) < (L.length : Int)) = true := decide_eq_true (by omega)
            have d2n : decide (j < L.length) = true := decide_eq_true hlt
            have hmd := least_drop (m := m) hlt
            obtain ⟨ad, e0, y, hy, hld⟩ := ld_T63 (Kd.R_reads' HT.out.row).2.2 j hlt
            cases e0
            rw [hy] at hmd
            rw [add_plain] at hld
            have HMD := Aside0.mk hmd
            have HLC2 := Aside0.mk (fun (V : World) (hV : Below wr.heap.size wr V) => And.intro (show V.cell? ⟨r, j * 5 + 2, none⟩ = some (.int .i64 y.at_.1) from by have q := (hV.cell (World.block_lt_of_cell? wr _ (hld 2 _ rfl))).trans (hld 2 _ rfl); rw [add_field _ _ 2 (by omega)] at q; exact q) (show V.cell? ⟨r, j * 5 + 3, none⟩ = some (.int .i64 y.at_.2) from by have q := (hV.cell (World.block_lt_of_cell? wr _ (hld 3 _ rfl))).trans (hld 3 _ rfl); rw [add_field _ _ 3 (by omega)] at q; exact q))
            have HLT := Aside0.mk hlt
            have p0 := eq_true (show (0 : Int) ≤ (j : Int) by omega)
            have q0 := eq_true (show (j : Int) < (L.length : Int) by omega)
            have q0n := eq_true hlt
            have hwi : Go.RowKit.wrap64 ((j : Int) + 1) = ((j + 1 : Nat) : Int) := by
              have := HLM2.out
              unfold Go.RowKit.wrap64
              omega
            have HWI := Aside0.mk hwi
            have HWI2 := Aside0.mk ((i64_w ((j : Int) + 1)).trans hwi)
            clear hy hmd hld hlt hwi
            go_upto_region 20 with fail
            clear g3
            refine wp_region_noPanic ?_
            refine wp_region_held_drew (S := (fun V => V.cell? ⟨g, 2, none⟩ = some (.slice (some ⟨r, 0, none⟩) L.length c8) ∧ V.cell? ⟨gz, 0, none⟩ = some (.int .i64 m.1) ∧ V.cell? ⟨gz, 1, none⟩ = some (.int .i64 m.2) ∧ V.cell? ⟨r, j * 5 + 2, none⟩ = some (.int .i64 y.at_.1) ∧ V.cell? ⟨r, j * 5 + 3, none⟩ = some (.int .i64 y.at_.2))) (by kernel_rfl) ⟨(blk_cell (td_kept HT.out.box (below_drew1 (Below.refl _ _))) 2).trans rfl, (blk_cell (td_kept HZ.out (below_drew1 (Below.refl _ _))) 0).trans rfl, (blk_cell (td_kept HZ.out (below_drew1 (Below.refl _ _))) 1).trans rfl, HLC2.out _ (below_drew1 (Below.refl _ _))⟩ (fun hHeld => ?_)
            generalize hwd : World.drew _ = wd at hHeld ⊢
            have hb : Below wr.heap.size wr wd := by rw [← hwd]; exact below_drew1 (Below.refl _ _)
            clear hwd
            have HLC2_ := Aside0.mk (fun (V : World) (hV : Below wd.heap.size wd V) => HLC2.out V (below_step hb hV))
            clear HLC2
            have HLC2 := Aside0.mk HLC2_.out
            clear HLC2_
            have HT_ := Aside0.mk (HT.out.step hb)
            clear HT
            have HT := Aside0.mk HT_.out
            clear HT_
            have HN_ := Aside0.mk (HN.out.trans (Tn.of_below hb))
            clear HN
            have HN := Aside0.mk HN_.out
            clear HN_
            have HZ_ := Aside0.mk (td_kept HZ.out hb)
            clear HZ
            have HZ := Aside0.mk HZ_.out
            clear HZ_
            clear hb
            refine tk_ (i := 0) (oi := ⟨some 116, _, _, _, _, none⟩) (v := ?v178) rfl (by rfl) ?y178 (by with_reducible assumption) ?r178
            case y178 => (intro V_ hSw; (try dsimp only at hSw); go_simp; (try with_reducible rfl))
            try simp only [Act.put, List.setIfInBounds_toArray, List.set_cons_zero, List.set_cons_succ]
            refine tk_ (i := 1) (oi := ⟨some 117, _, _, _, _, none⟩) (v := ?v179) rfl (by rfl) ?y179 (by with_reducible assumption) ?r179
            case y179 => (intro V_ hSw; (try dsimp only at hSw); go_simp; (try with_reducible rfl))
            try simp only [Act.put, List.setIfInBounds_toArray, List.set_cons_zero, List.set_cons_succ]
            refine tk_ (i := 2) (oi := ⟨some 118, _, _, _, _, none⟩) (v := ?v180) rfl (by rfl) ?y180 (by with_reducible assumption) ?r180
            case y180 => (intro V_ hSw; (try dsimp only at hSw); go_simp; (try with_reducible rfl))
            try simp only [Act.put, List.setIfInBounds_toArray, List.set_cons_zero, List.set_cons_succ]
            refine tk_ (i := 3) (oi := ⟨some 119, _, _, _, _, none⟩) (v := ?v181) rfl (by rfl) ?y181 (by with_reducible assumption) ?r181
            case y181 => (intro V_ hSw; (try dsimp only at hSw); go_simp; (try with_reducible rfl))
            try simp only [Act.put, List.setIfInBounds_toArray, List.set_cons_zero, List.set_cons_succ]
            refine tk_ (i := 4) (oi := ⟨some 120, _, _, _, _, none⟩) (v := ?v182) rfl (by rfl) ?y182 (by with_reducible assumption) ?r182
            case y182 => (intro V_ hSw; (try dsimp only at hSw); go_simp; (try with_reducible rfl))
            try simp only [Act.put, List.setIfInBounds_toArray, List.set_cons_zero, List.set_cons_succ]
            refine tk_ (i := 5) (oi := ⟨some 121, _, _, _, _, none⟩) (v := ?v183) rfl (by rfl) ?y183 (by with_reducible assumption) ?r183
            case y183 => (intro V_ hSw; (try dsimp only at hSw); go_simp; (try with_reducible rfl))
            try simp only [Act.put, List.setIfInBounds_toArray, List.set_cons_zero, List.set_cons_succ]
            refine tk_ (i := 6) (oi := ⟨some 122, _, _, _, _, none⟩) (v := ?v184) rfl (by rfl) ?y184 (by with_reducible assumption) ?r184
            case y184 => (intro V_ hSw; (try dsimp only at hSw); go_simp; (try with_reducible rfl))
            try simp only [Act.put, List.setIfInBounds_toArray, List.set_cons_zero, List.set_cons_succ]
            refine tk_ (i := 7) (oi := ⟨some 123, _, _, _, _, none⟩) (v := ?v185) rfl (by rfl) ?y185 (by with_reducible assumption) ?r185
            case y185 => (intro V_ hSw; (try dsimp only at hSw); go_simp; (try with_reducible rfl))
            try simp only [Act.put, List.setIfInBounds_toArray, List.set_cons_zero, List.set_cons_succ]
            refine tk_ (i := 8) (oi := ⟨some 124, _, _, _, _, none⟩) (v := ?v186) rfl (by rfl) ?y186 (by with_reducible assumption) ?r186
            case y186 => (intro V_ hSw; (try dsimp only at hSw); go_simp; (try with_reducible rfl))
            try simp only [Act.put, List.setIfInBounds_toArray, List.set_cons_zero, List.set_cons_succ]
            refine wpAnyH_ready (rs := [9]) (by kernel_rfl) (by simp) (AllReadyH.cons (o := ⟨some 125, _, _, _, _, none⟩) rfl (fun K hK => ?_) AllReadyH.nil)
            go_simp
            refine (rl_less y.at_ m _).mono ?_
            rintro e we ⟨rfl, hb⟩
            have HLC3 := Aside0.mk (HLC2.out _ hb)
            have HT_ := Aside0.mk (HT.out.step hb)
            clear HT
            have HT := Aside0.mk HT_.out
            clear HT_
            have HN_ := Aside0.mk (HN.out.trans (Tn.of_below hb))
            clear HN
            have HN := Aside0.mk HN_.out
            clear HN_
            have HZ_ := Aside0.mk (td_kept HZ.out hb)
            clear HZ
            have HZ := Aside0.mk HZ_.out
            clear HZ_
            clear hb
            refine hK.out _ _ ⟨(blk_cell HT.out.box 2).trans rfl, (blk_cell HZ.out 0).trans rfl, (blk_cell HZ.out 1).trans rfl, HLC3.out⟩ (fun hHeld => ?_)
            clear hK K
            try simp only [Act.put, List.setIfInBounds_toArray, List.set_cons_zero, List.set_cons_succ]
            refine wpAnyH_done (by kernel_rfl) ?_ _
            refine NoPanic.normal ?_
            clear hHeld
            by_cases hc : tlt y.at_ m
            case pos =>
              have HC := Aside0.mk hc
              rw [decide_eq_true hc]
              clear hc
              have g2 : we.cell? ⟨g, 2, none⟩ = some (.slice (some ⟨r, 0, none⟩) L.length c8) := (blk_cell HT.out.box 2).trans rfl
              obtain ⟨v2, v3⟩ := HLC3.out
              have u1 : we.cell? ⟨gz, 0, none⟩ = some (.int .i64 m.1) := (blk_cell HZ.out 0).trans rfl
              have u2 : we.cell? ⟨gz, 1, none⟩ = some (.int .i64 m.2) := (blk_cell HZ.out 1).trans rfl
              have f1 := blk_frozen HZ.out 0
              have f2 := blk_frozen HZ.out 1
              go_wp2_with fail
              have hm1 := blk_put (cs' := #[.int .i64 y.at_.1, .int .i64 m.2]) HZ.out 0 (.int .i64 y.at_.1) rfl
              have hm2 := blk_put (cs' := #[.int .i64 y.at_.1, .int .i64 y.at_.2]) hm1 1 (.int .i64 y.at_.2) rfl
              have HT_ := Aside0.mk ((HT.out.far HZ.out (i := 0) (by decide) HZB.out HZG.out (.int .i64 y.at_.1)).far hm1 (i := 1) (by decide) HZB.out HZG.out (.int .i64 y.at_.2))
              have HN_ := Aside0.mk ((HN.out.far HZW.out (i := 0) (.int .i64 y.at_.1)).far HZW.out (i := 1) (.int .i64 y.at_.2))
              have HZ_ := Aside0.mk hm2
              clear HT HN HZ u1 u2 v2 v3 f1 f2 g2 hm1 hm2
              have HT := Aside0.mk HT_.out
              have HN := Aside0.mk HN_.out
              have HZ := Aside0.mk HZ_.out
              go_roundg (L.length + 1 - j)
              case measure => have h1 := HJ.out; have h2 := HLT.out; omega
              case rel => exact ⟨j + 1, y.at_, congrArg (Value.int .i64) (by first | exact HWI.out | exact HWI2.out | rfl | omega), ⟨by have h1 := HJ.out; have h2 := HLT.out; omega⟩, ⟨HLT.out⟩, ⟨by have h1 := HMD.out; rw [if_pos HC.out] at h1; exact h1.symm.trans HM.out⟩, HT, HN, HZ⟩
            case neg =>
              have HC := Aside0.mk hc
              rw [decide_eq_false hc]
              clear hc
              go_wp2_with fail
              go_roundg (L.length + 1 - j)
              case measure => have h1 := HJ.out; have h2 := HLT.out; omega
              case rel => exact ⟨j + 1, m, congrArg (Value.int .i64) (by first | exact HWI.out | exact HWI2.out | rfl | omega), ⟨by have h1 := HJ.out; have h2 := HLT.out; omega⟩, ⟨HLT.out⟩, ⟨by have h1 := HMD.out; rw [if_neg HC.out] at h1; exact h1.symm.trans HM.out⟩, HT, HN, HZ⟩
      exact AllReadyH.nil
theorem rt_add (W0 W : World) (g : Nat) (t : Td S24) (s : S24) (a : Int × Int) (o : Int) (h : RtAt W0 W g t) (hlen : t.l.length ≤ 64) : Calls Try.prog 21 #[.pointer (some ⟨g, 0, none⟩), .agg #[.string s.f0, .string s.f1], .agg #[.int .i64 a.1, .int .i64 a.2], .int .i64 o] W (RtPost W0 W g (if addErr s a o = 0 then t.add s a o else t) (.returned (.int .i64 (addErr s a o)))) := by
  obtain ⟨A, c, h⟩ := h
  by_cases hs : spErr s = 0
  · by_cases hk : sok a = true
    · by_cases ho : own o = true
      · have e0 : addErr s a o = 0 := by
          unfold addErr
          rw [if_neg (by simpa using hs), if_pos ⟨hk, ho⟩]
        rw [e0, if_pos rfl]
        by_cases hl : tlt t.low a
        · rcases first_hit (same s o) t.l with hm | ⟨k, k1, k2, k3⟩
          · rw [add_push hl hm]
            by_cases h64 : (t.l ++ [({ s := s, at_ := a, o := o } : Rd S24)]).length ≤ 64
            · rw [push_small h64]; exact rt_add_small W0 W g t A c s a o h hs hk ho hl hm hlen h64
            · rw [push_big h64]; exact rt_add_big W0 W g t A c s a o h hs hk ho hl hm hlen h64
          · rw [add_up hl k1 k2 k3]; exact rt_add_up W0 W g t A c s a o h hs hk ho hl k k1 k2 k3
        · have e : t.add s a o = t := if_neg hl
          rw [e]; exact rt_add_low W0 W g t A c s a o h hs hk ho (decide_eq_false hl)
      · have e0 : addErr s a o = 2 := by
          unfold addErr
          rw [if_neg (by simpa using hs), if_neg (fun q => ho q.2)]
        rw [e0, if_neg (by decide)]; exact rt_add_bad3 W0 W g t A c s a o h hs hk (by simpa using ho)
    · have e0 : addErr s a o = 2 := by
        unfold addErr
        rw [if_neg (by simpa using hs), if_neg (fun q => hk q.1)]
      rw [e0, if_neg (by decide)]; exact rt_add_bad2 W0 W g t A c s a o h hs (by simpa using hk)
  · have e0 : addErr s a o = spErr s := by
      unfold addErr
      rw [if_pos hs]
    rw [e0, if_neg hs]; exact rt_add_bad1 W0 W g t A c s a o h hs
end Go.Proofs.Ytaccfbpfennjkaa.PTideDoes

