/- The tide (typed by hand): Add: a read put behind the others. -/
import Derived.Test.YtaccfbpfennjkaaTd6
namespace Go.Proofs.Ytaccfbpfennjkaa.PTideDoes
open Go.RowKit Go.Proofs.YtaccfbpfennjkaaW.PrintWords Go.Proofs.YtaccfbpfennjkaaW.PrintLast Go.Proofs.YtaccfbpfennjkaaW.PrintMore
attribute [local go_sem] max2_int min2_int max_two min_two max_three min_three max_four min_four   -- for this text's walks alone
set_option linter.unusedVariables false
set_option linter.unusedSimpArgs false
theorem td_setlow {W0 w3 : World} {g : Nat} {t : Td S24} {A : Option Addr} {c : Nat} (a : Int × Int) (h : TdA W0 w3 g t A c) :
    TdA W0 ((w3.setCell ⟨g, 1, none⟩ (.int .i64 a.1)).setCell ⟨g, 2, none⟩ (.int .i64 a.2)) g { low := a, l := t.l } A c := by
  have h1 : (w3.setCell ⟨g, 1, none⟩ (.int .i64 a.1)).heap[g]? = some (.cells #[.bool true, .int .i64 a.1, .int .i64 t.low.2, .slice A t.l.length c] 58 (0, 0)) := blk_put (cs := t.cells A c) h.box 1 _ rfl
  exact ⟨(h.below.setCell (p := ⟨g, 1, none⟩) h.own _).setCell (p := ⟨g, 2, none⟩) h.own _, h.own, blk_put h1 2 _ rfl, Kd.R_set (Kd.R_set h.row h.box (fun q hq => k63_ne hq (by decide)) 1 _) h1 (fun q hq => k63_ne hq (by decide)) 2 _⟩
theorem td_setl {W0 w3 : World} {g : Nat} {t : Td S24} {A A3 : Option Addr} {c c3 : Nat} {l3 : List (Rd S24)} (hb : Below W0.heap.size W0 w3) (hown : W0.heap.size ≤ g) (hG : w3.heap[g]? = some (.cells (t.cells A c) 58 (0, 0))) (hR : Kd.R k63 63 w3 W0.heap.size (fun _ => True) (.slice A3 l3.length c3) l3) :
    TdA W0 (w3.setCell ⟨g, 3, none⟩ (.slice A3 l3.length c3)) g { low := t.low, l := l3 } A3 c3 :=
  ⟨hb.setCell (p := ⟨g, 3, none⟩) hown _, hown, blk_put (cs := t.cells A c) hG 3 _ rfl, Kd.R_set hR hG (fun q hq => k63_ne hq (by decide)) 3 _⟩
theorem push_small {t : Td S24} {y : Rd S24} (h : (t.l ++ [y]).length ≤ 64) : t.push y = { t with l := t.l ++ [y] } := if_pos h
theorem push_big {t : Td S24} {y : Rd S24} (h : ¬ (t.l ++ [y]).length ≤ 64) : t.push y = Td.forget { low := Td.least ((t.l ++ [y]).getD 0 z63).at_ (t.l ++ [y]), l := t.l ++ [y] } := by
  unfold Td.push
  rw [if_neg h]
  have e : (t.l ++ [y]).headD y = (t.l ++ [y]).getD 0 z63 := by
    cases t.l <;> rfl
  rw [e]
set_option maxHeartbeats 16000000 in
set_option maxRecDepth 100000 in
theorem td_add_small (W0 W : World) (g : Nat) (t : Td S24) (A : Option Addr) (c : Nat) (s : S24) (a : Int × Int) (o : Int) (h : TdA W0 W g t A c) (hs : spErr s = 0) (hk : sok a = true) (ho : own o = true) (hl : tlt t.low a) (hm : ∀ j, j < t.l.length → same s o (t.l.getD j z63) = false) (hlen : t.l.length ≤ 64) (h64 : (t.l ++ [({ s := s, at_ := a, o := o } : Rd S24)]).length ≤ 64) : Calls Try.prog 11 #[.pointer (some ⟨g, 0, none⟩), .agg #[.string s.f0, .string s.f1], .agg #[.int .i64 a.1, .int .i64 a.2], .int .i64 o] W (TdPost W0 W g { t with l := t.l ++ [({ s := s, at_ := a, o := o } : Rd S24)] } (.returned (.int .i64 0))) := by
  have HT0 := Aside0.mk h
  have HS := Aside0.mk hs
  have HK := Aside0.mk hk
  have HW := Aside0.mk ho
  have HLW := Aside0.mk (decide_eq_true hl)
  have HIX := Aside0.mk (show IsIdx (same s o) t.l (-1) from .inl ⟨rfl, hm⟩)
  have HLEN := Aside0.mk hlen
  obtain ⟨L, hL⟩ : ∃ L, t.l ++ [({ s := s, at_ := a, o := o } : Rd S24)] = L := ⟨_, rfl⟩
  have HL := Aside0.mk hL
  rw [hL] at h64
  rw [hL]
  have d1 : decide ((64 : Int) < (L.length : Int)) = false := decide_eq_false (by omega)
  have d1n : decide (64 < L.length) = false := decide_eq_false (by omega)
  clear h hs hk ho hl hm hL h64 hlen
  go_enter Try.func11, Try.ntmps11
  go_upto_region 1 with fail
  generalize hw1 : World.alloc (World.alloc (World.alloc W _) _) _ = w1
  have hb : Below W.heap.size W w1 := by rw [← hw1]; exact below_alloc (below_alloc (td_alloc W _) _) _
  have e1_ : (W.alloc (.cells #[.string s.f0, .string s.f1] 24)).heap.size = W.heap.size + 1 := Array.size_push _
  have e2_ : ((W.alloc (.cells #[.string s.f0, .string s.f1] 24)).alloc (.cells #[.int .i64 a.1, .int .i64 a.2] 31)).heap.size = W.heap.size + 2 := (Array.size_push _).trans (congrArg (· + 1) e1_)
  have HX := Aside0.mk (show w1.heap[W.heap.size]? = some (.cells #[.string s.f0, .string s.f1] 24 (0, 0)) from by rw [← hw1]; exact td_kept (td_kept (blk_new W _) (td_alloc _ _)) (td_alloc _ _))
  have HA := Aside0.mk (show w1.heap[W.heap.size + 1]? = some (.cells #[.int .i64 a.1, .int .i64 a.2] 31 (0, 0)) from by
    have q := td_kept (blk_new (W.alloc (.cells #[.string s.f0, .string s.f1] 24)) (.cells #[.int .i64 a.1, .int .i64 a.2] 31)) (td_alloc _ (.cells #[.int .i64 o] 3))
    rw [e1_, hw1] at q
    exact q)
  have HO := Aside0.mk (show w1.heap[W.heap.size + 2]? = some (.cells #[.int .i64 o] 3 (0, 0)) from by
    have q := blk_new ((W.alloc (.cells #[.string s.f0, .string s.f1] 24)).alloc (.cells #[.int .i64 a.1, .int .i64 a.2] 31)) (.cells #[.int .i64 o] 3)
    rw [e2_, hw1] at q
    exact q)
  have HNG := Aside0.mk (And.intro (Nat.ne_of_gt HT0.out.lt) (And.intro (show W.heap.size + 1 ≠ g from by have := HT0.out.lt; omega) (show W.heap.size + 2 ≠ g from by have := HT0.out.lt; omega)))
  have HT := Aside0.mk (HT0.out.step hb)
  have HN := Aside0.mk (Tn.of_below (B := W0.heap.size) (g := some g) (ty := 63) hb)
  clear hw1 hb e1_ e2_
  generalize W.heap.size = n at HX HA HO HNG ⊢
  go_wp2_with fail
  refine (td_none W0 w1 g t HT.out.at_).mono ?_
  rintro e w2 ⟨rfl, hb⟩
  have HX_ := Aside0.mk (td_kept HX.out hb)
  clear HX
  have HX := Aside0.mk HX_.out
  clear HX_
  have HA_ := Aside0.mk (td_kept HA.out hb)
  clear HA
  have HA := Aside0.mk HA_.out
  clear HA_
  have HO_ := Aside0.mk (td_kept HO.out hb)
  clear HO
  have HO := Aside0.mk HO_.out
  clear HO_
  have HT_ := Aside0.mk (HT.out.step hb)
  clear HT
  have HT := Aside0.mk HT_.out
  clear HT_
  have HN_ := Aside0.mk (HN.out.trans (Tn.of_below hb))
  clear HN
  have HN := Aside0.mk HN_.out
  clear HN_
  clear hb
  have x0 : w2.cell? ⟨n, 0, none⟩ = some (.string s.f0) := (blk_cell HX.out 0).trans rfl
  have x1 : w2.cell? ⟨n, 1, none⟩ = some (.string s.f1) := (blk_cell HX.out 1).trans rfl
  go_wp2_with fail
  refine (td_sp s _).mono ?_
  rintro e w3 ⟨rfl, hb⟩
  clear x0 x1
  have HX_ := Aside0.mk (td_kept HX.out hb)
  clear HX
  have HX := Aside0.mk HX_.out
  clear HX_
  have HA_ := Aside0.mk (td_kept HA.out hb)
  clear HA
  have HA := Aside0.mk HA_.out
  clear HA_
  have HO_ := Aside0.mk (td_kept HO.out hb)
  clear HO
  have HO := Aside0.mk HO_.out
  clear HO_
  have HT_ := Aside0.mk (HT.out.step hb)
  clear HT
  have HT := Aside0.mk HT_.out
  clear HT_
  have HN_ := Aside0.mk (HN.out.trans (Tn.of_below hb))
  clear HN
  have HN := Aside0.mk HN_.out
  clear HN_
  clear hb
  rw [HS.out]
  have a0 : w3.cell? ⟨n + 1, 0, none⟩ = some (.int .i64 a.1) := (blk_cell HA.out 0).trans rfl
  have a1 : w3.cell? ⟨n + 1, 1, none⟩ = some (.int .i64 a.2) := (blk_cell HA.out 1).trans rfl
  go_wp2_with fail
  refine (td_chk a _).mono ?_
  rintro e w4 ⟨rfl, hb⟩
  clear a0 a1
  have HX_ := Aside0.mk (td_kept HX.out hb)
  clear HX
  have HX := Aside0.mk HX_.out
  clear HX_
  have HA_ := Aside0.mk (td_kept HA.out hb)
  clear HA
  have HA := Aside0.mk HA_.out
  clear HA_
  have HO_ := Aside0.mk (td_kept HO.out hb)
  clear HO
  have HO := Aside0.mk HO_.out
  clear HO_
  have HT_ := Aside0.mk (HT.out.step hb)
  clear HT
  have HT := Aside0.mk HT_.out
  clear HT_
  have HN_ := Aside0.mk (HN.out.trans (Tn.of_below hb))
  clear HN
  have HN := Aside0.mk HN_.out
  clear HN_
  clear hb
  rw [HK.out]
  have o0 : w4.cell? ⟨n + 2, 0, none⟩ = some (.int .i64 o) := (blk_cell HO.out 0).trans rfl
  go_wp2_with fail
  refine (td_own o _).mono ?_
  rintro e w5 ⟨rfl, hb⟩
  clear o0
  have HX_ := Aside0.mk (td_kept HX.out hb)
  clear HX
  have HX := Aside0.mk HX_.out
  clear HX_
  have HA_ := Aside0.mk (td_kept HA.out hb)
  clear HA
  have HA := Aside0.mk HA_.out
  clear HA_
  have HO_ := Aside0.mk (td_kept HO.out hb)
  clear HO
  have HO := Aside0.mk HO_.out
  clear HO_
  have HT_ := Aside0.mk (HT.out.step hb)
  clear HT
  have HT := Aside0.mk HT_.out
  clear HT_
  have HN_ := Aside0.mk (HN.out.trans (Tn.of_below hb))
  clear HN
  have HN := Aside0.mk HN_.out
  clear HN_
  clear hb
  rw [HW.out]
  go_upto_region 8 with fail
  refine wp_region_noPanic ?_
  refine wp_region_held_drew (S := (fun V => V.cell? ⟨n + 1, 0, none⟩ = some (.int .i64 a.1) ∧ V.cell? ⟨n + 1, 1, none⟩ = some (.int .i64 a.2) ∧ V.cell? ⟨g, 1, none⟩ = some (.int .i64 t.low.1) ∧ V.cell? ⟨g, 2, none⟩ = some (.int .i64 t.low.2))) (by kernel_rfl) ⟨(blk_cell (td_kept HA.out (below_drew1 (Below.refl _ _))) 0).trans rfl, (blk_cell (td_kept HA.out (below_drew1 (Below.refl _ _))) 1).trans rfl, (blk_cell (td_kept HT.out.box (below_drew1 (Below.refl _ _))) 1).trans rfl, (blk_cell (td_kept HT.out.box (below_drew1 (Below.refl _ _))) 2).trans rfl⟩ (fun hHeld => ?_)
  generalize hwd : World.drew _ = wd at hHeld ⊢
  have hb : Below w5.heap.size w5 wd := by rw [← hwd]; exact below_drew1 (Below.refl _ _)
  clear hwd
  have HX_ := Aside0.mk (td_kept HX.out hb)
  clear HX
  have HX := Aside0.mk HX_.out
  clear HX_
  have HA_ := Aside0.mk (td_kept HA.out hb)
  clear HA
  have HA := Aside0.mk HA_.out
  clear HA_
  have HO_ := Aside0.mk (td_kept HO.out hb)
  clear HO
  have HO := Aside0.mk HO_.out
  clear HO_
  have HT_ := Aside0.mk (HT.out.step hb)
  clear HT
  have HT := Aside0.mk HT_.out
  clear HT_
  have HN_ := Aside0.mk (HN.out.trans (Tn.of_below hb))
  clear HN
  have HN := Aside0.mk HN_.out
  clear HN_
  clear hb
  refine wpAnyH_take (i := 0) (oi := ⟨some 28, _, _, _, _, none⟩) (v := ?v0_1) rfl (by kernel_rfl) (by kernel_rfl) (by kernel_rfl) (fun _ _ _ h => h) (Or.inl ⟨by rfl, ?hy0_1⟩) (by with_reducible assumption) ?rest0_1
  case hy0_1 => (intro V_ hSw; (try dsimp only at hSw); go_simp; (try with_reducible rfl))
  case' rest0_1 => skip
  try simp only [Act.put, List.setIfInBounds_toArray, List.set_cons_zero, List.set_cons_succ]
  refine wpAnyH_take (i := 1) (oi := ⟨some 29, _, _, _, _, none⟩) (v := ?v1_2) rfl (by kernel_rfl) (by kernel_rfl) (by kernel_rfl) (fun _ _ _ h => h) (Or.inl ⟨by rfl, ?hy1_2⟩) (by with_reducible assumption) ?rest1_2
  case hy1_2 => (intro V_ hSw; (try dsimp only at hSw); go_simp; (try with_reducible rfl))
  case' rest1_2 => skip
  try simp only [Act.put, List.setIfInBounds_toArray, List.set_cons_zero, List.set_cons_succ]
  refine wpAnyH_take (i := 2) (oi := ⟨some 30, _, _, _, _, none⟩) (v := ?v2_3) rfl (by kernel_rfl) (by kernel_rfl) (by kernel_rfl) (fun _ _ _ h => h) (Or.inl ⟨by rfl, ?hy2_3⟩) (by with_reducible assumption) ?rest2_3
  case hy2_3 => (intro V_ hSw; (try dsimp only at hSw); go_simp; (try with_reducible rfl))
  case' rest2_3 => skip
  try simp only [Act.put, List.setIfInBounds_toArray, List.set_cons_zero, List.set_cons_succ]
  refine wpAnyH_take (i := 3) (oi := ⟨some 31, _, _, _, _, none⟩) (v := ?v3_4) rfl (by kernel_rfl) (by kernel_rfl) (by kernel_rfl) (fun _ _ _ h => h) (Or.inl ⟨by rfl, ?hy3_4⟩) (by with_reducible assumption) ?rest3_4
  case hy3_4 => (intro V_ hSw; (try dsimp only at hSw); go_simp; (try with_reducible rfl))
  case' rest3_4 => skip
  try simp only [Act.put, List.setIfInBounds_toArray, List.set_cons_zero, List.set_cons_succ]
  refine wpAnyH_take (i := 4) (oi := ⟨some 32, _, _, _, _, none⟩) (v := ?v4_5) rfl (by kernel_rfl) (by kernel_rfl) (by kernel_rfl) (fun _ _ _ h => h) (Or.inl ⟨by rfl, ?hy4_5⟩) (by with_reducible assumption) ?rest4_5
  case hy4_5 => (intro V_ hSw; (try dsimp only at hSw); go_simp; (try with_reducible rfl))
  case' rest4_5 => skip
  try simp only [Act.put, List.setIfInBounds_toArray, List.set_cons_zero, List.set_cons_succ]
  refine wpAnyH_ready (rs := [5]) (by kernel_rfl) (by simp) ?_
  refine AllReadyH.cons (o := ⟨some 33, _, _, _, _, none⟩) rfl (fun K hK => ?_) ?_
  · go_simp
    refine (td_less t.low a _).mono ?_
    rintro e w6 ⟨rfl, hb⟩
    have HX_ := Aside0.mk (td_kept HX.out hb)
    clear HX
    have HX := Aside0.mk HX_.out
    clear HX_
    have HA_ := Aside0.mk (td_kept HA.out hb)
    clear HA
    have HA := Aside0.mk HA_.out
    clear HA_
    have HO_ := Aside0.mk (td_kept HO.out hb)
    clear HO
    have HO := Aside0.mk HO_.out
    clear HO_
    have HT_ := Aside0.mk (HT.out.step hb)
    clear HT
    have HT := Aside0.mk HT_.out
    clear HT_
    have HN_ := Aside0.mk (HN.out.trans (Tn.of_below hb))
    clear HN
    have HN := Aside0.mk HN_.out
    clear HN_
    clear hb
    rw [HLW.out]
    refine hK.out _ _ ⟨(blk_cell (td_kept HA.out (Below.refl _ _)) 0).trans rfl, (blk_cell (td_kept HA.out (Below.refl _ _)) 1).trans rfl, (blk_cell (td_kept HT.out.box (Below.refl _ _)) 1).trans rfl, (blk_cell (td_kept HT.out.box (Below.refl _ _)) 2).trans rfl⟩ (fun hHeld => ?_)
    clear hK K
    try simp only [Act.put, List.setIfInBounds_toArray, List.set_cons_zero, List.set_cons_succ]
    refine wpAnyH_take (i := 6) (oi := ⟨some 34, _, _, _, _, none⟩) (v := ?v6_6) rfl (by kernel_rfl) (by kernel_rfl) (by kernel_rfl) (fun _ _ _ h => h) (Or.inl ⟨by rfl, ?hy6_6⟩) (by with_reducible assumption) ?rest6_6
    case hy6_6 => (intro V_ hSw; (try dsimp only at hSw); go_simp; (try with_reducible rfl))
    case' rest6_6 => skip
    try simp only [Act.put, List.setIfInBounds_toArray, List.set_cons_zero, List.set_cons_succ]
    refine wpAnyH_done (by kernel_rfl) ?_ _
    refine NoPanic.normal ?_
    clear hHeld
    have g3 : w6.cell? ⟨g, 3, none⟩ = some (.slice A t.l.length c) := (blk_cell HT.out.box 3).trans rfl
    go_wp2_with fail
    refine (td_index35 (same s o) n (n + 2) A c t.l (-1) HIX.out w6 (Kd.R_reads' HT.out.row).2.2 (fun V x hV => td_same s o x n (n + 2) V (td_kept HX.out hV) (td_kept HO.out hV))).mono ?_
    rintro e w7 ⟨rfl, hb⟩
    clear g3
    have HX_ := Aside0.mk (td_kept HX.out hb)
    clear HX
    have HX := Aside0.mk HX_.out
    clear HX_
    have HA_ := Aside0.mk (td_kept HA.out hb)
    clear HA
    have HA := Aside0.mk HA_.out
    clear HA_
    have HO_ := Aside0.mk (td_kept HO.out hb)
    clear HO
    have HO := Aside0.mk HO_.out
    clear HO_
    have HT_ := Aside0.mk (HT.out.step hb)
    clear HT
    have HT := Aside0.mk HT_.out
    clear HT_
    have HN_ := Aside0.mk (HN.out.trans (Tn.of_below hb))
    clear HN
    have HN := Aside0.mk HN_.out
    clear HN_
    clear hb
    go_upto_region 14 with fail
    refine wp_region_noPanic ?_
    refine wp_region_held_drew (S := (fun V => V.cell? ⟨n, 0, none⟩ = some (.string s.f0) ∧ V.cell? ⟨n, 1, none⟩ = some (.string s.f1) ∧ V.cell? ⟨n + 1, 0, none⟩ = some (.int .i64 a.1) ∧ V.cell? ⟨n + 1, 1, none⟩ = some (.int .i64 a.2) ∧ V.cell? ⟨n + 2, 0, none⟩ = some (.int .i64 o))) (by kernel_rfl) ⟨(blk_cell (td_kept HX.out (below_drew1 (Below.refl _ _))) 0).trans rfl, (blk_cell (td_kept HX.out (below_drew1 (Below.refl _ _))) 1).trans rfl, (blk_cell (td_kept HA.out (below_drew1 (Below.refl _ _))) 0).trans rfl, (blk_cell (td_kept HA.out (below_drew1 (Below.refl _ _))) 1).trans rfl, (blk_cell (td_kept HO.out (below_drew1 (Below.refl _ _))) 0).trans rfl⟩ (fun hHeld => ?_)
    generalize hwd : World.drew _ = wd at hHeld ⊢
    have hb : Below w7.heap.size w7 wd := by rw [← hwd]; exact below_drew1 (Below.refl _ _)
    clear hwd
    have HX_ := Aside0.mk (td_kept HX.out hb)
    clear HX
    have HX := Aside0.mk HX_.out
    clear HX_
    have HA_ := Aside0.mk (td_kept HA.out hb)
    clear HA
    have HA := Aside0.mk HA_.out
    clear HA_
    have HO_ := Aside0.mk (td_kept HO.out hb)
    clear HO
    have HO := Aside0.mk HO_.out
    clear HO_
    have HT_ := Aside0.mk (HT.out.step hb)
    clear HT
    have HT := Aside0.mk HT_.out
    clear HT_
    have HN_ := Aside0.mk (HN.out.trans (Tn.of_below hb))
    clear HN
    have HN := Aside0.mk HN_.out
    clear HN_
    clear hb
    refine wpAnyH_take (i := 0) (oi := ⟨some 61, _, _, _, _, none⟩) (v := ?v0_7) rfl (by kernel_rfl) (by kernel_rfl) (by kernel_rfl) (fun _ _ _ h => h) (Or.inl ⟨by rfl, ?hy0_7⟩) (by with_reducible assumption) ?rest0_7
    case hy0_7 => (intro V_ hSw; (try dsimp only at hSw); go_simp; (try with_reducible rfl))
    case' rest0_7 => skip
    try simp only [Act.put, List.setIfInBounds_toArray, List.set_cons_zero, List.set_cons_succ]
    refine wpAnyH_take (i := 1) (oi := ⟨some 62, _, _, _, _, none⟩) (v := ?v1_8) rfl (by kernel_rfl) (by kernel_rfl) (by kernel_rfl) (fun _ _ _ h => h) (Or.inl ⟨by rfl, ?hy1_8⟩) (by with_reducible assumption) ?rest1_8
    case hy1_8 => (intro V_ hSw; (try dsimp only at hSw); go_simp; (try with_reducible rfl))
    case' rest1_8 => skip
    try simp only [Act.put, List.setIfInBounds_toArray, List.set_cons_zero, List.set_cons_succ]
    refine wpAnyH_take (i := 2) (oi := ⟨some 63, _, _, _, _, none⟩) (v := ?v2_9) rfl (by kernel_rfl) (by kernel_rfl) (by kernel_rfl) (fun _ _ _ h => h) (Or.inl ⟨by rfl, ?hy2_9⟩) (by with_reducible assumption) ?rest2_9
    case hy2_9 => (intro V_ hSw; (try dsimp only at hSw); go_simp; (try with_reducible rfl))
    case' rest2_9 => skip
    try simp only [Act.put, List.setIfInBounds_toArray, List.set_cons_zero, List.set_cons_succ]
    refine wpAnyH_take (i := 3) (oi := ⟨some 64, _, _, _, _, none⟩) (v := ?v3_10) rfl (by kernel_rfl) (by kernel_rfl) (by kernel_rfl) (fun _ _ _ h => h) (Or.inl ⟨by rfl, ?hy3_10⟩) (by with_reducible assumption) ?rest3_10
    case hy3_10 => (intro V_ hSw; (try dsimp only at hSw); go_simp; (try with_reducible rfl))
    case' rest3_10 => skip
    try simp only [Act.put, List.setIfInBounds_toArray, List.set_cons_zero, List.set_cons_succ]
    refine wpAnyH_take (i := 5) (oi := ⟨some 66, _, _, _, _, none⟩) (v := ?v5_11) rfl (by kernel_rfl) (by kernel_rfl) (by kernel_rfl) (fun _ _ _ h => h) (Or.inl ⟨by rfl, ?hy5_11⟩) (by with_reducible assumption) ?rest5_11
    case hy5_11 => (intro V_ hSw; (try dsimp only at hSw); go_simp; (try with_reducible rfl))
    case' rest5_11 => skip
    try simp only [Act.put, List.setIfInBounds_toArray, List.set_cons_zero, List.set_cons_succ]
    refine wpAnyH_take (i := 6) (oi := ⟨some 67, _, _, _, _, none⟩) (v := ?v6_12) rfl (by kernel_rfl) (by kernel_rfl) (by kernel_rfl) (fun _ _ _ h => h) (Or.inl ⟨by rfl, ?hy6_12⟩) (by with_reducible assumption) ?rest6_12
    case hy6_12 => (intro V_ hSw; (try dsimp only at hSw); go_simp; (try with_reducible rfl))
    case' rest6_12 => skip
    try simp only [Act.put, List.setIfInBounds_toArray, List.set_cons_zero, List.set_cons_succ]
    refine wpAnyH_take (i := 7) (oi := ⟨some 68, _, _, _, _, none⟩) (v := ?v7_13) rfl (by kernel_rfl) (by kernel_rfl) (by kernel_rfl) (fun _ _ _ h => h) (Or.inl ⟨by rfl, ?hy7_13⟩) (by with_reducible assumption) ?rest7_13
    case hy7_13 => (intro V_ hSw; (try dsimp only at hSw); go_simp; (try with_reducible rfl))
    case' rest7_13 => skip
    try simp only [Act.put, List.setIfInBounds_toArray, List.set_cons_zero, List.set_cons_succ]
    refine wpAnyH_take (i := 8) (oi := ⟨some 69, _, _, _, _, none⟩) (v := ?v8_14) rfl (by kernel_rfl) (by kernel_rfl) (by kernel_rfl) (fun _ _ _ h => h) (Or.inl ⟨by rfl, ?hy8_14⟩) (by with_reducible assumption) ?rest8_14
    case hy8_14 => (intro V_ hSw; (try dsimp only at hSw); go_simp; (try with_reducible rfl))
    case' rest8_14 => skip
    try simp only [Act.put, List.setIfInBounds_toArray, List.set_cons_zero, List.set_cons_succ]
    refine wpAnyH_ready (rs := [4, 9]) (by kernel_rfl) (by simp) ?_
    refine AllReadyH.cons (o := ⟨some 65, _, _, _, _, none⟩) rfl (fun K hK => ?_) ?_
    · have g3 : wd.cell? ⟨g, 3, none⟩ = some (.slice A t.l.length c) := (blk_cell HT.out.box 3).trans rfl
      go_simp
      clear g3
      refine hK.out _ _ hHeld (fun hHeld => ?_)
      clear hK K
      try simp only [Act.put, List.setIfInBounds_toArray, List.set_cons_zero, List.set_cons_succ]
      refine wpAnyH_ready (rs := [9]) (by kernel_rfl) (by simp) ?_
      refine AllReadyH.cons (o := ⟨some 70, _, _, _, _, none⟩) rfl (fun K hK => ?_) ?_
      · refine Kd.R_lit_step k63 (w0 := wd) wd.heap.size 63 ?hg (N := 70) ?hd (xs := ([({ s := s, at_ := a, o := o } : Rd S24)] : List (Rd S24))) (inner := [.string s.f0, .string s.f1, .int .i64 a.1, .int .i64 a.2, .int .i64 o]) (ok := fun _ => True) (okp := fun _ => True) ?hr ?hp (fun _ hk => hk) trivial (Below.refl _ _) (Nat.le_refl _) (by simp) ?_
        case hg => rfl
        case hd => rfl
        case hr => first | (go_simp; done) | (go_simp; rfl)
        case hp => exact Reps.c5 (k63_mkM _ _ _ ({ s := s, at_ := a, o := o } : Rd S24)) (Reps.none _ _)
        intro vy wl hoy hb hgy hny
        obtain ⟨Ay, cy, ey⟩ := Kd.R_slice hoy
        subst ey
        have HCY := Aside0.mk (Kd.R_reads' hoy).2.2
        clear hoy hgy hny
        have HX_ := Aside0.mk (td_kept HX.out hb)
        clear HX
        have HX := Aside0.mk HX_.out
        clear HX_
        have HA_ := Aside0.mk (td_kept HA.out hb)
        clear HA
        have HA := Aside0.mk HA_.out
        clear HA_
        have HO_ := Aside0.mk (td_kept HO.out hb)
        clear HO
        have HO := Aside0.mk HO_.out
        clear HO_
        have HT_ := Aside0.mk (HT.out.step hb)
        clear HT
        have HT := Aside0.mk HT_.out
        clear HT_
        have HN_ := Aside0.mk (HN.out.trans (Tn.of_below hb))
        clear HN
        have HN := Aside0.mk HN_.out
        clear HN_
        clear hb
        refine hK.out _ _ ⟨(blk_cell HX.out 0).trans rfl, (blk_cell HX.out 1).trans rfl, (blk_cell HA.out 0).trans rfl, (blk_cell HA.out 1).trans rfl, (blk_cell HO.out 0).trans rfl⟩ (fun hHeld => ?_)
        clear hK K
        try simp only [Act.put, List.setIfInBounds_toArray, List.set_cons_zero, List.set_cons_succ]
        refine wpAnyH_ready (rs := [10]) (by kernel_rfl) (by simp) ?_
        refine AllReadyH.cons (o := ⟨some 71, _, _, _, _, none⟩) rfl (fun K hK => ?_) ?_
        · refine Kd.R_append_rows_step k63 (Rr := k63.K wl) (w0 := W0) W0.heap.size rfl (.tmp 65) (.tmp 70) 56 63 _ 56 rfl Try.underlying56 info63 rfl (show 0 < 5 by omega) (by omega) (.slice A t.l.length c) t.l [({ s := s, at_ := a, o := o } : Rd S24)] Ay 1 cy (fun _ => True) (fun _ => False) rfl rfl ?aO ?aR (fun x cs h => by rw [k63_open h]; exact k63_mkM _ _ _ x) (fun _ h => h.elim) (fun _ _ => trivial) ?aB ?aS ?aL ?_
          case aO => exact HT.out.row
          case aR => exact HCY.out
          case aB => exact HT.out.below
          case aS => exact HT.out.below.size
          case aL => have := HLEN.out; omega
          intro v8 w8 ho8 hb8 hg8 hat8
          obtain ⟨A8, c8, e8⟩ := Kd.R_slice ho8
          subst e8
          have hn8 := Tn.of_grownR (g := none) hg8 HT.out.row
          have HX_ := Aside0.mk (hn8.blk HX.out (by simp) (by decide))
          have HA_ := Aside0.mk (hn8.blk HA.out (by simp) (by decide))
          have HO_ := Aside0.mk (hn8.blk HO.out (by simp) (by decide))
          have HG8 := Aside0.mk (hn8.blk HT.out.box (by simp) (by decide))
          have HN8 := Aside0.mk (HN.out.trans hn8.any)
          have HB8 := Aside0.mk hb8
          have HOWN := Aside0.mk HT.out.own
          rw [HL.out] at ho8
          rw [HL.out]
          have HR8 := Aside0.mk ho8
          clear ho8 hb8 hg8 hat8 hn8 HX HA HO HT HN HCY
          refine hK.out _ _ ⟨(blk_cell HX_.out 0).trans rfl, (blk_cell HX_.out 1).trans rfl, (blk_cell HA_.out 0).trans rfl, (blk_cell HA_.out 1).trans rfl, (blk_cell HO_.out 0).trans rfl⟩ (fun hHeld => ?_)
          clear hK K
          try simp only [Act.put, List.setIfInBounds_toArray, List.set_cons_zero, List.set_cons_succ]
          refine wpAnyH_take (i := 11) (oi := ⟨some 72, _, _, _, _, none⟩) (v := ?v11_15) rfl (by kernel_rfl) (by kernel_rfl) (by kernel_rfl) (fun _ _ _ h => h) (Or.inl ⟨by rfl, ?hy11_15⟩) (by with_reducible assumption) ?rest11_15
          case hy11_15 => (intro V_ hSw; (try dsimp only at hSw); go_simp; (try with_reducible rfl))
          case' rest11_15 => skip
          try simp only [Act.put, List.setIfInBounds_toArray, List.set_cons_zero, List.set_cons_succ]
          refine wpAnyH_take (i := 12) (oi := ⟨some 73, _, _, _, _, none⟩) (v := ?v12_16) rfl (by kernel_rfl) (by kernel_rfl) (by kernel_rfl) (fun _ _ _ h => h) (Or.inl ⟨by rfl, ?hy12_16⟩) (by with_reducible assumption) ?rest12_16
          case hy12_16 => (intro V_ hSw; (try dsimp only at hSw); go_simp; (try with_reducible rfl))
          case' rest12_16 => skip
          try simp only [Act.put, List.setIfInBounds_toArray, List.set_cons_zero, List.set_cons_succ]
          refine wpAnyH_ready (rs := [13]) (by kernel_rfl) (by simp) ?_
          refine AllReadyH.cons (o := ⟨none, _, _, _, _, none⟩) rfl (fun K hK => ?_) ?_
          · have g3 : w8.cell? ⟨g, 3, none⟩ = some (.slice A t.l.length c) := (blk_cell HG8.out 3).trans rfl
            have f3 := blk_frozen HG8.out 3
            go_simp
            clear g3 f3
            have HT := Aside0.mk (td_setl HB8.out HOWN.out HG8.out HR8.out)
            have HN := Aside0.mk (HN8.out.trans (Tn.set (i := 3) HOWN.out (.slice A8 L.length c8)))
            have HX := Aside0.mk (blk_far HX_.out (p := ⟨g, 3, none⟩) HNG.out.1 (.slice A8 L.length c8))
            have HA := Aside0.mk (blk_far HA_.out (p := ⟨g, 3, none⟩) HNG.out.2.1 (.slice A8 L.length c8))
            have HO := Aside0.mk (blk_far HO_.out (p := ⟨g, 3, none⟩) HNG.out.2.2 (.slice A8 L.length c8))
            clear HG8 HN8 HB8 HR8 HX_ HA_ HO_
            refine hK.out _ _ ⟨(blk_cell HX.out 0).trans rfl, (blk_cell HX.out 1).trans rfl, (blk_cell HA.out 0).trans rfl, (blk_cell HA.out 1).trans rfl, (blk_cell HO.out 0).trans rfl⟩ (fun hHeld => ?_)
            clear hK K
            try simp only [Act.put, List.setIfInBounds_toArray, List.set_cons_zero, List.set_cons_succ]
            refine wpAnyH_done (by kernel_rfl) ?_ _
            refine NoPanic.normal ?_
            clear hHeld HX HA HO
            generalize hw9 : World.setCell _ _ _ = w9 at HT HN ⊢
            clear hw9
            have g3 : w9.cell? ⟨g, 3, none⟩ = some (.slice A8 L.length c8) := (blk_cell HT.out.box 3).trans rfl
            go_wp2_with fail
            go_ret
            exact ⟨rfl, HT.out.at_, HN.out⟩
          exact AllReadyH.nil
        exact AllReadyH.nil
      exact AllReadyH.nil
    refine AllReadyH.cons (o := ⟨some 70, _, _, _, _, none⟩) rfl (fun K hK => ?_) ?_
    · refine Kd.R_lit_step k63 (w0 := wd) wd.heap.size 63 ?hg (N := 70) ?hd (xs := ([({ s := s, at_ := a, o := o } : Rd S24)] : List (Rd S24))) (inner := [.string s.f0, .string s.f1, .int .i64 a.1, .int .i64 a.2, .int .i64 o]) (ok := fun _ => True) (okp := fun _ => True) ?hr ?hp (fun _ hk => hk) trivial (Below.refl _ _) (Nat.le_refl _) (by simp) ?_
      case hg => rfl
      case hd => rfl
      case hr => first | (go_simp; done) | (go_simp; rfl)
      case hp => exact Reps.c5 (k63_mkM _ _ _ ({ s := s, at_ := a, o := o } : Rd S24)) (Reps.none _ _)
      intro vy wl hoy hb hgy hny
      obtain ⟨Ay, cy, ey⟩ := Kd.R_slice hoy
      subst ey
      have HCY := Aside0.mk (Kd.R_reads' hoy).2.2
      clear hoy hgy hny
      have HX_ := Aside0.mk (td_kept HX.out hb)
      clear HX
      have HX := Aside0.mk HX_.out
      clear HX_
      have HA_ := Aside0.mk (td_kept HA.out hb)
      clear HA
      have HA := Aside0.mk HA_.out
      clear HA_
      have HO_ := Aside0.mk (td_kept HO.out hb)
      clear HO
      have HO := Aside0.mk HO_.out
      clear HO_
      have HT_ := Aside0.mk (HT.out.step hb)
      clear HT
      have HT := Aside0.mk HT_.out
      clear HT_
      have HN_ := Aside0.mk (HN.out.trans (Tn.of_below hb))
      clear HN
      have HN := Aside0.mk HN_.out
      clear HN_
      clear hb
      refine hK.out _ _ ⟨(blk_cell HX.out 0).trans rfl, (blk_cell HX.out 1).trans rfl, (blk_cell HA.out 0).trans rfl, (blk_cell HA.out 1).trans rfl, (blk_cell HO.out 0).trans rfl⟩ (fun hHeld => ?_)
      clear hK K
      try simp only [Act.put, List.setIfInBounds_toArray, List.set_cons_zero, List.set_cons_succ]
      refine wpAnyH_ready (rs := [4]) (by kernel_rfl) (by simp) ?_
      refine AllReadyH.cons (o := ⟨some 65, _, _, _, _, none⟩) rfl (fun K hK => ?_) ?_
      · have g3 : wl.cell? ⟨g, 3, none⟩ = some (.slice A t.l.length c) := (blk_cell HT.out.box 3).trans rfl
        go_simp
        clear g3
        refine hK.out _ _ hHeld (fun hHeld => ?_)
        clear hK K
        try simp only [Act.put, List.setIfInBounds_toArray, List.set_cons_zero, List.set_cons_succ]
        refine wpAnyH_ready (rs := [10]) (by kernel_rfl) (by simp) ?_
        refine AllReadyH.cons (o := ⟨some 71, _, _, _, _, none⟩) rfl (fun K hK => ?_) ?_
        · refine Kd.R_append_rows_step k63 (Rr := k63.K wl) (w0 := W0) W0.heap.size rfl (.tmp 65) (.tmp 70) 56 63 _ 56 rfl Try.underlying56 info63 rfl (show 0 < 5 by omega) (by omega) (.slice A t.l.length c) t.l [({ s := s, at_ := a, o := o } : Rd S24)] Ay 1 cy (fun _ => True) (fun _ => False) rfl rfl ?aO ?aR (fun x cs h => by rw [k63_open h]; exact k63_mkM _ _ _ x) (fun _ h => h.elim) (fun _ _ => trivial) ?aB ?aS ?aL ?_
          case aO => exact HT.out.row
          case aR => exact HCY.out
          case aB => exact HT.out.below
          case aS => exact HT.out.below.size
          case aL => have := HLEN.out; omega
          intro v8 w8 ho8 hb8 hg8 hat8
          obtain ⟨A8, c8, e8⟩ := Kd.R_slice ho8
          subst e8
          have hn8 := Tn.of_grownR (g := none) hg8 HT.out.row
          have HX_ := Aside0.mk (hn8.blk HX.out (by simp) (by decide))
          have HA_ := Aside0.mk (hn8.blk HA.out (by simp) (by decide))
          have HO_ := Aside0.mk (hn8.blk HO.out (by simp) (by decide))
          have HG8 := Aside0.mk (hn8.blk HT.out.box (by simp) (by decide))
          have HN8 := Aside0.mk (HN.out.trans hn8.any)
          have HB8 := Aside0.mk hb8
          have HOWN := Aside0.mk HT.out.own
          rw [HL.out] at ho8
          rw [HL.out]
          have HR8 := Aside0.mk ho8
          clear ho8 hb8 hg8 hat8 hn8 HX HA HO HT HN HCY
          refine hK.out _ _ ⟨(blk_cell HX_.out 0).trans rfl, (blk_cell HX_.out 1).trans rfl, (blk_cell HA_.out 0).trans rfl, (blk_cell HA_.out 1).trans rfl, (blk_cell HO_.out 0).trans rfl⟩ (fun hHeld => ?_)
          clear hK K
          try simp only [Act.put, List.setIfInBounds_toArray, List.set_cons_zero, List.set_cons_succ]
          refine wpAnyH_take (i := 11) (oi := ⟨some 72, _, _, _, _, none⟩) (v := ?v11_17) rfl (by kernel_rfl) (by kernel_rfl) (by kernel_rfl) (fun _ _ _ h => h) (Or.inl ⟨by rfl, ?hy11_17⟩) (by with_reducible assumption) ?rest11_17
          case hy11_17 => (intro V_ hSw; (try dsimp only at hSw); go_simp; (try with_reducible rfl))
          case' rest11_17 => skip
          try simp only [Act.put, List.setIfInBounds_toArray, List.set_cons_zero, List.set_cons_succ]
          refine wpAnyH_take (i := 12) (oi := ⟨some 73, _, _, _, _, none⟩) (v := ?v12_18) rfl (by kernel_rfl) (by kernel_rfl) (by kernel_rfl) (fun _ _ _ h => h) (Or.inl ⟨by rfl, ?hy12_18⟩) (by with_reducible assumption) ?rest12_18
          case hy12_18 => (intro V_ hSw; (try dsimp only at hSw); go_simp; (try with_reducible rfl))
          case' rest12_18 => skip
          try simp only [Act.put, List.setIfInBounds_toArray, List.set_cons_zero, List.set_cons_succ]
          refine wpAnyH_ready (rs := [13]) (by kernel_rfl) (by simp) ?_
          refine AllReadyH.cons (o := ⟨none, _, _, _, _, none⟩) rfl (fun K hK => ?_) ?_
          · have g3 : w8.cell? ⟨g, 3, none⟩ = some (.slice A t.l.length c) := (blk_cell HG8.out 3).trans rfl
            have f3 := blk_frozen HG8.out 3
            go_simp
            clear g3 f3
            have HT := Aside0.mk (td_setl HB8.out HOWN.out HG8.out HR8.out)
            have HN := Aside0.mk (HN8.out.trans (Tn.set (i := 3) HOWN.out (.slice A8 L.length c8)))
            have HX := Aside0.mk (blk_far HX_.out (p := ⟨g, 3, none⟩) HNG.out.1 (.slice A8 L.length c8))
            have HA := Aside0.mk (blk_far HA_.out (p := ⟨g, 3, none⟩) HNG.out.2.1 (.slice A8 L.length c8))
            have HO := Aside0.mk (blk_far HO_.out (p := ⟨g, 3, none⟩) HNG.out.2.2 (.slice A8 L.length c8))
            clear HG8 HN8 HB8 HR8 HX_ HA_ HO_
            refine hK.out _ _ ⟨(blk_cell HX.out 0).trans rfl, (blk_cell HX.out 1).trans rfl, (blk_cell HA.out 0).trans rfl, (blk_cell HA.out 1).trans rfl, (blk_cell HO.out 0).trans rfl⟩ (fun hHeld => ?_)
            clear hK K
            try simp only [Act.put, List.setIfInBounds_toArray, List.set_cons_zero, List.set_cons_succ]
            refine wpAnyH_done (by kernel_rfl) ?_ _
            refine NoPanic.normal ?_
            clear hHeld HX HA HO
            generalize hw9 : World.setCell _ _ _ = w9 at HT HN ⊢
            clear hw9
            have g3 : w9.cell? ⟨g, 3, none⟩ = some (.slice A8 L.length c8) := (blk_cell HT.out.box 3).trans rfl
            go_wp2_with fail
            go_ret
            exact ⟨rfl, HT.out.at_, HN.out⟩
          exact AllReadyH.nil
        exact AllReadyH.nil
      exact AllReadyH.nil
    exact AllReadyH.nil
  exact AllReadyH.nil
set_option maxHeartbeats 16000000 in
set_option maxRecDepth 100000 in
theorem td_add_big (W0 W : World) (g : Nat) (t : Td S24) (A : Option Addr) (c : Nat) (s : S24) (a : Int × Int) (o : Int) (h : TdA W0 W g t A c) (hs : spErr s = 0) (hk : sok a = true) (ho : own o = true) (hl : tlt t.low a) (hm : ∀ j, j < t.l.length → same s o (t.l.getD j z63) = false) (hlen : t.l.length ≤ 64) (h64 : ¬ (t.l ++ [({ s := s, at_ := a, o := o } : Rd S24)]).length ≤ 64) : Calls Try.prog 11 #[.pointer (some ⟨g, 0, none⟩), .agg #[.string s.f0, .string s.f1], .agg #[.int .i64 a.1, .int .i64 a.2], .int .i64 o] W (TdPost W0 W g (Td.forget { low := Td.least ((t.l ++ [({ s := s, at_ := a, o := o } : Rd S24)]).getD 0 z63).at_ (t.l ++ [({ s := s, at_ := a, o := o } : Rd S24)]), l := t.l ++ [({ s := s, at_ := a, o := o } : Rd S24)] }) (.returned (.int .i64 0))) := by
  have HT0 := Aside0.mk h
  have HS := Aside0.mk hs
  have HK := Aside0.mk hk
  have HW := Aside0.mk ho
  have HLW := Aside0.mk (decide_eq_true hl)
  have HIX := Aside0.mk (show IsIdx (same s o) t.l (-1) from .inl ⟨rfl, hm⟩)
  have HLEN := Aside0.mk hlen
  obtain ⟨L, hL⟩ : ∃ L, t.l ++ [({ s := s, at_ := a, o := o } : Rd S24)] = L := ⟨_, rfl⟩
  have HL := Aside0.mk hL
  rw [hL] at h64
  rw [hL]
  have d1 : decide ((64 : Int) < (L.length : Int)) = true := decide_eq_true (by omega)
  have d1n : decide (64 < L.length) = true := decide_eq_true (by omega)
  have HPOS := Aside0.mk (show 0 < L.length from by omega)
  obtain ⟨M, hM⟩ : ∃ M, Td.least (L.getD 0 z63).at_ L = M := ⟨_, rfl⟩
  have HMX := Aside0.mk hM
  rw [hM]
  clear h hs hk ho hl hm hL h64 hlen hM
  go_enter Try.func11, Try.ntmps11
  go_upto_region 1 with fail
  generalize hw1 : World.alloc (World.alloc (World.alloc W _) _) _ = w1
  have hb : Below W.heap.size W w1 := by rw [← hw1]; exact below_alloc (below_alloc (td_alloc W _) _) _
  have e1_ : (W.alloc (.cells #[.string s.f0, .string s.f1] 24)).heap.size = W.heap.size + 1 := Array.size_push _
  have e2_ : ((W.alloc (.cells #[.string s.f0, .string s.f1] 24)).alloc (.cells #[.int .i64 a.1, .int .i64 a.2] 31)).heap.size = W.heap.size + 2 := (Array.size_push _).trans (congrArg (· + 1) e1_)
  have HX := Aside0.mk (show w1.heap[W.heap.size]? = some (.cells #[.string s.f0, .string s.f1] 24 (0, 0)) from by rw [← hw1]; exact td_kept (td_kept (blk_new W _) (td_alloc _ _)) (td_alloc _ _))
  have HA := Aside0.mk (show w1.heap[W.heap.size + 1]? = some (.cells #[.int .i64 a.1, .int .i64 a.2] 31 (0, 0)) from by
    have q := td_kept (blk_new (W.alloc (.cells #[.string s.f0, .string s.f1] 24)) (.cells #[.int .i64 a.1, .int .i64 a.2] 31)) (td_alloc _ (.cells #[.int .i64 o] 3))
    rw [e1_, hw1] at q
    exact q)
  have HO := Aside0.mk (show w1.heap[W.heap.size + 2]? = some (.cells #[.int .i64 o] 3 (0, 0)) from by
    have q := blk_new ((W.alloc (.cells #[.string s.f0, .string s.f1] 24)).alloc (.cells #[.int .i64 a.1, .int .i64 a.2] 31)) (.cells #[.int .i64 o] 3)
    rw [e2_, hw1] at q
    exact q)
  have HNG := Aside0.mk (And.intro (Nat.ne_of_gt HT0.out.lt) (And.intro (show W.heap.size + 1 ≠ g from by have := HT0.out.lt; omega) (show W.heap.size + 2 ≠ g from by have := HT0.out.lt; omega)))
  have HT := Aside0.mk (HT0.out.step hb)
  have HN := Aside0.mk (Tn.of_below (B := W0.heap.size) (g := some g) (ty := 63) hb)
  clear hw1 hb e1_ e2_
  generalize W.heap.size = n at HX HA HO HNG ⊢
  go_wp2_with fail
  refine (td_none W0 w1 g t HT.out.at_).mono ?_
  rintro e w2 ⟨rfl, hb⟩
  have HX_ := Aside0.mk (td_kept HX.out hb)
  clear HX
  have HX := Aside0.mk HX_.out
  clear HX_
  have HA_ := Aside0.mk (td_kept HA.out hb)
  clear HA
  have HA := Aside0.mk HA_.out
  clear HA_
  have HO_ := Aside0.mk (td_kept HO.out hb)
  clear HO
  have HO := Aside0.mk HO_.out
  clear HO_
  have HT_ := Aside0.mk (HT.out.step hb)
  clear HT
  have HT := Aside0.mk HT_.out
  clear HT_
  have HN_ := Aside0.mk (HN.out.trans (Tn.of_below hb))
  clear HN
  have HN := Aside0.mk HN_.out
  clear HN_
  clear hb
  have x0 : w2.cell? ⟨n, 0, none⟩ = some (.string s.f0) := (blk_cell HX.out 0).trans rfl
  have x1 : w2.cell? ⟨n, 1, none⟩ = some (.string s.f1) := (blk_cell HX.out 1).trans rfl
  go_wp2_with fail
  refine (td_sp s _).mono ?_
  rintro e w3 ⟨rfl, hb⟩
  clear x0 x1
  have HX_ := Aside0.mk (td_kept HX.out hb)
  clear HX
  have HX := Aside0.mk HX_.out
  clear HX_
  have HA_ := Aside0.mk (td_kept HA.out hb)
  clear HA
  have HA := Aside0.mk HA_.out
  clear HA_
  have HO_ := Aside0.mk (td_kept HO.out hb)
  clear HO
  have HO := Aside0.mk HO_.out
  clear HO_
  have HT_ := Aside0.mk (HT.out.step hb)
  clear HT
  have HT := Aside0.mk HT_.out
  clear HT_
  have HN_ := Aside0.mk (HN.out.trans (Tn.of_below hb))
  clear HN
  have HN := Aside0.mk HN_.out
  clear HN_
  clear hb
  rw [HS.out]
  have a0 : w3.cell? ⟨n + 1, 0, none⟩ = some (.int .i64 a.1) := (blk_cell HA.out 0).trans rfl
  have a1 : w3.cell? ⟨n + 1, 1, none⟩ = some (.int .i64 a.2) := (blk_cell HA.out 1).trans rfl
  go_wp2_with fail
  refine (td_chk a _).mono ?_
  rintro e w4 ⟨rfl, hb⟩
  clear a0 a1
  have HX_ := Aside0.mk (td_kept HX.out hb)
  clear HX
  have HX := Aside0.mk HX_.out
  clear HX_
  have HA_ := Aside0.mk (td_kept HA.out hb)
  clear HA
  have HA := Aside0.mk HA_.out
  clear HA_
  have HO_ := Aside0.mk (td_kept HO.out hb)
  clear HO
  have HO := Aside0.mk HO_.out
  clear HO_
  have HT_ := Aside0.mk (HT.out.step hb)
  clear HT
  have HT := Aside0.mk HT_.out
  clear HT_
  have HN_ := Aside0.mk (HN.out.trans (Tn.of_below hb))
  clear HN
  have HN := Aside0.mk HN_.out
  clear HN_
  clear hb
  rw [HK.out]
  have o0 : w4.cell? ⟨n + 2, 0, none⟩ = some (.int .i64 o) := (blk_cell HO.out 0).trans rfl
  go_wp2_with fail
  refine (td_own o _).mono ?_
  rintro e w5 ⟨rfl, hb⟩
  clear o0
  have HX_ := Aside0.mk (td_kept HX.out hb)
  clear HX
  have HX := Aside0.mk HX_.out
  clear HX_
  have HA_ := Aside0.mk (td_kept HA.out hb)
  clear HA
  have HA := Aside0.mk HA_.out
  clear HA_
  have HO_ := Aside0.mk (td_kept HO.out hb)
  clear HO
  have HO := Aside0.mk HO_.out
  clear HO_
  have HT_ := Aside0.mk (HT.out.step hb)
  clear HT
  have HT := Aside0.mk HT_.out
  clear HT_
  have HN_ := Aside0.mk (HN.out.trans (Tn.of_below hb))
  clear HN
  have HN := Aside0.mk HN_.out
  clear HN_
  clear hb
  rw [HW.out]
  go_upto_region 8 with fail
  refine wp_region_noPanic ?_
  refine wp_region_held_drew (S := (fun V => V.cell? ⟨n + 1, 0, none⟩ = some (.int .i64 a.1) ∧ V.cell? ⟨n + 1, 1, none⟩ = some (.int .i64 a.2) ∧ V.cell? ⟨g, 1, none⟩ = some (.int .i64 t.low.1) ∧ V.cell? ⟨g, 2, none⟩ = some (.int .i64 t.low.2))) (by kernel_rfl) ⟨(blk_cell (td_kept HA.out (below_drew1 (Below.refl _ _))) 0).trans rfl, (blk_cell (td_kept HA.out (below_drew1 (Below.refl _ _))) 1).trans rfl, (blk_cell (td_kept HT.out.box (below_drew1 (Below.refl _ _))) 1).trans rfl, (blk_cell (td_kept HT.out.box (below_drew1 (Below.refl _ _))) 2).trans rfl⟩ (fun hHeld => ?_)
  generalize hwd : World.drew _ = wd at hHeld ⊢
  have hb : Below w5.heap.size w5 wd := by rw [← hwd]; exact below_drew1 (Below.refl _ _)
  clear hwd
  have HX_ := Aside0.mk (td_kept HX.out hb)
  clear HX
  have HX := Aside0.mk HX_.out
  clear HX_
  have HA_ := Aside0.mk (td_kept HA.out hb)
  clear HA
  have HA := Aside0.mk HA_.out
  clear HA_
  have HO_ := Aside0.mk (td_kept HO.out hb)
  clear HO
  have HO := Aside0.mk HO_.out
  clear HO_
  have HT_ := Aside0.mk (HT.out.step hb)
  clear HT
  have HT := Aside0.mk HT_.out
  clear HT_
  have HN_ := Aside0.mk (HN.out.trans (Tn.of_below hb))
  clear HN
  have HN := Aside0.mk HN_.out
  clear HN_
  clear hb
  refine wpAnyH_take (i := 0) (oi := ⟨some 28, _, _, _, _, none⟩) (v := ?v0_19) rfl (by kernel_rfl) (by kernel_rfl) (by kernel_rfl) (fun _ _ _ h => h) (Or.inl ⟨by rfl, ?hy0_19⟩) (by with_reducible assumption) ?rest0_19
  case hy0_19 => (intro V_ hSw; (try dsimp only at hSw); go_simp; (try with_reducible rfl))
  case' rest0_19 => skip
  try simp only [Act.put, List.setIfInBounds_toArray, List.set_cons_zero, List.set_cons_succ]
  refine wpAnyH_take (i := 1) (oi := ⟨some 29, _, _, _, _, none⟩) (v := ?v1_20) rfl (by kernel_rfl) (by kernel_rfl) (by kernel_rfl) (fun _ _ _ h => h) (Or.inl ⟨by rfl, ?hy1_20⟩) (by with_reducible assumption) ?rest1_20
  case hy1_20 => (intro V_ hSw; (try dsimp only at hSw); go_simp; (try with_reducible rfl))
  case' rest1_20 => skip
  try simp only [Act.put, List.setIfInBounds_toArray, List.set_cons_zero, List.set_cons_succ]
  refine wpAnyH_take (i := 2) (oi := ⟨some 30, _, _, _, _, none⟩) (v := ?v2_21) rfl (by kernel_rfl) (by kernel_rfl) (by kernel_rfl) (fun _ _ _ h => h) (Or.inl ⟨by rfl, ?hy2_21⟩) (by with_reducible assumption) ?rest2_21
  case hy2_21 => (intro V_ hSw; (try dsimp only at hSw); go_simp; (try with_reducible rfl))
  case' rest2_21 => skip
  try simp only [Act.put, List.setIfInBounds_toArray, List.set_cons_zero, List.set_cons_succ]
  refine wpAnyH_take (i := 3) (oi := ⟨some 31, _, _, _, _, none⟩) (v := ?v3_22) rfl (by kernel_rfl) (by kernel_rfl) (by kernel_rfl) (fun _ _ _ h => h) (Or.inl ⟨by rfl, ?hy3_22⟩) (by with_reducible assumption) ?rest3_22
  case hy3_22 => (intro V_ hSw; (try dsimp only at hSw); go_simp; (try with_reducible rfl))
  case' rest3_22 => skip
  try simp only [Act.put, List.setIfInBounds_toArray, List.set_cons_zero, List.set_cons_succ]
  refine wpAnyH_take (i := 4) (oi := ⟨some 32, _, _, _, _, none⟩) (v := ?v4_23) rfl (by kernel_rfl) (by kernel_rfl) (by kernel_rfl) (fun _ _ _ h => h) (Or.inl ⟨by rfl, ?hy4_23⟩) (by with_reducible assumption) ?rest4_23
  case hy4_23 => (intro V_ hSw; (try dsimp only at hSw); go_simp; (try with_reducible rfl))
  case' rest4_23 => skip
  try simp only [Act.put, List.setIfInBounds_toArray, List.set_cons_zero, List.set_cons_succ]
  refine wpAnyH_ready (rs := [5]) (by kernel_rfl) (by simp) ?_
  refine AllReadyH.cons (o := ⟨some 33, _, _, _, _, none⟩) rfl (fun K hK => ?_) ?_
  · go_simp
    refine (td_less t.low a _).mono ?_
    rintro e w6 ⟨rfl, hb⟩
    have HX_ := Aside0.mk (td_kept HX.out hb)
    clear HX
    have HX := Aside0.mk HX_.out
    clear HX_
    have HA_ := Aside0.mk (td_kept HA.out hb)
    clear HA
    have HA := Aside0.mk HA_.out
    clear HA_
    have HO_ := Aside0.mk (td_kept HO.out hb)
    clear HO
    have HO := Aside0.mk HO_.out
    clear HO_
    have HT_ := Aside0.mk (HT.out.step hb)
    clear HT
    have HT := Aside0.mk HT_.out
    clear HT_
    have HN_ := Aside0.mk (HN.out.trans (Tn.of_below hb))
    clear HN
    have HN := Aside0.mk HN_.out
    clear HN_
    clear hb
    rw [HLW.out]
    refine hK.out _ _ ⟨(blk_cell (td_kept HA.out (Below.refl _ _)) 0).trans rfl, (blk_cell (td_kept HA.out (Below.refl _ _)) 1).trans rfl, (blk_cell (td_kept HT.out.box (Below.refl _ _)) 1).trans rfl, (blk_cell (td_kept HT.out.box (Below.refl _ _)) 2).trans rfl⟩ (fun hHeld => ?_)
    clear hK K
    try simp only [Act.put, List.setIfInBounds_toArray, List.set_cons_zero, List.set_cons_succ]
    refine wpAnyH_take (i := 6) (oi := ⟨some 34, _, _, _, _, none⟩) (v := ?v6_24) rfl (by kernel_rfl) (by kernel_rfl) (by kernel_rfl) (fun _ _ _ h => h) (Or.inl ⟨by rfl, ?hy6_24⟩) (by with_reducible assumption) ?rest6_24
    case hy6_24 => (intro V_ hSw; (try dsimp only at hSw); go_simp; (try with_reducible rfl))
    case' rest6_24 => skip
    try simp only [Act.put, List.setIfInBounds_toArray, List.set_cons_zero, List.set_cons_succ]
    refine wpAnyH_done (by kernel_rfl) ?_ _
    refine NoPanic.normal ?_
    clear hHeld
    have g3 : w6.cell? ⟨g, 3, none⟩ = some (.slice A t.l.length c) := (blk_cell HT.out.box 3).trans rfl
    go_wp2_with fail
    refine (td_index35 (same s o) n (n + 2) A c t.l (-1) HIX.out w6 (Kd.R_reads' HT.out.row).2.2 (fun V x hV => td_same s o x n (n + 2) V (td_kept HX.out hV) (td_kept HO.out hV))).mono ?_
    rintro e w7 ⟨rfl, hb⟩
    clear g3
    have HX_ := Aside0.mk (td_kept HX.out hb)
    clear HX
    have HX := Aside0.mk HX_.out
    clear HX_
    have HA_ := Aside0.mk (td_kept HA.out hb)
    clear HA
    have HA := Aside0.mk HA_.out
    clear HA_
    have HO_ := Aside0.mk (td_kept HO.out hb)
    clear HO
    have HO := Aside0.mk HO_.out
    clear HO_
    have HT_ := Aside0.mk (HT.out.step hb)
    clear HT
    have HT := Aside0.mk HT_.out
    clear HT_
    have HN_ := Aside0.mk (HN.out.trans (Tn.of_below hb))
    clear HN
    have HN := Aside0.mk HN_.out
    clear HN_
    clear hb
    go_upto_region 14 with fail
    refine wp_region_noPanic ?_
    refine wp_region_held_drew (S := (fun V => V.cell? ⟨n, 0, none⟩ = some (.string s.f0) ∧ V.cell? ⟨n, 1, none⟩ = some (.string s.f1) ∧ V.cell? ⟨n + 1, 0, none⟩ = some (.int .i64 a.1) ∧ V.cell? ⟨n + 1, 1, none⟩ = some (.int .i64 a.2) ∧ V.cell? ⟨n + 2, 0, none⟩ = some (.int .i64 o))) (by kernel_rfl) ⟨(blk_cell (td_kept HX.out (below_drew1 (Below.refl _ _))) 0).trans rfl, (blk_cell (td_kept HX.out (below_drew1 (Below.refl _ _))) 1).trans rfl, (blk_cell (td_kept HA.out (below_drew1 (Below.refl _ _))) 0).trans rfl, (blk_cell (td_kept HA.out (below_drew1 (Below.refl _ _))) 1).trans rfl, (blk_cell (td_kept HO.out (below_drew1 (Below.refl _ _))) 0).trans rfl⟩ (fun hHeld => ?_)
    generalize hwd : World.drew _ = wd at hHeld ⊢
    have hb : Below w7.heap.size w7 wd := by rw [← hwd]; exact below_drew1 (Below.refl _ _)
    clear hwd
    have HX_ := Aside0.mk (td_kept HX.out hb)
    clear HX
    have HX := Aside0.mk HX_.out
    clear HX_
    have HA_ := Aside0.mk (td_kept HA.out hb)
    clear HA
    have HA := Aside0.mk HA_.out
    clear HA_
    have HO_ := Aside0.mk (td_kept HO.out hb)
    clear HO
    have HO := Aside0.mk HO_.out
    clear HO_
    have HT_ := Aside0.mk (HT.out.step hb)
    clear HT
    have HT := Aside0.mk HT_.out
    clear HT_
    have HN_ := Aside0.mk (HN.out.trans (Tn.of_below hb))
    clear HN
    have HN := Aside0.mk HN_.out
    clear HN_
    clear hb
    refine wpAnyH_take (i := 0) (oi := ⟨some 61, _, _, _, _, none⟩) (v := ?v0_25) rfl (by kernel_rfl) (by kernel_rfl) (by kernel_rfl) (fun _ _ _ h => h) (Or.inl ⟨by rfl, ?hy0_25⟩) (by with_reducible assumption) ?rest0_25
    case hy0_25 => (intro V_ hSw; (try dsimp only at hSw); go_simp; (try with_reducible rfl))
    case' rest0_25 => skip
    try simp only [Act.put, List.setIfInBounds_toArray, List.set_cons_zero, List.set_cons_succ]
    refine wpAnyH_take (i := 1) (oi := ⟨some 62, _, _, _, _, none⟩) (v := ?v1_26) rfl (by kernel_rfl) (by kernel_rfl) (by kernel_rfl) (fun _ _ _ h => h) (Or.inl ⟨by rfl, ?hy1_26⟩) (by with_reducible assumption) ?rest1_26
    case hy1_26 => (intro V_ hSw; (try dsimp only at hSw); go_simp; (try with_reducible rfl))
    case' rest1_26 => skip
    try simp only [Act.put, List.setIfInBounds_toArray, List.set_cons_zero, List.set_cons_succ]
    refine wpAnyH_take (i := 2) (oi := ⟨some 63, _, _, _, _, none⟩) (v := ?v2_27) rfl (by kernel_rfl) (by kernel_rfl) (by kernel_rfl) (fun _ _ _ h => h) (Or.inl ⟨by rfl, ?hy2_27⟩) (by with_reducible assumption) ?rest2_27
    case hy2_27 => (intro V_ hSw; (try dsimp only at hSw); go_simp; (try with_reducible rfl))
    case' rest2_27 => skip
    try simp only [Act.put, List.setIfInBounds_toArray, List.set_cons_zero, List.set_cons_succ]
    refine wpAnyH_take (i := 3) (oi := ⟨some 64, _, _, _, _, none⟩) (v := ?v3_28) rfl (by kernel_rfl) (by kernel_rfl) (by kernel_rfl) (fun _ _ _ h => h) (Or.inl ⟨by rfl, ?hy3_28⟩) (by with_reducible assumption) ?rest3_28
    case hy3_28 => (intro V_ hSw; (try dsimp only at hSw); go_simp; (try with_reducible rfl))
    case' rest3_28 => skip
    try simp only [Act.put, List.setIfInBounds_toArray, List.set_cons_zero, List.set_cons_succ]
    refine wpAnyH_take (i := 5) (oi := ⟨some 66, _, _, _, _, none⟩) (v := ?v5_29) rfl (by kernel_rfl) (by kernel_rfl) (by kernel_rfl) (fun _ _ _ h => h) (Or.inl ⟨by rfl, ?hy5_29⟩) (by with_reducible assumption) ?rest5_29
    case hy5_29 => (intro V_ hSw; (try dsimp only at hSw); go_simp; (try with_reducible rfl))
    case' rest5_29 => skip
    try simp only [Act.put, List.setIfInBounds_toArray, List.set_cons_zero, List.set_cons_succ]
    refine wpAnyH_take (i := 6) (oi := ⟨some 67, _, _, _, _, none⟩) (v := ?v6_30) rfl (by kernel_rfl) (by kernel_rfl) (by kernel_rfl) (fun _ _ _ h => h) (Or.inl ⟨by rfl, ?hy6_30⟩) (by with_reducible assumption) ?rest6_30
    case hy6_30 => (intro V_ hSw; (try dsimp only at hSw); go_simp; (try with_reducible rfl))
    case' rest6_30 => skip
    try simp only [Act.put, List.setIfInBounds_toArray, List.set_cons_zero, List.set_cons_succ]
    refine wpAnyH_take (i := 7) (oi := ⟨some 68, _, _, _, _, none⟩) (v := ?v7_31) rfl (by kernel_rfl) (by kernel_rfl) (by kernel_rfl) (fun _ _ _ h => h) (Or.inl ⟨by rfl, ?hy7_31⟩) (by with_reducible assumption) ?rest7_31
    case hy7_31 => (intro V_ hSw; (try dsimp only at hSw); go_simp; (try with_reducible rfl))
    case' rest7_31 => skip
    try simp only [Act.put, List.setIfInBounds_toArray, List.set_cons_zero, List.set_cons_succ]
    refine wpAnyH_take (i := 8) (oi := ⟨some 69, _, _, _, _, none⟩) (v := ?v8_32) rfl (by kernel_rfl) (by kernel_rfl) (by kernel_rfl) (fun _ _ _ h => h) (Or.inl ⟨by rfl, ?hy8_32⟩) (by with_reducible assumption) ?rest8_32
    case hy8_32 => (intro V_ hSw; (try dsimp only at hSw); go_simp; (try with_reducible rfl))
    case' rest8_32 => skip
    try simp only [Act.put, List.setIfInBounds_toArray, List.set_cons_zero, List.set_cons_succ]
    refine wpAnyH_ready (rs := [4, 9]) (by kernel_rfl) (by simp) ?_
    refine AllReadyH.cons (o := ⟨some 65, _, _, _, _, none⟩) rfl (fun K hK => ?_) ?_
    · have g3 : wd.cell? ⟨g, 3, none⟩ = some (.slice A t.l.length c) := (blk_cell HT.out.box 3).trans rfl
      go_simp
      clear g3
      refine hK.out _ _ hHeld (fun hHeld => ?_)
      clear hK K
      try simp only [Act.put, List.setIfInBounds_toArray, List.set_cons_zero, List.set_cons_succ]
      refine wpAnyH_ready (rs := [9]) (by kernel_rfl) (by simp) ?_
      refine AllReadyH.cons (o := ⟨some 70, _, _, _, _, none⟩) rfl (fun K hK => ?_) ?_
      · refine Kd.R_lit_step k63 (w0 := wd) wd.heap.size 63 ?hg (N := 70) ?hd (xs := ([({ s := s, at_ := a, o := o } : Rd S24)] : List (Rd S24))) (inner := [.string s.f0, .string s.f1, .int .i64 a.1, .int .i64 a.2, .int .i64 o]) (ok := fun _ => True) (okp := fun _ => True) ?hr ?hp (fun _ hk => hk) trivial (Below.refl _ _) (Nat.le_refl _) (by simp) ?_
        case hg => rfl
        case hd => rfl
        case hr => first | (go_simp; done) | (go_simp; rfl)
        case hp => exact Reps.c5 (k63_mkM _ _ _ ({ s := s, at_ := a, o := o } : Rd S24)) (Reps.none _ _)
        intro vy wl hoy hb hgy hny
        obtain ⟨Ay, cy, ey⟩ := Kd.R_slice hoy
        subst ey
        have HCY := Aside0.mk (Kd.R_reads' hoy).2.2
        clear hoy hgy hny
        have HX_ := Aside0.mk (td_kept HX.out hb)
        clear HX
        have HX := Aside0.mk HX_.out
        clear HX_
        have HA_ := Aside0.mk (td_kept HA.out hb)
        clear HA
        have HA := Aside0.mk HA_.out
        clear HA_
        have HO_ := Aside0.mk (td_kept HO.out hb)
        clear HO
        have HO := Aside0.mk HO_.out
        clear HO_
        have HT_ := Aside0.mk (HT.out.step hb)
        clear HT
        have HT := Aside0.mk HT_.out
        clear HT_
        have HN_ := Aside0.mk (HN.out.trans (Tn.of_below hb))
        clear HN
        have HN := Aside0.mk HN_.out
        clear HN_
        clear hb
        refine hK.out _ _ ⟨(blk_cell HX.out 0).trans rfl, (blk_cell HX.out 1).trans rfl, (blk_cell HA.out 0).trans rfl, (blk_cell HA.out 1).trans rfl, (blk_cell HO.out 0).trans rfl⟩ (fun hHeld => ?_)
        clear hK K
        try simp only [Act.put, List.setIfInBounds_toArray, List.set_cons_zero, List.set_cons_succ]
        refine wpAnyH_ready (rs := [10]) (by kernel_rfl) (by simp) ?_
        refine AllReadyH.cons (o := ⟨some 71, _, _, _, _, none⟩) rfl (fun K hK => ?_) ?_
        · refine Kd.R_append_rows_step k63 (Rr := k63.K wl) (w0 := W0) W0.heap.size rfl (.tmp 65) (.tmp 70) 56 63 _ 56 rfl Try.underlying56 info63 rfl (show 0 < 5 by omega) (by omega) (.slice A t.l.length c) t.l [({ s := s, at_ := a, o := o } : Rd S24)] Ay 1 cy (fun _ => True) (fun _ => False) rfl rfl ?aO ?aR (fun x cs h => by rw [k63_open h]; exact k63_mkM _ _ _ x) (fun _ h => h.elim) (fun _ _ => trivial) ?aB ?aS ?aL ?_
          case aO => exact HT.out.row
          case aR => exact HCY.out
          case aB => exact HT.out.below
          case aS => exact HT.out.below.size
          case aL => have := HLEN.out; omega
          intro v8 w8 ho8 hb8 hg8 hat8
          obtain ⟨A8, c8, e8⟩ := Kd.R_slice ho8
          subst e8
          have hn8 := Tn.of_grownR (g := none) hg8 HT.out.row
          have HX_ := Aside0.mk (hn8.blk HX.out (by simp) (by decide))
          have HA_ := Aside0.mk (hn8.blk HA.out (by simp) (by decide))
          have HO_ := Aside0.mk (hn8.blk HO.out (by simp) (by decide))
          have HG8 := Aside0.mk (hn8.blk HT.out.box (by simp) (by decide))
          have HN8 := Aside0.mk (HN.out.trans hn8.any)
          have HB8 := Aside0.mk hb8
          have HOWN := Aside0.mk HT.out.own
          rw [HL.out] at ho8
          rw [HL.out]
          have HR8 := Aside0.mk ho8
          clear ho8 hb8 hg8 hat8 hn8 HX HA HO HT HN HCY
          refine hK.out _ _ ⟨(blk_cell HX_.out 0).trans rfl, (blk_cell HX_.out 1).trans rfl, (blk_cell HA_.out 0).trans rfl, (blk_cell HA_.out 1).trans rfl, (blk_cell HO_.out 0).trans rfl⟩ (fun hHeld => ?_)
          clear hK K
          try simp only [Act.put, List.setIfInBounds_toArray, List.set_cons_zero, List.set_cons_succ]
          refine wpAnyH_take (i := 11) (oi := ⟨some 72, _, _, _, _, none⟩) (v := ?v11_33) rfl (by kernel_rfl) (by kernel_rfl) (by kernel_rfl) (fun _ _ _ h => h) (Or.inl ⟨by rfl, ?hy11_33⟩) (by with_reducible assumption) ?rest11_33
          case hy11_33 => (intro V_ hSw; (try dsimp only at hSw); go_simp; (try with_reducible rfl))
          case' rest11_33 => skip
          try simp only [Act.put, List.setIfInBounds_toArray, List.set_cons_zero, List.set_cons_succ]
          refine wpAnyH_take (i := 12) (oi := ⟨some 73, _, _, _, _, none⟩) (v := ?v12_34) rfl (by kernel_rfl) (by kernel_rfl) (by kernel_rfl) (fun _ _ _ h => h) (Or.inl ⟨by rfl, ?hy12_34⟩) (by with_reducible assumption) ?rest12_34
          case hy12_34 => (intro V_ hSw; (try dsimp only at hSw); go_simp; (try with_reducible rfl))
          case' rest12_34 => skip
          try simp only [Act.put, List.setIfInBounds_toArray, List.set_cons_zero, List.set_cons_succ]
          refine wpAnyH_ready (rs := [13]) (by kernel_rfl) (by simp) ?_
          refine AllReadyH.cons (o := ⟨none, _, _, _, _, none⟩) rfl (fun K hK => ?_) ?_
          · have g3 : w8.cell? ⟨g, 3, none⟩ = some (.slice A t.l.length c) := (blk_cell HG8.out 3).trans rfl
            have f3 := blk_frozen HG8.out 3
            go_simp
            clear g3 f3
            have HT := Aside0.mk (td_setl HB8.out HOWN.out HG8.out HR8.out)
            have HN := Aside0.mk (HN8.out.trans (Tn.set (i := 3) HOWN.out (.slice A8 L.length c8)))
            have HX := Aside0.mk (blk_far HX_.out (p := ⟨g, 3, none⟩) HNG.out.1 (.slice A8 L.length c8))
            have HA := Aside0.mk (blk_far HA_.out (p := ⟨g, 3, none⟩) HNG.out.2.1 (.slice A8 L.length c8))
            have HO := Aside0.mk (blk_far HO_.out (p := ⟨g, 3, none⟩) HNG.out.2.2 (.slice A8 L.length c8))
            clear HG8 HN8 HB8 HR8 HX_ HA_ HO_
            refine hK.out _ _ ⟨(blk_cell HX.out 0).trans rfl, (blk_cell HX.out 1).trans rfl, (blk_cell HA.out 0).trans rfl, (blk_cell HA.out 1).trans rfl, (blk_cell HO.out 0).trans rfl⟩ (fun hHeld => ?_)
            clear hK K
            try simp only [Act.put, List.setIfInBounds_toArray, List.set_cons_zero, List.set_cons_succ]
            refine wpAnyH_done (by kernel_rfl) ?_ _
            refine NoPanic.normal ?_
            clear hHeld HX HA HO
            generalize hw9 : World.setCell _ _ _ = w9 at HT HN ⊢
            clear hw9
            have g3 : w9.cell? ⟨g, 3, none⟩ = some (.slice A8 L.length c8) := (blk_cell HT.out.box 3).trans rfl
            obtain ⟨r, c9, er, hbr, hlt, cellsr, hcell⟩ := Kd.R_form HT.out.row HPOS.out
            injection er with er _ ec
            subst er; subst ec
            clear hbr hlt hcell
            obtain ⟨ad, e0, y0, hy0, hld⟩ := ld_T63 (Kd.R_reads' HT.out.row).2.2 0 HPOS.out
            cases e0
            rw [add_plain] at hld
            have HY0 := Aside0.mk hy0
            have l2 : w9.cell? ⟨r, 2, none⟩ = some (.int .i64 y0.at_.1) := by have := hld 2 _ rfl; rw [add_field _ _ 2 (by omega)] at this; exact this
            have l3 : w9.cell? ⟨r, 3, none⟩ = some (.int .i64 y0.at_.2) := by have := hld 3 _ rfl; rw [add_field _ _ 3 (by omega)] at this; exact this
            have u1 : w9.cell? ⟨g, 1, none⟩ = some (.int .i64 t.low.1) := (blk_cell HT.out.box 1).trans rfl
            have u2 : w9.cell? ⟨g, 2, none⟩ = some (.int .i64 t.low.2) := (blk_cell HT.out.box 2).trans rfl
            have f1 := blk_frozen HT.out.box 1
            have f2 := blk_frozen HT.out.box 2
            have p9 := eq_true (show (0 : Int) < (L.length : Int) by have := HPOS.out; omega)
            have p9n := eq_true (show 0 < L.length from HPOS.out)
            clear hy0 hld
            go_upto_region 17 with fail
            have HN_ := Aside0.mk ((HN.out.trans (Tn.set (i := 1) HT.out.own (.int .i64 y0.at_.1))).trans (Tn.set (i := 2) HT.out.own (.int .i64 y0.at_.2)))
            have HT_ := Aside0.mk (td_setlow y0.at_ HT.out)
            clear HT HN u1 u2 l2 l3 f1 f2 g3 p9 p9n
            have HT := Aside0.mk HT_.out
            have HN := Aside0.mk HN_.out
            clear HT_ HN_
            generalize hwx : World.setCell _ _ _ = wx at HT HN ⊢
            clear hwx
            have g3 : wx.cell? ⟨g, 3, none⟩ = some (.slice (some ⟨r, 0, none⟩) L.length c8) := (blk_cell HT.out.box 3).trans rfl
            have HLM := Aside0.mk (Kd.C_max (Kd.R_reads' HT.out.row).2.2)
            go_wp2_with fail
            clear g3
            go_loopg [95] (L.length + 1) (fun gg s95 wr => ∃ (i : Nat) (m : Int × Int), s95 = .int .i64 (i : Int) ∧ Aside0 (i + gg = L.length + 1) ∧ Aside0 (i ≤ L.length) ∧ Aside0 (Td.least m (L.drop i) = M) ∧ Aside0 (TdA W0 wr g { low := m, l := L } (some ⟨r, 0, none⟩) c8) ∧ Aside0 (Tn W0.heap.size (some g) 63 W wr))
            case atStart => exact ⟨0, y0.at_, rfl, ⟨by omega⟩, ⟨Nat.zero_le _⟩, ⟨by have q := HMX.out; rw [HY0.out] at q; exact q⟩, HT, HN⟩
            case round =>
              clear HT HN
              obtain ⟨i, m, rfl, HI, HIL, HM, HT, HN⟩ := hrel
              by_cases hlt : i < L.length
              case neg =>
                have d2 : decide ((i : Int) < (L.length : Int)) = false := decide_eq_false (by omega)
                have d2n : decide (i < L.length) = false := decide_eq_false hlt
                have ei : i = L.length := by have := HIL.out; omega
                have hm := HM.out
                rw [ei, List.drop_length] at hm
                have HMM := Aside0.mk (show m = M from hm)
                clear hm ei hlt
                go_wp2_with fail
                refine (td_forget W0 wr g _ HT.out.at_).mono ?_
                rintro e wz ⟨rfl, hTz, hNz⟩
                have HTz := Aside0.mk hTz
                have HNz := Aside0.mk (HN.out.trans hNz)
                clear hTz hNz
                go_wp2_with fail
                go_ret
                exact ⟨rfl, by have q := HTz.out; rw [HMM.out] at q; exact q, HNz.out⟩
              case pos =>
                have d2 : decide ((i : Int) < (L.length : Int)) = true := decide_eq_true (by omega)
                have d2n : decide (i < L.length) = true := decide_eq_true hlt
                have hmd := least_drop (m := m) hlt
                obtain ⟨ad, e0, y, hy, hld⟩ := ld_T63 (Kd.R_reads' HT.out.row).2.2 i hlt
                cases e0
                rw [hy] at hmd
                rw [add_plain] at hld
                have HMD := Aside0.mk hmd
                have HLD := Aside0.mk hld
                have HLT := Aside0.mk hlt
                have p0 := eq_true (show (0 : Int) ≤ (i : Int) by omega)
                have q0 := eq_true (show (i : Int) < (L.length : Int) by omega)
                have hwi : Go.RowKit.wrap64 ((i : Int) + 1) = ((i + 1 : Nat) : Int) := by
                  have := HLM.out
                  unfold Go.RowKit.wrap64
                  omega
                have HWI := Aside0.mk hwi
                have HWI2 := Aside0.mk ((i64_w ((i : Int) + 1)).trans hwi)
                clear hy hmd hld hlt hwi
                go_upto_region 20 with (first | (refine wpList_load_at rfl 63 _ rfl _ (by rfl) _ _ HLD.out Try.underlying63 rfl (by kernel_rfl) ?_) | (refine wpList_store_row rfl 63 _ _ rfl wr.heap.size _ (by rfl) (by rfl) _ _ (blk_new _ _) (by kernel_rfl) (by rfl) (by kernel_rfl) ?_))
                generalize hw : World.setRow _ _ _ = wb
                have HE := Aside0.mk (show wb.heap[wr.heap.size]? = some (.cells #[.string y.s.f0, .string y.s.f1, .int .i64 y.at_.1, .int .i64 y.at_.2, .int .i64 y.o] 63 (0, 0)) from by rw [← hw]; exact setRow_heap _ _ _ _ _ _ (blk_new _ _))
                have hb : Below wr.heap.size wr wb := by rw [← hw]; exact td_row (td_alloc _ _) (Nat.le_refl _) _
                clear hw HLD
                have HT_ := Aside0.mk (HT.out.step hb)
                clear HT
                have HT := Aside0.mk HT_.out
                clear HT_
                have HN_ := Aside0.mk (HN.out.trans (Tn.of_below hb))
                clear HN
                have HN := Aside0.mk HN_.out
                clear HN_
                clear hb
                generalize wr.heap.size = gv at HE ⊢
                refine wp_region_noPanic ?_
                refine wp_region_held_drew (S := (fun V => V.cell? ⟨g, 1, none⟩ = some (.int .i64 m.1) ∧ V.cell? ⟨g, 2, none⟩ = some (.int .i64 m.2) ∧ V.cell? ⟨gv, 2, none⟩ = some (.int .i64 y.at_.1) ∧ V.cell? ⟨gv, 3, none⟩ = some (.int .i64 y.at_.2))) (by kernel_rfl) ⟨(blk_cell (td_kept HT.out.box (below_drew1 (Below.refl _ _))) 1).trans rfl, (blk_cell (td_kept HT.out.box (below_drew1 (Below.refl _ _))) 2).trans rfl, (blk_cell (td_kept HE.out (below_drew1 (Below.refl _ _))) 2).trans rfl, (blk_cell (td_kept HE.out (below_drew1 (Below.refl _ _))) 3).trans rfl⟩ (fun hHeld => ?_)
                generalize hwd : World.drew _ = wd at hHeld ⊢
                have hb : Below wb.heap.size wb wd := by rw [← hwd]; exact below_drew1 (Below.refl _ _)
                clear hwd
                have HT_ := Aside0.mk (HT.out.step hb)
                clear HT
                have HT := Aside0.mk HT_.out
                clear HT_
                have HN_ := Aside0.mk (HN.out.trans (Tn.of_below hb))
                clear HN
                have HN := Aside0.mk HN_.out
                clear HN_
                have HE_ := Aside0.mk (td_kept HE.out hb)
                clear HE
                have HE := Aside0.mk HE_.out
                clear HE_
                clear hb
                refine wpAnyH_take (i := 0) (oi := ⟨some 99, _, _, _, _, none⟩) (v := ?v0_35) rfl (by kernel_rfl) (by kernel_rfl) (by kernel_rfl) (fun _ _ _ h => h) (Or.inl ⟨by rfl, ?hy0_35⟩) (by with_reducible assumption) ?rest0_35
                case hy0_35 => (intro V_ hSw; (try dsimp only at hSw); go_simp; (try with_reducible rfl))
                case' rest0_35 => skip
                try simp only [Act.put, List.setIfInBounds_toArray, List.set_cons_zero, List.set_cons_succ]
                refine wpAnyH_take (i := 1) (oi := ⟨some 100, _, _, _, _, none⟩) (v := ?v1_36) rfl (by kernel_rfl) (by kernel_rfl) (by kernel_rfl) (fun _ _ _ h => h) (Or.inl ⟨by rfl, ?hy1_36⟩) (by with_reducible assumption) ?rest1_36
                case hy1_36 => (intro V_ hSw; (try dsimp only at hSw); go_simp; (try with_reducible rfl))
                case' rest1_36 => skip
                try simp only [Act.put, List.setIfInBounds_toArray, List.set_cons_zero, List.set_cons_succ]
                refine wpAnyH_take (i := 2) (oi := ⟨some 101, _, _, _, _, none⟩) (v := ?v2_37) rfl (by kernel_rfl) (by kernel_rfl) (by kernel_rfl) (fun _ _ _ h => h) (Or.inl ⟨by rfl, ?hy2_37⟩) (by with_reducible assumption) ?rest2_37
                case hy2_37 => (intro V_ hSw; (try dsimp only at hSw); go_simp; (try with_reducible rfl))
                case' rest2_37 => skip
                try simp only [Act.put, List.setIfInBounds_toArray, List.set_cons_zero, List.set_cons_succ]
                refine wpAnyH_take (i := 3) (oi := ⟨some 102, _, _, _, _, none⟩) (v := ?v3_38) rfl (by kernel_rfl) (by kernel_rfl) (by kernel_rfl) (fun _ _ _ h => h) (Or.inl ⟨by rfl, ?hy3_38⟩) (by with_reducible assumption) ?rest3_38
                case hy3_38 => (intro V_ hSw; (try dsimp only at hSw); go_simp; (try with_reducible rfl))
                case' rest3_38 => skip
                try simp only [Act.put, List.setIfInBounds_toArray, List.set_cons_zero, List.set_cons_succ]
                refine wpAnyH_take (i := 4) (oi := ⟨some 103, _, _, _, _, none⟩) (v := ?v4_39) rfl (by kernel_rfl) (by kernel_rfl) (by kernel_rfl) (fun _ _ _ h => h) (Or.inl ⟨by rfl, ?hy4_39⟩) (by with_reducible assumption) ?rest4_39
                case hy4_39 => (intro V_ hSw; (try dsimp only at hSw); go_simp; (try with_reducible rfl))
                case' rest4_39 => skip
                try simp only [Act.put, List.setIfInBounds_toArray, List.set_cons_zero, List.set_cons_succ]
                refine wpAnyH_take (i := 5) (oi := ⟨some 104, _, _, _, _, none⟩) (v := ?v5_40) rfl (by kernel_rfl) (by kernel_rfl) (by kernel_rfl) (fun _ _ _ h => h) (Or.inl ⟨by rfl, ?hy5_40⟩) (by with_reducible assumption) ?rest5_40
                case hy5_40 => (intro V_ hSw; (try dsimp only at hSw); go_simp; (try with_reducible rfl))
                case' rest5_40 => skip
                try simp only [Act.put, List.setIfInBounds_toArray, List.set_cons_zero, List.set_cons_succ]
                refine wpAnyH_ready (rs := [6]) (by kernel_rfl) (by simp) ?_
                refine AllReadyH.cons (o := ⟨some 105, _, _, _, _, none⟩) rfl (fun K hK => ?_) ?_
                · go_simp
                  refine (td_less y.at_ m _).mono ?_
                  rintro e we ⟨rfl, hb⟩
                  have HT_ := Aside0.mk (HT.out.step hb)
                  clear HT
                  have HT := Aside0.mk HT_.out
                  clear HT_
                  have HN_ := Aside0.mk (HN.out.trans (Tn.of_below hb))
                  clear HN
                  have HN := Aside0.mk HN_.out
                  clear HN_
                  have HE_ := Aside0.mk (td_kept HE.out hb)
                  clear HE
                  have HE := Aside0.mk HE_.out
                  clear HE_
                  clear hb
                  refine hK.out _ _ ⟨(blk_cell (td_kept HT.out.box (Below.refl _ _)) 1).trans rfl, (blk_cell (td_kept HT.out.box (Below.refl _ _)) 2).trans rfl, (blk_cell (td_kept HE.out (Below.refl _ _)) 2).trans rfl, (blk_cell (td_kept HE.out (Below.refl _ _)) 3).trans rfl⟩ (fun hHeld => ?_)
                  clear hK K
                  try simp only [Act.put, List.setIfInBounds_toArray, List.set_cons_zero, List.set_cons_succ]
                  refine wpAnyH_done (by kernel_rfl) ?_ _
                  refine NoPanic.normal ?_
                  clear hHeld
                  by_cases hc : tlt y.at_ m
                  case pos =>
                    have HC := Aside0.mk hc
                    rw [decide_eq_true hc]
                    clear hc
                    have u1 : we.cell? ⟨g, 1, none⟩ = some (.int .i64 m.1) := (blk_cell HT.out.box 1).trans rfl
                    have u2 : we.cell? ⟨g, 2, none⟩ = some (.int .i64 m.2) := (blk_cell HT.out.box 2).trans rfl
                    have v2 : we.cell? ⟨gv, 2, none⟩ = some (.int .i64 y.at_.1) := (blk_cell HE.out 2).trans rfl
                    have v3 : we.cell? ⟨gv, 3, none⟩ = some (.int .i64 y.at_.2) := (blk_cell HE.out 3).trans rfl
                    have f1 := blk_frozen HT.out.box 1
                    have f2 := blk_frozen HT.out.box 2
                    go_wp2_with fail
                    have HN_ := Aside0.mk ((HN.out.trans (Tn.set (i := 1) HT.out.own (.int .i64 y.at_.1))).trans (Tn.set (i := 2) HT.out.own (.int .i64 y.at_.2)))
                    have HT_ := Aside0.mk (td_setlow y.at_ HT.out)
                    clear HT HN u1 u2 v2 v3 f1 f2
                    have HT := Aside0.mk HT_.out
                    have HN := Aside0.mk HN_.out
                    go_roundg (L.length - i)
                    case measure => have h1 := HI.out; have h2 := HLT.out; omega
                    case rel => exact ⟨i + 1, y.at_, congrArg (Value.int .i64) (by first | exact HWI.out | exact HWI2.out | rfl | omega), ⟨by have h1 := HI.out; have h2 := HLT.out; omega⟩, ⟨HLT.out⟩, ⟨by have h1 := HMD.out; rw [if_pos HC.out] at h1; exact h1.symm.trans HM.out⟩, HT, HN⟩
                  case neg =>
                    have HC := Aside0.mk hc
                    rw [decide_eq_false hc]
                    clear hc
                    go_wp2_with fail
                    go_roundg (L.length - i)
                    case measure => have h1 := HI.out; have h2 := HLT.out; omega
                    case rel => exact ⟨i + 1, m, congrArg (Value.int .i64) (by first | exact HWI.out | exact HWI2.out | rfl | omega), ⟨by have h1 := HI.out; have h2 := HLT.out; omega⟩, ⟨HLT.out⟩, ⟨by have h1 := HMD.out; rw [if_neg HC.out] at h1; exact h1.symm.trans HM.out⟩, HT, HN⟩
                exact AllReadyH.nil
          exact AllReadyH.nil
        exact AllReadyH.nil
      exact AllReadyH.nil
    refine AllReadyH.cons (o := ⟨some 70, _, _, _, _, none⟩) rfl (fun K hK => ?_) ?_
    · refine Kd.R_lit_step k63 (w0 := wd) wd.heap.size 63 ?hg (N := 70) ?hd (xs := ([({ s := s, at_ := a, o := o } : Rd S24)] : List (Rd S24))) (inner := [.string s.f0, .string s.f1, .int .i64 a.1, .int .i64 a.2, .int .i64 o]) (ok := fun _ => True) (okp := fun _ => True) ?hr ?hp (fun _ hk => hk) trivial (Below.refl _ _) (Nat.le_refl _) (by simp) ?_
      case hg => rfl
      case hd => rfl
      case hr => first | (go_simp; done) | (go_simp; rfl)
      case hp => exact Reps.c5 (k63_mkM _ _ _ ({ s := s, at_ := a, o := o } : Rd S24)) (Reps.none _ _)
      intro vy wl hoy hb hgy hny
      obtain ⟨Ay, cy, ey⟩ := Kd.R_slice hoy
      subst ey
      have HCY := Aside0.mk (Kd.R_reads' hoy).2.2
      clear hoy hgy hny
      have HX_ := Aside0.mk (td_kept HX.out hb)
      clear HX
      have HX := Aside0.mk HX_.out
      clear HX_
      have HA_ := Aside0.mk (td_kept HA.out hb)
      clear HA
      have HA := Aside0.mk HA_.out
      clear HA_
      have HO_ := Aside0.mk (td_kept HO.out hb)
      clear HO
      have HO := Aside0.mk HO_.out
      clear HO_
      have HT_ := Aside0.mk (HT.out.step hb)
      clear HT
      have HT := Aside0.mk HT_.out
      clear HT_
      have HN_ := Aside0.mk (HN.out.trans (Tn.of_below hb))
      clear HN
      have HN := Aside0.mk HN_.out
      clear HN_
      clear hb
      refine hK.out _ _ ⟨(blk_cell HX.out 0).trans rfl, (blk_cell HX.out 1).trans rfl, (blk_cell HA.out 0).trans rfl, (blk_cell HA.out 1).trans rfl, (blk_cell HO.out 0).trans rfl⟩ (fun hHeld => ?_)
      clear hK K
      try simp only [Act.put, List.setIfInBounds_toArray, List.set_cons_zero, List.set_cons_succ]
      refine wpAnyH_ready (rs := [4]) (by kernel_rfl) (by simp) ?_
      refine AllReadyH.cons (o := ⟨some 65, _, _, _, _, none⟩) rfl (fun K hK => ?_) ?_
      · have g3 : wl.cell? ⟨g, 3, none⟩ = some (.slice A t.l.length c) := (blk_cell HT.out.box 3).trans rfl
        go_simp
        clear g3
        refine hK.out _ _ hHeld (fun hHeld => ?_)
        clear hK K
        try simp only [Act.put, List.setIfInBounds_toArray, List.set_cons_zero, List.set_cons_succ]
        refine wpAnyH_ready (rs := [10]) (by kernel_rfl) (by simp) ?_
        refine AllReadyH.cons (o := ⟨some 71, _, _, _, _, none⟩) rfl (fun K hK => ?_) ?_
        · refine Kd.R_append_rows_step k63 (Rr := k63.K wl) (w0 := W0) W0.heap.size rfl (.tmp 65) (.tmp 70) 56 63 _ 56 rfl Try.underlying56 info63 rfl (show 0 < 5 by omega) (by omega) (.slice A t.l.length c) t.l [({ s := s, at_ := a, o := o } : Rd S24)] Ay 1 cy (fun _ => True) (fun _ => False) rfl rfl ?aO ?aR (fun x cs h => by rw [k63_open h]; exact k63_mkM _ _ _ x) (fun _ h => h.elim) (fun _ _ => trivial) ?aB ?aS ?aL ?_
          case aO => exact HT.out.row
          case aR => exact HCY.out
          case aB => exact HT.out.below
          case aS => exact HT.out.below.size
          case aL => have := HLEN.out; omega
          intro v8 w8 ho8 hb8 hg8 hat8
          obtain ⟨A8, c8, e8⟩ := Kd.R_slice ho8
          subst e8
          have hn8 := Tn.of_grownR (g := none) hg8 HT.out.row
          have HX_ := Aside0.mk (hn8.blk HX.out (by simp) (by decide))
          have HA_ := Aside0.mk (hn8.blk HA.out (by simp) (by decide))
          have HO_ := Aside0.mk (hn8.blk HO.out (by simp) (by decide))
          have HG8 := Aside0.mk (hn8.blk HT.out.box (by simp) (by decide))
          have HN8 := Aside0.mk (HN.out.trans hn8.any)
          have HB8 := Aside0.mk hb8
          have HOWN := Aside0.mk HT.out.own
          rw [HL.out] at ho8
          rw [HL.out]
          have HR8 := Aside0.mk ho8
          clear ho8 hb8 hg8 hat8 hn8 HX HA HO HT HN HCY
          refine hK.out _ _ ⟨(blk_cell HX_.out 0).trans rfl, (blk_cell HX_.out 1).trans rfl, (blk_cell HA_.out 0).trans rfl, (blk_cell HA_.out 1).trans rfl, (blk_cell HO_.out 0).trans rfl⟩ (fun hHeld => ?_)
          clear hK K
          try simp only [Act.put, List.setIfInBounds_toArray, List.set_cons_zero, List.set_cons_succ]
          refine wpAnyH_take (i := 11) (oi := ⟨some 72, _, _, _, _, none⟩) (v := ?v11_41) rfl (by kernel_rfl) (by kernel_rfl) (by kernel_rfl) (fun _ _ _ h => h) (Or.inl ⟨by rfl, ?hy11_41⟩) (by with_reducible assumption) ?rest11_41
          case hy11_41 => (intro V_ hSw; (try dsimp only at hSw); go_simp; (try with_reducible rfl))
          case' rest11_41 => skip
          try simp only [Act.put, List.setIfInBounds_toArray, List.set_cons_zero, List.set_cons_succ]
          refine wpAnyH_take (i := 12) (oi := ⟨some 73, _, _, _, _, none⟩) (v := ?v12_42) rfl (by kernel_rfl) (by kernel_rfl) (by kernel_rfl) (fun _ _ _ h => h) (Or.inl ⟨by rfl, ?hy12_42⟩) (by with_reducible assumption) ?rest12_42
          case hy12_42 => (intro V_ hSw; (try dsimp only at hSw); go_simp; (try with_reducible rfl))
          case' rest12_42 => skip
          try simp only [Act.put, List.setIfInBounds_toArray, List.set_cons_zero, List.set_cons_succ]
          refine wpAnyH_ready (rs := [13]) (by kernel_rfl) (by simp) ?_
          refine AllReadyH.cons (o := ⟨none, _, _, _, _, none⟩) rfl (fun K hK => ?_) ?_
          · have g3 : w8.cell? ⟨g, 3, none⟩ = some (.slice A t.l.length c) := (blk_cell HG8.out 3).trans rfl
            have f3 := blk_frozen HG8.out 3
            go_simp
            clear g3 f3
            have HT := Aside0.mk (td_setl HB8.out HOWN.out HG8.out HR8.out)
            have HN := Aside0.mk (HN8.out.trans (Tn.set (i := 3) HOWN.out (.slice A8 L.length c8)))
            have HX := Aside0.mk (blk_far HX_.out (p := ⟨g, 3, none⟩) HNG.out.1 (.slice A8 L.length c8))
            have HA := Aside0.mk (blk_far HA_.out (p := ⟨g, 3, none⟩) HNG.out.2.1 (.slice A8 L.length c8))
            have HO := Aside0.mk (blk_far HO_.out (p := ⟨g, 3, none⟩) HNG.out.2.2 (.slice A8 L.length c8))
            clear HG8 HN8 HB8 HR8 HX_ HA_ HO_
            refine hK.out _ _ ⟨(blk_cell HX.out 0).trans rfl, (blk_cell HX.out 1).trans rfl, (blk_cell HA.out 0).trans rfl, (blk_cell HA.out 1).trans rfl, (blk_cell HO.out 0).trans rfl⟩ (fun hHeld => ?_)
            clear hK K
            try simp only [Act.put, List.setIfInBounds_toArray, List.set_cons_zero, List.set_cons_succ]
            refine wpAnyH_done (by kernel_rfl) ?_ _
            refine NoPanic.normal ?_
            clear hHeld HX HA HO
            generalize hw9 : World.setCell _ _ _ = w9 at HT HN ⊢
            clear hw9
            have g3 : w9.cell? ⟨g, 3, none⟩ = some (.slice A8 L.length c8) := (blk_cell HT.out.box 3).trans rfl
            obtain ⟨r, c9, er, hbr, hlt, cellsr, hcell⟩ := Kd.R_form HT.out.row HPOS.out
            injection er with er _ ec
            subst er; subst ec
            clear hbr hlt hcell
            obtain ⟨ad, e0, y0, hy0, hld⟩ := ld_T63 (Kd.R_reads' HT.out.row).2.2 0 HPOS.out
            cases e0
            rw [add_plain] at hld
            have HY0 := Aside0.mk hy0
            have l2 : w9.cell? ⟨r, 2, none⟩ = some (.int .i64 y0.at_.1) := by have := hld 2 _ rfl; rw [add_field _ _ 2 (by omega)] at this; exact this
            have l3 : w9.cell? ⟨r, 3, none⟩ = some (.int .i64 y0.at_.2) := by have := hld 3 _ rfl; rw [add_field _ _ 3 (by omega)] at this; exact this
            have u1 : w9.cell? ⟨g, 1, none⟩ = some (.int .i64 t.low.1) := (blk_cell HT.out.box 1).trans rfl
            have u2 : w9.cell? ⟨g, 2, none⟩ = some (.int .i64 t.low.2) := (blk_cell HT.out.box 2).trans rfl
            have f1 := blk_frozen HT.out.box 1
            have f2 := blk_frozen HT.out.box 2
            have p9 := eq_true (show (0 : Int) < (L.length : Int) by have := HPOS.out; omega)
            have p9n := eq_true (show 0 < L.length from HPOS.out)
            clear hy0 hld
            go_upto_region 17 with fail
            have HN_ := Aside0.mk ((HN.out.trans (Tn.set (i := 1) HT.out.own (.int .i64 y0.at_.1))).trans (Tn.set (i := 2) HT.out.own (.int .i64 y0.at_.2)))
            have HT_ := Aside0.mk (td_setlow y0.at_ HT.out)
            clear HT HN u1 u2 l2 l3 f1 f2 g3 p9 p9n
            have HT := Aside0.mk HT_.out
            have HN := Aside0.mk HN_.out
            clear HT_ HN_
            generalize hwx : World.setCell _ _ _ = wx at HT HN ⊢
            clear hwx
            have g3 : wx.cell? ⟨g, 3, none⟩ = some (.slice (some ⟨r, 0, none⟩) L.length c8) := (blk_cell HT.out.box 3).trans rfl
            have HLM := Aside0.mk (Kd.C_max (Kd.R_reads' HT.out.row).2.2)
            go_wp2_with fail
            clear g3
            go_loopg [95] (L.length + 1) (fun gg s95 wr => ∃ (i : Nat) (m : Int × Int), s95 = .int .i64 (i : Int) ∧ Aside0 (i + gg = L.length + 1) ∧ Aside0 (i ≤ L.length) ∧ Aside0 (Td.least m (L.drop i) = M) ∧ Aside0 (TdA W0 wr g { low := m, l := L } (some ⟨r, 0, none⟩) c8) ∧ Aside0 (Tn W0.heap.size (some g) 63 W wr))
            case atStart => exact ⟨0, y0.at_, rfl, ⟨by omega⟩, ⟨Nat.zero_le _⟩, ⟨by have q := HMX.out; rw [HY0.out] at q; exact q⟩, HT, HN⟩
            case round =>
              clear HT HN
              obtain ⟨i, m, rfl, HI, HIL, HM, HT, HN⟩ := hrel
              by_cases hlt : i < L.length
              case neg =>
                have d2 : decide ((i : Int) < (L.length : Int)) = false := decide_eq_false (by omega)
                have d2n : decide (i < L.length) = false := decide_eq_false hlt
                have ei : i = L.length := by have := HIL.out; omega
                have hm := HM.out
                rw [ei, List.drop_length] at hm
                have HMM := Aside0.mk (show m = M from hm)
                clear hm ei hlt
                go_wp2_with fail
                refine (td_forget W0 wr g _ HT.out.at_).mono ?_
                rintro e wz ⟨rfl, hTz, hNz⟩
                have HTz := Aside0.mk hTz
                have HNz := Aside0.mk (HN.out.trans hNz)
                clear hTz hNz
                go_wp2_with fail
                go_ret
                exact ⟨rfl, by have q := HTz.out; rw [HMM.out] at q; exact q, HNz.out⟩
              case pos =>
                have d2 : decide ((i : Int) < (L.length : Int)) = true := decide_eq_true (by omega)
                have d2n : decide (i < L.length) = true := decide_eq_true hlt
                have hmd := least_drop (m := m) hlt
                obtain ⟨ad, e0, y, hy, hld⟩ := ld_T63 (Kd.R_reads' HT.out.row).2.2 i hlt
                cases e0
                rw [hy] at hmd
                rw [add_plain] at hld
                have HMD := Aside0.mk hmd
                have HLD := Aside0.mk hld
                have HLT := Aside0.mk hlt
                have p0 := eq_true (show (0 : Int) ≤ (i : Int) by omega)
                have q0 := eq_true (show (i : Int) < (L.length : Int) by omega)
                have hwi : Go.RowKit.wrap64 ((i : Int) + 1) = ((i + 1 : Nat) : Int) := by
                  have := HLM.out
                  unfold Go.RowKit.wrap64
                  omega
                have HWI := Aside0.mk hwi
                have HWI2 := Aside0.mk ((i64_w ((i : Int) + 1)).trans hwi)
                clear hy hmd hld hlt hwi
                go_upto_region 20 with (first | (refine wpList_load_at rfl 63 _ rfl _ (by rfl) _ _ HLD.out Try.underlying63 rfl (by kernel_rfl) ?_) | (refine wpList_store_row rfl 63 _ _ rfl wr.heap.size _ (by rfl) (by rfl) _ _ (blk_new _ _) (by kernel_rfl) (by rfl) (by kernel_rfl) ?_))
                generalize hw : World.setRow _ _ _ = wb
                have HE := Aside0.mk (show wb.heap[wr.heap.size]? = some (.cells #[.string y.s.f0, .string y.s.f1, .int .i64 y.at_.1, .int .i64 y.at_.2, .int .i64 y.o] 63 (0, 0)) from by rw [← hw]; exact setRow_heap _ _ _ _ _ _ (blk_new _ _))
                have hb : Below wr.heap.size wr wb := by rw [← hw]; exact td_row (td_alloc _ _) (Nat.le_refl _) _
                clear hw HLD
                have HT_ := Aside0.mk (HT.out.step hb)
                clear HT
                have HT := Aside0.mk HT_.out
                clear HT_
                have HN_ := Aside0.mk (HN.out.trans (Tn.of_below hb))
                clear HN
                have HN := Aside0.mk HN_.out
                clear HN_
                clear hb
                generalize wr.heap.size = gv at HE ⊢
                refine wp_region_noPanic ?_
                refine wp_region_held_drew (S := (fun V => V.cell? ⟨g, 1, none⟩ = some (.int .i64 m.1) ∧ V.cell? ⟨g, 2, none⟩ = some (.int .i64 m.2) ∧ V.cell? ⟨gv, 2, none⟩ = some (.int .i64 y.at_.1) ∧ V.cell? ⟨gv, 3, none⟩ = some (.int .i64 y.at_.2))) (by kernel_rfl) ⟨(blk_cell (td_kept HT.out.box (below_drew1 (Below.refl _ _))) 1).trans rfl, (blk_cell (td_kept HT.out.box (below_drew1 (Below.refl _ _))) 2).trans rfl, (blk_cell (td_kept HE.out (below_drew1 (Below.refl _ _))) 2).trans rfl, (blk_cell (td_kept HE.out (below_drew1 (Below.refl _ _))) 3).trans rfl⟩ (fun hHeld => ?_)
                generalize hwd : World.drew _ = wd at hHeld ⊢
                have hb : Below wb.heap.size wb wd := by rw [← hwd]; exact below_drew1 (Below.refl _ _)
                clear hwd
                have HT_ := Aside0.mk (HT.out.step hb)
                clear HT
                have HT := Aside0.mk HT_.out
                clear HT_
                have HN_ := Aside0.mk (HN.out.trans (Tn.of_below hb))
                clear HN
                have HN := Aside0.mk HN_.out
                clear HN_
                have HE_ := Aside0.mk (td_kept HE.out hb)
                clear HE
                have HE := Aside0.mk HE_.out
                clear HE_
                clear hb
                refine wpAnyH_take (i := 0) (oi := ⟨some 99, _, _, _, _, none⟩) (v := ?v0_43) rfl (by kernel_rfl) (by kernel_rfl) (by kernel_rfl) (fun _ _ _ h => h) (Or.inl ⟨by rfl, ?hy0_43⟩) (by with_reducible assumption) ?rest0_43
                case hy0_43 => (intro V_ hSw; (try dsimp only at hSw); go_simp; (try with_reducible rfl))
                case' rest0_43 => skip
                try simp only [Act.put, List.setIfInBounds_toArray, List.set_cons_zero, List.set_cons_succ]
                refine wpAnyH_take (i := 1) (oi := ⟨some 100, _, _, _, _, none⟩) (v := ?v1_44) rfl (by kernel_rfl) (by kernel_rfl) (by kernel_rfl) (fun _ _ _ h => h) (Or.inl ⟨by rfl, ?hy1_44⟩) (by with_reducible assumption) ?rest1_44
                case hy1_44 => (intro V_ hSw; (try dsimp only at hSw); go_simp; (try with_reducible rfl))
                case' rest1_44 => skip
                try simp only [Act.put, List.setIfInBounds_toArray, List.set_cons_zero, List.set_cons_succ]
                refine wpAnyH_take (i := 2) (oi := ⟨some 101, _, _, _, _, none⟩) (v := ?v2_45) rfl (by kernel_rfl) (by kernel_rfl) (by kernel_rfl) (fun _ _ _ h => h) (Or.inl ⟨by rfl, ?hy2_45⟩) (by with_reducible assumption) ?rest2_45
                case hy2_45 => (intro V_ hSw; (try dsimp only at hSw); go_simp; (try with_reducible rfl))
                case' rest2_45 => skip
                try simp only [Act.put, List.setIfInBounds_toArray, List.set_cons_zero, List.set_cons_succ]
                refine wpAnyH_take (i := 3) (oi := ⟨some 102, _, _, _, _, none⟩) (v := ?v3_46) rfl (by kernel_rfl) (by kernel_rfl) (by kernel_rfl) (fun _ _ _ h => h) (Or.inl ⟨by rfl, ?hy3_46⟩) (by with_reducible assumption) ?rest3_46
                case hy3_46 => (intro V_ hSw; (try dsimp only at hSw); go_simp; (try with_reducible rfl))
                case' rest3_46 => skip
                try simp only [Act.put, List.setIfInBounds_toArray, List.set_cons_zero, List.set_cons_succ]
                refine wpAnyH_take (i := 4) (oi := ⟨some 103, _, _, _, _, none⟩) (v := ?v4_47) rfl (by kernel_rfl) (by kernel_rfl) (by kernel_rfl) (fun _ _ _ h => h) (Or.inl ⟨by rfl, ?hy4_47⟩) (by with_reducible assumption) ?rest4_47
                case hy4_47 => (intro V_ hSw; (try dsimp only at hSw); go_simp; (try with_reducible rfl))
                case' rest4_47 => skip
                try simp only [Act.put, List.setIfInBounds_toArray, List.set_cons_zero, List.set_cons_succ]
                refine wpAnyH_take (i := 5) (oi := ⟨some 104, _, _, _, _, none⟩) (v := ?v5_48) rfl (by kernel_rfl) (by kernel_rfl) (by kernel_rfl) (fun _ _ _ h => h) (Or.inl ⟨by rfl, ?hy5_48⟩) (by with_reducible assumption) ?rest5_48
                case hy5_48 => (intro V_ hSw; (try dsimp only at hSw); go_simp; (try with_reducible rfl))
                case' rest5_48 => skip
                try simp only [Act.put, List.setIfInBounds_toArray, List.set_cons_zero, List.set_cons_succ]
                refine wpAnyH_ready (rs := [6]) (by kernel_rfl) (by simp) ?_
                refine AllReadyH.cons (o := ⟨some 105, _, _, _, _, none⟩) rfl (fun K hK => ?_) ?_
                · go_simp
                  refine (td_less y.at_ m _).mono ?_
                  rintro e we ⟨rfl, hb⟩
                  have HT_ := Aside0.mk (HT.out.step hb)
                  clear HT
                  have HT := Aside0.mk HT_.out
                  clear HT_
                  have HN_ := Aside0.mk (HN.out.trans (Tn.of_below hb))
                  clear HN
                  have HN := Aside0.mk HN_.out
                  clear HN_
                  have HE_ := Aside0.mk (td_kept HE.out hb)
                  clear HE
                  have HE := Aside0.mk HE_.out
                  clear HE_
                  clear hb
                  refine hK.out _ _ ⟨(blk_cell (td_kept HT.out.box (Below.refl _ _)) 1).trans rfl, (blk_cell (td_kept HT.out.box (Below.refl _ _)) 2).trans rfl, (blk_cell (td_kept HE.out (Below.refl _ _)) 2).trans rfl, (blk_cell (td_kept HE.out (Below.refl _ _)) 3).trans rfl⟩ (fun hHeld => ?_)
                  clear hK K
                  try simp only [Act.put, List.setIfInBounds_toArray, List.set_cons_zero, List.set_cons_succ]
                  refine wpAnyH_done (by kernel_rfl) ?_ _
                  refine NoPanic.normal ?_
                  clear hHeld
                  by_cases hc : tlt y.at_ m
                  case pos =>
                    have HC := Aside0.mk hc
                    rw [decide_eq_true hc]
                    clear hc
                    have u1 : we.cell? ⟨g, 1, none⟩ = some (.int .i64 m.1) := (blk_cell HT.out.box 1).trans rfl
                    have u2 : we.cell? ⟨g, 2, none⟩ = some (.int .i64 m.2) := (blk_cell HT.out.box 2).trans rfl
                    have v2 : we.cell? ⟨gv, 2, none⟩ = some (.int .i64 y.at_.1) := (blk_cell HE.out 2).trans rfl
                    have v3 : we.cell? ⟨gv, 3, none⟩ = some (.int .i64 y.at_.2) := (blk_cell HE.out 3).trans rfl
                    have f1 := blk_frozen HT.out.box 1
                    have f2 := blk_frozen HT.out.box 2
                    go_wp2_with fail
                    have HN_ := Aside0.mk ((HN.out.trans (Tn.set (i := 1) HT.out.own (.int .i64 y.at_.1))).trans (Tn.set (i := 2) HT.out.own (.int .i64 y.at_.2)))
                    have HT_ := Aside0.mk (td_setlow y.at_ HT.out)
                    clear HT HN u1 u2 v2 v3 f1 f2
                    have HT := Aside0.mk HT_.out
                    have HN := Aside0.mk HN_.out
                    go_roundg (L.length - i)
                    case measure => have h1 := HI.out; have h2 := HLT.out; omega
                    case rel => exact ⟨i + 1, y.at_, congrArg (Value.int .i64) (by first | exact HWI.out | exact HWI2.out | rfl | omega), ⟨by have h1 := HI.out; have h2 := HLT.out; omega⟩, ⟨HLT.out⟩, ⟨by have h1 := HMD.out; rw [if_pos HC.out] at h1; exact h1.symm.trans HM.out⟩, HT, HN⟩
                  case neg =>
                    have HC := Aside0.mk hc
                    rw [decide_eq_false hc]
                    clear hc
                    go_wp2_with fail
                    go_roundg (L.length - i)
                    case measure => have h1 := HI.out; have h2 := HLT.out; omega
                    case rel => exact ⟨i + 1, m, congrArg (Value.int .i64) (by first | exact HWI.out | exact HWI2.out | rfl | omega), ⟨by have h1 := HI.out; have h2 := HLT.out; omega⟩, ⟨HLT.out⟩, ⟨by have h1 := HMD.out; rw [if_neg HC.out] at h1; exact h1.symm.trans HM.out⟩, HT, HN⟩
                exact AllReadyH.nil
          exact AllReadyH.nil
        exact AllReadyH.nil
      exact AllReadyH.nil
    exact AllReadyH.nil
  exact AllReadyH.nil
theorem td_add (W0 W : World) (g : Nat) (t : Td S24) (s : S24) (a : Int × Int) (o : Int) (h : TdAt W0 W g t) (hlen : t.l.length ≤ 64) : Calls Try.prog 11 #[.pointer (some ⟨g, 0, none⟩), .agg #[.string s.f0, .string s.f1], .agg #[.int .i64 a.1, .int .i64 a.2], .int .i64 o] W (TdPost W0 W g (if addErr s a o = 0 then t.add s a o else t) (.returned (.int .i64 (addErr s a o)))) := by
  obtain ⟨a1, a2, A, c, a3, a4⟩ := h
  have h : TdA W0 W g t A c := ⟨a1, a2, a3, a4⟩
  by_cases hs : spErr s = 0
  · by_cases hk : sok a = true
    · by_cases ho : own o = true
      · have e0 : addErr s a o = 0 := by
          unfold addErr
          rw [if_neg (by simpa using hs), if_pos ⟨hk, ho⟩]
        rw [e0, if_pos rfl]
        by_cases hl : tlt t.low a
        · rcases first_hit (same s o) t.l with hm | ⟨k, k1, k2, k3⟩
          · rw [add_push hl hm]
            by_cases h64 : (t.l ++ [({ s := s, at_ := a, o := o } : Rd S24)]).length ≤ 64
            · rw [push_small h64]; exact td_add_small W0 W g t A c s a o h hs hk ho hl hm hlen h64
            · rw [push_big h64]; exact td_add_big W0 W g t A c s a o h hs hk ho hl hm hlen h64
          · rw [add_up hl k1 k2 k3]; exact td_add_up W0 W g t A c s a o h hs hk ho hl k k1 k2 k3
        · have e : t.add s a o = t := if_neg hl
          rw [e]; exact td_add_low W0 W g t A c s a o h hs hk ho (decide_eq_false hl)
      · have e0 : addErr s a o = 2 := by
          unfold addErr
          rw [if_neg (by simpa using hs), if_neg (fun q => ho q.2)]
        rw [e0, if_neg (by decide)]; exact td_add_bad3 W0 W g t A c s a o h hs hk (by simpa using ho)
    · have e0 : addErr s a o = 2 := by
        unfold addErr
        rw [if_neg (by simpa using hs), if_neg (fun q => hk q.1)]
      rw [e0, if_neg (by decide)]; exact td_add_bad2 W0 W g t A c s a o h hs (by simpa using hk)
  · have e0 : addErr s a o = spErr s := by
      unfold addErr
      rw [if_pos hs]
    rw [e0, if_neg hs]; exact td_add_bad1 W0 W g t A c s a o h hs
theorem filter_lt {p : Rd S24 → Bool} {l : List (Rd S24)} {x : Rd S24} (hx : x ∈ l) (hp : p x = false) : (l.filter p).length < l.length := by
  rcases Nat.lt_or_ge (l.filter p).length l.length with h | h
  · exact h
  · have e := List.length_filter_eq_length_iff.1 (Nat.le_antisymm (List.length_filter_le p l) h) x hx
    rw [hp] at e; cases e
theorem add_len (t : Td S24) (h : t.l.length ≤ 64) (s : S24) (a : Int × Int) (o : Int) : (t.add s a o).l.length ≤ 64 := by
  unfold Td.add
  by_cases c : tlt t.low a
  · rw [if_pos c]
    cases hu : Td.up s o a t.l with
    | some l => show l.length ≤ 64; rw [(Td.up_some hu).2.2.2]; exact h
    | none =>
      show (Td.push t ({ s := s, at_ := a, o := o } : Rd S24)).l.length ≤ 64
      unfold Td.push
      by_cases h64 : (t.l ++ [({ s := s, at_ := a, o := o } : Rd S24)]).length ≤ 64
      · rw [if_pos h64]; exact h64
      · rw [if_neg h64]
        obtain ⟨h1, h2, h3⟩ := Td.least_le ((t.l ++ [({ s := s, at_ := a, o := o } : Rd S24)]).headD ({ s := s, at_ := a, o := o } : Rd S24)).at_ (t.l ++ [({ s := s, at_ := a, o := o } : Rd S24)])
        have hd : (t.l ++ [({ s := s, at_ := a, o := o } : Rd S24)]).headD ({ s := s, at_ := a, o := o } : Rd S24) ∈ t.l ++ [({ s := s, at_ := a, o := o } : Rd S24)] := by cases t.l <;> simp
        obtain ⟨x, hx, e⟩ : ∃ x ∈ t.l ++ [({ s := s, at_ := a, o := o } : Rd S24)], Td.least ((t.l ++ [({ s := s, at_ := a, o := o } : Rd S24)]).headD ({ s := s, at_ := a, o := o } : Rd S24)).at_ (t.l ++ [({ s := s, at_ := a, o := o } : Rd S24)]) = x.at_ := by
          rcases h3 with h3 | ⟨x, hx, h3⟩
          · exact ⟨_, hd, h3⟩
          · exact ⟨x, hx, h3⟩
        have hlt := filter_lt (p := fun r => decide (tlt (Td.least ((t.l ++ [({ s := s, at_ := a, o := o } : Rd S24)]).headD ({ s := s, at_ := a, o := o } : Rd S24)).at_ (t.l ++ [({ s := s, at_ := a, o := o } : Rd S24)])) r.at_)) hx (by rw [e]; exact decide_eq_false (by unfold tlt; omega))
        have hle : (t.l ++ [({ s := s, at_ := a, o := o } : Rd S24)]).length = t.l.length + 1 := by simp
        exact Nat.lt_succ_iff.1 (Nat.lt_of_lt_of_le hlt (by rw [hle]; omega))
  · rw [if_neg c]; exact h
theorem raise_len (t : Td S24) (h : t.l.length ≤ 64) (a : Int × Int) : (t.raise a).l.length ≤ 64 := Nat.le_trans (List.length_filter_le _ _) h
end Go.Proofs.Ytaccfbpfennjkaa.PTideDoes

