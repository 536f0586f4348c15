/- The tide (typed by hand): the small functions in its own words; Raise. -/
import Derived.Test.YtaccfbpfennjkaaTd3
namespace Go.Proofs.Ytaccfbpfennjkaa.PTideDoes
open Go.RowKit Go.Proofs.YtaccfbpfennjkaaW.PrintWords Go.Proofs.YtaccfbpfennjkaaW.PrintLast Go.Proofs.YtaccfbpfennjkaaW.PrintMore
attribute [local go_sem] max2_int min2_int max_two min_two max_three min_three max_four min_four   -- for this text's walks alone
set_option linter.unusedVariables false
set_option linter.unusedSimpArgs false
/-- What is wrong with a span; 0: nothing. -/
def spErr (s : S24) : Int := if (s.f0.size : Int) > 33 ∨ (s.f1.size : Int) > 33 then 5 else if Op.bytesLess s.f0.toList s.f1.toList = true then 0 else 2
theorem spErr_f (s : S24) : spans_Check.f 9 s.f0 s.f1 = some (spErr s) := by
  unfold spans_Check.f spErr
  by_cases h1 : (s.f0.size : Int) > 33
  · rw [if_pos h1, if_pos (.inl h1)]; rfl
  · rw [if_neg h1]
    by_cases h2 : (s.f1.size : Int) > 33
    · rw [if_pos (.inr h2), decide_eq_true h2]; rfl
    · rw [if_neg (by intro h; rcases h with h | h <;> contradiction), decide_eq_false h2]
      rw [show spans_Check.j0 9 false s.f0 s.f1 = (if Op.bytesLess s.f0.toList s.f1.toList = true then some 0 else some 2) from rfl]
      split <;> rfl
theorem td_sp (s : S24) (w : World) : Calls Try.prog 32 #[.agg #[.string s.f0, .string s.f1]] w fun e w' => e = .returned (.int .i64 (spErr s)) ∧ Below w.heap.size w w' := spans_Check.calls 9 s.f0 s.f1 _ w (spErr_f s)
/-- May that be an owner? -/
def own (o : Int) : Bool := decide (0 ≤ o ∧ o ≤ 9007199254740991)
theorem own_f (o : Int) : tide_mayOwn.f o = some (own o) := by
  unfold tide_mayOwn.f own
  by_cases h : o ≥ 0
  · rw [if_pos h]
    refine congrArg some ?_
    rw [Bool.eq_iff_iff, decide_eq_true_iff, decide_eq_true_iff]
    omega
  · rw [if_neg h, decide_eq_false (by omega)]
theorem td_own (o : Int) (w : World) : Calls Try.prog 33 #[.int .i64 o] w fun e w' => e = .returned (.bool (own o)) ∧ Below w.heap.size w w' := (tide_mayOwn.calls o _ w (own_f o)).mono fun e w' ⟨h1, h2⟩ => ⟨h1, by obtain ⟨n, rfl⟩ := h2.out; exact pw_below_drewN (Below.refl _ _) _⟩
theorem td_chk (a : Int × Int) (w : World) : Calls Try.prog 30 #[.agg #[.int .i64 a.1, .int .i64 a.2]] w fun e w' => e = .returned (.int .i64 (if sok a = true then 0 else 9)) ∧ Below w.heap.size w w' := (stamp_Check.calls a.1 a.2 _ w (check_td a)).mono fun e w' ⟨h1, h2⟩ => ⟨h1, h2⟩
theorem td_less (a b : Int × Int) (w : World) : Calls Try.prog 26 #[.agg #[.int .i64 a.1, .int .i64 a.2], .agg #[.int .i64 b.1, .int .i64 b.2]] w fun e w' => e = .returned (.bool (decide (tlt a b))) ∧ Below w.heap.size w w' := stamp_Less.calls 9 a.1 a.2 b.1 b.2 _ w (less_td a b)
theorem mcmp_pos (a b : Int) : (0 < mcmp a b ↔ b < a) ∧ (mcmp a b = 0 ↔ a = b) := by
  unfold mcmp
  refine ⟨?_, ?_⟩ <;> split <;> (try split) <;> omega
theorem maxS_two (a b : Int × Int) : ((maxS [⟨a.1, a.2⟩, ⟨b.1, b.2⟩]).f0, (maxS [⟨a.1, a.2⟩, ⟨b.1, b.2⟩]).f1) = tmx a b := by
  show ((if 0 < cmpS ⟨b.1, b.2⟩ ⟨a.1, a.2⟩ then (⟨b.1, b.2⟩ : S31) else ⟨a.1, a.2⟩).f0, (if 0 < cmpS ⟨b.1, b.2⟩ ⟨a.1, a.2⟩ then (⟨b.1, b.2⟩ : S31) else ⟨a.1, a.2⟩).f1) = _
  have h : 0 < cmpS ⟨b.1, b.2⟩ ⟨a.1, a.2⟩ ↔ tlt a b := by
    unfold cmpS tlt
    have h1 := mcmp_pos b.1 a.1
    have h2 := mcmp_pos b.2 a.2
    dsimp only
    split <;> omega
  unfold tmx
  by_cases c : tlt a b
  · rw [if_pos (h.2 c), if_pos c]
  · rw [if_neg (fun q => c (h.1 q)), if_neg c]
theorem td_max2 (a b : Int × Int) (A : Option Addr) (c : Nat) (w : World) (hC : Kd.C k31 w A 2 ([⟨a.1, a.2⟩, ⟨b.1, b.2⟩] : List S31)) (hc : 2 ≤ c) :
    Calls Try.prog 27 #[.slice A 2 c] w fun e w' => e = .returned (.agg #[.int .i64 (tmx a b).1, .int .i64 (tmx a b).2]) ∧ Below w.heap.size w w' :=
  stamp_Max.calls A c [⟨a.1, a.2⟩, ⟨b.1, b.2⟩] (tmx a b).1 (tmx a b).2 w hC hc (by
    unfold stamp_Max.f
    rw [← maxS_two a b])
theorem two_rep (w : World) (base : Nat) (ok : Nat → Prop) (a b : Int × Int) : Reps (k31.M w base ok) 2 ([⟨a.1, a.2⟩, ⟨b.1, b.2⟩] : List S31) [.int .i64 a.1, .int .i64 a.2, .int .i64 b.1, .int .i64 b.2] := Reps.c2 (k31_mkM _ _ _ (⟨a.1, a.2⟩ : S31)) (Reps.c2 (k31_mkM _ _ _ (⟨b.1, b.2⟩ : S31)) (Reps.none _ _))
set_option maxHeartbeats 16000000 in
set_option maxRecDepth 100000 in
theorem td_raise_bad (W0 W : World) (g : Nat) (t : Td S24) (a : Int × Int) (h : TdAt W0 W g t) (ha : sok a = false) : Calls Try.prog 19 #[.pointer (some ⟨g, 0, none⟩), .agg #[.int .i64 a.1, .int .i64 a.2]] W (TdPost W0 W g t (.returned (.int .i64 2))) := by
  have HT := Aside0.mk h
  have HA := Aside0.mk ha
  clear h ha
  go_enter Try.func19, Try.ntmps19
  go_upto_region 1 with fail
  generalize hw1 : World.alloc W _ = w1
  have HB1 := Aside0.mk (show Below W.heap.size W w1 from by rw [← hw1]; exact td_alloc W _)
  have HX1 := Aside0.mk (show w1.heap[W.heap.size]? = some (.cells #[.int .i64 a.1, .int .i64 a.2] 31 (0, 0)) from by rw [← hw1]; exact blk_new W _)
  have HT1 := Aside0.mk (HT.out.step HB1.out)
  have HN1 := Aside0.mk (Tn.of_below (B := W0.heap.size) (g := some g) (ty := 63) HB1.out)
  have HNE := Aside0.mk (show W.heap.size ≠ g from (Nat.ne_of_lt HT.out.lt).symm)
  clear hw1 HB1 HT
  generalize W.heap.size = n at HX1 HNE ⊢
  go_wp2_with fail
  refine (td_none W0 w1 g t HT1.out).mono ?_
  rintro e w2 ⟨rfl, hb2⟩
  have HX2 := Aside0.mk (td_kept HX1.out hb2)
  have HT2 := Aside0.mk (HT1.out.step hb2)
  have HN2 := Aside0.mk (HN1.out.trans (Tn.of_below hb2))
  clear HX1 HT1 HN1 hb2
  have x0 : w2.cell? ⟨n, 0, none⟩ = some (.int .i64 a.1) := (blk_cell HX2.out 0).trans rfl
  have x1 : w2.cell? ⟨n, 1, none⟩ = some (.int .i64 a.2) := (blk_cell HX2.out 1).trans rfl
  go_wp2_with fail
  refine (td_chk a _).mono ?_
  rintro e w3 ⟨rfl, hb3⟩
  rw [HA.out]
  have HX3 := Aside0.mk (td_kept HX2.out hb3)
  have HT3 := Aside0.mk (HT2.out.step hb3)
  have HN3 := Aside0.mk (HN2.out.trans (Tn.of_below hb3))
  clear HX2 HT2 HN2 hb3 x0 x1
  go_wp2_with fail
  go_ret
  exact ⟨rfl, HT3.out, HN3.out⟩
set_option maxHeartbeats 16000000 in
set_option maxRecDepth 100000 in
theorem td_raise (W0 W : World) (g : Nat) (t : Td S24) (a : Int × Int) (h : TdAt W0 W g t) (ha : sok a = true) : Calls Try.prog 19 #[.pointer (some ⟨g, 0, none⟩), .agg #[.int .i64 a.1, .int .i64 a.2]] W (TdPost W0 W g (t.raise a) (.returned (.int .i64 0))) := by
  unfold Td.raise
  have HT := Aside0.mk h
  have HA := Aside0.mk ha
  clear h ha
  go_enter Try.func19, Try.ntmps19
  go_upto_region 1 with fail
  generalize hw1 : World.alloc W _ = w1
  have HB1 := Aside0.mk (show Below W.heap.size W w1 from by rw [← hw1]; exact td_alloc W _)
  have HX1 := Aside0.mk (show w1.heap[W.heap.size]? = some (.cells #[.int .i64 a.1, .int .i64 a.2] 31 (0, 0)) from by rw [← hw1]; exact blk_new W _)
  have HT1 := Aside0.mk (HT.out.step HB1.out)
  have HN1 := Aside0.mk (Tn.of_below (B := W0.heap.size) (g := some g) (ty := 63) HB1.out)
  have HNE := Aside0.mk (show W.heap.size ≠ g from (Nat.ne_of_lt HT.out.lt).symm)
  clear hw1 HB1 HT
  generalize W.heap.size = n at HX1 HNE ⊢
  go_wp2_with fail
  refine (td_none W0 w1 g t HT1.out).mono ?_
  rintro e w2 ⟨rfl, hb2⟩
  have HX2 := Aside0.mk (td_kept HX1.out hb2)
  have HT2 := Aside0.mk (HT1.out.step hb2)
  have HN2 := Aside0.mk (HN1.out.trans (Tn.of_below hb2))
  clear HX1 HT1 HN1 hb2
  have x0 : w2.cell? ⟨n, 0, none⟩ = some (.int .i64 a.1) := (blk_cell HX2.out 0).trans rfl
  have x1 : w2.cell? ⟨n, 1, none⟩ = some (.int .i64 a.2) := (blk_cell HX2.out 1).trans rfl
  go_wp2_with fail
  refine (td_chk a _).mono ?_
  rintro e w3 ⟨rfl, hb3⟩
  rw [HA.out]
  have HX3 := Aside0.mk (td_kept HX2.out hb3)
  have HT3 := Aside0.mk (HT2.out.step hb3)
  have HN3 := Aside0.mk (HN2.out.trans (Tn.of_below hb3))
  clear HX2 HT2 HN2 hb3 x0 x1
  go_upto_region 5 with fail
  obtain ⟨_, _, A, c, hG3, _⟩ := HT3.out
  have HG3 := Aside0.mk hG3
  clear hG3
  refine wp_region_noPanic ?_
  refine wp_region_held_drew (S := (fun V => V.cell? ⟨n, 0, none⟩ = some (.int .i64 a.1) ∧ V.cell? ⟨n, 1, none⟩ = some (.int .i64 a.2))) (by kernel_rfl) ⟨(blk_cell (td_kept HX3.out (below_drew1 (Below.refl _ _))) 0).trans rfl, (blk_cell (td_kept HX3.out (below_drew1 (Below.refl _ _))) 1).trans rfl⟩ (fun hHeld => ?_)
  generalize hwd : World.drew _ = wd at hHeld ⊢
  have hbd : Below w3.heap.size w3 wd := by rw [← hwd]; exact below_drew1 (Below.refl _ _)
  have HXd := Aside0.mk (td_kept HX3.out hbd)
  have HGd := Aside0.mk (td_kept HG3.out hbd)
  have HTd := Aside0.mk (HT3.out.step hbd)
  have HNd := Aside0.mk (HN3.out.trans (Tn.of_below hbd))
  clear hwd hbd HX3 HG3 HT3 HN3
  refine wpAnyH_take (i := 0) (oi := ⟨some 12, _, _, _, _, none⟩) (v := ?v0_1) rfl (by kernel_rfl) (by kernel_rfl) (by kernel_rfl) (fun _ _ _ h => h) (Or.inl ⟨by rfl, ?hy0_1⟩) (by with_reducible assumption) ?rest0_1
  case hy0_1 => (intro V_ hSw; (try dsimp only at hSw); go_simp; (try with_reducible rfl))
  case' rest0_1 => skip
  try simp only [Act.put, List.setIfInBounds_toArray, List.set_cons_zero, List.set_cons_succ]
  refine wpAnyH_take (i := 1) (oi := ⟨some 13, _, _, _, _, none⟩) (v := ?v1_2) rfl (by kernel_rfl) (by kernel_rfl) (by kernel_rfl) (fun _ _ _ h => h) (Or.inl ⟨by rfl, ?hy1_2⟩) (by with_reducible assumption) ?rest1_2
  case hy1_2 => (intro V_ hSw; (try dsimp only at hSw); go_simp; (try with_reducible rfl))
  case' rest1_2 => skip
  try simp only [Act.put, List.setIfInBounds_toArray, List.set_cons_zero, List.set_cons_succ]
  refine wpAnyH_take (i := 2) (oi := ⟨some 14, _, _, _, _, none⟩) (v := ?v2_3) rfl (by kernel_rfl) (by kernel_rfl) (by kernel_rfl) (fun _ _ _ h => h) (Or.inl ⟨by rfl, ?hy2_3⟩) (by with_reducible assumption) ?rest2_3
  case hy2_3 => (intro V_ hSw; (try dsimp only at hSw); go_simp; (try with_reducible rfl))
  case' rest2_3 => skip
  try simp only [Act.put, List.setIfInBounds_toArray, List.set_cons_zero, List.set_cons_succ]
  refine wpAnyH_take (i := 3) (oi := ⟨some 15, _, _, _, _, none⟩) (v := ?v3_4) rfl (by kernel_rfl) (by kernel_rfl) (by kernel_rfl) (fun _ _ _ h => h) (Or.inl ⟨by rfl, ?hy3_4⟩) (by with_reducible assumption) ?rest3_4
  case hy3_4 => (intro V_ hSw; (try dsimp only at hSw); go_simp; (try with_reducible rfl))
  case' rest3_4 => skip
  try simp only [Act.put, List.setIfInBounds_toArray, List.set_cons_zero, List.set_cons_succ]
  refine wpAnyH_take (i := 5) (oi := ⟨some 17, _, _, _, _, none⟩) (v := ?v5_5) rfl (by kernel_rfl) (by kernel_rfl) (by kernel_rfl) (fun _ _ _ h => h) (Or.inl ⟨by rfl, ?hy5_5⟩) (by with_reducible assumption) ?rest5_5
  case hy5_5 => (intro V_ hSw; (try dsimp only at hSw); go_simp; (try with_reducible rfl))
  case' rest5_5 => skip
  try simp only [Act.put, List.setIfInBounds_toArray, List.set_cons_zero, List.set_cons_succ]
  refine wpAnyH_ready (rs := [4]) (by kernel_rfl) (by simp) ?_
  refine AllReadyH.cons (o := ⟨some 16, _, _, _, _, none⟩) rfl (fun K hK => ?_) ?_
  · have q1 : wd.cell? ⟨g, 1, none⟩ = some (.int .i64 t.low.1) := (blk_cell HGd.out 1).trans rfl
    have q2 : wd.cell? ⟨g, 2, none⟩ = some (.int .i64 t.low.2) := (blk_cell HGd.out 2).trans rfl
    go_simp
    clear q1 q2
    refine hK.out _ _ hHeld (fun hHeld => ?_)
    clear hK K
    try simp only [Act.put, List.setIfInBounds_toArray, List.set_cons_zero, List.set_cons_succ]
    refine wpAnyH_ready (rs := [6]) (by kernel_rfl) (by simp) ?_
    refine AllReadyH.cons (o := ⟨some 18, _, _, _, _, none⟩) rfl (fun K hK => ?_) ?_
    · refine Kd.R_lit_step k31 (w0 := wd) wd.heap.size 31 ?hg (N := 18) ?hd (xs := ([⟨(t.low).1, (t.low).2⟩, ⟨(a).1, (a).2⟩] : List S31)) (inner := [.int .i64 (t.low).1, .int .i64 (t.low).2, .int .i64 (a).1, .int .i64 (a).2]) (ok := fun _ => True) (okp := fun _ => True) ?hr ?hp (fun _ hk => hk) trivial (Below.refl _ _) (Nat.le_refl _) (by simp) ?_
      case hg => rfl
      case hd => rfl
      case hr => first | (go_simp; done) | (go_simp; rfl)
      case hp => exact two_rep _ _ _ _ _
      intro vy wl hoy hby hgy hny
      obtain ⟨Ay, cy, ey⟩ := Kd.R_slice hoy
      subst ey
      have HCY := Aside0.mk (Kd.R_reads' hoy).2.2
      have HCL := Aside0.mk (Kd.R_reads' hoy).2.1
      have HXl := Aside0.mk (td_kept HXd.out hby)
      have HGl := Aside0.mk (td_kept HGd.out hby)
      have HTl := Aside0.mk (HTd.out.step hby)
      have HNl := Aside0.mk (HNd.out.trans (Tn.of_below hby))
      clear hoy hby hgy hny HXd HGd HTd HNd
      refine hK.out _ _ ⟨(blk_cell HXl.out 0).trans rfl, (blk_cell HXl.out 1).trans rfl⟩ (fun hHeld => ?_)
      clear hK K
      try simp only [Act.put, List.setIfInBounds_toArray, List.set_cons_zero, List.set_cons_succ]
      refine wpAnyH_ready (rs := [7]) (by kernel_rfl) (by simp) ?_
      refine AllReadyH.cons (o := ⟨some 19, _, _, _, _, none⟩) rfl (fun K hK => ?_) ?_
      · go_simp
        refine (td_max2 t.low a _ _ _ HCY.out HCL.out).mono ?_
        rintro e w4 ⟨rfl, hb4⟩
        have HX4 := Aside0.mk (td_kept HXl.out hb4)
        have HG4 := Aside0.mk (td_kept HGl.out hb4)
        have HT4 := Aside0.mk (HTl.out.step hb4)
        have HN4 := Aside0.mk (HNl.out.trans (Tn.of_below hb4))
        clear hb4 HXl HGl HTl HNl HCY HCL
        refine hK.out _ _ ⟨(blk_cell HX4.out 0).trans rfl, (blk_cell HX4.out 1).trans rfl⟩ (fun hHeld => ?_)
        clear hK K
        try simp only [Act.put, List.setIfInBounds_toArray, List.set_cons_zero, List.set_cons_succ]
        refine wpAnyH_take (i := 8) (oi := ⟨some 20, _, _, _, _, none⟩) (v := ?v8_6) rfl (by kernel_rfl) (by kernel_rfl) (by kernel_rfl) (fun _ _ _ h => h) (Or.inl ⟨by rfl, ?hy8_6⟩) (by with_reducible assumption) ?rest8_6
        case hy8_6 => (intro V_ hSw; (try dsimp only at hSw); go_simp; (try with_reducible rfl))
        case' rest8_6 => skip
        try simp only [Act.put, List.setIfInBounds_toArray, List.set_cons_zero, List.set_cons_succ]
        refine wpAnyH_take (i := 9) (oi := ⟨some 21, _, _, _, _, none⟩) (v := ?v9_7) rfl (by kernel_rfl) (by kernel_rfl) (by kernel_rfl) (fun _ _ _ h => h) (Or.inl ⟨by rfl, ?hy9_7⟩) (by with_reducible assumption) ?rest9_7
        case hy9_7 => (intro V_ hSw; (try dsimp only at hSw); go_simp; (try with_reducible rfl))
        case' rest9_7 => skip
        try simp only [Act.put, List.setIfInBounds_toArray, List.set_cons_zero, List.set_cons_succ]
        refine wpAnyH_ready (rs := [10]) (by kernel_rfl) (by simp) ?_
        refine AllReadyH.cons (o := ⟨none, _, _, _, _, none⟩) rfl (fun K hK => ?_) ?_
        · have y1 : w4.cell? ⟨g, 1, none⟩ = some (.int .i64 t.low.1) := (blk_cell HG4.out 1).trans rfl
          have y2 : w4.cell? ⟨g, 2, none⟩ = some (.int .i64 t.low.2) := (blk_cell HG4.out 2).trans rfl
          have f1 := blk_frozen HG4.out 1
          have f2 := blk_frozen HG4.out 2
          go_simp
          clear y1 y2 f1 f2
          have HX5 := Aside0.mk (blk_far (blk_far HX4.out (p := ⟨g, 1, none⟩) HNE.out (.int .i64 (tmx t.low a).1)) (p := ⟨g, 2, none⟩) HNE.out (.int .i64 (tmx t.low a).2))
          refine hK.out _ _ ⟨(blk_cell HX5.out 0).trans rfl, (blk_cell HX5.out 1).trans rfl⟩ (fun hHeld => ?_)
          clear hK K
          try simp only [Act.put, List.setIfInBounds_toArray, List.set_cons_zero, List.set_cons_succ]
          refine wpAnyH_done (by kernel_rfl) ?_ _
          refine NoPanic.normal ?_
          obtain ⟨hb0, hown, A5, c5, hG5, hR5⟩ := HT4.out
          have HT5 := Aside0.mk (td_set12 (tmx t.low a) hb0 hown hG5 hR5)
          have HN5 := Aside0.mk ((HN4.out.trans (Tn.set (i := 1) hown (.int .i64 (tmx t.low a).1))).trans (Tn.set (i := 2) hown (.int .i64 (tmx t.low a).2)))
          clear hb0 hown hG5 hR5 HX5 HX4 HT4 HN4 hHeld HG4
          generalize hw5 : World.setCell _ _ _ = w5 at HT5 HN5 ⊢
          clear hw5
          go_wp2_with fail
          refine (td_forget W0 w5 g _ HT5.out).mono ?_
          rintro e w6 ⟨rfl, hT6, hN6⟩
          have HT6 := Aside0.mk hT6
          have HN6 := Aside0.mk (HN5.out.trans hN6)
          clear hT6 hN6
          go_wp2_with fail
          go_ret
          exact ⟨rfl, HT6.out, HN6.out⟩
        exact AllReadyH.nil
      exact AllReadyH.nil
    exact AllReadyH.nil
  exact AllReadyH.nil
end Go.Proofs.Ytaccfbpfennjkaa.PTideDoes

