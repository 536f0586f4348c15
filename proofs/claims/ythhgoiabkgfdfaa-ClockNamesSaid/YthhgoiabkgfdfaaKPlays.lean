/- The walk of the law ClockPlays (typed by hand, over the walks of ClockRises' texts). -/
import Derived.Test.YthhgoiabkgfdfaaPClockRisesx5
import Derived.Test.YthhgoiabkgfdfaaPClockRisesx0
import Derived.Test.YthhgoiabkgfdfaaPClockRisesx1
import Derived.Test.YthhgoiabkgfdfaaPClockRisesx2
import Derived.Test.YthhgoiabkgfdfaaPClockRisesx3
import Derived.Test.YthhgoiabkgfdfaaPClockRisesx4
namespace Go.Proofs.Ythhgoiabkgfdfaa.PClockRises
open Go.RowKit Go.Proofs.YthhgoiabkgfdfaaW.PrintWords Go.Proofs.YthhgoiabkgfdfaaW.PrintLast Go.Proofs.YthhgoiabkgfdfaaW.PrintMore
attribute [local go_sem] max2_int min2_int max_two min_two max_three min_three max_four min_four   -- for this text's walks alone
attribute [local go_sem] fld_wall fld_logic
set_option linter.unusedVariables false
set_option linter.unusedSimpArgs false

attribute [local go_sem high] eqA33
/-! ### the law ClockPlays -/
/-! ### scriptoriumref05_Check: function 42 -/
def scriptoriumref05_Check.f (a0_0 : Int) (a0_1 : Int) : Option (Int) := if a0_0 < 0 then (some 9) else (if a0_0 > 1099511627776 then (some 9) else (if a0_1 < 0 then (some 9) else (if a0_1 > 1048575 then (some 9) else (some 0))))
set_option maxHeartbeats 8000000 in
set_option maxRecDepth 100000 in
theorem scriptoriumref05_Check.calls (a0_0 : Int) (a0_1 : Int) (r : Int) (w : World) (h : scriptoriumref05_Check.f a0_0 a0_1 = some r) :
    Calls Try.prog 42 #[.agg #[.int .i64 a0_0, .int .i64 a0_1]] w fun e w' => e = .returned (.int .i64 r) ∧ Below w.heap.size w w' := by
  have hu33 := Try.underlying33
  have HB := Aside0.mk (Below.refl w.heap.size w)
  have H : (if a0_0 < 0 then (some 9) else (if a0_0 > 1099511627776 then (some 9) else (if a0_1 < 0 then (some 9) else (if a0_1 > 1048575 then (some 9) else (some 0))))) = some r := h
  clear h
  by_cases c2 : a0_0 < 0
  · rw [if_pos c2] at H
    have c2b0 : decide (a0_0 < 0) = true := decide_eq_true c2
    clear c2
    obtain rfl := Option.some.inj H
    go_enter Try.func42, Try.ntmps42
    go_wp2_with (first | ((with_reducible refine gate_dst (N := 1) rfl ?_); refine box_event ?hg (N := 1) ?hd (cs := #[.int .i64 a0_0, .int .i64 a0_1]) (t := 33) ?hr ?_; (case hd => rfl); (case hg => rfl); (case hr => first | (go_simp; done) | (go_simp; rfl)); intro gb123 hg w3 hbox hb; have n0_ := Aside0.mk (below_step (by repeat (first | (with_reducible first | exact HB.out | apply below_alloc | apply pw_below_drewN | apply below_drew1) | exact HB.out)) hb); have n1_ := Aside0.mk (hbox); have n2_ := Aside0.mk ((by rw [hg]; exact (below_size (by repeat (first | (with_reducible first | exact HB.out | apply below_alloc | apply pw_below_drewN | apply below_drew1) | exact HB.out))) : w.heap.size ≤ gb123)); have n3_ := Aside0.mk ((by rw [hg]; exact (below_size (by repeat (first | (with_reducible first | exact HB.out | apply below_alloc | apply pw_below_drewN | apply below_drew1) | exact HB.out))) : w.heap.size ≤ gb123)); clear HB; have HB := n0_; have BK123 := n1_; have GW123 := n2_; have GE123 := n3_; clear n0_ n1_ n2_ n3_; clear hb hbox hg; have hcz4_0 : w3.cell? ⟨gb123, 0, none⟩ = some (.int .i64 a0_0) := (blk_cell BK123.out 0).trans rfl; have hcz4_1 : w3.cell? ⟨gb123, 1, none⟩ = some (.int .i64 a0_1) := (blk_cell BK123.out 1).trans rfl; have hfz4_0 := blk_frozen BK123.out 0; have hfz4_1 := blk_frozen BK123.out 1))
    go_ret
    exact ⟨by first | rfl | (simp [errW_none, errW_some] <;> rfl) | (simp [*, errW_none, errW_some] <;> rfl), by repeat (first | (with_reducible first | exact HB.out | apply below_alloc | apply pw_below_drewN | apply below_drew1 | refine below_set ?_ GE123.out) | exact HB.out)⟩
  · rw [if_neg c2] at H
    have c2b0 : decide (a0_0 < 0) = false := decide_eq_false c2
    clear c2
    by_cases c5 : a0_0 > 1099511627776
    · rw [if_pos c5] at H
      have c5b0 : decide (1099511627776 < a0_0) = true := decide_eq_true c5
      clear c5
      obtain rfl := Option.some.inj H
      go_enter Try.func42, Try.ntmps42
      go_wp2_with (first | ((with_reducible refine gate_dst (N := 1) rfl ?_); refine box_event ?hg (N := 1) ?hd (cs := #[.int .i64 a0_0, .int .i64 a0_1]) (t := 33) ?hr ?_; (case hd => rfl); (case hg => rfl); (case hr => first | (go_simp; done) | (go_simp; rfl)); intro gb123 hg w6 hbox hb; have n0_ := Aside0.mk (below_step (by repeat (first | (with_reducible first | exact HB.out | apply below_alloc | apply pw_below_drewN | apply below_drew1) | exact HB.out)) hb); have n1_ := Aside0.mk (hbox); have n2_ := Aside0.mk ((by rw [hg]; exact (below_size (by repeat (first | (with_reducible first | exact HB.out | apply below_alloc | apply pw_below_drewN | apply below_drew1) | exact HB.out))) : w.heap.size ≤ gb123)); have n3_ := Aside0.mk ((by rw [hg]; exact (below_size (by repeat (first | (with_reducible first | exact HB.out | apply below_alloc | apply pw_below_drewN | apply below_drew1) | exact HB.out))) : w.heap.size ≤ gb123)); clear HB; have HB := n0_; have BK123 := n1_; have GW123 := n2_; have GE123 := n3_; clear n0_ n1_ n2_ n3_; clear hb hbox hg; have hcz7_0 : w6.cell? ⟨gb123, 0, none⟩ = some (.int .i64 a0_0) := (blk_cell BK123.out 0).trans rfl; have hcz7_1 : w6.cell? ⟨gb123, 1, none⟩ = some (.int .i64 a0_1) := (blk_cell BK123.out 1).trans rfl; have hfz7_0 := blk_frozen BK123.out 0; have hfz7_1 := blk_frozen BK123.out 1))
      go_ret
      exact ⟨by first | rfl | (simp [errW_none, errW_some] <;> rfl) | (simp [*, errW_none, errW_some] <;> rfl), by repeat (first | (with_reducible first | exact HB.out | apply below_alloc | apply pw_below_drewN | apply below_drew1 | refine below_set ?_ GE123.out) | exact HB.out)⟩
    · rw [if_neg c5] at H
      have c5b0 : decide (1099511627776 < a0_0) = false := decide_eq_false c5
      clear c5
      by_cases c8 : a0_1 < 0
      · rw [if_pos c8] at H
        have c8b0 : decide (a0_1 < 0) = true := decide_eq_true c8
        clear c8
        obtain rfl := Option.some.inj H
        go_enter Try.func42, Try.ntmps42
        go_wp2_with (first | ((with_reducible refine gate_dst (N := 1) rfl ?_); refine box_event ?hg (N := 1) ?hd (cs := #[.int .i64 a0_0, .int .i64 a0_1]) (t := 33) ?hr ?_; (case hd => rfl); (case hg => rfl); (case hr => first | (go_simp; done) | (go_simp; rfl)); intro gb123 hg w9 hbox hb; have n0_ := Aside0.mk (below_step (by repeat (first | (with_reducible first | exact HB.out | apply below_alloc | apply pw_below_drewN | apply below_drew1) | exact HB.out)) hb); have n1_ := Aside0.mk (hbox); have n2_ := Aside0.mk ((by rw [hg]; exact (below_size (by repeat (first | (with_reducible first | exact HB.out | apply below_alloc | apply pw_below_drewN | apply below_drew1) | exact HB.out))) : w.heap.size ≤ gb123)); have n3_ := Aside0.mk ((by rw [hg]; exact (below_size (by repeat (first | (with_reducible first | exact HB.out | apply below_alloc | apply pw_below_drewN | apply below_drew1) | exact HB.out))) : w.heap.size ≤ gb123)); clear HB; have HB := n0_; have BK123 := n1_; have GW123 := n2_; have GE123 := n3_; clear n0_ n1_ n2_ n3_; clear hb hbox hg; have hcz10_0 : w9.cell? ⟨gb123, 0, none⟩ = some (.int .i64 a0_0) := (blk_cell BK123.out 0).trans rfl; have hcz10_1 : w9.cell? ⟨gb123, 1, none⟩ = some (.int .i64 a0_1) := (blk_cell BK123.out 1).trans rfl; have hfz10_0 := blk_frozen BK123.out 0; have hfz10_1 := blk_frozen BK123.out 1))
        go_ret
        exact ⟨by first | rfl | (simp [errW_none, errW_some] <;> rfl) | (simp [*, errW_none, errW_some] <;> rfl), by repeat (first | (with_reducible first | exact HB.out | apply below_alloc | apply pw_below_drewN | apply below_drew1 | refine below_set ?_ GE123.out) | exact HB.out)⟩
      · rw [if_neg c8] at H
        have c8b0 : decide (a0_1 < 0) = false := decide_eq_false c8
        clear c8
        by_cases c11 : a0_1 > 1048575
        · rw [if_pos c11] at H
          have c11b0 : decide (1048575 < a0_1) = true := decide_eq_true c11
          clear c11
          obtain rfl := Option.some.inj H
          go_enter Try.func42, Try.ntmps42
          go_wp2_with (first | ((with_reducible refine gate_dst (N := 1) rfl ?_); refine box_event ?hg (N := 1) ?hd (cs := #[.int .i64 a0_0, .int .i64 a0_1]) (t := 33) ?hr ?_; (case hd => rfl); (case hg => rfl); (case hr => first | (go_simp; done) | (go_simp; rfl)); intro gb123 hg w12 hbox hb; have n0_ := Aside0.mk (below_step (by repeat (first | (with_reducible first | exact HB.out | apply below_alloc | apply pw_below_drewN | apply below_drew1) | exact HB.out)) hb); have n1_ := Aside0.mk (hbox); have n2_ := Aside0.mk ((by rw [hg]; exact (below_size (by repeat (first | (with_reducible first | exact HB.out | apply below_alloc | apply pw_below_drewN | apply below_drew1) | exact HB.out))) : w.heap.size ≤ gb123)); have n3_ := Aside0.mk ((by rw [hg]; exact (below_size (by repeat (first | (with_reducible first | exact HB.out | apply below_alloc | apply pw_below_drewN | apply below_drew1) | exact HB.out))) : w.heap.size ≤ gb123)); clear HB; have HB := n0_; have BK123 := n1_; have GW123 := n2_; have GE123 := n3_; clear n0_ n1_ n2_ n3_; clear hb hbox hg; have hcz13_0 : w12.cell? ⟨gb123, 0, none⟩ = some (.int .i64 a0_0) := (blk_cell BK123.out 0).trans rfl; have hcz13_1 : w12.cell? ⟨gb123, 1, none⟩ = some (.int .i64 a0_1) := (blk_cell BK123.out 1).trans rfl; have hfz13_0 := blk_frozen BK123.out 0; have hfz13_1 := blk_frozen BK123.out 1))
          go_ret
          exact ⟨by first | rfl | (simp [errW_none, errW_some] <;> rfl) | (simp [*, errW_none, errW_some] <;> rfl), by repeat (first | (with_reducible first | exact HB.out | apply below_alloc | apply pw_below_drewN | apply below_drew1 | refine below_set ?_ GE123.out) | exact HB.out)⟩
        · rw [if_neg c11] at H
          have c11b0 : decide (1048575 < a0_1) = false := decide_eq_false c11
          clear c11
          obtain rfl := Option.some.inj H
          go_enter Try.func42, Try.ntmps42
          go_wp2_with (first | ((with_reducible refine gate_dst (N := 1) rfl ?_); refine box_event ?hg (N := 1) ?hd (cs := #[.int .i64 a0_0, .int .i64 a0_1]) (t := 33) ?hr ?_; (case hd => rfl); (case hg => rfl); (case hr => first | (go_simp; done) | (go_simp; rfl)); intro gb123 hg w14 hbox hb; have n0_ := Aside0.mk (below_step (by repeat (first | (with_reducible first | exact HB.out | apply below_alloc | apply pw_below_drewN | apply below_drew1) | exact HB.out)) hb); have n1_ := Aside0.mk (hbox); have n2_ := Aside0.mk ((by rw [hg]; exact (below_size (by repeat (first | (with_reducible first | exact HB.out | apply below_alloc | apply pw_below_drewN | apply below_drew1) | exact HB.out))) : w.heap.size ≤ gb123)); have n3_ := Aside0.mk ((by rw [hg]; exact (below_size (by repeat (first | (with_reducible first | exact HB.out | apply below_alloc | apply pw_below_drewN | apply below_drew1) | exact HB.out))) : w.heap.size ≤ gb123)); clear HB; have HB := n0_; have BK123 := n1_; have GW123 := n2_; have GE123 := n3_; clear n0_ n1_ n2_ n3_; clear hb hbox hg; have hcz15_0 : w14.cell? ⟨gb123, 0, none⟩ = some (.int .i64 a0_0) := (blk_cell BK123.out 0).trans rfl; have hcz15_1 : w14.cell? ⟨gb123, 1, none⟩ = some (.int .i64 a0_1) := (blk_cell BK123.out 1).trans rfl; have hfz15_0 := blk_frozen BK123.out 0; have hfz15_1 := blk_frozen BK123.out 1))
          go_ret
          exact ⟨by first | rfl | (simp [errW_none, errW_some] <;> rfl) | (simp [*, errW_none, errW_some] <;> rfl), by repeat (first | (with_reducible first | exact HB.out | apply below_alloc | apply pw_below_drewN | apply below_drew1 | refine below_set ?_ GE123.out) | exact HB.out)⟩

/-! ### scriptoriumref05_Next: function 40 -/
def scriptoriumref05_Next.f (a0_0 : Int) (a0_1 : Int) : Option (Int × Int × Int) := (scriptoriumref05_Check.f a0_0 a0_1).bind fun t126 => (if t126 = 0 then (if a0_1 < 1048575 then (some (a0_0, wrap64 (a0_1 + 1), 0)) else (if a0_0 < 1099511627776 then (some (wrap64 (a0_0 + 1), 0, 0)) else (some (0, 0, 5)))) else (some (0, 0, 9)))
set_option maxHeartbeats 8000000 in
set_option maxRecDepth 100000 in
theorem scriptoriumref05_Next.calls (a0_0 : Int) (a0_1 : Int) (r1 : Int) (r2 : Int) (r3 : Int) (w : World) (h : scriptoriumref05_Next.f a0_0 a0_1 = some (r1, r2, r3)) :
    Calls Try.prog 40 #[.agg #[.int .i64 a0_0, .int .i64 a0_1]] w fun e w' => e = .returned (.tuple #[.agg #[.int .i64 r1, .int .i64 r2], .int .i64 r3]) ∧ Below w.heap.size w w' := by
  have hu33 := Try.underlying33
  have HB := Aside0.mk (Below.refl w.heap.size w)
  have H : ((scriptoriumref05_Check.f a0_0 a0_1).bind fun t126 => (if t126 = 0 then (if a0_1 < 1048575 then (some (a0_0, wrap64 (a0_1 + 1), 0)) else (if a0_0 < 1099511627776 then (some (wrap64 (a0_0 + 1), 0, 0)) else (some (0, 0, 5)))) else (some (0, 0, 9)))) = some (r1, r2, r3) := h
  clear h
  replace H := Option.bind_eq_some_iff.mp H
  obtain ⟨t126, A20, H⟩ := H
  replace H : (if t126 = 0 then (if a0_1 < 1048575 then (some (a0_0, wrap64 (a0_1 + 1), 0)) else (if a0_0 < 1099511627776 then (some (wrap64 (a0_0 + 1), 0, 0)) else (some (0, 0, 5)))) else (some (0, 0, 9))) = some (r1, r2, r3) := H
  have A2 := Aside0.mk A20
  clear A20
  by_cases c3 : t126 = 0
  · rw [if_pos c3] at H
    have c3b0 : (t126 == 0) = true := beq_iff_eq.mpr c3
    have c3b1 : (t126 != 0) = false := bne_eq_false_iff_eq.mpr c3
    clear c3
    by_cases c4 : a0_1 < 1048575
    · rw [if_pos c4] at H
      have c4b0 : decide (a0_1 < 1048575) = true := decide_eq_true c4
      clear c4
      simp only [Option.some.injEq, Prod.mk.injEq] at H
      obtain ⟨rfl, rfl, rfl⟩ := H
      go_enter Try.func40, Try.ntmps40
      go_wp2_with (first | ((with_reducible refine gate_dst (N := 1) rfl ?_); refine box_event ?hg (N := 1) ?hd (cs := #[.int .i64 a0_0, .int .i64 a0_1]) (t := 33) ?hr ?_; (case hd => rfl); (case hg => rfl); (case hr => first | (go_simp; done) | (go_simp; rfl)); intro gb124 hg w5 hbox hb; have n0_ := Aside0.mk (below_step (by repeat (first | (with_reducible first | exact HB.out | apply below_alloc | apply pw_below_drewN | apply below_drew1) | exact HB.out)) hb); have n1_ := Aside0.mk (hbox); have n2_ := Aside0.mk ((by rw [hg]; exact (below_size (by repeat (first | (with_reducible first | exact HB.out | apply below_alloc | apply pw_below_drewN | apply below_drew1) | exact HB.out))) : w.heap.size ≤ gb124)); have n3_ := Aside0.mk ((by rw [hg]; exact (below_size (by repeat (first | (with_reducible first | exact HB.out | apply below_alloc | apply pw_below_drewN | apply below_drew1) | exact HB.out))) : w.heap.size ≤ gb124)); clear HB; have HB := n0_; have BK124 := n1_; have GW124 := n2_; have GE124 := n3_; clear n0_ n1_ n2_ n3_; clear hb hbox hg) | ((with_reducible refine gate_dst (N := 2) rfl ?_); refine box_event ?hg (N := 2) ?hd (cs := #[.int .i64 0, .int .i64 0]) (t := 33) ?hr ?_; (case hd => rfl); (case hg => rfl); (case hr => first | (go_simp; done) | (go_simp; rfl)); intro gb125 hg w6 hbox hb; have n0_ := Aside0.mk (blk_below (g := gb124) (o := .cells #[.int .i64 a0_0, .int .i64 a0_1] 33 (0, 0)) (by (with_reducible repeat (first | refine blk_drewN ?_ _ | refine blk_drew ?_ | refine blk_alloc ?_ _)); exact BK124.out) hb); have n1_ := Aside0.mk (below_step (by repeat (first | (with_reducible first | exact HB.out | apply below_alloc | apply pw_below_drewN | apply below_drew1 | refine below_set ?_ GE124.out) | exact HB.out)) hb); have n2_ := Aside0.mk (hbox); have n3_ := Aside0.mk ((by rw [hg]; exact (below_size (by repeat (first | (with_reducible first | exact HB.out | apply below_alloc | apply pw_below_drewN | apply below_drew1 | refine below_set ?_ GE124.out) | exact HB.out))) : w.heap.size ≤ gb125)); have n4_ := Aside0.mk ((by rw [hg]; exact (below_size (by repeat (first | (with_reducible first | exact HB.out | apply below_alloc | apply pw_below_drewN | apply below_drew1 | refine below_set ?_ GE124.out) | exact HB.out))) : w.heap.size ≤ gb125)); have n5_ := Aside0.mk ((by rw [hg]; exact Nat.ne_of_lt (blk_lt (g := gb124) (o := .cells #[.int .i64 a0_0, .int .i64 a0_1] 33 (0, 0)) (by (with_reducible repeat (first | refine blk_drewN ?_ _ | refine blk_drew ?_ | refine blk_alloc ?_ _)); exact BK124.out)) : gb124 ≠ gb125)); have n6_ := Aside0.mk ((by rw [hg]; exact Nat.ne_of_gt (blk_lt (g := gb124) (o := .cells #[.int .i64 a0_0, .int .i64 a0_1] 33 (0, 0)) (by (with_reducible repeat (first | refine blk_drewN ?_ _ | refine blk_drew ?_ | refine blk_alloc ?_ _)); exact BK124.out)) : gb125 ≠ gb124)); clear BK124; clear HB; have BK124 := n0_; have HB := n1_; have BK125 := n2_; have GW125 := n3_; have GE125 := n4_; have NB124_125 := n5_; have NB125_124 := n6_; clear n0_ n1_ n2_ n3_ n4_ n5_ n6_; clear hb hbox hg; have hnb7 := NB124_125.out; have hnc7 := NB125_124.out; have hcz8_0 : w6.cell? ⟨gb124, 0, none⟩ = some (.int .i64 a0_0) := (blk_cell BK124.out 0).trans rfl; have hcz8_1 : w6.cell? ⟨gb124, 1, none⟩ = some (.int .i64 a0_1) := (blk_cell BK124.out 1).trans rfl; have hfz8_0 := blk_frozen BK124.out 0; have hfz8_1 := blk_frozen BK124.out 1) | ((with_reducible refine gate_callee (f := 42) rfl ?_); refine goesL_ (some 5) rfl rfl Try.func42 (by kernel_rfl) rfl #[.agg #[.int .i64 a0_0, .int .i64 a0_1]] rfl (by (try simp only [List.map_toArray, List.map_cons, List.map_nil]); first | done | rfl | (simp only [List.length_drop, List.length_take]; rfl)) ?_; (with_reducible refine (scriptoriumref05_Check.calls a0_0 a0_1 t126 _ A2.out).mono ?_); rintro e w9 ⟨rfl, hb⟩; refine ⟨_, rfl, ?_⟩; have n0_ := Aside0.mk (blk_below (g := gb124) (o := .cells #[.int .i64 a0_0, .int .i64 a0_1] 33 (0, 0)) (by (with_reducible repeat (first | refine blk_drewN ?_ _ | refine blk_drew ?_ | refine blk_alloc ?_ _)); exact BK124.out) hb); have n1_ := Aside0.mk (blk_below (g := gb125) (o := .cells #[.int .i64 0, .int .i64 0] 33 (0, 0)) (by (with_reducible repeat (first | refine blk_drewN ?_ _ | refine blk_drew ?_ | refine blk_alloc ?_ _)); exact BK125.out) hb); have n2_ := Aside0.mk (below_step (by repeat (first | (with_reducible first | exact HB.out | apply below_alloc | apply pw_below_drewN | apply below_drew1 | refine below_set ?_ GE124.out | refine below_set ?_ GE125.out) | exact HB.out)) hb); clear BK124; clear BK125; clear HB; have BK124 := n0_; have BK125 := n1_; have HB := n2_; clear n0_ n1_ n2_; (try clear hb); (try clear hb2); (try clear hk); (try clear hi); have hcz10_0 : w9.cell? ⟨gb124, 0, none⟩ = some (.int .i64 a0_0) := (blk_cell BK124.out 0).trans rfl; have hcz10_1 : w9.cell? ⟨gb124, 1, none⟩ = some (.int .i64 a0_1) := (blk_cell BK124.out 1).trans rfl; have hfz10_0 := blk_frozen BK124.out 0; have hfz10_1 := blk_frozen BK124.out 1; have hcz11_0 : w9.cell? ⟨gb125, 0, none⟩ = some (.int .i64 0) := (blk_cell BK125.out 0).trans rfl; have hcz11_1 : w9.cell? ⟨gb125, 1, none⟩ = some (.int .i64 0) := (blk_cell BK125.out 1).trans rfl; have hfz11_0 := blk_frozen BK125.out 0; have hfz11_1 := blk_frozen BK125.out 1))
      refine bodyPost_ret (results_ct rfl _ _ gb125 33 #[.int .i64 a0_0, .int .i64 (wrap64 (a0_1 + 1))] (0, 0) _ rfl (by (with_reducible repeat (first | refine blk_drewN ?_ _ | refine blk_drew ?_ | refine blk_alloc ?_ _)); refine blk_put (cs := #[.int .i64 a0_0, .int .i64 0]) ?_ 1 _ rfl; (with_reducible repeat (first | refine blk_drewN ?_ _ | refine blk_drew ?_ | refine blk_alloc ?_ _)); refine blk_put (cs := #[.int .i64 0, .int .i64 0]) ?_ 0 _ rfl; (with_reducible repeat (first | refine blk_drewN ?_ _ | refine blk_drew ?_ | refine blk_alloc ?_ _)); exact BK125.out) Try.underlying33 rfl (by kernel_rfl)) rfl ?_
      exact ⟨by first | rfl | (simp [errW_none, errW_some] <;> rfl) | (simp [*, errW_none, errW_some] <;> rfl), by repeat (first | (with_reducible first | exact HB.out | apply below_alloc | apply pw_below_drewN | apply below_drew1 | refine below_set ?_ GE124.out | refine below_set ?_ GE125.out) | exact HB.out)⟩
    · rw [if_neg c4] at H
      have c4b0 : decide (a0_1 < 1048575) = false := decide_eq_false c4
      clear c4
      by_cases c12 : a0_0 < 1099511627776
      · rw [if_pos c12] at H
        have c12b0 : decide (a0_0 < 1099511627776) = true := decide_eq_true c12
        clear c12
        simp only [Option.some.injEq, Prod.mk.injEq] at H
        obtain ⟨rfl, rfl, rfl⟩ := H
        go_enter Try.func40, Try.ntmps40
        go_wp2_with (first | ((with_reducible refine gate_dst (N := 1) rfl ?_); refine box_event ?hg (N := 1) ?hd (cs := #[.int .i64 a0_0, .int .i64 a0_1]) (t := 33) ?hr ?_; (case hd => rfl); (case hg => rfl); (case hr => first | (go_simp; done) | (go_simp; rfl)); intro gb124 hg w13 hbox hb; have n0_ := Aside0.mk (below_step (by repeat (first | (with_reducible first | exact HB.out | apply below_alloc | apply pw_below_drewN | apply below_drew1) | exact HB.out)) hb); have n1_ := Aside0.mk (hbox); have n2_ := Aside0.mk ((by rw [hg]; exact (below_size (by repeat (first | (with_reducible first | exact HB.out | apply below_alloc | apply pw_below_drewN | apply below_drew1) | exact HB.out))) : w.heap.size ≤ gb124)); have n3_ := Aside0.mk ((by rw [hg]; exact (below_size (by repeat (first | (with_reducible first | exact HB.out | apply below_alloc | apply pw_below_drewN | apply below_drew1) | exact HB.out))) : w.heap.size ≤ gb124)); clear HB; have HB := n0_; have BK124 := n1_; have GW124 := n2_; have GE124 := n3_; clear n0_ n1_ n2_ n3_; clear hb hbox hg) | ((with_reducible refine gate_dst (N := 2) rfl ?_); refine box_event ?hg (N := 2) ?hd (cs := #[.int .i64 0, .int .i64 0]) (t := 33) ?hr ?_; (case hd => rfl); (case hg => rfl); (case hr => first | (go_simp; done) | (go_simp; rfl)); intro gb125 hg w14 hbox hb; have n0_ := Aside0.mk (blk_below (g := gb124) (o := .cells #[.int .i64 a0_0, .int .i64 a0_1] 33 (0, 0)) (by (with_reducible repeat (first | refine blk_drewN ?_ _ | refine blk_drew ?_ | refine blk_alloc ?_ _)); exact BK124.out) hb); have n1_ := Aside0.mk (below_step (by repeat (first | (with_reducible first | exact HB.out | apply below_alloc | apply pw_below_drewN | apply below_drew1 | refine below_set ?_ GE124.out) | exact HB.out)) hb); have n2_ := Aside0.mk (hbox); have n3_ := Aside0.mk ((by rw [hg]; exact (below_size (by repeat (first | (with_reducible first | exact HB.out | apply below_alloc | apply pw_below_drewN | apply below_drew1 | refine below_set ?_ GE124.out) | exact HB.out))) : w.heap.size ≤ gb125)); have n4_ := Aside0.mk ((by rw [hg]; exact (below_size (by repeat (first | (with_reducible first | exact HB.out | apply below_alloc | apply pw_below_drewN | apply below_drew1 | refine below_set ?_ GE124.out) | exact HB.out))) : w.heap.size ≤ gb125)); have n5_ := Aside0.mk ((by rw [hg]; exact Nat.ne_of_lt (blk_lt (g := gb124) (o := .cells #[.int .i64 a0_0, .int .i64 a0_1] 33 (0, 0)) (by (with_reducible repeat (first | refine blk_drewN ?_ _ | refine blk_drew ?_ | refine blk_alloc ?_ _)); exact BK124.out)) : gb124 ≠ gb125)); have n6_ := Aside0.mk ((by rw [hg]; exact Nat.ne_of_gt (blk_lt (g := gb124) (o := .cells #[.int .i64 a0_0, .int .i64 a0_1] 33 (0, 0)) (by (with_reducible repeat (first | refine blk_drewN ?_ _ | refine blk_drew ?_ | refine blk_alloc ?_ _)); exact BK124.out)) : gb125 ≠ gb124)); clear BK124; clear HB; have BK124 := n0_; have HB := n1_; have BK125 := n2_; have GW125 := n3_; have GE125 := n4_; have NB124_125 := n5_; have NB125_124 := n6_; clear n0_ n1_ n2_ n3_ n4_ n5_ n6_; clear hb hbox hg; have hnb15 := NB124_125.out; have hnc15 := NB125_124.out; have hcz16_0 : w14.cell? ⟨gb124, 0, none⟩ = some (.int .i64 a0_0) := (blk_cell BK124.out 0).trans rfl; have hcz16_1 : w14.cell? ⟨gb124, 1, none⟩ = some (.int .i64 a0_1) := (blk_cell BK124.out 1).trans rfl; have hfz16_0 := blk_frozen BK124.out 0; have hfz16_1 := blk_frozen BK124.out 1) | ((with_reducible refine gate_callee (f := 42) rfl ?_); refine goesL_ (some 5) rfl rfl Try.func42 (by kernel_rfl) rfl #[.agg #[.int .i64 a0_0, .int .i64 a0_1]] rfl (by (try simp only [List.map_toArray, List.map_cons, List.map_nil]); first | done | rfl | (simp only [List.length_drop, List.length_take]; rfl)) ?_; (with_reducible refine (scriptoriumref05_Check.calls a0_0 a0_1 t126 _ A2.out).mono ?_); rintro e w17 ⟨rfl, hb⟩; refine ⟨_, rfl, ?_⟩; have n0_ := Aside0.mk (blk_below (g := gb124) (o := .cells #[.int .i64 a0_0, .int .i64 a0_1] 33 (0, 0)) (by (with_reducible repeat (first | refine blk_drewN ?_ _ | refine blk_drew ?_ | refine blk_alloc ?_ _)); exact BK124.out) hb); have n1_ := Aside0.mk (blk_below (g := gb125) (o := .cells #[.int .i64 0, .int .i64 0] 33 (0, 0)) (by (with_reducible repeat (first | refine blk_drewN ?_ _ | refine blk_drew ?_ | refine blk_alloc ?_ _)); exact BK125.out) hb); have n2_ := Aside0.mk (below_step (by repeat (first | (with_reducible first | exact HB.out | apply below_alloc | apply pw_below_drewN | apply below_drew1 | refine below_set ?_ GE124.out | refine below_set ?_ GE125.out) | exact HB.out)) hb); clear BK124; clear BK125; clear HB; have BK124 := n0_; have BK125 := n1_; have HB := n2_; clear n0_ n1_ n2_; (try clear hb); (try clear hb2); (try clear hk); (try clear hi); have hcz18_0 : w17.cell? ⟨gb124, 0, none⟩ = some (.int .i64 a0_0) := (blk_cell BK124.out 0).trans rfl; have hcz18_1 : w17.cell? ⟨gb124, 1, none⟩ = some (.int .i64 a0_1) := (blk_cell BK124.out 1).trans rfl; have hfz18_0 := blk_frozen BK124.out 0; have hfz18_1 := blk_frozen BK124.out 1; have hcz19_0 : w17.cell? ⟨gb125, 0, none⟩ = some (.int .i64 0) := (blk_cell BK125.out 0).trans rfl; have hcz19_1 : w17.cell? ⟨gb125, 1, none⟩ = some (.int .i64 0) := (blk_cell BK125.out 1).trans rfl; have hfz19_0 := blk_frozen BK125.out 0; have hfz19_1 := blk_frozen BK125.out 1))
        refine bodyPost_ret (results_ct rfl _ _ gb125 33 #[.int .i64 (wrap64 (a0_0 + 1)), .int .i64 0] (0, 0) _ rfl (by (with_reducible repeat (first | refine blk_drewN ?_ _ | refine blk_drew ?_ | refine blk_alloc ?_ _)); refine blk_put (cs := #[.int .i64 (wrap64 (a0_0 + 1)), .int .i64 0]) ?_ 1 _ rfl; (with_reducible repeat (first | refine blk_drewN ?_ _ | refine blk_drew ?_ | refine blk_alloc ?_ _)); refine blk_put (cs := #[.int .i64 0, .int .i64 0]) ?_ 0 _ rfl; (with_reducible repeat (first | refine blk_drewN ?_ _ | refine blk_drew ?_ | refine blk_alloc ?_ _)); exact BK125.out) Try.underlying33 rfl (by kernel_rfl)) rfl ?_
        exact ⟨by first | rfl | (simp [errW_none, errW_some] <;> rfl) | (simp [*, errW_none, errW_some] <;> rfl), by repeat (first | (with_reducible first | exact HB.out | apply below_alloc | apply pw_below_drewN | apply below_drew1 | refine below_set ?_ GE124.out | refine below_set ?_ GE125.out) | exact HB.out)⟩
      · rw [if_neg c12] at H
        have c12b0 : decide (a0_0 < 1099511627776) = false := decide_eq_false c12
        clear c12
        simp only [Option.some.injEq, Prod.mk.injEq] at H
        obtain ⟨rfl, rfl, rfl⟩ := H
        go_enter Try.func40, Try.ntmps40
        go_wp2_with (first | ((with_reducible refine gate_dst (N := 1) rfl ?_); refine box_event ?hg (N := 1) ?hd (cs := #[.int .i64 a0_0, .int .i64 a0_1]) (t := 33) ?hr ?_; (case hd => rfl); (case hg => rfl); (case hr => first | (go_simp; done) | (go_simp; rfl)); intro gb124 hg w20 hbox hb; have n0_ := Aside0.mk (below_step (by repeat (first | (with_reducible first | exact HB.out | apply below_alloc | apply pw_below_drewN | apply below_drew1) | exact HB.out)) hb); have n1_ := Aside0.mk (hbox); have n2_ := Aside0.mk ((by rw [hg]; exact (below_size (by repeat (first | (with_reducible first | exact HB.out | apply below_alloc | apply pw_below_drewN | apply below_drew1) | exact HB.out))) : w.heap.size ≤ gb124)); have n3_ := Aside0.mk ((by rw [hg]; exact (below_size (by repeat (first | (with_reducible first | exact HB.out | apply below_alloc | apply pw_below_drewN | apply below_drew1) | exact HB.out))) : w.heap.size ≤ gb124)); clear HB; have HB := n0_; have BK124 := n1_; have GW124 := n2_; have GE124 := n3_; clear n0_ n1_ n2_ n3_; clear hb hbox hg) | ((with_reducible refine gate_dst (N := 2) rfl ?_); refine box_event ?hg (N := 2) ?hd (cs := #[.int .i64 0, .int .i64 0]) (t := 33) ?hr ?_; (case hd => rfl); (case hg => rfl); (case hr => first | (go_simp; done) | (go_simp; rfl)); intro gb125 hg w21 hbox hb; have n0_ := Aside0.mk (blk_below (g := gb124) (o := .cells #[.int .i64 a0_0, .int .i64 a0_1] 33 (0, 0)) (by (with_reducible repeat (first | refine blk_drewN ?_ _ | refine blk_drew ?_ | refine blk_alloc ?_ _)); exact BK124.out) hb); have n1_ := Aside0.mk (below_step (by repeat (first | (with_reducible first | exact HB.out | apply below_alloc | apply pw_below_drewN | apply below_drew1 | refine below_set ?_ GE124.out) | exact HB.out)) hb); have n2_ := Aside0.mk (hbox); have n3_ := Aside0.mk ((by rw [hg]; exact (below_size (by repeat (first | (with_reducible first | exact HB.out | apply below_alloc | apply pw_below_drewN | apply below_drew1 | refine below_set ?_ GE124.out) | exact HB.out))) : w.heap.size ≤ gb125)); have n4_ := Aside0.mk ((by rw [hg]; exact (below_size (by repeat (first | (with_reducible first | exact HB.out | apply below_alloc | apply pw_below_drewN | apply below_drew1 | refine below_set ?_ GE124.out) | exact HB.out))) : w.heap.size ≤ gb125)); have n5_ := Aside0.mk ((by rw [hg]; exact Nat.ne_of_lt (blk_lt (g := gb124) (o := .cells #[.int .i64 a0_0, .int .i64 a0_1] 33 (0, 0)) (by (with_reducible repeat (first | refine blk_drewN ?_ _ | refine blk_drew ?_ | refine blk_alloc ?_ _)); exact BK124.out)) : gb124 ≠ gb125)); have n6_ := Aside0.mk ((by rw [hg]; exact Nat.ne_of_gt (blk_lt (g := gb124) (o := .cells #[.int .i64 a0_0, .int .i64 a0_1] 33 (0, 0)) (by (with_reducible repeat (first | refine blk_drewN ?_ _ | refine blk_drew ?_ | refine blk_alloc ?_ _)); exact BK124.out)) : gb125 ≠ gb124)); clear BK124; clear HB; have BK124 := n0_; have HB := n1_; have BK125 := n2_; have GW125 := n3_; have GE125 := n4_; have NB124_125 := n5_; have NB125_124 := n6_; clear n0_ n1_ n2_ n3_ n4_ n5_ n6_; clear hb hbox hg; have hnb22 := NB124_125.out; have hnc22 := NB125_124.out; have hcz23_0 : w21.cell? ⟨gb124, 0, none⟩ = some (.int .i64 a0_0) := (blk_cell BK124.out 0).trans rfl; have hcz23_1 : w21.cell? ⟨gb124, 1, none⟩ = some (.int .i64 a0_1) := (blk_cell BK124.out 1).trans rfl; have hfz23_0 := blk_frozen BK124.out 0; have hfz23_1 := blk_frozen BK124.out 1) | ((with_reducible refine gate_callee (f := 42) rfl ?_); refine goesL_ (some 5) rfl rfl Try.func42 (by kernel_rfl) rfl #[.agg #[.int .i64 a0_0, .int .i64 a0_1]] rfl (by (try simp only [List.map_toArray, List.map_cons, List.map_nil]); first | done | rfl | (simp only [List.length_drop, List.length_take]; rfl)) ?_; (with_reducible refine (scriptoriumref05_Check.calls a0_0 a0_1 t126 _ A2.out).mono ?_); rintro e w24 ⟨rfl, hb⟩; refine ⟨_, rfl, ?_⟩; have n0_ := Aside0.mk (blk_below (g := gb124) (o := .cells #[.int .i64 a0_0, .int .i64 a0_1] 33 (0, 0)) (by (with_reducible repeat (first | refine blk_drewN ?_ _ | refine blk_drew ?_ | refine blk_alloc ?_ _)); exact BK124.out) hb); have n1_ := Aside0.mk (blk_below (g := gb125) (o := .cells #[.int .i64 0, .int .i64 0] 33 (0, 0)) (by (with_reducible repeat (first | refine blk_drewN ?_ _ | refine blk_drew ?_ | refine blk_alloc ?_ _)); exact BK125.out) hb); have n2_ := Aside0.mk (below_step (by repeat (first | (with_reducible first | exact HB.out | apply below_alloc | apply pw_below_drewN | apply below_drew1 | refine below_set ?_ GE124.out | refine below_set ?_ GE125.out) | exact HB.out)) hb); clear BK124; clear BK125; clear HB; have BK124 := n0_; have BK125 := n1_; have HB := n2_; clear n0_ n1_ n2_; (try clear hb); (try clear hb2); (try clear hk); (try clear hi); have hcz25_0 : w24.cell? ⟨gb124, 0, none⟩ = some (.int .i64 a0_0) := (blk_cell BK124.out 0).trans rfl; have hcz25_1 : w24.cell? ⟨gb124, 1, none⟩ = some (.int .i64 a0_1) := (blk_cell BK124.out 1).trans rfl; have hfz25_0 := blk_frozen BK124.out 0; have hfz25_1 := blk_frozen BK124.out 1; have hcz26_0 : w24.cell? ⟨gb125, 0, none⟩ = some (.int .i64 0) := (blk_cell BK125.out 0).trans rfl; have hcz26_1 : w24.cell? ⟨gb125, 1, none⟩ = some (.int .i64 0) := (blk_cell BK125.out 1).trans rfl; have hfz26_0 := blk_frozen BK125.out 0; have hfz26_1 := blk_frozen BK125.out 1))
        refine bodyPost_ret (results_ct rfl _ _ gb125 33 #[.int .i64 0, .int .i64 0] (0, 0) _ rfl (by (with_reducible repeat (first | refine blk_drewN ?_ _ | refine blk_drew ?_ | refine blk_alloc ?_ _)); refine blk_put (cs := #[.int .i64 0, .int .i64 0]) ?_ 1 _ rfl; (with_reducible repeat (first | refine blk_drewN ?_ _ | refine blk_drew ?_ | refine blk_alloc ?_ _)); refine blk_put (cs := #[.int .i64 0, .int .i64 0]) ?_ 0 _ rfl; (with_reducible repeat (first | refine blk_drewN ?_ _ | refine blk_drew ?_ | refine blk_alloc ?_ _)); exact BK125.out) Try.underlying33 rfl (by kernel_rfl)) rfl ?_
        exact ⟨by first | rfl | (simp [errW_none, errW_some] <;> rfl) | (simp [*, errW_none, errW_some] <;> rfl), by repeat (first | (with_reducible first | exact HB.out | apply below_alloc | apply pw_below_drewN | apply below_drew1 | refine below_set ?_ GE124.out | refine below_set ?_ GE125.out) | exact HB.out)⟩
  · rw [if_neg c3] at H
    have c3b0 : (t126 == 0) = false := beq_eq_false_iff_ne.mpr c3
    have c3b1 : (t126 != 0) = true := bne_iff_ne.mpr c3
    simp only [Option.some.injEq, Prod.mk.injEq] at H
    obtain ⟨rfl, rfl, rfl⟩ := H
    go_enter Try.func40, Try.ntmps40
    go_wp2_with (first | ((with_reducible refine gate_dst (N := 1) rfl ?_); refine box_event ?hg (N := 1) ?hd (cs := #[.int .i64 a0_0, .int .i64 a0_1]) (t := 33) ?hr ?_; (case hd => rfl); (case hg => rfl); (case hr => first | (go_simp; done) | (go_simp; rfl)); intro gb124 hg w27 hbox hb; have n0_ := Aside0.mk (below_step (by repeat (first | (with_reducible first | exact HB.out | apply below_alloc | apply pw_below_drewN | apply below_drew1) | exact HB.out)) hb); have n1_ := Aside0.mk (hbox); have n2_ := Aside0.mk ((by rw [hg]; exact (below_size (by repeat (first | (with_reducible first | exact HB.out | apply below_alloc | apply pw_below_drewN | apply below_drew1) | exact HB.out))) : w.heap.size ≤ gb124)); have n3_ := Aside0.mk ((by rw [hg]; exact (below_size (by repeat (first | (with_reducible first | exact HB.out | apply below_alloc | apply pw_below_drewN | apply below_drew1) | exact HB.out))) : w.heap.size ≤ gb124)); clear HB; have HB := n0_; have BK124 := n1_; have GW124 := n2_; have GE124 := n3_; clear n0_ n1_ n2_ n3_; clear hb hbox hg) | ((with_reducible refine gate_dst (N := 2) rfl ?_); refine box_event ?hg (N := 2) ?hd (cs := #[.int .i64 0, .int .i64 0]) (t := 33) ?hr ?_; (case hd => rfl); (case hg => rfl); (case hr => first | (go_simp; done) | (go_simp; rfl)); intro gb125 hg w28 hbox hb; have n0_ := Aside0.mk (blk_below (g := gb124) (o := .cells #[.int .i64 a0_0, .int .i64 a0_1] 33 (0, 0)) (by (with_reducible repeat (first | refine blk_drewN ?_ _ | refine blk_drew ?_ | refine blk_alloc ?_ _)); exact BK124.out) hb); have n1_ := Aside0.mk (below_step (by repeat (first | (with_reducible first | exact HB.out | apply below_alloc | apply pw_below_drewN | apply below_drew1 | refine below_set ?_ GE124.out) | exact HB.out)) hb); have n2_ := Aside0.mk (hbox); have n3_ := Aside0.mk ((by rw [hg]; exact (below_size (by repeat (first | (with_reducible first | exact HB.out | apply below_alloc | apply pw_below_drewN | apply below_drew1 | refine below_set ?_ GE124.out) | exact HB.out))) : w.heap.size ≤ gb125)); have n4_ := Aside0.mk ((by rw [hg]; exact (below_size (by repeat (first | (with_reducible first | exact HB.out | apply below_alloc | apply pw_below_drewN | apply below_drew1 | refine below_set ?_ GE124.out) | exact HB.out))) : w.heap.size ≤ gb125)); have n5_ := Aside0.mk ((by rw [hg]; exact Nat.ne_of_lt (blk_lt (g := gb124) (o := .cells #[.int .i64 a0_0, .int .i64 a0_1] 33 (0, 0)) (by (with_reducible repeat (first | refine blk_drewN ?_ _ | refine blk_drew ?_ | refine blk_alloc ?_ _)); exact BK124.out)) : gb124 ≠ gb125)); have n6_ := Aside0.mk ((by rw [hg]; exact Nat.ne_of_gt (blk_lt (g := gb124) (o := .cells #[.int .i64 a0_0, .int .i64 a0_1] 33 (0, 0)) (by (with_reducible repeat (first | refine blk_drewN ?_ _ | refine blk_drew ?_ | refine blk_alloc ?_ _)); exact BK124.out)) : gb125 ≠ gb124)); clear BK124; clear HB; have BK124 := n0_; have HB := n1_; have BK125 := n2_; have GW125 := n3_; have GE125 := n4_; have NB124_125 := n5_; have NB125_124 := n6_; clear n0_ n1_ n2_ n3_ n4_ n5_ n6_; clear hb hbox hg; have hnb29 := NB124_125.out; have hnc29 := NB125_124.out; have hcz30_0 : w28.cell? ⟨gb124, 0, none⟩ = some (.int .i64 a0_0) := (blk_cell BK124.out 0).trans rfl; have hcz30_1 : w28.cell? ⟨gb124, 1, none⟩ = some (.int .i64 a0_1) := (blk_cell BK124.out 1).trans rfl; have hfz30_0 := blk_frozen BK124.out 0; have hfz30_1 := blk_frozen BK124.out 1) | ((with_reducible refine gate_callee (f := 42) rfl ?_); refine goesL_ (some 5) rfl rfl Try.func42 (by kernel_rfl) rfl #[.agg #[.int .i64 a0_0, .int .i64 a0_1]] rfl (by (try simp only [List.map_toArray, List.map_cons, List.map_nil]); first | done | rfl | (simp only [List.length_drop, List.length_take]; rfl)) ?_; (with_reducible refine (scriptoriumref05_Check.calls a0_0 a0_1 t126 _ A2.out).mono ?_); rintro e w31 ⟨rfl, hb⟩; refine ⟨_, rfl, ?_⟩; have n0_ := Aside0.mk (blk_below (g := gb124) (o := .cells #[.int .i64 a0_0, .int .i64 a0_1] 33 (0, 0)) (by (with_reducible repeat (first | refine blk_drewN ?_ _ | refine blk_drew ?_ | refine blk_alloc ?_ _)); exact BK124.out) hb); have n1_ := Aside0.mk (blk_below (g := gb125) (o := .cells #[.int .i64 0, .int .i64 0] 33 (0, 0)) (by (with_reducible repeat (first | refine blk_drewN ?_ _ | refine blk_drew ?_ | refine blk_alloc ?_ _)); exact BK125.out) hb); have n2_ := Aside0.mk (below_step (by repeat (first | (with_reducible first | exact HB.out | apply below_alloc | apply pw_below_drewN | apply below_drew1 | refine below_set ?_ GE124.out | refine below_set ?_ GE125.out) | exact HB.out)) hb); clear BK124; clear BK125; clear HB; have BK124 := n0_; have BK125 := n1_; have HB := n2_; clear n0_ n1_ n2_; (try clear hb); (try clear hb2); (try clear hk); (try clear hi); have hcz32_0 : w31.cell? ⟨gb125, 0, none⟩ = some (.int .i64 0) := (blk_cell BK125.out 0).trans rfl; have hcz32_1 : w31.cell? ⟨gb125, 1, none⟩ = some (.int .i64 0) := (blk_cell BK125.out 1).trans rfl; have hfz32_0 := blk_frozen BK125.out 0; have hfz32_1 := blk_frozen BK125.out 1))
    refine bodyPost_ret (results_ct rfl _ _ gb125 33 #[.int .i64 0, .int .i64 0] (0, 0) _ rfl (by (with_reducible repeat (first | refine blk_drewN ?_ _ | refine blk_drew ?_ | refine blk_alloc ?_ _)); refine blk_put (cs := #[.int .i64 0, .int .i64 0]) ?_ 1 _ rfl; (with_reducible repeat (first | refine blk_drewN ?_ _ | refine blk_drew ?_ | refine blk_alloc ?_ _)); refine blk_put (cs := #[.int .i64 0, .int .i64 0]) ?_ 0 _ rfl; (with_reducible repeat (first | refine blk_drewN ?_ _ | refine blk_drew ?_ | refine blk_alloc ?_ _)); exact BK125.out) Try.underlying33 rfl (by kernel_rfl)) rfl ?_
    exact ⟨by first | rfl | (simp [errW_none, errW_some] <;> rfl) | (simp [*, errW_none, errW_some] <;> rfl), by repeat (first | (with_reducible first | exact HB.out | apply below_alloc | apply pw_below_drewN | apply below_drew1 | refine below_set ?_ GE124.out | refine below_set ?_ GE125.out) | exact HB.out)⟩

/-! ### scriptoriumref05_Less: function 45 -/
def scriptoriumref05_Less.f (a0_0 : Int) (a0_1 : Int) (a1_0 : Int) (a1_1 : Int) : Option (Bool) := if a0_0 < a1_0 then (some true) else (if a0_0 = a1_0 then (some (decide (a0_1 < a1_1))) else (some false))
set_option maxHeartbeats 8000000 in
set_option maxRecDepth 100000 in
theorem scriptoriumref05_Less.calls (a0_0 : Int) (a0_1 : Int) (a1_0 : Int) (a1_1 : Int) (r : Bool) (w : World) (h : scriptoriumref05_Less.f a0_0 a0_1 a1_0 a1_1 = some r) :
    Calls Try.prog 45 #[.agg #[.int .i64 a0_0, .int .i64 a0_1], .agg #[.int .i64 a1_0, .int .i64 a1_1]] w fun e w' => e = .returned (.bool r) ∧ Below w.heap.size w w' := by
  have hu33 := Try.underlying33
  have HB := Aside0.mk (Below.refl w.heap.size w)
  have H : (if a0_0 < a1_0 then (some true) else (if a0_0 = a1_0 then (some (decide (a0_1 < a1_1))) else (some false))) = some r := h
  clear h
  by_cases c3 : a0_0 < a1_0
  · rw [if_pos c3] at H
    have c3b0 : decide (a0_0 < a1_0) = true := decide_eq_true c3
    clear c3
    obtain rfl := Option.some.inj H
    go_enter Try.func45, Try.ntmps45
    go_wp2_with (first | ((with_reducible refine gate_dst (N := 2) rfl ?_); refine box_event ?hg (N := 2) ?hd (cs := #[.int .i64 a0_0, .int .i64 a0_1]) (t := 33) ?hr ?_; (case hd => rfl); (case hg => rfl); (case hr => first | (go_simp; done) | (go_simp; rfl)); intro gb127 hg w4 hbox hb; have n0_ := Aside0.mk (below_step (by repeat (first | (with_reducible first | exact HB.out | apply below_alloc | apply pw_below_drewN | apply below_drew1) | exact HB.out)) hb); have n1_ := Aside0.mk (hbox); have n2_ := Aside0.mk ((by rw [hg]; exact (below_size (by repeat (first | (with_reducible first | exact HB.out | apply below_alloc | apply pw_below_drewN | apply below_drew1) | exact HB.out))) : w.heap.size ≤ gb127)); have n3_ := Aside0.mk ((by rw [hg]; exact (below_size (by repeat (first | (with_reducible first | exact HB.out | apply below_alloc | apply pw_below_drewN | apply below_drew1) | exact HB.out))) : w.heap.size ≤ gb127)); clear HB; have HB := n0_; have BK127 := n1_; have GW127 := n2_; have GE127 := n3_; clear n0_ n1_ n2_ n3_; clear hb hbox hg) | ((with_reducible refine gate_dst (N := 3) rfl ?_); refine box_event ?hg (N := 3) ?hd (cs := #[.int .i64 a1_0, .int .i64 a1_1]) (t := 33) ?hr ?_; (case hd => rfl); (case hg => rfl); (case hr => first | (go_simp; done) | (go_simp; rfl)); intro gb128 hg w5 hbox hb; have n0_ := Aside0.mk (blk_below (g := gb127) (o := .cells #[.int .i64 a0_0, .int .i64 a0_1] 33 (0, 0)) (by (with_reducible repeat (first | refine blk_drewN ?_ _ | refine blk_drew ?_ | refine blk_alloc ?_ _)); exact BK127.out) hb); have n1_ := Aside0.mk (below_step (by repeat (first | (with_reducible first | exact HB.out | apply below_alloc | apply pw_below_drewN | apply below_drew1 | refine below_set ?_ GE127.out) | exact HB.out)) hb); have n2_ := Aside0.mk (hbox); have n3_ := Aside0.mk ((by rw [hg]; exact (below_size (by repeat (first | (with_reducible first | exact HB.out | apply below_alloc | apply pw_below_drewN | apply below_drew1 | refine below_set ?_ GE127.out) | exact HB.out))) : w.heap.size ≤ gb128)); have n4_ := Aside0.mk ((by rw [hg]; exact (below_size (by repeat (first | (with_reducible first | exact HB.out | apply below_alloc | apply pw_below_drewN | apply below_drew1 | refine below_set ?_ GE127.out) | exact HB.out))) : w.heap.size ≤ gb128)); have n5_ := Aside0.mk ((by rw [hg]; exact Nat.ne_of_lt (blk_lt (g := gb127) (o := .cells #[.int .i64 a0_0, .int .i64 a0_1] 33 (0, 0)) (by (with_reducible repeat (first | refine blk_drewN ?_ _ | refine blk_drew ?_ | refine blk_alloc ?_ _)); exact BK127.out)) : gb127 ≠ gb128)); have n6_ := Aside0.mk ((by rw [hg]; exact Nat.ne_of_gt (blk_lt (g := gb127) (o := .cells #[.int .i64 a0_0, .int .i64 a0_1] 33 (0, 0)) (by (with_reducible repeat (first | refine blk_drewN ?_ _ | refine blk_drew ?_ | refine blk_alloc ?_ _)); exact BK127.out)) : gb128 ≠ gb127)); clear BK127; clear HB; have BK127 := n0_; have HB := n1_; have BK128 := n2_; have GW128 := n3_; have GE128 := n4_; have NB127_128 := n5_; have NB128_127 := n6_; clear n0_ n1_ n2_ n3_ n4_ n5_ n6_; clear hb hbox hg; have hnb6 := NB127_128.out; have hnc6 := NB128_127.out; have hcz7_0 : w5.cell? ⟨gb127, 0, none⟩ = some (.int .i64 a0_0) := (blk_cell BK127.out 0).trans rfl; have hcz7_1 : w5.cell? ⟨gb127, 1, none⟩ = some (.int .i64 a0_1) := (blk_cell BK127.out 1).trans rfl; have hfz7_0 := blk_frozen BK127.out 0; have hfz7_1 := blk_frozen BK127.out 1; have hcz8_0 : w5.cell? ⟨gb128, 0, none⟩ = some (.int .i64 a1_0) := (blk_cell BK128.out 0).trans rfl; have hcz8_1 : w5.cell? ⟨gb128, 1, none⟩ = some (.int .i64 a1_1) := (blk_cell BK128.out 1).trans rfl; have hfz8_0 := blk_frozen BK128.out 0; have hfz8_1 := blk_frozen BK128.out 1))
    go_ret
    exact ⟨by first | rfl | (simp [errW_none, errW_some] <;> rfl) | (simp [*, errW_none, errW_some] <;> rfl), by repeat (first | (with_reducible first | exact HB.out | apply below_alloc | apply pw_below_drewN | apply below_drew1 | refine below_set ?_ GE127.out | refine below_set ?_ GE128.out) | exact HB.out)⟩
  · rw [if_neg c3] at H
    have c3b0 : decide (a0_0 < a1_0) = false := decide_eq_false c3
    clear c3
    by_cases c9 : a0_0 = a1_0
    · rw [if_pos c9] at H
      have c9b0 : (a0_0 == a1_0) = true := beq_iff_eq.mpr c9
      have c9b1 : (a0_0 != a1_0) = false := bne_eq_false_iff_eq.mpr c9
      clear c9
      obtain rfl := Option.some.inj H
      go_enter Try.func45, Try.ntmps45
      go_wp2_with (first | ((with_reducible refine gate_dst (N := 2) rfl ?_); refine box_event ?hg (N := 2) ?hd (cs := #[.int .i64 a0_0, .int .i64 a0_1]) (t := 33) ?hr ?_; (case hd => rfl); (case hg => rfl); (case hr => first | (go_simp; done) | (go_simp; rfl)); intro gb127 hg w10 hbox hb; have n0_ := Aside0.mk (below_step (by repeat (first | (with_reducible first | exact HB.out | apply below_alloc | apply pw_below_drewN | apply below_drew1) | exact HB.out)) hb); have n1_ := Aside0.mk (hbox); have n2_ := Aside0.mk ((by rw [hg]; exact (below_size (by repeat (first | (with_reducible first | exact HB.out | apply below_alloc | apply pw_below_drewN | apply below_drew1) | exact HB.out))) : w.heap.size ≤ gb127)); have n3_ := Aside0.mk ((by rw [hg]; exact (below_size (by repeat (first | (with_reducible first | exact HB.out | apply below_alloc | apply pw_below_drewN | apply below_drew1) | exact HB.out))) : w.heap.size ≤ gb127)); clear HB; have HB := n0_; have BK127 := n1_; have GW127 := n2_; have GE127 := n3_; clear n0_ n1_ n2_ n3_; clear hb hbox hg) | ((with_reducible refine gate_dst (N := 3) rfl ?_); refine box_event ?hg (N := 3) ?hd (cs := #[.int .i64 a1_0, .int .i64 a1_1]) (t := 33) ?hr ?_; (case hd => rfl); (case hg => rfl); (case hr => first | (go_simp; done) | (go_simp; rfl)); intro gb128 hg w11 hbox hb; have n0_ := Aside0.mk (blk_below (g := gb127) (o := .cells #[.int .i64 a0_0, .int .i64 a0_1] 33 (0, 0)) (by (with_reducible repeat (first | refine blk_drewN ?_ _ | refine blk_drew ?_ | refine blk_alloc ?_ _)); exact BK127.out) hb); have n1_ := Aside0.mk (below_step (by repeat (first | (with_reducible first | exact HB.out | apply below_alloc | apply pw_below_drewN | apply below_drew1 | refine below_set ?_ GE127.out) | exact HB.out)) hb); have n2_ := Aside0.mk (hbox); have n3_ := Aside0.mk ((by rw [hg]; exact (below_size (by repeat (first | (with_reducible first | exact HB.out | apply below_alloc | apply pw_below_drewN | apply below_drew1 | refine below_set ?_ GE127.out) | exact HB.out))) : w.heap.size ≤ gb128)); have n4_ := Aside0.mk ((by rw [hg]; exact (below_size (by repeat (first | (with_reducible first | exact HB.out | apply below_alloc | apply pw_below_drewN | apply below_drew1 | refine below_set ?_ GE127.out) | exact HB.out))) : w.heap.size ≤ gb128)); have n5_ := Aside0.mk ((by rw [hg]; exact Nat.ne_of_lt (blk_lt (g := gb127) (o := .cells #[.int .i64 a0_0, .int .i64 a0_1] 33 (0, 0)) (by (with_reducible repeat (first | refine blk_drewN ?_ _ | refine blk_drew ?_ | refine blk_alloc ?_ _)); exact BK127.out)) : gb127 ≠ gb128)); have n6_ := Aside0.mk ((by rw [hg]; exact Nat.ne_of_gt (blk_lt (g := gb127) (o := .cells #[.int .i64 a0_0, .int .i64 a0_1] 33 (0, 0)) (by (with_reducible repeat (first | refine blk_drewN ?_ _ | refine blk_drew ?_ | refine blk_alloc ?_ _)); exact BK127.out)) : gb128 ≠ gb127)); clear BK127; clear HB; have BK127 := n0_; have HB := n1_; have BK128 := n2_; have GW128 := n3_; have GE128 := n4_; have NB127_128 := n5_; have NB128_127 := n6_; clear n0_ n1_ n2_ n3_ n4_ n5_ n6_; clear hb hbox hg; have hnb12 := NB127_128.out; have hnc12 := NB128_127.out; have hcz13_0 : w11.cell? ⟨gb127, 0, none⟩ = some (.int .i64 a0_0) := (blk_cell BK127.out 0).trans rfl; have hcz13_1 : w11.cell? ⟨gb127, 1, none⟩ = some (.int .i64 a0_1) := (blk_cell BK127.out 1).trans rfl; have hfz13_0 := blk_frozen BK127.out 0; have hfz13_1 := blk_frozen BK127.out 1; have hcz14_0 : w11.cell? ⟨gb128, 0, none⟩ = some (.int .i64 a1_0) := (blk_cell BK128.out 0).trans rfl; have hcz14_1 : w11.cell? ⟨gb128, 1, none⟩ = some (.int .i64 a1_1) := (blk_cell BK128.out 1).trans rfl; have hfz14_0 := blk_frozen BK128.out 0; have hfz14_1 := blk_frozen BK128.out 1))
      go_ret
      exact ⟨by first | rfl | (simp [errW_none, errW_some] <;> rfl) | (simp [*, errW_none, errW_some] <;> rfl), by repeat (first | (with_reducible first | exact HB.out | apply below_alloc | apply pw_below_drewN | apply below_drew1 | refine below_set ?_ GE127.out | refine below_set ?_ GE128.out) | exact HB.out)⟩
    · rw [if_neg c9] at H
      have c9b0 : (a0_0 == a1_0) = false := beq_eq_false_iff_ne.mpr c9
      have c9b1 : (a0_0 != a1_0) = true := bne_iff_ne.mpr c9
      obtain rfl := Option.some.inj H
      go_enter Try.func45, Try.ntmps45
      go_wp2_with (first | ((with_reducible refine gate_dst (N := 2) rfl ?_); refine box_event ?hg (N := 2) ?hd (cs := #[.int .i64 a0_0, .int .i64 a0_1]) (t := 33) ?hr ?_; (case hd => rfl); (case hg => rfl); (case hr => first | (go_simp; done) | (go_simp; rfl)); intro gb127 hg w15 hbox hb; have n0_ := Aside0.mk (below_step (by repeat (first | (with_reducible first | exact HB.out | apply below_alloc | apply pw_below_drewN | apply below_drew1) | exact HB.out)) hb); have n1_ := Aside0.mk (hbox); have n2_ := Aside0.mk ((by rw [hg]; exact (below_size (by repeat (first | (with_reducible first | exact HB.out | apply below_alloc | apply pw_below_drewN | apply below_drew1) | exact HB.out))) : w.heap.size ≤ gb127)); have n3_ := Aside0.mk ((by rw [hg]; exact (below_size (by repeat (first | (with_reducible first | exact HB.out | apply below_alloc | apply pw_below_drewN | apply below_drew1) | exact HB.out))) : w.heap.size ≤ gb127)); clear HB; have HB := n0_; have BK127 := n1_; have GW127 := n2_; have GE127 := n3_; clear n0_ n1_ n2_ n3_; clear hb hbox hg) | ((with_reducible refine gate_dst (N := 3) rfl ?_); refine box_event ?hg (N := 3) ?hd (cs := #[.int .i64 a1_0, .int .i64 a1_1]) (t := 33) ?hr ?_; (case hd => rfl); (case hg => rfl); (case hr => first | (go_simp; done) | (go_simp; rfl)); intro gb128 hg w16 hbox hb; have n0_ := Aside0.mk (blk_below (g := gb127) (o := .cells #[.int .i64 a0_0, .int .i64 a0_1] 33 (0, 0)) (by (with_reducible repeat (first | refine blk_drewN ?_ _ | refine blk_drew ?_ | refine blk_alloc ?_ _)); exact BK127.out) hb); have n1_ := Aside0.mk (below_step (by repeat (first | (with_reducible first | exact HB.out | apply below_alloc | apply pw_below_drewN | apply below_drew1 | refine below_set ?_ GE127.out) | exact HB.out)) hb); have n2_ := Aside0.mk (hbox); have n3_ := Aside0.mk ((by rw [hg]; exact (below_size (by repeat (first | (with_reducible first | exact HB.out | apply below_alloc | apply pw_below_drewN | apply below_drew1 | refine below_set ?_ GE127.out) | exact HB.out))) : w.heap.size ≤ gb128)); have n4_ := Aside0.mk ((by rw [hg]; exact (below_size (by repeat (first | (with_reducible first | exact HB.out | apply below_alloc | apply pw_below_drewN | apply below_drew1 | refine below_set ?_ GE127.out) | exact HB.out))) : w.heap.size ≤ gb128)); have n5_ := Aside0.mk ((by rw [hg]; exact Nat.ne_of_lt (blk_lt (g := gb127) (o := .cells #[.int .i64 a0_0, .int .i64 a0_1] 33 (0, 0)) (by (with_reducible repeat (first | refine blk_drewN ?_ _ | refine blk_drew ?_ | refine blk_alloc ?_ _)); exact BK127.out)) : gb127 ≠ gb128)); have n6_ := Aside0.mk ((by rw [hg]; exact Nat.ne_of_gt (blk_lt (g := gb127) (o := .cells #[.int .i64 a0_0, .int .i64 a0_1] 33 (0, 0)) (by (with_reducible repeat (first | refine blk_drewN ?_ _ | refine blk_drew ?_ | refine blk_alloc ?_ _)); exact BK127.out)) : gb128 ≠ gb127)); clear BK127; clear HB; have BK127 := n0_; have HB := n1_; have BK128 := n2_; have GW128 := n3_; have GE128 := n4_; have NB127_128 := n5_; have NB128_127 := n6_; clear n0_ n1_ n2_ n3_ n4_ n5_ n6_; clear hb hbox hg; have hnb17 := NB127_128.out; have hnc17 := NB128_127.out; have hcz18_0 : w16.cell? ⟨gb127, 0, none⟩ = some (.int .i64 a0_0) := (blk_cell BK127.out 0).trans rfl; have hcz18_1 : w16.cell? ⟨gb127, 1, none⟩ = some (.int .i64 a0_1) := (blk_cell BK127.out 1).trans rfl; have hfz18_0 := blk_frozen BK127.out 0; have hfz18_1 := blk_frozen BK127.out 1; have hcz19_0 : w16.cell? ⟨gb128, 0, none⟩ = some (.int .i64 a1_0) := (blk_cell BK128.out 0).trans rfl; have hcz19_1 : w16.cell? ⟨gb128, 1, none⟩ = some (.int .i64 a1_1) := (blk_cell BK128.out 1).trans rfl; have hfz19_0 := blk_frozen BK128.out 0; have hfz19_1 := blk_frozen BK128.out 1))
      go_ret
      exact ⟨by first | rfl | (simp [errW_none, errW_some] <;> rfl) | (simp [*, errW_none, errW_some] <;> rfl), by repeat (first | (with_reducible first | exact HB.out | apply below_alloc | apply pw_below_drewN | apply below_drew1 | refine below_set ?_ GE127.out | refine below_set ?_ GE128.out) | exact HB.out)⟩

/-! ### scriptoriumref05_Two: function 41 -/
def scriptoriumref05_Two.f (a0_0 : Int) (a0_1 : Int) (a1_0 : Int) (a1_1 : Int) : Option (Int × Int) := (scriptoriumref05_Less.f a0_0 a0_1 a1_0 a1_1).bind fun t132 => (if t132 = true then (some (a1_0, a1_1)) else (some (a0_0, a0_1)))
set_option maxHeartbeats 8000000 in
set_option maxRecDepth 100000 in
theorem scriptoriumref05_Two.calls (a0_0 : Int) (a0_1 : Int) (a1_0 : Int) (a1_1 : Int) (r1 : Int) (r2 : Int) (w : World) (h : scriptoriumref05_Two.f a0_0 a0_1 a1_0 a1_1 = some (r1, r2)) :
    Calls Try.prog 41 #[.agg #[.int .i64 a0_0, .int .i64 a0_1], .agg #[.int .i64 a1_0, .int .i64 a1_1]] w fun e w' => e = .returned (.agg #[.int .i64 r1, .int .i64 r2]) ∧ Below w.heap.size w w' := by
  have hu33 := Try.underlying33
  have HB := Aside0.mk (Below.refl w.heap.size w)
  have H : ((scriptoriumref05_Less.f a0_0 a0_1 a1_0 a1_1).bind fun t132 => (if t132 = true then (some (a1_0, a1_1)) else (some (a0_0, a0_1)))) = some (r1, r2) := h
  clear h
  replace H := Option.bind_eq_some_iff.mp H
  obtain ⟨t132, A30, H⟩ := H
  replace H : (if t132 = true then (some (a1_0, a1_1)) else (some (a0_0, a0_1))) = some (r1, r2) := H
  have A3 := Aside0.mk A30
  clear A30
  by_cases c4 : t132 = true
  · subst c4
    have H1 : (some (a1_0, a1_1)) = some (r1, r2) := by rw [if_pos rfl] at H; exact H
    clear H
    have H := H1
    clear H1
    simp only [Option.some.injEq, Prod.mk.injEq] at H
    obtain ⟨rfl, rfl⟩ := H
    go_enter Try.func41, Try.ntmps41
    go_wp2_with (first | ((with_reducible refine gate_dst (N := 2) rfl ?_); refine box_event ?hg (N := 2) ?hd (cs := #[.int .i64 a0_0, .int .i64 a0_1]) (t := 33) ?hr ?_; (case hd => rfl); (case hg => rfl); (case hr => first | (go_simp; done) | (go_simp; rfl)); intro gb129 hg w5 hbox hb; have n0_ := Aside0.mk (below_step (by repeat (first | (with_reducible first | exact HB.out | apply below_alloc | apply pw_below_drewN | apply below_drew1) | exact HB.out)) hb); have n1_ := Aside0.mk (hbox); have n2_ := Aside0.mk ((by rw [hg]; exact (below_size (by repeat (first | (with_reducible first | exact HB.out | apply below_alloc | apply pw_below_drewN | apply below_drew1) | exact HB.out))) : w.heap.size ≤ gb129)); have n3_ := Aside0.mk ((by rw [hg]; exact (below_size (by repeat (first | (with_reducible first | exact HB.out | apply below_alloc | apply pw_below_drewN | apply below_drew1) | exact HB.out))) : w.heap.size ≤ gb129)); clear HB; have HB := n0_; have BK129 := n1_; have GW129 := n2_; have GE129 := n3_; clear n0_ n1_ n2_ n3_; clear hb hbox hg) | ((with_reducible refine gate_dst (N := 3) rfl ?_); refine box_event ?hg (N := 3) ?hd (cs := #[.int .i64 a1_0, .int .i64 a1_1]) (t := 33) ?hr ?_; (case hd => rfl); (case hg => rfl); (case hr => first | (go_simp; done) | (go_simp; rfl)); intro gb130 hg w6 hbox hb; have n0_ := Aside0.mk (blk_below (g := gb129) (o := .cells #[.int .i64 a0_0, .int .i64 a0_1] 33 (0, 0)) (by (with_reducible repeat (first | refine blk_drewN ?_ _ | refine blk_drew ?_ | refine blk_alloc ?_ _)); exact BK129.out) hb); have n1_ := Aside0.mk (below_step (by repeat (first | (with_reducible first | exact HB.out | apply below_alloc | apply pw_below_drewN | apply below_drew1 | refine below_set ?_ GE129.out) | exact HB.out)) hb); have n2_ := Aside0.mk (hbox); have n3_ := Aside0.mk ((by rw [hg]; exact (below_size (by repeat (first | (with_reducible first | exact HB.out | apply below_alloc | apply pw_below_drewN | apply below_drew1 | refine below_set ?_ GE129.out) | exact HB.out))) : w.heap.size ≤ gb130)); have n4_ := Aside0.mk ((by rw [hg]; exact (below_size (by repeat (first | (with_reducible first | exact HB.out | apply below_alloc | apply pw_below_drewN | apply below_drew1 | refine below_set ?_ GE129.out) | exact HB.out))) : w.heap.size ≤ gb130)); have n5_ := Aside0.mk ((by rw [hg]; exact Nat.ne_of_lt (blk_lt (g := gb129) (o := .cells #[.int .i64 a0_0, .int .i64 a0_1] 33 (0, 0)) (by (with_reducible repeat (first | refine blk_drewN ?_ _ | refine blk_drew ?_ | refine blk_alloc ?_ _)); exact BK129.out)) : gb129 ≠ gb130)); have n6_ := Aside0.mk ((by rw [hg]; exact Nat.ne_of_gt (blk_lt (g := gb129) (o := .cells #[.int .i64 a0_0, .int .i64 a0_1] 33 (0, 0)) (by (with_reducible repeat (first | refine blk_drewN ?_ _ | refine blk_drew ?_ | refine blk_alloc ?_ _)); exact BK129.out)) : gb130 ≠ gb129)); clear BK129; clear HB; have BK129 := n0_; have HB := n1_; have BK130 := n2_; have GW130 := n3_; have GE130 := n4_; have NB129_130 := n5_; have NB130_129 := n6_; clear n0_ n1_ n2_ n3_ n4_ n5_ n6_; clear hb hbox hg) | ((with_reducible refine gate_dst (N := 4) rfl ?_); refine box_event ?hg (N := 4) ?hd (cs := #[.int .i64 0, .int .i64 0]) (t := 33) ?hr ?_; (case hd => rfl); (case hg => rfl); (case hr => first | (go_simp; done) | (go_simp; rfl)); intro gb131 hg w7 hbox hb; have n0_ := Aside0.mk (blk_below (g := gb129) (o := .cells #[.int .i64 a0_0, .int .i64 a0_1] 33 (0, 0)) (by (with_reducible repeat (first | refine blk_drewN ?_ _ | refine blk_drew ?_ | refine blk_alloc ?_ _)); exact BK129.out) hb); have n1_ := Aside0.mk (blk_below (g := gb130) (o := .cells #[.int .i64 a1_0, .int .i64 a1_1] 33 (0, 0)) (by (with_reducible repeat (first | refine blk_drewN ?_ _ | refine blk_drew ?_ | refine blk_alloc ?_ _)); exact BK130.out) hb); have n2_ := Aside0.mk (below_step (by repeat (first | (with_reducible first | exact HB.out | apply below_alloc | apply pw_below_drewN | apply below_drew1 | refine below_set ?_ GE129.out | refine below_set ?_ GE130.out) | exact HB.out)) hb); have n3_ := Aside0.mk (hbox); have n4_ := Aside0.mk ((by rw [hg]; exact (below_size (by repeat (first | (with_reducible first | exact HB.out | apply below_alloc | apply pw_below_drewN | apply below_drew1 | refine below_set ?_ GE129.out | refine below_set ?_ GE130.out) | exact HB.out))) : w.heap.size ≤ gb131)); have n5_ := Aside0.mk ((by rw [hg]; exact (below_size (by repeat (first | (with_reducible first | exact HB.out | apply below_alloc | apply pw_below_drewN | apply below_drew1 | refine below_set ?_ GE129.out | refine below_set ?_ GE130.out) | exact HB.out))) : w.heap.size ≤ gb131)); have n6_ := Aside0.mk ((by rw [hg]; exact Nat.ne_of_lt (blk_lt (g := gb129) (o := .cells #[.int .i64 a0_0, .int .i64 a0_1] 33 (0, 0)) (by (with_reducible repeat (first | refine blk_drewN ?_ _ | refine blk_drew ?_ | refine blk_alloc ?_ _)); exact BK129.out)) : gb129 ≠ gb131)); have n7_ := Aside0.mk ((by rw [hg]; exact Nat.ne_of_gt (blk_lt (g := gb129) (o := .cells #[.int .i64 a0_0, .int .i64 a0_1] 33 (0, 0)) (by (with_reducible repeat (first | refine blk_drewN ?_ _ | refine blk_drew ?_ | refine blk_alloc ?_ _)); exact BK129.out)) : gb131 ≠ gb129)); have n8_ := Aside0.mk ((by rw [hg]; exact Nat.ne_of_lt (blk_lt (g := gb130) (o := .cells #[.int .i64 a1_0, .int .i64 a1_1] 33 (0, 0)) (by (with_reducible repeat (first | refine blk_drewN ?_ _ | refine blk_drew ?_ | refine blk_alloc ?_ _)); exact BK130.out)) : gb130 ≠ gb131)); have n9_ := Aside0.mk ((by rw [hg]; exact Nat.ne_of_gt (blk_lt (g := gb130) (o := .cells #[.int .i64 a1_0, .int .i64 a1_1] 33 (0, 0)) (by (with_reducible repeat (first | refine blk_drewN ?_ _ | refine blk_drew ?_ | refine blk_alloc ?_ _)); exact BK130.out)) : gb131 ≠ gb130)); clear BK129; clear BK130; clear HB; have BK129 := n0_; have BK130 := n1_; have HB := n2_; have BK131 := n3_; have GW131 := n4_; have GE131 := n5_; have NB129_131 := n6_; have NB131_129 := n7_; have NB130_131 := n8_; have NB131_130 := n9_; clear n0_ n1_ n2_ n3_ n4_ n5_ n6_ n7_ n8_ n9_; clear hb hbox hg; have hnb8 := NB129_130.out; have hnc8 := NB130_129.out; have hnb9 := NB129_131.out; have hnc9 := NB131_129.out; have hcz10_0 : w7.cell? ⟨gb129, 0, none⟩ = some (.int .i64 a0_0) := (blk_cell BK129.out 0).trans rfl; have hcz10_1 : w7.cell? ⟨gb129, 1, none⟩ = some (.int .i64 a0_1) := (blk_cell BK129.out 1).trans rfl; have hfz10_0 := blk_frozen BK129.out 0; have hfz10_1 := blk_frozen BK129.out 1; have hnb11 := NB130_131.out; have hnc11 := NB131_130.out; have hcz12_0 : w7.cell? ⟨gb130, 0, none⟩ = some (.int .i64 a1_0) := (blk_cell BK130.out 0).trans rfl; have hcz12_1 : w7.cell? ⟨gb130, 1, none⟩ = some (.int .i64 a1_1) := (blk_cell BK130.out 1).trans rfl; have hfz12_0 := blk_frozen BK130.out 0; have hfz12_1 := blk_frozen BK130.out 1) | ((with_reducible refine gate_callee (f := 45) rfl ?_); refine goesL_ (some 7) rfl rfl Try.func45 (by kernel_rfl) rfl #[.agg #[.int .i64 a0_0, .int .i64 a0_1], .agg #[.int .i64 a1_0, .int .i64 a1_1]] rfl (by (try simp only [List.map_toArray, List.map_cons, List.map_nil]); first | done | rfl | (simp only [List.length_drop, List.length_take]; rfl)) ?_; (with_reducible refine (scriptoriumref05_Less.calls a0_0 a0_1 a1_0 a1_1 true _ A3.out).mono ?_); rintro e w13 ⟨rfl, hb⟩; refine ⟨_, rfl, ?_⟩; have n0_ := Aside0.mk (blk_below (g := gb129) (o := .cells #[.int .i64 a0_0, .int .i64 a0_1] 33 (0, 0)) (by (with_reducible repeat (first | refine blk_drewN ?_ _ | refine blk_drew ?_ | refine blk_alloc ?_ _)); exact BK129.out) hb); have n1_ := Aside0.mk (blk_below (g := gb130) (o := .cells #[.int .i64 a1_0, .int .i64 a1_1] 33 (0, 0)) (by (with_reducible repeat (first | refine blk_drewN ?_ _ | refine blk_drew ?_ | refine blk_alloc ?_ _)); exact BK130.out) hb); have n2_ := Aside0.mk (blk_below (g := gb131) (o := .cells #[.int .i64 0, .int .i64 0] 33 (0, 0)) (by (with_reducible repeat (first | refine blk_drewN ?_ _ | refine blk_drew ?_ | refine blk_alloc ?_ _)); exact BK131.out) hb); have n3_ := Aside0.mk (below_step (by repeat (first | (with_reducible first | exact HB.out | apply below_alloc | apply pw_below_drewN | apply below_drew1 | refine below_set ?_ GE129.out | refine below_set ?_ GE130.out | refine below_set ?_ GE131.out) | exact HB.out)) hb); clear BK129; clear BK130; clear BK131; clear HB; have BK129 := n0_; have BK130 := n1_; have BK131 := n2_; have HB := n3_; clear n0_ n1_ n2_ n3_; (try clear hb); (try clear hb2); (try clear hk); (try clear hi); have hcz14_0 : w13.cell? ⟨gb130, 0, none⟩ = some (.int .i64 a1_0) := (blk_cell BK130.out 0).trans rfl; have hcz14_1 : w13.cell? ⟨gb130, 1, none⟩ = some (.int .i64 a1_1) := (blk_cell BK130.out 1).trans rfl; have hfz14_0 := blk_frozen BK130.out 0; have hfz14_1 := blk_frozen BK130.out 1; have hcz15_0 : w13.cell? ⟨gb131, 0, none⟩ = some (.int .i64 0) := (blk_cell BK131.out 0).trans rfl; have hcz15_1 : w13.cell? ⟨gb131, 1, none⟩ = some (.int .i64 0) := (blk_cell BK131.out 1).trans rfl; have hfz15_0 := blk_frozen BK131.out 0; have hfz15_1 := blk_frozen BK131.out 1))
    refine bodyPost_ret (results_cell_row rfl _ _ gb131 33 #[.int .i64 a1_0, .int .i64 a1_1] (0, 0) _ rfl (by (with_reducible repeat (first | refine blk_drewN ?_ _ | refine blk_drew ?_ | refine blk_alloc ?_ _)); refine blk_put (cs := #[.int .i64 a1_0, .int .i64 0]) ?_ 1 _ rfl; (with_reducible repeat (first | refine blk_drewN ?_ _ | refine blk_drew ?_ | refine blk_alloc ?_ _)); refine blk_put (cs := #[.int .i64 0, .int .i64 0]) ?_ 0 _ rfl; (with_reducible repeat (first | refine blk_drewN ?_ _ | refine blk_drew ?_ | refine blk_alloc ?_ _)); exact BK131.out) Try.underlying33 rfl (by kernel_rfl)) rfl ?_
    exact ⟨by first | rfl | (simp [errW_none, errW_some] <;> rfl) | (simp [*, errW_none, errW_some] <;> rfl), by repeat (first | (with_reducible first | exact HB.out | apply below_alloc | apply pw_below_drewN | apply below_drew1 | refine below_set ?_ GE129.out | refine below_set ?_ GE130.out | refine below_set ?_ GE131.out) | exact HB.out)⟩
  · replace c4 := Bool.eq_false_iff.mpr c4
    subst c4
    have H1 : (some (a0_0, a0_1)) = some (r1, r2) := by rw [if_neg (show ¬ (false = true) by decide)] at H; exact H
    clear H
    have H := H1
    clear H1
    simp only [Option.some.injEq, Prod.mk.injEq] at H
    obtain ⟨rfl, rfl⟩ := H
    go_enter Try.func41, Try.ntmps41
    go_wp2_with (first | ((with_reducible refine gate_dst (N := 2) rfl ?_); refine box_event ?hg (N := 2) ?hd (cs := #[.int .i64 a0_0, .int .i64 a0_1]) (t := 33) ?hr ?_; (case hd => rfl); (case hg => rfl); (case hr => first | (go_simp; done) | (go_simp; rfl)); intro gb129 hg w16 hbox hb; have n0_ := Aside0.mk (below_step (by repeat (first | (with_reducible first | exact HB.out | apply below_alloc | apply pw_below_drewN | apply below_drew1) | exact HB.out)) hb); have n1_ := Aside0.mk (hbox); have n2_ := Aside0.mk ((by rw [hg]; exact (below_size (by repeat (first | (with_reducible first | exact HB.out | apply below_alloc | apply pw_below_drewN | apply below_drew1) | exact HB.out))) : w.heap.size ≤ gb129)); have n3_ := Aside0.mk ((by rw [hg]; exact (below_size (by repeat (first | (with_reducible first | exact HB.out | apply below_alloc | apply pw_below_drewN | apply below_drew1) | exact HB.out))) : w.heap.size ≤ gb129)); clear HB; have HB := n0_; have BK129 := n1_; have GW129 := n2_; have GE129 := n3_; clear n0_ n1_ n2_ n3_; clear hb hbox hg) | ((with_reducible refine gate_dst (N := 3) rfl ?_); refine box_event ?hg (N := 3) ?hd (cs := #[.int .i64 a1_0, .int .i64 a1_1]) (t := 33) ?hr ?_; (case hd => rfl); (case hg => rfl); (case hr => first | (go_simp; done) | (go_simp; rfl)); intro gb130 hg w17 hbox hb; have n0_ := Aside0.mk (blk_below (g := gb129) (o := .cells #[.int .i64 a0_0, .int .i64 a0_1] 33 (0, 0)) (by (with_reducible repeat (first | refine blk_drewN ?_ _ | refine blk_drew ?_ | refine blk_alloc ?_ _)); exact BK129.out) hb); have n1_ := Aside0.mk (below_step (by repeat (first | (with_reducible first | exact HB.out | apply below_alloc | apply pw_below_drewN | apply below_drew1 | refine below_set ?_ GE129.out) | exact HB.out)) hb); have n2_ := Aside0.mk (hbox); have n3_ := Aside0.mk ((by rw [hg]; exact (below_size (by repeat (first | (with_reducible first | exact HB.out | apply below_alloc | apply pw_below_drewN | apply below_drew1 | refine below_set ?_ GE129.out) | exact HB.out))) : w.heap.size ≤ gb130)); have n4_ := Aside0.mk ((by rw [hg]; exact (below_size (by repeat (first | (with_reducible first | exact HB.out | apply below_alloc | apply pw_below_drewN | apply below_drew1 | refine below_set ?_ GE129.out) | exact HB.out))) : w.heap.size ≤ gb130)); have n5_ := Aside0.mk ((by rw [hg]; exact Nat.ne_of_lt (blk_lt (g := gb129) (o := .cells #[.int .i64 a0_0, .int .i64 a0_1] 33 (0, 0)) (by (with_reducible repeat (first | refine blk_drewN ?_ _ | refine blk_drew ?_ | refine blk_alloc ?_ _)); exact BK129.out)) : gb129 ≠ gb130)); have n6_ := Aside0.mk ((by rw [hg]; exact Nat.ne_of_gt (blk_lt (g := gb129) (o := .cells #[.int .i64 a0_0, .int .i64 a0_1] 33 (0, 0)) (by (with_reducible repeat (first | refine blk_drewN ?_ _ | refine blk_drew ?_ | refine blk_alloc ?_ _)); exact BK129.out)) : gb130 ≠ gb129)); clear BK129; clear HB; have BK129 := n0_; have HB := n1_; have BK130 := n2_; have GW130 := n3_; have GE130 := n4_; have NB129_130 := n5_; have NB130_129 := n6_; clear n0_ n1_ n2_ n3_ n4_ n5_ n6_; clear hb hbox hg) | ((with_reducible refine gate_dst (N := 4) rfl ?_); refine box_event ?hg (N := 4) ?hd (cs := #[.int .i64 0, .int .i64 0]) (t := 33) ?hr ?_; (case hd => rfl); (case hg => rfl); (case hr => first | (go_simp; done) | (go_simp; rfl)); intro gb131 hg w18 hbox hb; have n0_ := Aside0.mk (blk_below (g := gb129) (o := .cells #[.int .i64 a0_0, .int .i64 a0_1] 33 (0, 0)) (by (with_reducible repeat (first | refine blk_drewN ?_ _ | refine blk_drew ?_ | refine blk_alloc ?_ _)); exact BK129.out) hb); have n1_ := Aside0.mk (blk_below (g := gb130) (o := .cells #[.int .i64 a1_0, .int .i64 a1_1] 33 (0, 0)) (by (with_reducible repeat (first | refine blk_drewN ?_ _ | refine blk_drew ?_ | refine blk_alloc ?_ _)); exact BK130.out) hb); have n2_ := Aside0.mk (below_step (by repeat (first | (with_reducible first | exact HB.out | apply below_alloc | apply pw_below_drewN | apply below_drew1 | refine below_set ?_ GE129.out | refine below_set ?_ GE130.out) | exact HB.out)) hb); have n3_ := Aside0.mk (hbox); have n4_ := Aside0.mk ((by rw [hg]; exact (below_size (by repeat (first | (with_reducible first | exact HB.out | apply below_alloc | apply pw_below_drewN | apply below_drew1 | refine below_set ?_ GE129.out | refine below_set ?_ GE130.out) | exact HB.out))) : w.heap.size ≤ gb131)); have n5_ := Aside0.mk ((by rw [hg]; exact (below_size (by repeat (first | (with_reducible first | exact HB.out | apply below_alloc | apply pw_below_drewN | apply below_drew1 | refine below_set ?_ GE129.out | refine below_set ?_ GE130.out) | exact HB.out))) : w.heap.size ≤ gb131)); have n6_ := Aside0.mk ((by rw [hg]; exact Nat.ne_of_lt (blk_lt (g := gb129) (o := .cells #[.int .i64 a0_0, .int .i64 a0_1] 33 (0, 0)) (by (with_reducible repeat (first | refine blk_drewN ?_ _ | refine blk_drew ?_ | refine blk_alloc ?_ _)); exact BK129.out)) : gb129 ≠ gb131)); have n7_ := Aside0.mk ((by rw [hg]; exact Nat.ne_of_gt (blk_lt (g := gb129) (o := .cells #[.int .i64 a0_0, .int .i64 a0_1] 33 (0, 0)) (by (with_reducible repeat (first | refine blk_drewN ?_ _ | refine blk_drew ?_ | refine blk_alloc ?_ _)); exact BK129.out)) : gb131 ≠ gb129)); have n8_ := Aside0.mk ((by rw [hg]; exact Nat.ne_of_lt (blk_lt (g := gb130) (o := .cells #[.int .i64 a1_0, .int .i64 a1_1] 33 (0, 0)) (by (with_reducible repeat (first | refine blk_drewN ?_ _ | refine blk_drew ?_ | refine blk_alloc ?_ _)); exact BK130.out)) : gb130 ≠ gb131)); have n9_ := Aside0.mk ((by rw [hg]; exact Nat.ne_of_gt (blk_lt (g := gb130) (o := .cells #[.int .i64 a1_0, .int .i64 a1_1] 33 (0, 0)) (by (with_reducible repeat (first | refine blk_drewN ?_ _ | refine blk_drew ?_ | refine blk_alloc ?_ _)); exact BK130.out)) : gb131 ≠ gb130)); clear BK129; clear BK130; clear HB; have BK129 := n0_; have BK130 := n1_; have HB := n2_; have BK131 := n3_; have GW131 := n4_; have GE131 := n5_; have NB129_131 := n6_; have NB131_129 := n7_; have NB130_131 := n8_; have NB131_130 := n9_; clear n0_ n1_ n2_ n3_ n4_ n5_ n6_ n7_ n8_ n9_; clear hb hbox hg; have hnb19 := NB129_130.out; have hnc19 := NB130_129.out; have hnb20 := NB129_131.out; have hnc20 := NB131_129.out; have hcz21_0 : w18.cell? ⟨gb129, 0, none⟩ = some (.int .i64 a0_0) := (blk_cell BK129.out 0).trans rfl; have hcz21_1 : w18.cell? ⟨gb129, 1, none⟩ = some (.int .i64 a0_1) := (blk_cell BK129.out 1).trans rfl; have hfz21_0 := blk_frozen BK129.out 0; have hfz21_1 := blk_frozen BK129.out 1; have hnb22 := NB130_131.out; have hnc22 := NB131_130.out; have hcz23_0 : w18.cell? ⟨gb130, 0, none⟩ = some (.int .i64 a1_0) := (blk_cell BK130.out 0).trans rfl; have hcz23_1 : w18.cell? ⟨gb130, 1, none⟩ = some (.int .i64 a1_1) := (blk_cell BK130.out 1).trans rfl; have hfz23_0 := blk_frozen BK130.out 0; have hfz23_1 := blk_frozen BK130.out 1) | ((with_reducible refine gate_callee (f := 45) rfl ?_); refine goesL_ (some 7) rfl rfl Try.func45 (by kernel_rfl) rfl #[.agg #[.int .i64 a0_0, .int .i64 a0_1], .agg #[.int .i64 a1_0, .int .i64 a1_1]] rfl (by (try simp only [List.map_toArray, List.map_cons, List.map_nil]); first | done | rfl | (simp only [List.length_drop, List.length_take]; rfl)) ?_; (with_reducible refine (scriptoriumref05_Less.calls a0_0 a0_1 a1_0 a1_1 false _ A3.out).mono ?_); rintro e w24 ⟨rfl, hb⟩; refine ⟨_, rfl, ?_⟩; have n0_ := Aside0.mk (blk_below (g := gb129) (o := .cells #[.int .i64 a0_0, .int .i64 a0_1] 33 (0, 0)) (by (with_reducible repeat (first | refine blk_drewN ?_ _ | refine blk_drew ?_ | refine blk_alloc ?_ _)); exact BK129.out) hb); have n1_ := Aside0.mk (blk_below (g := gb130) (o := .cells #[.int .i64 a1_0, .int .i64 a1_1] 33 (0, 0)) (by (with_reducible repeat (first | refine blk_drewN ?_ _ | refine blk_drew ?_ | refine blk_alloc ?_ _)); exact BK130.out) hb); have n2_ := Aside0.mk (blk_below (g := gb131) (o := .cells #[.int .i64 0, .int .i64 0] 33 (0, 0)) (by (with_reducible repeat (first | refine blk_drewN ?_ _ | refine blk_drew ?_ | refine blk_alloc ?_ _)); exact BK131.out) hb); have n3_ := Aside0.mk (below_step (by repeat (first | (with_reducible first | exact HB.out | apply below_alloc | apply pw_below_drewN | apply below_drew1 | refine below_set ?_ GE129.out | refine below_set ?_ GE130.out | refine below_set ?_ GE131.out) | exact HB.out)) hb); clear BK129; clear BK130; clear BK131; clear HB; have BK129 := n0_; have BK130 := n1_; have BK131 := n2_; have HB := n3_; clear n0_ n1_ n2_ n3_; (try clear hb); (try clear hb2); (try clear hk); (try clear hi); have hcz25_0 : w24.cell? ⟨gb129, 0, none⟩ = some (.int .i64 a0_0) := (blk_cell BK129.out 0).trans rfl; have hcz25_1 : w24.cell? ⟨gb129, 1, none⟩ = some (.int .i64 a0_1) := (blk_cell BK129.out 1).trans rfl; have hfz25_0 := blk_frozen BK129.out 0; have hfz25_1 := blk_frozen BK129.out 1; have hcz26_0 : w24.cell? ⟨gb131, 0, none⟩ = some (.int .i64 0) := (blk_cell BK131.out 0).trans rfl; have hcz26_1 : w24.cell? ⟨gb131, 1, none⟩ = some (.int .i64 0) := (blk_cell BK131.out 1).trans rfl; have hfz26_0 := blk_frozen BK131.out 0; have hfz26_1 := blk_frozen BK131.out 1))
    refine bodyPost_ret (results_cell_row rfl _ _ gb131 33 #[.int .i64 a0_0, .int .i64 a0_1] (0, 0) _ rfl (by (with_reducible repeat (first | refine blk_drewN ?_ _ | refine blk_drew ?_ | refine blk_alloc ?_ _)); refine blk_put (cs := #[.int .i64 a0_0, .int .i64 0]) ?_ 1 _ rfl; (with_reducible repeat (first | refine blk_drewN ?_ _ | refine blk_drew ?_ | refine blk_alloc ?_ _)); refine blk_put (cs := #[.int .i64 0, .int .i64 0]) ?_ 0 _ rfl; (with_reducible repeat (first | refine blk_drewN ?_ _ | refine blk_drew ?_ | refine blk_alloc ?_ _)); exact BK131.out) Try.underlying33 rfl (by kernel_rfl)) rfl ?_
    exact ⟨by first | rfl | (simp [errW_none, errW_some] <;> rfl) | (simp [*, errW_none, errW_some] <;> rfl), by repeat (first | (with_reducible first | exact HB.out | apply below_alloc | apply pw_below_drewN | apply below_drew1 | refine below_set ?_ GE129.out | refine below_set ?_ GE130.out | refine below_set ?_ GE131.out) | exact HB.out)⟩

/-- The document's clock in a block of its own. -/
def _root_.Go.Proofs.Ythhgoiabkgfdfaa.Ck.rlies (c : Ck) (g : Nat) (W : World) : Prop := W.heap[g]? = some (.cells #[.int .i64 c.o, .int .i64 c.r, .int .i64 c.f, .int .i64 c.b, .int .i64 c.w, .int .i64 c.l] 47 (0, 0))
theorem _root_.Go.Proofs.Ythhgoiabkgfdfaa.Ck.rlies.cell {c : Ck} {g : Nat} {W : World} (h : c.rlies g W) : W.cell? ⟨g, 0, none⟩ = some (.int .i64 c.o) ∧ W.cell? ⟨g, 1, none⟩ = some (.int .i64 c.r) ∧ W.cell? ⟨g, 2, none⟩ = some (.int .i64 c.f) ∧ W.cell? ⟨g, 3, none⟩ = some (.int .i64 c.b) ∧ W.cell? ⟨g, 4, none⟩ = some (.int .i64 c.w) ∧ W.cell? ⟨g, 5, none⟩ = some (.int .i64 c.l) ∧ (∀ i, W.frozen? ⟨g, i, none⟩ = false) :=
  ⟨(blk_cell h 0).trans rfl, (blk_cell h 1).trans rfl, (blk_cell h 2).trans rfl, (blk_cell h 3).trans rfl, (blk_cell h 4).trans rfl, (blk_cell h 5).trans rfl, fun i => blk_frozen h i⟩
theorem _root_.Go.Proofs.Ythhgoiabkgfdfaa.Ck.rlies.below {c : Ck} {g : Nat} {W W' : World} (h : c.rlies g W) (hb : Below W.heap.size W W') : c.rlies g W' := (hb.block _ (Array.getElem?_eq_some_iff.1 h).1).trans h
theorem _root_.Go.Proofs.Ythhgoiabkgfdfaa.Ck.rlies.off {c : Ck} {g r : Nat} {W W' : World} (h : c.rlies g W) (hb : Off r W W') (hn : g ≠ r) : c.rlies g W' := (hb.block _ (Array.getElem?_eq_some_iff.1 h).1 hn).trans h
theorem _root_.Go.Proofs.Ythhgoiabkgfdfaa.Ck.rlies.lt {c : Ck} {g : Nat} {W : World} (h : c.rlies g W) : g < W.heap.size := (Array.getElem?_eq_some_iff.1 h).1
theorem rcheck_ck (w l : Int) : scriptoriumref05_Check.f w l = some (if w < 0 ∨ 1099511627776 < w ∨ l < 0 ∨ 1048575 < l then 9 else 0) := check_ck w l
theorem rnext_ck (w l : Int) (hw : 0 ≤ w ∧ w ≤ 1099511627776) (hl : 0 ≤ l ∧ l ≤ 1048575) : scriptoriumref05_Next.f w l = if w = 1099511627776 ∧ l = 1048575 then some (0, 0, 5) else some ((nxt w l).1, (nxt w l).2, 0) := by
  unfold scriptoriumref05_Next.f nxt
  rw [rcheck_ck, if_neg (by omega), Option.bind_some, if_pos rfl]
  have h1 : 0 ≤ l ∧ l < 1048575 → wrap64 (l + 1) = l + 1 := by intro h; unfold wrap64; omega
  have h2 : wrap64 (w + 1) = w + 1 := by unfold wrap64; omega
  by_cases c1 : l < 1048575
  · rw [if_pos c1, if_neg (by omega), if_neg (by omega), h1 ⟨hl.1, c1⟩]
  · rw [if_neg c1]
    by_cases c2 : w < 1099511627776
    · rw [if_pos c2, if_neg (by omega), if_pos (by omega), h2]
    · rw [if_neg c2, if_pos (by omega)]
theorem rtwo_ck (a b v m : Int) : scriptoriumref05_Two.f a b v m = some ((smx a b v m).1, (smx a b v m).2) := by
  unfold scriptoriumref05_Two.f scriptoriumref05_Less.f smx
  by_cases c1 : a < v
  · rw [if_pos c1, Option.bind_some, if_pos rfl, if_pos (.inl c1)]
  · rw [if_neg c1]
    by_cases c2 : a = v
    · rw [if_pos c2, Option.bind_some]
      by_cases c3 : b < m
      · rw [decide_eq_true c3, if_pos rfl, if_pos (.inr ⟨c2, c3⟩)]
      · rw [decide_eq_false c3, if_neg (by simp), if_neg (by omega)]
    · rw [if_neg c2, Option.bind_some, if_neg (by simp), if_neg (by omega)]
set_option maxHeartbeats 16000000 in
set_option maxRecDepth 100000 in
theorem rk_set (c : Ck) (g : Nat) (a : Int) (W : World) (h : c.rlies g W) (hk : c.ok) : Calls Try.prog 34 #[.pointer (some ⟨g, 0, none⟩), .int .i64 a] W fun e w' => e = .returned (.int .i64 (c.set a).2) ∧ (c.set a).1.rlies g w' ∧ Off g W w' := by
  obtain ⟨h0, h1, h2, h3, h4, h5, hf⟩ := h.cell
  have hf1 := hf 1
  have HL := Aside0.mk h
  have h0' : 0 ≤ c.r := by unfold Ck.ok at hk; omega
  clear h hf hk
  unfold Ck.set
  go_enter Try.func34, Try.ntmps34
  by_cases c1 : a < c.r
  · rw [if_pos (.inl c1)]
    have d1 : decide (a < c.r) = true := decide_eq_true c1
    go_wp2
    go_ret
    exact ⟨rfl, HL.out, off_refl _ _⟩
  · have d1 : decide (a < c.r) = false := decide_eq_false c1
    by_cases c3 : 1099511627776 < a
    · rw [if_pos (.inr (.inr c3))]
      have d3 : decide (1099511627776 < a) = true := decide_eq_true c3
      clear c1
      go_wp2
      go_ret
      exact ⟨rfl, HL.out, off_refl _ _⟩
    · rw [if_neg (by omega)]
      have d3 : decide (1099511627776 < a) = false := decide_eq_false c3
      clear c1 c3
      go_wp2
      go_ret
      exact ⟨rfl, blk_put (cs := #[.int .i64 c.o, .int .i64 c.r, .int .i64 c.f, .int .i64 c.b, .int .i64 c.w, .int .i64 c.l]) HL.out 1 _ rfl, off_setCell (off_refl _ _) _⟩
set_option maxHeartbeats 16000000 in
set_option maxRecDepth 100000 in
theorem rk_raise (c : Ck) (g : Nat) (a : Int) (W : World) (h : c.rlies g W) (hk : c.ok) : Calls Try.prog 35 #[.pointer (some ⟨g, 0, none⟩), .int .i64 a] W fun e w' => e = .returned (.int .i64 (c.raise a).2) ∧ (c.raise a).1.rlies g w' ∧ Off g W w' := by
  obtain ⟨h0, h1, h2, h3, h4, h5, hf⟩ := h.cell
  have hf1 := hf 3
  have HL := Aside0.mk h
  have h0' : 0 ≤ c.b := by unfold Ck.ok at hk; omega
  clear h hf hk
  unfold Ck.raise
  go_enter Try.func35, Try.ntmps35
  by_cases c1 : a < c.b
  · rw [if_pos (.inl c1)]
    have d1 : decide (a < c.b) = true := decide_eq_true c1
    go_wp2
    go_ret
    exact ⟨rfl, HL.out, off_refl _ _⟩
  · have d1 : decide (a < c.b) = false := decide_eq_false c1
    by_cases c3 : 1099511627776 < a
    · rw [if_pos (.inr (.inr c3))]
      have d3 : decide (1099511627776 < a) = true := decide_eq_true c3
      clear c1
      go_wp2
      go_ret
      exact ⟨rfl, HL.out, off_refl _ _⟩
    · rw [if_neg (by omega)]
      have d3 : decide (1099511627776 < a) = false := decide_eq_false c3
      clear c1 c3
      go_wp2
      go_ret
      exact ⟨rfl, blk_put (cs := #[.int .i64 c.o, .int .i64 c.r, .int .i64 c.f, .int .i64 c.b, .int .i64 c.w, .int .i64 c.l]) HL.out 3 _ rfl, off_setCell (off_refl _ _) _⟩
set_option maxHeartbeats 16000000 in
set_option maxRecDepth 100000 in
theorem rk_ready (c : Ck) (g : Nat) (W : World) (h : c.rlies g W) : Calls Try.prog 20 #[.pointer (some ⟨g, 0, none⟩)] W fun e w' => e = .returned (.bool (decide (c.f ≤ c.r))) ∧ Below W.heap.size W w' := by
  obtain ⟨h0, h1, h2, h3, h4, h5, hf⟩ := h.cell
  clear h hf
  go_enter Try.func20, Try.ntmps20
  go_wp2_with fail
  go_quiet (fail)
  go_wp2
  go_ret
  exact ⟨rfl, pw_below_drewN (Below.refl _ _) _⟩
set_option maxHeartbeats 16000000 in
set_option maxRecDepth 100000 in
theorem rk_new (o b : Int) (W : World) (ho : 0 ≤ o ∧ o ≤ 1099511627776) (hb : 0 ≤ b ∧ b ≤ 1099511627776) : Calls Try.prog 17 #[.int .i64 o, .int .i64 b] W fun e w' => ∃ g_ : Nat, e = .returned (.tuple #[.pointer (some ⟨g_, 0, none⟩), .int .i64 0]) ∧ (Ck.fresh o b).rlies g_ w' ∧ Below W.heap.size W w' ∧ W.heap.size ≤ g_ := by
  have d1 : decide (o < 0) = false := decide_eq_false (by omega)
  have d2 : decide (1099511627776 < o) = false := decide_eq_false (by omega)
  have d3 : decide (b < 0) = false := decide_eq_false (by omega)
  have d4 : decide (1099511627776 < b) = false := decide_eq_false (by omega)
  by_cases h0 : b = 0
  · have d5 : decide (0 < b) = false := decide_eq_false (by omega)
    have e1 : Ck.fresh o b = { o := o, r := 0, f := b, b := b, w := 0, l := 0 } := by unfold Ck.fresh; rw [if_pos h0, if_pos h0]
    rw [e1]
    clear ho hb h0 e1
    go_enter Try.func17, Try.ntmps17
    go_wp2
    go_ret2
    exact ⟨_, rfl, blk_new W _, below_alloc (Below.refl _ _) _, Nat.le_refl _⟩
  · have d5 : decide (0 < b) = true := decide_eq_true (by omega)
    have hw : IntKind.i64.wrap (b - 1) = b - 1 := by
      rw [i64_w]
      unfold Go.RowKit.wrap64
      omega
    have e1 : Ck.fresh o b = { o := o, r := 0, f := b, b := b, w := b - 1, l := 1048575 } := by unfold Ck.fresh; rw [if_neg h0, if_neg h0]
    rw [e1]
    clear ho hb h0 e1
    go_enter Try.func17, Try.ntmps17
    go_upto_region 4 with fail
    obtain ⟨w1, hw1⟩ : ∃ V, W.alloc (.cells #[.int .i64 o, .int .i64 0, .int .i64 b, .int .i64 b, .int .i64 0, .int .i64 0] 47) = V := ⟨_, rfl⟩
    have hg : w1.heap[W.heap.size]? = some (.cells #[.int .i64 o, .int .i64 0, .int .i64 b, .int .i64 b, .int .i64 0, .int .i64 0] 47 (0, 0)) := by rw [← hw1]; exact blk_new W _
    have HB := Aside0.mk (show Below W.heap.size W w1 from by rw [← hw1]; exact below_alloc (Below.refl _ _) _)
    have HG := Aside0.mk hg
    rw [hw1]
    clear hw1
    have x4 : w1.cell? ⟨W.heap.size, 4, none⟩ = some (.int .i64 0) := (blk_cell hg 4).trans rfl
    have x5 : w1.cell? ⟨W.heap.size, 5, none⟩ = some (.int .i64 0) := (blk_cell hg 5).trans rfl
    have y4 := blk_frozen hg 4
    have y5 := blk_frozen hg 5
    clear hg
    go_wp2
    go_ret2
    exact ⟨_, rfl, blk_put (cs := #[.int .i64 o, .int .i64 0, .int .i64 b, .int .i64 b, .int .i64 (b - 1), .int .i64 0]) (blk_put (cs := #[.int .i64 o, .int .i64 0, .int .i64 b, .int .i64 b, .int .i64 0, .int .i64 0]) HG.out 4 _ rfl) 5 _ rfl, below_set (below_set HB.out (Nat.le_refl _)) (Nat.le_refl _), Nat.le_refl _⟩
set_option maxHeartbeats 16000000 in
set_option maxRecDepth 100000 in
theorem rk_newbad (o b : Int) (W : World) (h : ¬ ((0 ≤ o ∧ o ≤ 1099511627776) ∧ (0 ≤ b ∧ b ≤ 1099511627776))) : Calls Try.prog 17 #[.int .i64 o, .int .i64 b] W fun e w' => e = .returned (.tuple #[.pointer none, .int .i64 9]) ∧ Below W.heap.size W w' := by
  go_enter Try.func17, Try.ntmps17
  by_cases c1 : o < 0
  · have d1 : decide (o < 0) = true := decide_eq_true c1
    clear c1 h
    go_wp2
    go_ret2
    exact ⟨rfl, Below.refl _ _⟩
  have d1 : decide (o < 0) = false := decide_eq_false c1
  by_cases c2 : 1099511627776 < o
  · have d2 : decide (1099511627776 < o) = true := decide_eq_true c2
    clear c1 c2 h
    go_wp2
    go_ret2
    exact ⟨rfl, Below.refl _ _⟩
  have d2 : decide (1099511627776 < o) = false := decide_eq_false c2
  by_cases c3 : b < 0
  · have d3 : decide (b < 0) = true := decide_eq_true c3
    clear c1 c2 c3 h
    go_wp2
    go_ret2
    exact ⟨rfl, Below.refl _ _⟩
  have d3 : decide (b < 0) = false := decide_eq_false c3
  have d4 : decide (1099511627776 < b) = true := decide_eq_true (by omega)
  clear c1 c2 c3 h
  go_wp2
  go_ret2
  exact ⟨rfl, Below.refl _ _⟩
set_option maxHeartbeats 16000000 in
set_option maxRecDepth 100000 in
theorem ck_newbad (o b : Int) (W : World) (h : ¬ ((0 ≤ o ∧ o ≤ 1099511627776) ∧ (0 ≤ b ∧ b ≤ 1099511627776))) : Calls Try.prog 9 #[.int .i64 o, .int .i64 b] W fun e w' => e = .returned (.tuple #[.pointer none, .int .i64 9]) ∧ Below W.heap.size W w' := by
  by_cases ho : 0 ≤ o ∧ o ≤ 1099511627776
  · have HO := Aside0.mk ((wall_ck o).trans (congrArg some (decide_eq_true ho)))
    have HBW := Aside0.mk ((wall_ck b).trans (congrArg some (decide_eq_false (fun hb => h ⟨ho, hb⟩))))
    clear ho h
    go_enter Try.func9, Try.ntmps9
    go_wp2_with fail
    refine (clock_isWall.calls o true _ HO.out).mono ?_
    rintro e w1 ⟨rfl, nd1, rfl⟩
    go_wp2_with fail
    refine (clock_isWall.calls b false _ HBW.out).mono ?_
    rintro e w2 ⟨rfl, nd2, rfl⟩
    go_wp2
    go_ret2
    exact ⟨rfl, by first | exact pw_below_drewN (Below.refl _ _) _ | exact pw_below_drewN (pw_below_drewN (Below.refl _ _) _) _⟩
  · have HO := Aside0.mk ((wall_ck o).trans (congrArg some (decide_eq_false ho)))
    clear ho h
    go_enter Try.func9, Try.ntmps9
    go_wp2_with fail
    refine (clock_isWall.calls o false _ HO.out).mono ?_
    rintro e w1 ⟨rfl, nd1, rfl⟩
    go_wp2
    go_ret2
    exact ⟨rfl, pw_below_drewN (Below.refl _ _) _⟩
set_option maxHeartbeats 8000000 in
set_option maxRecDepth 100000 in
theorem rk_now0 (c : Ck) (g : Nat) (W : World) (h : c.rlies g W) (hk : c.ok) (c0 : c.w = 1099511627776 ∧ c.l = 1048575) : Calls Try.prog 36 #[.pointer (some ⟨g, 0, none⟩)] W fun e w' => e = .returned (.tuple #[.agg #[.int .i64 c.now.2.1.1, .int .i64 c.now.2.1.2], .int .i64 c.now.2.2]) ∧ c.now.1.rlies g w' ∧ Off g W w' := by
  have HL := Aside0.mk h
  have HG := Aside0.mk h.lt
  have hN := rnext_ck c.w c.l hk.2.2.2.2.1 hk.2.2.2.2.2
  have e1 : c.now = (c, (0, 0), 5) := by unfold Ck.now; rw [if_pos c0]
  rw [if_pos c0] at hN
  have HN := Aside0.mk hN
  rw [e1]
  clear c0 e1
  clear h hk hN
  go_enter Try.func36, Try.ntmps36
  obtain ⟨h0, h1, h2, h3, h4, h5, hf⟩ := (HL.out.below (alloc_new W (Obj.cells #[Value.int IntKind.i64 0, Value.int IntKind.i64 0] 33))).cell
  clear hf
  go_wp2_with fail
  refine (scriptoriumref05_Next.calls c.w c.l 0 0 5 _ HN.out).mono ?_
  rintro e w2 ⟨rfl, hb2⟩
  have HBR2 := Aside0.mk (blk_ckept (World.alloc_heap_new W (Obj.cells #[Value.int IntKind.i64 0, Value.int IntKind.i64 0] 33)) hb2)
  have HB2 := Aside0.mk (below_step (alloc_new W _) hb2)
  clear h0 h1 h2 h3 h4 h5 hb2
  have r0 : ∀ o, (w2.alloc o).cell? ⟨W.heap.size, 0, none⟩ = some (.int .i64 0) := fun o => (blk_cell (blk_alloc HBR2.out o) 0).trans rfl
  have r1 : ∀ o, (w2.alloc o).cell? ⟨W.heap.size, 1, none⟩ = some (.int .i64 0) := fun o => (blk_cell (blk_alloc HBR2.out o) 1).trans rfl
  have fr0 : ∀ o, (w2.alloc o).frozen? ⟨W.heap.size, 0, none⟩ = false := fun o => blk_frozen (blk_alloc HBR2.out o) 0
  have fr1 : ∀ o, (w2.alloc o).frozen? ⟨W.heap.size, 1, none⟩ = false := fun o => blk_frozen (blk_alloc HBR2.out o) 1
  go_wp2
  refine bodyPost_ret (results_ct rfl _ _ W.heap.size 33 #[.int .i64 0, .int .i64 0] (0, 0) _ rfl (blk_put (cs := #[.int .i64 0, .int .i64 0]) (blk_put (cs := #[.int .i64 0, .int .i64 0]) (blk_alloc HBR2.out _) 0 _ rfl) 1 _ rfl) Try.underlying33 rfl (by kernel_rfl)) rfl ?_
  exact ⟨rfl, blk_far (blk_far (blk_alloc (HL.out.below HB2.out) _) (Nat.ne_of_lt HG.out) _) (Nat.ne_of_lt HG.out) _, off_far (off_far (off_alloc (Off.of_below HB2.out) _) (p := ⟨W.heap.size, 0, none⟩) (Nat.le_refl _) _) (p := ⟨W.heap.size, 1, none⟩) (Nat.le_refl _) _⟩
set_option maxHeartbeats 8000000 in
set_option maxRecDepth 100000 in
theorem rk_now1 (c : Ck) (g : Nat) (W : World) (h : c.rlies g W) (hk : c.ok) (c0 : ¬ (c.w = 1099511627776 ∧ c.l = 1048575)) (c1 : c.b ≤ (smx (nxt c.w c.l).1 (nxt c.w c.l).2 c.r 0).1) : Calls Try.prog 36 #[.pointer (some ⟨g, 0, none⟩)] W fun e w' => e = .returned (.tuple #[.agg #[.int .i64 c.now.2.1.1, .int .i64 c.now.2.1.2], .int .i64 c.now.2.2]) ∧ c.now.1.rlies g w' ∧ Off g W w' := by
  have HL := Aside0.mk h
  have HG := Aside0.mk h.lt
  have hN := rnext_ck c.w c.l hk.2.2.2.2.1 hk.2.2.2.2.2
  have e1 : c.now = (c, (0, 0), 61) := by unfold Ck.now; rw [if_neg c0, if_pos c1]
  rw [if_neg c0] at hN
  have HN := Aside0.mk hN
  rw [e1]
  have hc1 := decide_eq_true c1
  clear c0 e1 c1
  generalize nxt c.w c.l = n at *
  generalize hm : smx n.1 n.2 c.r 0 = m at *
  have HM := Aside0.mk hm
  have HC1 := Aside0.mk hc1
  clear h hk hN hc1 hm
  go_enter Try.func36, Try.ntmps36
  obtain ⟨h0, h1, h2, h3, h4, h5, hf⟩ := (HL.out.below (alloc_new W (Obj.cells #[Value.int IntKind.i64 0, Value.int IntKind.i64 0] 33))).cell
  clear hf
  go_wp2_with fail
  refine (scriptoriumref05_Next.calls c.w c.l n.1 n.2 0 _ HN.out).mono ?_
  rintro e w2 ⟨rfl, hb2⟩
  have HBR2 := Aside0.mk (blk_ckept (World.alloc_heap_new W (Obj.cells #[Value.int IntKind.i64 0, Value.int IntKind.i64 0] 33)) hb2)
  have HB2 := Aside0.mk (below_step (alloc_new W _) hb2)
  clear h0 h1 h2 h3 h4 h5 hb2
  go_wp2_with fail
  obtain ⟨w3, hw3⟩ : ∃ V, w2.alloc (Obj.cells #[Value.int IntKind.i64 n.1, Value.int IntKind.i64 n.2] 33) = V := ⟨_, rfl⟩
  have HBS3 := Aside0.mk (show w3.heap[w2.heap.size]? = some (Obj.cells #[Value.int IntKind.i64 n.1, Value.int IntKind.i64 n.2] 33) from by rw [← hw3]; exact World.alloc_heap_new w2 _)
  have hb3 : Below w2.heap.size w2 w3 := by rw [← hw3]; exact alloc_new w2 _
  have HBR3 := Aside0.mk (blk_ckept HBR2.out hb3)
  have HB3 := Aside0.mk (below_step HB2.out hb3)
  have HL3 := Aside0.mk (HL.out.below HB3.out)
  have HW2 := Aside0.mk (show W.heap.size < w2.heap.size from blk_lt HBR2.out)
  rw [hw3]
  clear hw3 hb3 HBR2 HB2
  obtain ⟨h0, h1, h2, h3, h4, h5, hf⟩ := HL3.out.cell
  have s0 : w3.cell? ⟨w2.heap.size, 0, none⟩ = some (.int .i64 n.1) := (blk_cell HBS3.out 0).trans rfl
  have s1 : w3.cell? ⟨w2.heap.size, 1, none⟩ = some (.int .i64 n.2) := (blk_cell HBS3.out 1).trans rfl
  have fs0 := blk_frozen HBS3.out 0
  have fs1 := blk_frozen HBS3.out 1
  clear hf
  go_region_with (go_at_call 41; refine (scriptoriumref05_Two.calls n.1 n.2 c.r 0 m.1 m.2 _ ((rtwo_ck _ _ _ _).trans (by rw [HM.out]))).mono ?_; rintro e w4 ⟨rfl, hb4⟩; have HB34 := Aside0.mk (below_step (below_drew1 (Below.refl w3.heap.size w3)) hb4); have HBS4 := Aside0.mk (blk_ckept HBS3.out HB34.out); have t0 : w4.cell? ⟨w2.heap.size, 0, none⟩ = some (.int .i64 n.1) := (blk_cell HBS4.out 0).trans rfl; have t1 : w4.cell? ⟨w2.heap.size, 1, none⟩ = some (.int .i64 n.2) := (blk_cell HBS4.out 1).trans rfl; have ft0 := blk_frozen HBS4.out 0; have ft1 := blk_frozen HBS4.out 1; clear hb4)
  all_goals (
    obtain ⟨w5, hw5⟩ : ∃ V, (w4.setCell ⟨w2.heap.size, 0, none⟩ (.int .i64 m.1)).setCell ⟨w2.heap.size, 1, none⟩ (.int .i64 m.2) = V := ⟨_, rfl⟩
    have HBS5 := Aside0.mk (show w5.heap[w2.heap.size]? = some (.cells #[.int .i64 m.1, .int .i64 m.2] 33 (0, 0)) from by rw [← hw5]; exact blk_put (cs := #[.int .i64 m.1, .int .i64 n.2]) (blk_put (cs := #[.int .i64 n.1, .int .i64 n.2]) HBS4.out 0 _ rfl) 1 _ rfl)
    have HBR5 := Aside0.mk (show w5.heap[W.heap.size]? = some (.cells #[.int .i64 0, .int .i64 0] 33 (0, 0)) from by rw [← hw5]; exact blk_far (blk_far (blk_ckept HBR3.out HB34.out) (Nat.ne_of_lt HW2.out) _) (Nat.ne_of_lt HW2.out) _)
    have HB5 := Aside0.mk (show Below W.heap.size W w5 from by rw [← hw5]; exact Below.setCell (Below.setCell (below_step HB3.out HB34.out) (p := ⟨w2.heap.size, 0, none⟩) (Nat.le_of_lt HW2.out) _) (p := ⟨w2.heap.size, 1, none⟩) (Nat.le_of_lt HW2.out) _)
    have HL5 := Aside0.mk (HL.out.below HB5.out)
    rw [hw5]
    clear h0 h1 h2 h3 h4 h5 s0 s1 fs0 fs1 t0 t1 ft0 ft1 hw5
    obtain ⟨h0, h1, h2, h3, h4, h5, hf⟩ := HL5.out.cell
    have hf4 := hf 4
    have hf5 := hf 5
    have s0 : w5.cell? ⟨w2.heap.size, 0, none⟩ = some (.int .i64 m.1) := (blk_cell HBS5.out 0).trans rfl
    have s1 : w5.cell? ⟨w2.heap.size, 1, none⟩ = some (.int .i64 m.2) := (blk_cell HBS5.out 1).trans rfl
    have fs0 := blk_frozen HBS5.out 0
    have fs1 := blk_frozen HBS5.out 1
    have r0 : w5.cell? ⟨W.heap.size, 0, none⟩ = some (.int .i64 0) := (blk_cell HBR5.out 0).trans rfl
    have r1 : w5.cell? ⟨W.heap.size, 1, none⟩ = some (.int .i64 0) := (blk_cell HBR5.out 1).trans rfl
    have fr0 := blk_frozen HBR5.out 0
    have fr1 := blk_frozen HBR5.out 1
    have hgW : (g == W.heap.size) = false := beq_eq_false_iff_ne.mpr (Nat.ne_of_lt HG.out)
    have hWg : (W.heap.size == g) = false := beq_eq_false_iff_ne.mpr (Nat.ne_of_gt HG.out)
    have hgW2 : (g = W.heap.size) = False := eq_false (Nat.ne_of_lt HG.out)
    have hWg2 : (W.heap.size = g) = False := eq_false (Nat.ne_of_gt HG.out)
    clear hf
    have d2 := HC1.out
    go_wp2_with fail
    go_quiet (fail)
    go_wp2
    refine bodyPost_ret (results_ct rfl _ _ W.heap.size 33 #[.int .i64 0, .int .i64 0] (0, 0) _ rfl (blk_put (cs := #[.int .i64 0, .int .i64 0]) (blk_put (cs := #[.int .i64 0, .int .i64 0]) (blk_drewN HBR5.out _) 0 _ rfl) 1 _ rfl) Try.underlying33 rfl (by kernel_rfl)) rfl ?_
    exact ⟨rfl, blk_far (blk_far (blk_drewN HL5.out _) (Nat.ne_of_lt HG.out) _) (Nat.ne_of_lt HG.out) _, off_far (off_far (Off.of_below (pw_below_drewN HB5.out _)) (p := ⟨W.heap.size, 0, none⟩) (Nat.le_refl _) _) (p := ⟨W.heap.size, 1, none⟩) (Nat.le_refl _) _⟩)
set_option maxHeartbeats 8000000 in
set_option maxRecDepth 100000 in
theorem rk_now2 (c : Ck) (g : Nat) (W : World) (h : c.rlies g W) (hk : c.ok) (c0 : ¬ (c.w = 1099511627776 ∧ c.l = 1048575)) (c1 : ¬ c.b ≤ (smx (nxt c.w c.l).1 (nxt c.w c.l).2 c.r 0).1) : Calls Try.prog 36 #[.pointer (some ⟨g, 0, none⟩)] W fun e w' => e = .returned (.tuple #[.agg #[.int .i64 c.now.2.1.1, .int .i64 c.now.2.1.2], .int .i64 c.now.2.2]) ∧ c.now.1.rlies g w' ∧ Off g W w' := by
  have HL := Aside0.mk h
  have HG := Aside0.mk h.lt
  have hN := rnext_ck c.w c.l hk.2.2.2.2.1 hk.2.2.2.2.2
  have e1 : c.now = ({ c with w := (smx (nxt c.w c.l).1 (nxt c.w c.l).2 c.r 0).1, l := (smx (nxt c.w c.l).1 (nxt c.w c.l).2 c.r 0).2 }, smx (nxt c.w c.l).1 (nxt c.w c.l).2 c.r 0, 0) := by unfold Ck.now; rw [if_neg c0, if_neg c1]
  rw [if_neg c0] at hN
  have HN := Aside0.mk hN
  rw [e1]
  have hc1 := decide_eq_false c1
  clear c0 e1 c1
  generalize nxt c.w c.l = n at *
  generalize hm : smx n.1 n.2 c.r 0 = m at *
  have HM := Aside0.mk hm
  have HC1 := Aside0.mk hc1
  clear h hk hN hc1 hm
  go_enter Try.func36, Try.ntmps36
  obtain ⟨h0, h1, h2, h3, h4, h5, hf⟩ := (HL.out.below (alloc_new W (Obj.cells #[Value.int IntKind.i64 0, Value.int IntKind.i64 0] 33))).cell
  clear hf
  go_wp2_with fail
  refine (scriptoriumref05_Next.calls c.w c.l n.1 n.2 0 _ HN.out).mono ?_
  rintro e w2 ⟨rfl, hb2⟩
  have HBR2 := Aside0.mk (blk_ckept (World.alloc_heap_new W (Obj.cells #[Value.int IntKind.i64 0, Value.int IntKind.i64 0] 33)) hb2)
  have HB2 := Aside0.mk (below_step (alloc_new W _) hb2)
  clear h0 h1 h2 h3 h4 h5 hb2
  go_wp2_with fail
  obtain ⟨w3, hw3⟩ : ∃ V, w2.alloc (Obj.cells #[Value.int IntKind.i64 n.1, Value.int IntKind.i64 n.2] 33) = V := ⟨_, rfl⟩
  have HBS3 := Aside0.mk (show w3.heap[w2.heap.size]? = some (Obj.cells #[Value.int IntKind.i64 n.1, Value.int IntKind.i64 n.2] 33) from by rw [← hw3]; exact World.alloc_heap_new w2 _)
  have hb3 : Below w2.heap.size w2 w3 := by rw [← hw3]; exact alloc_new w2 _
  have HBR3 := Aside0.mk (blk_ckept HBR2.out hb3)
  have HB3 := Aside0.mk (below_step HB2.out hb3)
  have HL3 := Aside0.mk (HL.out.below HB3.out)
  have HW2 := Aside0.mk (show W.heap.size < w2.heap.size from blk_lt HBR2.out)
  rw [hw3]
  clear hw3 hb3 HBR2 HB2
  obtain ⟨h0, h1, h2, h3, h4, h5, hf⟩ := HL3.out.cell
  have s0 : w3.cell? ⟨w2.heap.size, 0, none⟩ = some (.int .i64 n.1) := (blk_cell HBS3.out 0).trans rfl
  have s1 : w3.cell? ⟨w2.heap.size, 1, none⟩ = some (.int .i64 n.2) := (blk_cell HBS3.out 1).trans rfl
  have fs0 := blk_frozen HBS3.out 0
  have fs1 := blk_frozen HBS3.out 1
  clear hf
  go_region_with (go_at_call 41; refine (scriptoriumref05_Two.calls n.1 n.2 c.r 0 m.1 m.2 _ ((rtwo_ck _ _ _ _).trans (by rw [HM.out]))).mono ?_; rintro e w4 ⟨rfl, hb4⟩; have HB34 := Aside0.mk (below_step (below_drew1 (Below.refl w3.heap.size w3)) hb4); have HBS4 := Aside0.mk (blk_ckept HBS3.out HB34.out); have t0 : w4.cell? ⟨w2.heap.size, 0, none⟩ = some (.int .i64 n.1) := (blk_cell HBS4.out 0).trans rfl; have t1 : w4.cell? ⟨w2.heap.size, 1, none⟩ = some (.int .i64 n.2) := (blk_cell HBS4.out 1).trans rfl; have ft0 := blk_frozen HBS4.out 0; have ft1 := blk_frozen HBS4.out 1; clear hb4)
  all_goals (
    obtain ⟨w5, hw5⟩ : ∃ V, (w4.setCell ⟨w2.heap.size, 0, none⟩ (.int .i64 m.1)).setCell ⟨w2.heap.size, 1, none⟩ (.int .i64 m.2) = V := ⟨_, rfl⟩
    have HBS5 := Aside0.mk (show w5.heap[w2.heap.size]? = some (.cells #[.int .i64 m.1, .int .i64 m.2] 33 (0, 0)) from by rw [← hw5]; exact blk_put (cs := #[.int .i64 m.1, .int .i64 n.2]) (blk_put (cs := #[.int .i64 n.1, .int .i64 n.2]) HBS4.out 0 _ rfl) 1 _ rfl)
    have HBR5 := Aside0.mk (show w5.heap[W.heap.size]? = some (.cells #[.int .i64 0, .int .i64 0] 33 (0, 0)) from by rw [← hw5]; exact blk_far (blk_far (blk_ckept HBR3.out HB34.out) (Nat.ne_of_lt HW2.out) _) (Nat.ne_of_lt HW2.out) _)
    have HB5 := Aside0.mk (show Below W.heap.size W w5 from by rw [← hw5]; exact Below.setCell (Below.setCell (below_step HB3.out HB34.out) (p := ⟨w2.heap.size, 0, none⟩) (Nat.le_of_lt HW2.out) _) (p := ⟨w2.heap.size, 1, none⟩) (Nat.le_of_lt HW2.out) _)
    have HL5 := Aside0.mk (HL.out.below HB5.out)
    rw [hw5]
    clear h0 h1 h2 h3 h4 h5 s0 s1 fs0 fs1 t0 t1 ft0 ft1 hw5
    obtain ⟨h0, h1, h2, h3, h4, h5, hf⟩ := HL5.out.cell
    have hf4 := hf 4
    have hf5 := hf 5
    have s0 : w5.cell? ⟨w2.heap.size, 0, none⟩ = some (.int .i64 m.1) := (blk_cell HBS5.out 0).trans rfl
    have s1 : w5.cell? ⟨w2.heap.size, 1, none⟩ = some (.int .i64 m.2) := (blk_cell HBS5.out 1).trans rfl
    have fs0 := blk_frozen HBS5.out 0
    have fs1 := blk_frozen HBS5.out 1
    have r0 : w5.cell? ⟨W.heap.size, 0, none⟩ = some (.int .i64 0) := (blk_cell HBR5.out 0).trans rfl
    have r1 : w5.cell? ⟨W.heap.size, 1, none⟩ = some (.int .i64 0) := (blk_cell HBR5.out 1).trans rfl
    have fr0 := blk_frozen HBR5.out 0
    have fr1 := blk_frozen HBR5.out 1
    have hgW : (g == W.heap.size) = false := beq_eq_false_iff_ne.mpr (Nat.ne_of_lt HG.out)
    have hWg : (W.heap.size == g) = false := beq_eq_false_iff_ne.mpr (Nat.ne_of_gt HG.out)
    have hgW2 : (g = W.heap.size) = False := eq_false (Nat.ne_of_lt HG.out)
    have hWg2 : (W.heap.size = g) = False := eq_false (Nat.ne_of_gt HG.out)
    clear hf
    have d2 := HC1.out
    go_wp2_with fail
    go_quiet (fail)
    go_wp2
    refine bodyPost_ret (results_ct rfl _ _ W.heap.size 33 #[.int .i64 m.1, .int .i64 m.2] (0, 0) _ rfl (blk_put (cs := #[.int .i64 m.1, .int .i64 0]) (blk_put (cs := #[.int .i64 0, .int .i64 0]) (blk_far (blk_far (blk_drewN HBR5.out _) (Nat.ne_of_gt HG.out) _) (Nat.ne_of_gt HG.out) _) 0 _ rfl) 1 _ rfl) Try.underlying33 rfl (by kernel_rfl)) rfl ?_
    exact ⟨rfl, blk_far (blk_far (blk_put (cs := #[.int .i64 c.o, .int .i64 c.r, .int .i64 c.f, .int .i64 c.b, .int .i64 m.1, .int .i64 c.l]) (blk_put (cs := #[.int .i64 c.o, .int .i64 c.r, .int .i64 c.f, .int .i64 c.b, .int .i64 c.w, .int .i64 c.l]) (blk_drewN HL5.out _) 4 _ rfl) 5 _ rfl) (Nat.ne_of_lt HG.out) _) (Nat.ne_of_lt HG.out) _, off_far (off_far (off_setCell (off_setCell (Off.of_below (pw_below_drewN HB5.out _)) _) _) (p := ⟨W.heap.size, 0, none⟩) (Nat.le_refl _) _) (p := ⟨W.heap.size, 1, none⟩) (Nat.le_refl _) _⟩)
theorem rk_now (c : Ck) (g : Nat) (W : World) (h : c.rlies g W) (hk : c.ok) : Calls Try.prog 36 #[.pointer (some ⟨g, 0, none⟩)] W fun e w' => e = .returned (.tuple #[.agg #[.int .i64 c.now.2.1.1, .int .i64 c.now.2.1.2], .int .i64 c.now.2.2]) ∧ c.now.1.rlies g w' ∧ Off g W w' := by
  by_cases c0 : c.w = 1099511627776 ∧ c.l = 1048575
  · exact rk_now0 c g W h hk c0
  by_cases c1 : c.b ≤ (smx (nxt c.w c.l).1 (nxt c.w c.l).2 c.r 0).1
  · exact rk_now1 c g W h hk c0 c1
  exact rk_now2 c g W h hk c0 c1
set_option maxHeartbeats 8000000 in
set_option maxRecDepth 100000 in
theorem rk_see0 (c : Ck) (g : Nat) (x y : Int) (W : World) (h : c.rlies g W) (hk : c.ok) (c0 : x < 0 ∨ 1099511627776 < x ∨ y < 0 ∨ 1048575 < y) : Calls Try.prog 37 #[.pointer (some ⟨g, 0, none⟩), .agg #[.int .i64 x, .int .i64 y]] W fun e w' => e = .returned (.int .i64 (c.see x y).2) ∧ (c.see x y).1.rlies g w' ∧ Off g W w' := by
  have HL := Aside0.mk h
  have hmix : Try.prog.follows .mixedOrders = true := by kernel_rfl
  have HG := Aside0.mk h.lt
  have hwr : 0 ≤ x ∧ x ≤ 1099511627776 → IntKind.i64.wrap (x - c.r) = x - c.r := by intro hx; rw [i64_w]; unfold Ck.ok at hk; unfold wrap64; omega
  clear h hk
  have e1 : c.see x y = (c, 9) := by unfold Ck.see; rw [if_pos c0]
  have CK2 := Aside0.mk ((rcheck_ck x y).trans (congrArg some (if_pos c0)))
  rw [e1]
  clear c0 e1 hwr
  go_enter Try.func37, Try.ntmps37
  go_wp2_with fail
  refine (scriptoriumref05_Check.calls x y 9 _ CK2.out).mono ?_
  rintro e w2 ⟨rfl, hb2⟩
  have hbr := blk_ckept (World.alloc_heap_new W (Obj.cells #[Value.int IntKind.i64 x, Value.int IntKind.i64 y] 33)) hb2
  have HBR2 := Aside0.mk hbr
  have HB2 := Aside0.mk (below_step (alloc_new W _) hb2)
  have r0 : w2.cell? ⟨W.heap.size, 0, none⟩ = some (.int .i64 x) := (blk_cell hbr 0).trans rfl
  have r1 : w2.cell? ⟨W.heap.size, 1, none⟩ = some (.int .i64 y) := (blk_cell hbr 1).trans rfl
  obtain ⟨h0, h1, h2, h3, h4, h5, hf⟩ := (HL.out.below HB2.out).cell
  have hf4 := hf 4
  have hf5 := hf 5
  clear hbr hb2 hf
  go_wp2
  go_ret
  exact ⟨rfl, HL.out.below HB2.out, Off.of_below HB2.out⟩
set_option maxHeartbeats 8000000 in
set_option maxRecDepth 100000 in
theorem rk_see1 (c : Ck) (g : Nat) (x y : Int) (W : World) (h : c.rlies g W) (hk : c.ok) (c0 : ¬ (x < 0 ∨ 1099511627776 < x ∨ y < 0 ∨ 1048575 < y)) (c1 : c.r + c.o < x) : Calls Try.prog 37 #[.pointer (some ⟨g, 0, none⟩), .agg #[.int .i64 x, .int .i64 y]] W fun e w' => e = .returned (.int .i64 (c.see x y).2) ∧ (c.see x y).1.rlies g w' ∧ Off g W w' := by
  have HL := Aside0.mk h
  have hmix : Try.prog.follows .mixedOrders = true := by kernel_rfl
  have HG := Aside0.mk h.lt
  have hwr : 0 ≤ x ∧ x ≤ 1099511627776 → IntKind.i64.wrap (x - c.r) = x - c.r := by intro hx; rw [i64_w]; unfold Ck.ok at hk; unfold wrap64; omega
  clear h hk
  have e1 : c.see x y = (c, 60) := by unfold Ck.see; rw [if_neg c0, if_pos c1]
  have CK2 := Aside0.mk ((rcheck_ck x y).trans (congrArg some (if_neg c0)))
  rw [e1]
  have hwr := hwr (by omega)
  have d1 : decide (c.o < x - c.r) = true := decide_eq_true (by omega)
  clear c0 e1 c1
  go_enter Try.func37, Try.ntmps37
  go_wp2_with fail
  refine (scriptoriumref05_Check.calls x y 0 _ CK2.out).mono ?_
  rintro e w2 ⟨rfl, hb2⟩
  have hbr := blk_ckept (World.alloc_heap_new W (Obj.cells #[Value.int IntKind.i64 x, Value.int IntKind.i64 y] 33)) hb2
  have HBR2 := Aside0.mk hbr
  have HB2 := Aside0.mk (below_step (alloc_new W _) hb2)
  have r0 : w2.cell? ⟨W.heap.size, 0, none⟩ = some (.int .i64 x) := (blk_cell hbr 0).trans rfl
  have r1 : w2.cell? ⟨W.heap.size, 1, none⟩ = some (.int .i64 y) := (blk_cell hbr 1).trans rfl
  obtain ⟨h0, h1, h2, h3, h4, h5, hf⟩ := (HL.out.below HB2.out).cell
  have hf4 := hf 4
  have hf5 := hf 5
  clear hbr hb2 hf
  go_wp2_with fail
  go_quiet (fail)
  go_wp2
  go_ret
  exact ⟨rfl, HL.out.below (pw_below_drewN HB2.out _), Off.of_below (pw_below_drewN HB2.out _)⟩
set_option maxHeartbeats 8000000 in
set_option maxRecDepth 100000 in
theorem rk_see2 (c : Ck) (g : Nat) (x y : Int) (W : World) (h : c.rlies g W) (hk : c.ok) (c0 : ¬ (x < 0 ∨ 1099511627776 < x ∨ y < 0 ∨ 1048575 < y)) (c1 : ¬ c.r + c.o < x) (c2 : c.b ≤ x) : Calls Try.prog 37 #[.pointer (some ⟨g, 0, none⟩), .agg #[.int .i64 x, .int .i64 y]] W fun e w' => e = .returned (.int .i64 (c.see x y).2) ∧ (c.see x y).1.rlies g w' ∧ Off g W w' := by
  have HL := Aside0.mk h
  have hmix : Try.prog.follows .mixedOrders = true := by kernel_rfl
  have HG := Aside0.mk h.lt
  have hwr : 0 ≤ x ∧ x ≤ 1099511627776 → IntKind.i64.wrap (x - c.r) = x - c.r := by intro hx; rw [i64_w]; unfold Ck.ok at hk; unfold wrap64; omega
  clear h hk
  have e1 : c.see x y = (c, 61) := by unfold Ck.see; rw [if_neg c0, if_neg c1, if_pos c2]
  have CK2 := Aside0.mk ((rcheck_ck x y).trans (congrArg some (if_neg c0)))
  rw [e1]
  have hwr := hwr (by omega)
  have d1 : decide (c.o < x - c.r) = false := decide_eq_false (by omega)
  have d2 : decide (c.b ≤ x) = true := decide_eq_true c2
  clear c0 e1 c1 c2
  go_enter Try.func37, Try.ntmps37
  go_wp2_with fail
  refine (scriptoriumref05_Check.calls x y 0 _ CK2.out).mono ?_
  rintro e w2 ⟨rfl, hb2⟩
  have hbr := blk_ckept (World.alloc_heap_new W (Obj.cells #[Value.int IntKind.i64 x, Value.int IntKind.i64 y] 33)) hb2
  have HBR2 := Aside0.mk hbr
  have HB2 := Aside0.mk (below_step (alloc_new W _) hb2)
  have r0 : w2.cell? ⟨W.heap.size, 0, none⟩ = some (.int .i64 x) := (blk_cell hbr 0).trans rfl
  have r1 : w2.cell? ⟨W.heap.size, 1, none⟩ = some (.int .i64 y) := (blk_cell hbr 1).trans rfl
  obtain ⟨h0, h1, h2, h3, h4, h5, hf⟩ := (HL.out.below HB2.out).cell
  have hf4 := hf 4
  have hf5 := hf 5
  clear hbr hb2 hf
  go_wp2_with fail
  go_quiet (fail)
  go_wp2_with fail
  go_quiet (fail)
  go_wp2
  go_ret
  exact ⟨rfl, HL.out.below (pw_below_drewN (pw_below_drewN HB2.out _) _), Off.of_below (pw_below_drewN (pw_below_drewN HB2.out _) _)⟩
set_option maxHeartbeats 8000000 in
set_option maxRecDepth 100000 in
theorem rk_see3 (c : Ck) (g : Nat) (x y : Int) (W : World) (h : c.rlies g W) (hk : c.ok) (c0 : ¬ (x < 0 ∨ 1099511627776 < x ∨ y < 0 ∨ 1048575 < y)) (c1 : ¬ c.r + c.o < x) (c2 : ¬ c.b ≤ x) : Calls Try.prog 37 #[.pointer (some ⟨g, 0, none⟩), .agg #[.int .i64 x, .int .i64 y]] W fun e w' => e = .returned (.int .i64 (c.see x y).2) ∧ (c.see x y).1.rlies g w' ∧ Off g W w' := by
  have HL := Aside0.mk h
  have hmix : Try.prog.follows .mixedOrders = true := by kernel_rfl
  have HG := Aside0.mk h.lt
  have hwr : 0 ≤ x ∧ x ≤ 1099511627776 → IntKind.i64.wrap (x - c.r) = x - c.r := by intro hx; rw [i64_w]; unfold Ck.ok at hk; unfold wrap64; omega
  clear h hk
  have e1 : c.see x y = ({ c with w := (smx c.w c.l x y).1, l := (smx c.w c.l x y).2 }, 0) := by unfold Ck.see; rw [if_neg c0, if_neg c1, if_neg c2]
  have CK2 := Aside0.mk ((rcheck_ck x y).trans (congrArg some (if_neg c0)))
  rw [e1]
  have hwr := hwr (by omega)
  have d1 : decide (c.o < x - c.r) = false := decide_eq_false (by omega)
  have d2 : decide (c.b ≤ x) = false := decide_eq_false c2
  clear c0 e1 c1 c2
  go_enter Try.func37, Try.ntmps37
  go_wp2_with fail
  refine (scriptoriumref05_Check.calls x y 0 _ CK2.out).mono ?_
  rintro e w2 ⟨rfl, hb2⟩
  have hbr := blk_ckept (World.alloc_heap_new W (Obj.cells #[Value.int IntKind.i64 x, Value.int IntKind.i64 y] 33)) hb2
  have HBR2 := Aside0.mk hbr
  have HB2 := Aside0.mk (below_step (alloc_new W _) hb2)
  have r0 : w2.cell? ⟨W.heap.size, 0, none⟩ = some (.int .i64 x) := (blk_cell hbr 0).trans rfl
  have r1 : w2.cell? ⟨W.heap.size, 1, none⟩ = some (.int .i64 y) := (blk_cell hbr 1).trans rfl
  obtain ⟨h0, h1, h2, h3, h4, h5, hf⟩ := (HL.out.below HB2.out).cell
  have hf4 := hf 4
  have hf5 := hf 5
  clear hbr hb2 hf
  go_wp2_with fail
  go_quiet (fail)
  go_wp2_with fail
  go_quiet (fail)
  go_wp2_with fail
  generalize hw3 : World.drewN (World.drewN w2 _) _ = w3
  have HB3 := Aside0.mk (show Below W.heap.size W w3 by rw [← hw3]; exact pw_below_drewN (pw_below_drewN HB2.out _) _)
  have hbr3 : w3.heap[W.heap.size]? = some (.cells #[.int .i64 x, .int .i64 y] 33 (0, 0)) := by rw [← hw3]; exact HBR2.out
  have HL3 := Aside0.mk (HL.out.below HB3.out)
  clear hw3 HBR2 HB2 h0 h1 h2 h3 h4 h5 hf4 hf5 r0 r1 d1 d2 hwr
  obtain ⟨h0, h1, h2, h3, h4, h5, hf⟩ := HL3.out.cell
  have r0 : w3.cell? ⟨W.heap.size, 0, none⟩ = some (.int .i64 x) := (blk_cell hbr3 0).trans rfl
  have r1 : w3.cell? ⟨W.heap.size, 1, none⟩ = some (.int .i64 y) := (blk_cell hbr3 1).trans rfl
  clear hf hbr3
  go_region_with (go_at_call 41; refine (scriptoriumref05_Two.calls c.w c.l x y (smx c.w c.l x y).1 (smx c.w c.l x y).2 _ (rtwo_ck _ _ _ _)).mono ?_; rintro e w4 ⟨rfl, hb4⟩; have HB34 := Aside0.mk (below_step (below_drew1 (Below.refl w3.heap.size w3)) hb4); have HL4 := Aside0.mk (HL3.out.below HB34.out); have f40 := blk_frozen HL4.out 4; have f41 := blk_frozen HL4.out 5; obtain ⟨q0, q1, q2, q3, q4, q5, qf⟩ := HL4.out.cell; clear qf hb4)
  all_goals (go_wp2; go_ret; exact ⟨rfl, blk_put (cs := #[.int .i64 c.o, .int .i64 c.r, .int .i64 c.f, .int .i64 c.b, .int .i64 (smx c.w c.l x y).1, .int .i64 c.l]) (blk_put (cs := #[.int .i64 c.o, .int .i64 c.r, .int .i64 c.f, .int .i64 c.b, .int .i64 c.w, .int .i64 c.l]) HL4.out 4 _ rfl) 5 _ rfl, off_setCell (off_setCell (Off.of_below (below_step HB3.out HB34.out)) _) _⟩)
theorem rk_see (c : Ck) (g : Nat) (x y : Int) (W : World) (h : c.rlies g W) (hk : c.ok) : Calls Try.prog 37 #[.pointer (some ⟨g, 0, none⟩), .agg #[.int .i64 x, .int .i64 y]] W fun e w' => e = .returned (.int .i64 (c.see x y).2) ∧ (c.see x y).1.rlies g w' ∧ Off g W w' := by
  by_cases c0 : x < 0 ∨ 1099511627776 < x ∨ y < 0 ∨ 1048575 < y
  · exact rk_see0 c g x y W h hk c0
  by_cases c1 : c.r + c.o < x
  · exact rk_see1 c g x y W h hk c0 c1
  by_cases c2 : c.b ≤ x
  · exact rk_see2 c g x y W h hk c0 c1 c2
  exact rk_see3 c g x y W h hk c0 c1 c2
/-- Boxes (place, cells, type), each made since the call, no two the same. -/
structure Bx (W w : World) (bs : List (Nat × Array Value × TypeId)) : Prop where
  below : Below W.heap.size W w
  box : ∀ b ∈ bs, w.heap[b.1]? = some (.cells b.2.1 b.2.2 (0, 0))
  own : ∀ b ∈ bs, W.heap.size ≤ b.1
  nd : bs.Pairwise (fun a b => a.1 ≠ b.1)
section
variable {W w w' : World} {bs b1 b2 : List (Nat × Array Value × TypeId)} {a0 a1 a2 a3 a4 : Nat × Array Value × TypeId} {g : Nat} {cs cs' : Array Value} {t : TypeId}
theorem Bx.nil (h : Below W.heap.size W w) : Bx W w [] := ⟨h, (fun _ q => absurd q (by simp)), (fun _ q => absurd q (by simp)), List.Pairwise.nil⟩
theorem Bx.step (h : Bx W w bs) (hb : Below w.heap.size w w') : Bx W w' bs := ⟨below_step h.below hb, fun b q => blk_below (h.box b q) hb, h.own, h.nd⟩
theorem Bx.made (h : Bx W w bs) (hb : Below w.heap.size w w') (hl : w'.heap[g]? = some (.cells cs t (0, 0))) (hg : w.heap.size ≤ g) : Bx W w' ((g, cs, t) :: bs) := by
  refine ⟨below_step h.below hb, fun b q => ?_, fun b q => ?_, List.Pairwise.cons (fun b q => (Nat.ne_of_lt (Nat.lt_of_lt_of_le (blk_lt (h.box b q)) hg)).symm) h.nd⟩
  · rcases List.mem_cons.1 q with rfl | q
    · exact hl
    · exact blk_below (h.box b q) hb
  · rcases List.mem_cons.1 q with rfl | q
    · exact Nat.le_trans h.below.size hg
    · exact h.own b q
theorem Bx.alloc (h : Bx W w bs) (cs : Array Value) (t : TypeId) : Bx W (w.alloc (.cells cs t)) ((w.heap.size, cs, t) :: bs) := h.made (below_alloc (Below.refl _ _) _) (blk_new w _) (Nat.le_refl _)
theorem Bx.chg (h : Bx W w (b1 ++ (g, cs, t) :: b2)) (hO : Off g w w') (hn : w'.heap[g]? = some (.cells cs' t (0, 0))) : Bx W w' (b1 ++ (g, cs', t) :: b2) := by
  have hg := h.own (g, cs, t) (by simp)
  have hn2 := h.nd
  rw [List.pairwise_append, List.pairwise_cons] at hn2
  obtain ⟨n1, ⟨n2, n4⟩, n3⟩ := hn2
  have far : ∀ b : Nat × Array Value × TypeId, w.heap[b.1]? = some (.cells b.2.1 b.2.2 (0, 0)) → b.1 ≠ g → w'.heap[b.1]? = some (.cells b.2.1 b.2.2 (0, 0)) := fun b hb hne => (hO.block b.1 (blk_lt hb) hne).trans hb
  refine ⟨h.below.trans (hO.below hg h.below.size), fun b q => ?_, fun b q => ?_, ?_⟩
  · rcases List.mem_append.1 q with q | q
    · exact far b (h.box b (by simp [q])) (n3 b q (g, cs, t) (by simp))
    · rcases List.mem_cons.1 q with rfl | q
      · exact hn
      · exact far b (h.box b (by simp [q])) (n2 b q).symm
  · rcases List.mem_append.1 q with q | q
    · exact h.own b (by simp [q])
    · rcases List.mem_cons.1 q with rfl | q
      · exact hg
      · exact h.own b (by simp [q])
  · rw [List.pairwise_append, List.pairwise_cons]
    refine ⟨n1, ⟨fun b q => n2 b q, n4⟩, fun a qa b qb => ?_⟩
    rcases List.mem_cons.1 qb with rfl | qb
    · exact n3 a qa (g, cs, t) (by simp)
    · exact n3 a qa b (by simp [qb])
theorem Bx.set (h : Bx W w (b1 ++ (g, cs, t) :: b2)) {i : Nat} {v : Value} (e : cs.setIfInBounds i v = cs') : Bx W (w.setCell ⟨g, i, none⟩ v) (b1 ++ (g, cs', t) :: b2) := h.chg (off_setCell (off_refl _ _) _) (blk_put (h.box (g, cs, t) (by simp)) i v e)
theorem Bx.sub (h : Bx W w bs) (hb : b1.Sublist bs) : Bx W w b1 := ⟨h.below, fun b q => h.box b (hb.subset q), fun b q => h.own b (hb.subset q), h.nd.sublist hb⟩
theorem Bx.bx0 (h : Bx W w ((g, cs, t) :: bs)) : w.heap[g]? = some (.cells cs t (0, 0)) := h.box (g, cs, t) (by simp)
theorem Bx.bx1 (h : Bx W w (a0 :: (g, cs, t) :: bs)) : w.heap[g]? = some (.cells cs t (0, 0)) := h.box (g, cs, t) (by simp)
theorem Bx.bx2 (h : Bx W w (a0 :: a1 :: (g, cs, t) :: bs)) : w.heap[g]? = some (.cells cs t (0, 0)) := h.box (g, cs, t) (by simp)
theorem Bx.bx3 (h : Bx W w (a0 :: a1 :: a2 :: (g, cs, t) :: bs)) : w.heap[g]? = some (.cells cs t (0, 0)) := h.box (g, cs, t) (by simp)
theorem Bx.bx4 (h : Bx W w (a0 :: a1 :: a2 :: a3 :: (g, cs, t) :: bs)) : w.heap[g]? = some (.cells cs t (0, 0)) := h.box (g, cs, t) (by simp)
theorem Bx.chg0 (h : Bx W w ((g, cs, t) :: bs)) (hO : Off g w w') (hn : w'.heap[g]? = some (.cells cs' t (0, 0))) : Bx W w' ((g, cs', t) :: bs) := Bx.chg (b1 := []) h hO hn
theorem Bx.chg1 (h : Bx W w (a0 :: (g, cs, t) :: bs)) (hO : Off g w w') (hn : w'.heap[g]? = some (.cells cs' t (0, 0))) : Bx W w' (a0 :: (g, cs', t) :: bs) := Bx.chg (b1 := [a0]) h hO hn
theorem Bx.chg2 (h : Bx W w (a0 :: a1 :: (g, cs, t) :: bs)) (hO : Off g w w') (hn : w'.heap[g]? = some (.cells cs' t (0, 0))) : Bx W w' (a0 :: a1 :: (g, cs', t) :: bs) := Bx.chg (b1 := [a0, a1]) h hO hn
theorem Bx.chg3 (h : Bx W w (a0 :: a1 :: a2 :: (g, cs, t) :: bs)) (hO : Off g w w') (hn : w'.heap[g]? = some (.cells cs' t (0, 0))) : Bx W w' (a0 :: a1 :: a2 :: (g, cs', t) :: bs) := Bx.chg (b1 := [a0, a1, a2]) h hO hn
theorem Bx.set1 (h : Bx W w (a0 :: (g, cs, t) :: bs)) {i : Nat} {v : Value} (e : cs.setIfInBounds i v = cs') : Bx W (w.setCell ⟨g, i, none⟩ v) (a0 :: (g, cs', t) :: bs) := Bx.set (b1 := [a0]) h e
theorem Bx.set2 (h : Bx W w (a0 :: a1 :: (g, cs, t) :: bs)) {i : Nat} {v : Value} (e : cs.setIfInBounds i v = cs') : Bx W (w.setCell ⟨g, i, none⟩ v) (a0 :: a1 :: (g, cs', t) :: bs) := Bx.set (b1 := [a0, a1]) h e
theorem Bx.set3 (h : Bx W w (a0 :: a1 :: a2 :: (g, cs, t) :: bs)) {i : Nat} {v : Value} (e : cs.setIfInBounds i v = cs') : Bx W (w.setCell ⟨g, i, none⟩ v) (a0 :: a1 :: a2 :: (g, cs', t) :: bs) := Bx.set (b1 := [a0, a1, a2]) h e
theorem Bx.drew (h : Bx W w bs) : Bx W w.drew bs := h.step (below_drew1 (Below.refl _ _))
theorem Bx.gen (h : Bx W w bs) (e : w = w') : Bx W w' bs := e ▸ h
end
theorem bring_some (a n : Int) (h : 0 < n) (hn : n ≤ 4611686018427387904) : ∃ r, scriptoriumref00_Bring.f a n = some r ∧ 0 ≤ r ∧ r < n := by
  unfold scriptoriumref00_Bring.f
  have h1 := Int.tmod_lt_of_pos a h
  have h2 : -n < Int.tmod a n := by
    have := Int.lt_tmod_of_pos a h
    omega
  rw [if_neg (by omega), if_neg (by omega)]
  by_cases h3 : Int.tmod a n < 0
  · rw [if_pos h3]
    refine ⟨_, rfl, ?_⟩
    have : RowKit.wrap64 (Int.tmod a n + n) = Int.tmod a n + n := by unfold RowKit.wrap64; omega
    rw [this]
    omega
  · rw [if_neg h3]
    exact ⟨_, rfl, by omega, by omega⟩
set_option maxHeartbeats 16000000 in
set_option maxRecDepth 100000 in
theorem step_ck (c : Ck) (hk : c.ok) (g gr : Nat) (W0 W : World) (hS : Bx W0 W [(gr, #[.int .i64 c.o, .int .i64 c.r, .int .i64 c.f, .int .i64 c.b, .int .i64 c.w, .int .i64 c.l], 47), (g, #[.int .i64 c.o, .int .i64 c.r, .int .i64 c.f, .int .i64 c.b, .int .i64 c.w, .int .i64 c.l, .bool true], 51)]) (d0 d1 d2 d3 : Int) :
    Calls Try.prog 18 #[.pointer (some ⟨g, 0, none⟩), .pointer (some ⟨gr, 0, none⟩), .agg #[.int .i64 d0, .int .i64 d1, .int .i64 d2, .int .i64 d3]] W fun e w' => e = .returned (.bool true) ∧ ∃ c' : Ck, c'.ok ∧ Bx W0 w' [(gr, #[.int .i64 c'.o, .int .i64 c'.r, .int .i64 c'.f, .int .i64 c'.b, .int .i64 c'.w, .int .i64 c'.l], 47), (g, #[.int .i64 c'.o, .int .i64 c'.r, .int .i64 c'.f, .int .i64 c'.b, .int .i64 c'.w, .int .i64 c'.l, .bool true], 51)] := by
  obtain ⟨t, ht, ht0, ht4⟩ := bring_some d0 4 (by omega) (by omega)
  have HT := Aside0.mk ht
  have HT4 := Aside0.mk (And.intro ht0 ht4)
  have HS := Aside0.mk hS
  have HK := Aside0.mk hk
  clear ht ht0 ht4 hS hk
  go_enter Try.func18, Try.ntmps18
  go_upto_region 1 with fail
  have hMA := HS.out.alloc #[.int .i64 d0, .int .i64 d1, .int .i64 d2, .int .i64 d3] 45
  generalize hwa : World.alloc W _ = w1 at hMA ⊢
  have S1 := Aside0.mk hMA
  clear hwa hMA HS
  generalize W.heap.size = gd at *
  have x0 : w1.cell? ⟨gd, 0, none⟩ = some (.int .i64 d0) := (blk_cell S1.out.bx0 0).trans rfl
  go_wp2_with fail
  refine (scriptoriumref00_Bring.calls d0 4 t _ HT.out).mono ?_
  rintro e w2 ⟨rfl, hb⟩
  have S2 := Aside0.mk (S1.out.step hb.below)
  clear hb S1 x0
  by_cases q0 : t = 0
  case pos =>
    have e0 : (t == 0) = true := beq_iff_eq.mpr q0
    clear q0
    go_upto_region 3 with fail
    have r1 := fun (V : World) (h : V.heap[gd]? = some (.cells #[.int .i64 d0, .int .i64 d1, .int .i64 d2, .int .i64 d3] 45 (0, 0))) => (show V.cell? ⟨gd, 1, none⟩ = some (.int .i64 d1) from (blk_cell h 1).trans rfl)
    refine wp_region_noPanic ?_
    have SD := Aside0.mk S2.out.drew
    refine wp_region_held_drew (S := (fun V => V.heap[gd]? = some (.cells #[.int .i64 d0, .int .i64 d1, .int .i64 d2, .int .i64 d3] 45 (0, 0)))) (by kernel_rfl) SD.out.bx0 (fun hHeld => ?_)
    generalize hwd : World.drew _ = wd at hHeld SD ⊢
    clear hwd
    refine wpAnyH_take (i := 0) (oi := ⟨some 16, _, _, _, _, none⟩) (v := ?v1) rfl (by kernel_rfl) (by kernel_rfl) (by kernel_rfl) (fun _ _ _ h => h) (Or.inl ⟨by rfl, ?hy1⟩) (by with_reducible assumption) ?rest1
    case hy1 => (intro V_ hSw; (try dsimp only at hSw); go_simp; (try with_reducible rfl))
    case' rest1 => skip
    try simp only [Act.put, List.setIfInBounds_toArray, List.set_cons_zero, List.set_cons_succ]
    refine wpAnyH_take (i := 1) (oi := ⟨some 17, _, _, _, _, none⟩) (v := ?v2) rfl (by kernel_rfl) (by kernel_rfl) (by kernel_rfl) (fun _ _ _ h => h) (Or.inl ⟨by rfl, ?hy2⟩) (by with_reducible assumption) ?rest2
    case hy2 => (intro V_ hSw; (try dsimp only at hSw); go_simp; (try with_reducible rfl))
    case' rest2 => skip
    try simp only [Act.put, List.setIfInBounds_toArray, List.set_cons_zero, List.set_cons_succ]
    refine wpAnyH_take (i := 2) (oi := ⟨some 18, _, _, _, _, none⟩) (v := ?v3) rfl (by kernel_rfl) (by kernel_rfl) (by kernel_rfl) (fun _ _ _ h => h) (Or.inl ⟨by rfl, ?hy3⟩) (by with_reducible assumption) ?rest3
    case hy3 => (intro V_ hSw; (try dsimp only at hSw); go_simp; (try with_reducible rfl))
    case' rest3 => skip
    try simp only [Act.put, List.setIfInBounds_toArray, List.set_cons_zero, List.set_cons_succ]
    refine wpAnyH_take (i := 4) (oi := ⟨some 20, _, _, _, _, none⟩) (v := ?v4) rfl (by kernel_rfl) (by kernel_rfl) (by kernel_rfl) (fun _ _ _ h => h) (Or.inl ⟨by rfl, ?hy4⟩) (by with_reducible assumption) ?rest4
    case hy4 => (intro V_ hSw; (try dsimp only at hSw); go_simp; (try with_reducible rfl))
    case' rest4 => skip
    try simp only [Act.put, List.setIfInBounds_toArray, List.set_cons_zero, List.set_cons_succ]
    refine wpAnyH_take (i := 5) (oi := ⟨some 21, _, _, _, _, none⟩) (v := ?v5) rfl (by kernel_rfl) (by kernel_rfl) (by kernel_rfl) (fun _ _ _ h => h) (Or.inl ⟨by rfl, ?hy5⟩) (by with_reducible assumption) ?rest5
    case hy5 => (intro V_ hSw; (try dsimp only at hSw); go_simp; (try with_reducible rfl))
    case' rest5 => skip
    try simp only [Act.put, List.setIfInBounds_toArray, List.set_cons_zero, List.set_cons_succ]
    refine wpAnyH_take (i := 6) (oi := ⟨some 22, _, _, _, _, none⟩) (v := ?v6) rfl (by kernel_rfl) (by kernel_rfl) (by kernel_rfl) (fun _ _ _ h => h) (Or.inl ⟨by rfl, ?hy6⟩) (by with_reducible assumption) ?rest6
    case hy6 => (intro V_ hSw; (try dsimp only at hSw); go_simp; (try with_reducible rfl))
    case' rest6 => skip
    try simp only [Act.put, List.setIfInBounds_toArray, List.set_cons_zero, List.set_cons_succ]
    refine wpAnyH_ready (rs := [3]) (by kernel_rfl) (by simp) ?_
    refine AllReadyH.cons (o := ⟨some 19, _, _, _, _, none⟩) rfl (fun K hK => ?_) ?_
    · go_simp
      refine (ck_set c g d1 _ SD.out.bx2).mono ?_
      rintro e we ⟨rfl, hl, hO⟩
      have SE := Aside0.mk (SD.out.chg2 hO hl)
      clear hl hO
      refine hK.out _ _ SE.out.bx0 (fun hHeld => ?_)
      clear hK K
      try simp only [Act.put, List.setIfInBounds_toArray, List.set_cons_zero, List.set_cons_succ]
      refine wpAnyH_ready (rs := [7]) (by kernel_rfl) (by simp) ?_
      refine AllReadyH.cons (o := ⟨some 23, _, _, _, _, none⟩) rfl (fun K hK => ?_) ?_
      · go_simp
        refine (rk_set c gr d1 _ SE.out.bx1 HK.out).mono ?_
        rintro e wf ⟨rfl, hl, hO⟩
        have SF := Aside0.mk (SE.out.chg1 hO hl)
        clear hl hO
        refine hK.out _ _ SF.out.bx0 (fun hHeld => ?_)
        clear hK K
        try simp only [Act.put, List.setIfInBounds_toArray, List.set_cons_zero, List.set_cons_succ]
        refine wpAnyH_take (i := 8) (oi := ⟨some 24, _, _, _, _, none⟩) (v := ?v7) rfl (by kernel_rfl) (by kernel_rfl) (by kernel_rfl) (fun _ _ _ h => h) (Or.inl ⟨by rfl, ?hy7⟩) (by with_reducible assumption) ?rest7
        case hy7 => (intro V_ hSw; (try dsimp only at hSw); go_simp; (try with_reducible rfl))
        case' rest7 => skip
        try simp only [Act.put, List.setIfInBounds_toArray, List.set_cons_zero, List.set_cons_succ]
        refine wpAnyH_take (i := 9) (oi := ⟨some 6, _, _, _, _, none⟩) (v := ?v8) rfl (by kernel_rfl) (by kernel_rfl) (by kernel_rfl) (fun _ _ _ h => h) (Or.inl ⟨by rfl, ?hy8⟩) (by with_reducible assumption) ?rest8
        case hy8 => (intro V_ hSw; (try dsimp only at hSw); go_simp; (try with_reducible rfl))
        case' rest8 => skip
        try simp only [Act.put, List.setIfInBounds_toArray, List.set_cons_zero, List.set_cons_succ]
        refine wpAnyH_done (by kernel_rfl) ?_ _
        refine NoPanic.normal ?_
        have HOK := Aside0.mk (Ck.set_ok c d1 HK.out)
        generalize (c.set d1).1 = c' at HOK SF
        go_wp2_with fail
        go_ret
        exact ⟨rfl, c', HOK.out, SF.out.sub (.cons _ (List.Sublist.refl _))⟩
      exact AllReadyH.nil
    exact AllReadyH.nil
  have e0 : (t == 0) = false := beq_eq_false_iff_ne.mpr q0
  by_cases q1 : t = 1
  case pos =>
    have e1 : (t == 1) = true := beq_iff_eq.mpr q1
    clear q0 q1
    go_upto_region 5 with fail
    have r1 := fun (V : World) (h : V.heap[gd]? = some (.cells #[.int .i64 d0, .int .i64 d1, .int .i64 d2, .int .i64 d3] 45 (0, 0))) => (show V.cell? ⟨gd, 1, none⟩ = some (.int .i64 d1) from (blk_cell h 1).trans rfl)
    refine wp_region_noPanic ?_
    have SD := Aside0.mk S2.out.drew
    refine wp_region_held_drew (S := (fun V => V.heap[gd]? = some (.cells #[.int .i64 d0, .int .i64 d1, .int .i64 d2, .int .i64 d3] 45 (0, 0)))) (by kernel_rfl) SD.out.bx0 (fun hHeld => ?_)
    generalize hwd : World.drew _ = wd at hHeld SD ⊢
    clear hwd
    refine wpAnyH_take (i := 0) (oi := ⟨some 27, _, _, _, _, none⟩) (v := ?v9) rfl (by kernel_rfl) (by kernel_rfl) (by kernel_rfl) (fun _ _ _ h => h) (Or.inl ⟨by rfl, ?hy9⟩) (by with_reducible assumption) ?rest9
    case hy9 => (intro V_ hSw; (try dsimp only at hSw); go_simp; (try with_reducible rfl))
    case' rest9 => skip
    try simp only [Act.put, List.setIfInBounds_toArray, List.set_cons_zero, List.set_cons_succ]
    refine wpAnyH_take (i := 1) (oi := ⟨some 28, _, _, _, _, none⟩) (v := ?v10) rfl (by kernel_rfl) (by kernel_rfl) (by kernel_rfl) (fun _ _ _ h => h) (Or.inl ⟨by rfl, ?hy10⟩) (by with_reducible assumption) ?rest10
    case hy10 => (intro V_ hSw; (try dsimp only at hSw); go_simp; (try with_reducible rfl))
    case' rest10 => skip
    try simp only [Act.put, List.setIfInBounds_toArray, List.set_cons_zero, List.set_cons_succ]
    refine wpAnyH_take (i := 2) (oi := ⟨some 29, _, _, _, _, none⟩) (v := ?v11) rfl (by kernel_rfl) (by kernel_rfl) (by kernel_rfl) (fun _ _ _ h => h) (Or.inl ⟨by rfl, ?hy11⟩) (by with_reducible assumption) ?rest11
    case hy11 => (intro V_ hSw; (try dsimp only at hSw); go_simp; (try with_reducible rfl))
    case' rest11 => skip
    try simp only [Act.put, List.setIfInBounds_toArray, List.set_cons_zero, List.set_cons_succ]
    refine wpAnyH_take (i := 4) (oi := ⟨some 31, _, _, _, _, none⟩) (v := ?v12) rfl (by kernel_rfl) (by kernel_rfl) (by kernel_rfl) (fun _ _ _ h => h) (Or.inl ⟨by rfl, ?hy12⟩) (by with_reducible assumption) ?rest12
    case hy12 => (intro V_ hSw; (try dsimp only at hSw); go_simp; (try with_reducible rfl))
    case' rest12 => skip
    try simp only [Act.put, List.setIfInBounds_toArray, List.set_cons_zero, List.set_cons_succ]
    refine wpAnyH_take (i := 5) (oi := ⟨some 32, _, _, _, _, none⟩) (v := ?v13) rfl (by kernel_rfl) (by kernel_rfl) (by kernel_rfl) (fun _ _ _ h => h) (Or.inl ⟨by rfl, ?hy13⟩) (by with_reducible assumption) ?rest13
    case hy13 => (intro V_ hSw; (try dsimp only at hSw); go_simp; (try with_reducible rfl))
    case' rest13 => skip
    try simp only [Act.put, List.setIfInBounds_toArray, List.set_cons_zero, List.set_cons_succ]
    refine wpAnyH_take (i := 6) (oi := ⟨some 33, _, _, _, _, none⟩) (v := ?v14) rfl (by kernel_rfl) (by kernel_rfl) (by kernel_rfl) (fun _ _ _ h => h) (Or.inl ⟨by rfl, ?hy14⟩) (by with_reducible assumption) ?rest14
    case hy14 => (intro V_ hSw; (try dsimp only at hSw); go_simp; (try with_reducible rfl))
    case' rest14 => skip
    try simp only [Act.put, List.setIfInBounds_toArray, List.set_cons_zero, List.set_cons_succ]
    refine wpAnyH_ready (rs := [3]) (by kernel_rfl) (by simp) ?_
    refine AllReadyH.cons (o := ⟨some 30, _, _, _, _, none⟩) rfl (fun K hK => ?_) ?_
    · go_simp
      refine (ck_raise c g d1 _ SD.out.bx2).mono ?_
      rintro e we ⟨rfl, hl, hO⟩
      have SE := Aside0.mk (SD.out.chg2 hO hl)
      clear hl hO
      refine hK.out _ _ SE.out.bx0 (fun hHeld => ?_)
      clear hK K
      try simp only [Act.put, List.setIfInBounds_toArray, List.set_cons_zero, List.set_cons_succ]
      refine wpAnyH_ready (rs := [7]) (by kernel_rfl) (by simp) ?_
      refine AllReadyH.cons (o := ⟨some 34, _, _, _, _, none⟩) rfl (fun K hK => ?_) ?_
      · go_simp
        refine (rk_raise c gr d1 _ SE.out.bx1 HK.out).mono ?_
        rintro e wf ⟨rfl, hl, hO⟩
        have SF := Aside0.mk (SE.out.chg1 hO hl)
        clear hl hO
        refine hK.out _ _ SF.out.bx0 (fun hHeld => ?_)
        clear hK K
        try simp only [Act.put, List.setIfInBounds_toArray, List.set_cons_zero, List.set_cons_succ]
        refine wpAnyH_take (i := 8) (oi := ⟨some 35, _, _, _, _, none⟩) (v := ?v15) rfl (by kernel_rfl) (by kernel_rfl) (by kernel_rfl) (fun _ _ _ h => h) (Or.inl ⟨by rfl, ?hy15⟩) (by with_reducible assumption) ?rest15
        case hy15 => (intro V_ hSw; (try dsimp only at hSw); go_simp; (try with_reducible rfl))
        case' rest15 => skip
        try simp only [Act.put, List.setIfInBounds_toArray, List.set_cons_zero, List.set_cons_succ]
        refine wpAnyH_take (i := 9) (oi := ⟨some 6, _, _, _, _, none⟩) (v := ?v16) rfl (by kernel_rfl) (by kernel_rfl) (by kernel_rfl) (fun _ _ _ h => h) (Or.inl ⟨by rfl, ?hy16⟩) (by with_reducible assumption) ?rest16
        case hy16 => (intro V_ hSw; (try dsimp only at hSw); go_simp; (try with_reducible rfl))
        case' rest16 => skip
        try simp only [Act.put, List.setIfInBounds_toArray, List.set_cons_zero, List.set_cons_succ]
        refine wpAnyH_done (by kernel_rfl) ?_ _
        refine NoPanic.normal ?_
        have HOK := Aside0.mk (Ck.raise_ok c d1 HK.out)
        generalize (c.raise d1).1 = c' at HOK SF
        go_wp2_with fail
        go_ret
        exact ⟨rfl, c', HOK.out, SF.out.sub (.cons _ (List.Sublist.refl _))⟩
      exact AllReadyH.nil
    exact AllReadyH.nil
  have e1 : (t == 1) = false := beq_eq_false_iff_ne.mpr q1
  by_cases q2 : t = 2
  case pos =>
    have e2 : (t == 2) = true := beq_iff_eq.mpr q2
    clear q0 q1 q2
    go_wp2_with fail
    refine (ck_now c g w2 S2.out.bx2 HK.out).mono ?_
    rintro e w3 ⟨rfl, hl, hO⟩
    have S3 := Aside0.mk (S2.out.chg2 hO hl)
    clear hl hO
    go_wp2_with fail
    have hMA := S3.out.alloc #[.int .i64 c.now.2.1.1, .int .i64 c.now.2.1.2] 33
    generalize hwa : World.alloc w3 _ = w4 at hMA ⊢
    have S4 := Aside0.mk hMA
    clear hwa hMA
    generalize w3.heap.size = ga at S4 ⊢
    try go_wp2_with fail
    refine (rk_now c gr w4 S4.out.bx2 HK.out).mono ?_
    rintro e w5 ⟨rfl, hl, hO⟩
    have S5 := Aside0.mk (S4.out.chg2 hO hl)
    clear hl hO
    go_upto_region 9 with fail
    have hMA := S5.out.alloc #[.int .i64 c.now.2.1.1, .int .i64 c.now.2.1.2] 33
    generalize hwa : World.alloc w5 _ = w6 at hMA ⊢
    have S6 := Aside0.mk hMA
    clear hwa hMA
    generalize w5.heap.size = gb at S6 ⊢
    have a0 : w6.cell? ⟨ga, 0, none⟩ = some (.int .i64 c.now.2.1.1) := (blk_cell S6.out.bx1 0).trans rfl
    have a1 : w6.cell? ⟨ga, 1, none⟩ = some (.int .i64 c.now.2.1.2) := (blk_cell S6.out.bx1 1).trans rfl
    have b0 : w6.cell? ⟨gb, 0, none⟩ = some (.int .i64 c.now.2.1.1) := (blk_cell S6.out.bx0 0).trans rfl
    have b1 : w6.cell? ⟨gb, 1, none⟩ = some (.int .i64 c.now.2.1.2) := (blk_cell S6.out.bx0 1).trans rfl
    have HOK := Aside0.mk (Ck.now_ok c HK.out)
    go_wp2_with fail
    go_ret
    exact ⟨rfl, c.now.1, HOK.out, S6.out.sub (.cons _ (.cons _ (.cons _ (List.Sublist.refl _))))⟩
  have e2 : (t == 2) = false := beq_eq_false_iff_ne.mpr q2
  clear q0 q1 q2
  go_upto_region 10 with fail
  have r2 := fun (V : World) (h : V.heap[gd]? = some (.cells #[.int .i64 d0, .int .i64 d1, .int .i64 d2, .int .i64 d3] 45 (0, 0))) => (show V.cell? ⟨gd, 2, none⟩ = some (.int .i64 d2) from (blk_cell h 2).trans rfl)
  have r3 := fun (V : World) (h : V.heap[gd]? = some (.cells #[.int .i64 d0, .int .i64 d1, .int .i64 d2, .int .i64 d3] 45 (0, 0))) => (show V.cell? ⟨gd, 3, none⟩ = some (.int .i64 d3) from (blk_cell h 3).trans rfl)
  refine wp_region_noPanic ?_
  have SD := Aside0.mk S2.out.drew
  refine wp_region_held_drew (S := (fun V => V.heap[gd]? = some (.cells #[.int .i64 d0, .int .i64 d1, .int .i64 d2, .int .i64 d3] 45 (0, 0)))) (by kernel_rfl) SD.out.bx0 (fun hHeld => ?_)
  generalize hwd : World.drew _ = wd at hHeld SD ⊢
  clear hwd
  refine wpAnyH_take (i := 0) (oi := ⟨some 56, _, _, _, _, none⟩) (v := ?v17) rfl (by kernel_rfl) (by kernel_rfl) (by kernel_rfl) (fun _ _ _ h => h) (Or.inl ⟨by rfl, ?hy17⟩) (by with_reducible assumption) ?rest17
  case hy17 => (intro V_ hSw; (try dsimp only at hSw); go_simp; (try with_reducible rfl))
  case' rest17 => skip
  try simp only [Act.put, List.setIfInBounds_toArray, List.set_cons_zero, List.set_cons_succ]
  refine wpAnyH_take (i := 1) (oi := ⟨some 57, _, _, _, _, none⟩) (v := ?v18) rfl (by kernel_rfl) (by kernel_rfl) (by kernel_rfl) (fun _ _ _ h => h) (Or.inl ⟨by rfl, ?hy18⟩) (by with_reducible assumption) ?rest18
  case hy18 => (intro V_ hSw; (try dsimp only at hSw); go_simp; (try with_reducible rfl))
  case' rest18 => skip
  try simp only [Act.put, List.setIfInBounds_toArray, List.set_cons_zero, List.set_cons_succ]
  refine wpAnyH_take (i := 2) (oi := ⟨some 58, _, _, _, _, none⟩) (v := ?v19) rfl (by kernel_rfl) (by kernel_rfl) (by kernel_rfl) (fun _ _ _ h => h) (Or.inl ⟨by rfl, ?hy19⟩) (by with_reducible assumption) ?rest19
  case hy19 => (intro V_ hSw; (try dsimp only at hSw); go_simp; (try with_reducible rfl))
  case' rest19 => skip
  try simp only [Act.put, List.setIfInBounds_toArray, List.set_cons_zero, List.set_cons_succ]
  refine wpAnyH_take (i := 4) (oi := ⟨some 60, _, _, _, _, none⟩) (v := ?v20) rfl (by kernel_rfl) (by kernel_rfl) (by kernel_rfl) (fun _ _ _ h => h) (Or.inl ⟨by rfl, ?hy20⟩) (by with_reducible assumption) ?rest20
  case hy20 => (intro V_ hSw; (try dsimp only at hSw); go_simp; (try with_reducible rfl))
  case' rest20 => skip
  try simp only [Act.put, List.setIfInBounds_toArray, List.set_cons_zero, List.set_cons_succ]
  refine wpAnyH_take (i := 5) (oi := ⟨some 61, _, _, _, _, none⟩) (v := ?v21) rfl (by kernel_rfl) (by kernel_rfl) (by kernel_rfl) (fun _ _ _ h => h) (Or.inl ⟨by rfl, ?hy21⟩) (by with_reducible assumption) ?rest21
  case hy21 => (intro V_ hSw; (try dsimp only at hSw); go_simp; (try with_reducible rfl))
  case' rest21 => skip
  try simp only [Act.put, List.setIfInBounds_toArray, List.set_cons_zero, List.set_cons_succ]
  refine wpAnyH_take (i := 6) (oi := ⟨some 62, _, _, _, _, none⟩) (v := ?v22) rfl (by kernel_rfl) (by kernel_rfl) (by kernel_rfl) (fun _ _ _ h => h) (Or.inl ⟨by rfl, ?hy22⟩) (by with_reducible assumption) ?rest22
  case hy22 => (intro V_ hSw; (try dsimp only at hSw); go_simp; (try with_reducible rfl))
  case' rest22 => skip
  try simp only [Act.put, List.setIfInBounds_toArray, List.set_cons_zero, List.set_cons_succ]
  refine wpAnyH_ready (rs := [3]) (by kernel_rfl) (by simp) ?_
  refine AllReadyH.cons (o := ⟨some 59, _, _, _, _, none⟩) rfl (fun K hK => ?_) ?_
  · go_simp
    refine (ck_see c g d2 d3 _ SD.out.bx2 HK.out).mono ?_
    rintro e we ⟨rfl, hl, hO⟩
    have SE := Aside0.mk (SD.out.chg2 hO hl)
    clear hl hO
    refine hK.out _ _ SE.out.bx0 (fun hHeld => ?_)
    clear hK K
    try simp only [Act.put, List.setIfInBounds_toArray, List.set_cons_zero, List.set_cons_succ]
    refine wpAnyH_ready (rs := [7]) (by kernel_rfl) (by simp) ?_
    refine AllReadyH.cons (o := ⟨some 63, _, _, _, _, none⟩) rfl (fun K hK => ?_) ?_
    · go_simp
      refine (rk_see c gr d2 d3 _ SE.out.bx1 HK.out).mono ?_
      rintro e wf ⟨rfl, hl, hO⟩
      have SF := Aside0.mk (SE.out.chg1 hO hl)
      clear hl hO
      refine hK.out _ _ SF.out.bx0 (fun hHeld => ?_)
      clear hK K
      try simp only [Act.put, List.setIfInBounds_toArray, List.set_cons_zero, List.set_cons_succ]
      refine wpAnyH_take (i := 8) (oi := ⟨some 64, _, _, _, _, none⟩) (v := ?v23) rfl (by kernel_rfl) (by kernel_rfl) (by kernel_rfl) (fun _ _ _ h => h) (Or.inl ⟨by rfl, ?hy23⟩) (by with_reducible assumption) ?rest23
      case hy23 => (intro V_ hSw; (try dsimp only at hSw); go_simp; (try with_reducible rfl))
      case' rest23 => skip
      try simp only [Act.put, List.setIfInBounds_toArray, List.set_cons_zero, List.set_cons_succ]
      refine wpAnyH_take (i := 9) (oi := ⟨some 6, _, _, _, _, none⟩) (v := ?v24) rfl (by kernel_rfl) (by kernel_rfl) (by kernel_rfl) (fun _ _ _ h => h) (Or.inl ⟨by rfl, ?hy24⟩) (by with_reducible assumption) ?rest24
      case hy24 => (intro V_ hSw; (try dsimp only at hSw); go_simp; (try with_reducible rfl))
      case' rest24 => skip
      try simp only [Act.put, List.setIfInBounds_toArray, List.set_cons_zero, List.set_cons_succ]
      refine wpAnyH_done (by kernel_rfl) ?_ _
      refine NoPanic.normal ?_
      have HOK := Aside0.mk (Ck.see_ok c d2 d3 HK.out)
      generalize (c.see d2 d3).1 = c' at HOK SF
      go_wp2_with fail
      go_ret
      exact ⟨rfl, c', HOK.out, SF.out.sub (.cons _ (List.Sublist.refl _))⟩
    exact AllReadyH.nil
  exact AllReadyH.nil
def scriptoriumlaw06_ClockPlays.f (k : Nat) (o b : Int) (l0 : List (S45)) : Option (Bool) := scriptoriumlaw06_awake.f k
set_option maxHeartbeats 16000000 in
set_option maxRecDepth 100000 in
theorem scriptoriumlaw06_ClockPlays.calls (k : Nat) (o b : Int) (A0 : Option Addr) (c0 : Nat) (l0 : List (S45)) (r : Bool) (w : World) (hr0 : Kd.C k45 w A0 l0.length l0) (hc0 : l0.length ≤ c0) (h : scriptoriumlaw06_ClockPlays.f k o b l0 = some r) (hrt : r = true) :
    Calls Try.prog 4 #[.int .i64 o, .int .i64 b, .slice A0 l0.length c0] w fun e w' => e = .returned (.bool r) ∧ Below w.heap.size w w' := by
  subst hrt
  have HA := Aside0.mk (show scriptoriumlaw06_awake.f k = some true from h)
  have HR0 := Aside0.mk hr0
  clear h hr0 hc0
  go_enter Try.func4, Try.ntmps4
  go_wp2_with fail
  by_cases hok : (0 ≤ o ∧ o ≤ 1099511627776) ∧ (0 ≤ b ∧ b ≤ 1099511627776)
  case neg =>
    refine (ck_newbad o b w hok).mono ?_
    rintro e w1 ⟨rfl, hb1⟩
    go_wp2_with fail
    refine (rk_newbad o b w1 hok).mono ?_
    rintro e w2 ⟨rfl, hb2⟩
    have HB := Aside0.mk (below_step hb1 hb2)
    clear hb1 hb2 hok
    go_wp2_with fail
    go_loopg [11] 1 (fun kq v w' => v = .int .i64 0 ∧ Aside0 (Below w.heap.size w w'))
    case atStart => exact ⟨rfl, HB⟩
    case round =>
      obtain ⟨rfl, HB2⟩ := hrel
      have fin : ∀ w3, Below w.heap.size w w3 → Below w.heap.size w w3 := fun _ h => h
      by_cases h1 : 0 < l0.length
      · have d1 : decide ((0 : Int) < (l0.length : Int)) = true := decide_eq_true (by omega)
        clear fin
        go_wp2_with fail
        refine (scriptoriumlaw06_awake.calls k true _ HA.out).mono ?_
        rintro e w3 ⟨rfl, hb⟩
        go_wp2_with fail
        go_ret
        exact ⟨rfl, below_step HB2.out hb⟩
      · have d1 : decide ((0 : Int) < (l0.length : Int)) = false := decide_eq_false (by omega)
        clear fin
        go_wp2_with fail
        refine (scriptoriumlaw06_awake.calls k true _ HA.out).mono ?_
        rintro e w3 ⟨rfl, hb⟩
        go_wp2_with fail
        go_ret
        exact ⟨rfl, below_step HB2.out hb⟩
  refine (ck_new o b w hok.1 hok.2).mono ?_
  rintro e w1 ⟨g, rfl, hl, hb, hge⟩
  have S1 := Aside0.mk ((Bx.nil (Below.refl w.heap.size w)).made hb hl hge)
  clear hl hb hge
  go_wp2_with fail
  refine (rk_new o b w1 hok.1 hok.2).mono ?_
  rintro e w2 ⟨gr, rfl, hl, hb, hge⟩
  have S2 := Aside0.mk (S1.out.made hb hl hge)
  have HOK := Aside0.mk (Ck.fresh_ok o b hok.1 hok.2)
  clear hl hb hge S1 hok
  generalize Ck.fresh o b = c at S2 HOK
  go_wp2_with fail
  go_loopg [11] 201 (fun kq v w' => ∃ (i : Nat) (c : Ck), v = .int .i64 (i : Int) ∧ Aside0 (i + kq = 201) ∧ Aside0 (c.ok) ∧ Aside0 (Bx w w' [(gr, #[.int .i64 c.o, .int .i64 c.r, .int .i64 c.f, .int .i64 c.b, .int .i64 c.w, .int .i64 c.l], 47), (g, #[.int .i64 c.o, .int .i64 c.r, .int .i64 c.f, .int .i64 c.b, .int .i64 c.w, .int .i64 c.l, .bool true], 51)]))
  case atStart => exact ⟨0, c, rfl, ⟨rfl⟩, HOK, S2⟩
  case round =>
    clear S2 HOK
    obtain ⟨i, c, rfl, HI, HOK, S⟩ := hrel
    by_cases h1 : i < l0.length
    case neg =>
      have d1 : decide ((i : Int) < (l0.length : Int)) = false := decide_eq_false (by omega)
      go_wp2_with fail
      refine (scriptoriumlaw06_awake.calls k true _ HA.out).mono ?_
      rintro e w1 ⟨rfl, hb⟩
      go_wp2_with fail
      go_ret
      exact ⟨rfl, (S.out.step hb).below⟩
    have d1 : decide ((i : Int) < (l0.length : Int)) = true := decide_eq_true (by omega)
    by_cases h2 : i < 200
    case neg =>
      have d2 : decide ((i : Int) < 200) = false := decide_eq_false (by omega)
      go_wp2_with fail
      refine (scriptoriumlaw06_awake.calls k true _ HA.out).mono ?_
      rintro e w1 ⟨rfl, hb⟩
      go_wp2_with fail
      go_ret
      exact ⟨rfl, (S.out.step hb).below⟩
    have d2 : decide ((i : Int) < 200) = true := decide_eq_true (by omega)
    have HH2 := Aside0.mk h2
    obtain ⟨ad, e0, x0, x1, x2, x3⟩ := at_T45 (Kd.C_below HR0.out S.out.below) (i : Int) (by omega) (by omega)
    clear x0 x1 x2 x3
    cases e0
    obtain ⟨d, hd⟩ : ∃ d, rd_T45 l0 (i : Int) = d := ⟨_, rfl⟩
    have hlc : ∀ V, Below w.heap.size w V → V.cell? (ad.add (i * 4)) = some (.int .i64 d.f0) ∧ V.cell? ⟨(ad.add (i * 4)).block, (ad.add (i * 4)).off + 1, none⟩ = some (.int .i64 d.f1) ∧ V.cell? ⟨(ad.add (i * 4)).block, (ad.add (i * 4)).off + 2, none⟩ = some (.int .i64 d.f2.f0) ∧ V.cell? ⟨(ad.add (i * 4)).block, (ad.add (i * 4)).off + 3, none⟩ = some (.int .i64 d.f2.f1) := fun V hb => by
      obtain ⟨ad', e', x0, x1, x2, x3⟩ := at_T45 (Kd.C_below HR0.out hb) (i : Int) (by omega) (by omega)
      cases e'
      rw [hd] at x0 x1 x2 x3
      simp only [Int.toNat_natCast] at x0 x1 x2 x3
      exact ⟨x0, x1, x2, x3⟩
    have HLC := Aside0.mk hlc
    clear hd hlc
    have hwi : Go.RowKit.wrap64 ((i : Int) + 1) = ((i + 1 : Nat) : Int) := by
      unfold Go.RowKit.wrap64
      omega
    have HWI := Aside0.mk hwi
    have HWI2 := Aside0.mk ((i64_w ((i : Int) + 1)).trans hwi)
    clear hwi
    have p0 := eq_true (show (0 : Int) ≤ (i : Int) by omega)
    have q0 := eq_true (show (i : Int) < (l0.length : Int) by omega)
    go_upto_region 8 with fail
    refine wp_region_noPanic ?_
    have SD := Aside0.mk S.out.drew
    refine wp_region_held_drew (S := (fun V => V.cell? (ad.add (i * 4)) = some (.int .i64 d.f0) ∧ V.cell? ⟨(ad.add (i * 4)).block, (ad.add (i * 4)).off + 1, none⟩ = some (.int .i64 d.f1) ∧ V.cell? ⟨(ad.add (i * 4)).block, (ad.add (i * 4)).off + 2, none⟩ = some (.int .i64 d.f2.f0) ∧ V.cell? ⟨(ad.add (i * 4)).block, (ad.add (i * 4)).off + 3, none⟩ = some (.int .i64 d.f2.f1))) (by kernel_rfl) (HLC.out _ SD.out.below) (fun hHeld => ?_)
    generalize hwd : World.drew _ = wd at hHeld SD ⊢
    clear hwd
    refine wpAnyH_take (i := 0) (oi := ⟨some 48, _, _, _, _, none⟩) (v := ?v25) rfl (by kernel_rfl) (by kernel_rfl) (by kernel_rfl) (fun _ _ _ h => h) (Or.inl ⟨by rfl, ?hy25⟩) (by with_reducible assumption) ?rest25
    case hy25 => (intro V_ hSw; (try dsimp only at hSw); go_simp; (try with_reducible rfl))
    case' rest25 => skip
    try simp only [Act.put, List.setIfInBounds_toArray, List.set_cons_zero, List.set_cons_succ]
    refine wpAnyH_take (i := 1) (oi := ⟨some 49, _, _, _, _, none⟩) (v := ?v26) rfl (by kernel_rfl) (by kernel_rfl) (by kernel_rfl) (fun _ _ _ h => h) (Or.inl ⟨by rfl, ?hy26⟩) (by with_reducible assumption) ?rest26
    case hy26 => (intro V_ hSw; (try dsimp only at hSw); go_simp; (try with_reducible rfl))
    case' rest26 => skip
    try simp only [Act.put, List.setIfInBounds_toArray, List.set_cons_zero, List.set_cons_succ]
    refine wpAnyH_take (i := 2) (oi := ⟨some 50, _, _, _, _, none⟩) (v := ?v27) rfl (by kernel_rfl) (by kernel_rfl) (by kernel_rfl) (fun _ _ _ h => h) (Or.inl ⟨by rfl, ?hy27⟩) (by with_reducible assumption) ?rest27
    case hy27 => (intro V_ hSw; (try dsimp only at hSw); go_simp; (try with_reducible rfl))
    case' rest27 => skip
    try simp only [Act.put, List.setIfInBounds_toArray, List.set_cons_zero, List.set_cons_succ]
    refine wpAnyH_take (i := 3) (oi := ⟨some 51, _, _, _, _, none⟩) (v := ?v28) rfl (by kernel_rfl) (by kernel_rfl) (by kernel_rfl) (fun _ _ _ h => h) (Or.inl ⟨by rfl, ?hy28⟩) (by with_reducible assumption) ?rest28
    case hy28 => (intro V_ hSw; (try dsimp only at hSw); go_simp; (try with_reducible rfl))
    case' rest28 => skip
    try simp only [Act.put, List.setIfInBounds_toArray, List.set_cons_zero, List.set_cons_succ]
    refine wpAnyH_take (i := 4) (oi := ⟨some 52, _, _, _, _, none⟩) (v := ?v29) rfl (by kernel_rfl) (by kernel_rfl) (by kernel_rfl) (fun _ _ _ h => h) (Or.inl ⟨by rfl, ?hy29⟩) (by with_reducible assumption) ?rest29
    case hy29 => (intro V_ hSw; (try dsimp only at hSw); go_simp; (try with_reducible rfl))
    case' rest29 => skip
    try simp only [Act.put, List.setIfInBounds_toArray, List.set_cons_zero, List.set_cons_succ]
    refine wpAnyH_take (i := 5) (oi := ⟨some 53, _, _, _, _, none⟩) (v := ?v30) rfl (by kernel_rfl) (by kernel_rfl) (by kernel_rfl) (fun _ _ _ h => h) (Or.inl ⟨by rfl, ?hy30⟩) (by with_reducible assumption) ?rest30
    case hy30 => (intro V_ hSw; (try dsimp only at hSw); go_simp; (try with_reducible rfl))
    case' rest30 => skip
    try simp only [Act.put, List.setIfInBounds_toArray, List.set_cons_zero, List.set_cons_succ]
    refine wpAnyH_ready (rs := [6]) (by kernel_rfl) (by simp) ?_
    refine AllReadyH.cons (o := ⟨some 54, _, _, _, _, none⟩) rfl (fun K hK => ?_) ?_
    · go_simp
      refine (step_ck c HOK.out g gr w _ SD.out d.f0 d.f1 d.f2.f0 d.f2.f1).mono ?_
      rintro e wf ⟨rfl, c', hc', hB⟩
      have SF := Aside0.mk hB
      have HC' := Aside0.mk hc'
      clear hc' hB
      refine hK.out _ _ (HLC.out _ SF.out.below) (fun hHeld => ?_)
      clear hK K
      try simp only [Act.put, List.setIfInBounds_toArray, List.set_cons_zero, List.set_cons_succ]
      refine wpAnyH_take (i := 7) (oi := ⟨some 55, _, _, _, _, none⟩) (v := ?v31) rfl (by kernel_rfl) (by kernel_rfl) (by kernel_rfl) (fun _ _ _ h => h) (Or.inl ⟨by rfl, ?hy31⟩) (by with_reducible assumption) ?rest31
      case hy31 => (intro V_ hSw; (try dsimp only at hSw); go_simp; (try with_reducible rfl))
      case' rest31 => skip
      try simp only [Act.put, List.setIfInBounds_toArray, List.set_cons_zero, List.set_cons_succ]
      refine wpAnyH_take (i := 8) (oi := ⟨some 56, _, _, _, _, none⟩) (v := ?v32) rfl (by kernel_rfl) (by kernel_rfl) (by kernel_rfl) (fun _ _ _ h => h) (Or.inl ⟨by rfl, ?hy32⟩) (by with_reducible assumption) ?rest32
      case hy32 => (intro V_ hSw; (try dsimp only at hSw); go_simp; (try with_reducible rfl))
      case' rest32 => skip
      try simp only [Act.put, List.setIfInBounds_toArray, List.set_cons_zero, List.set_cons_succ]
      refine wpAnyH_take (i := 9) (oi := ⟨some 57, _, _, _, _, some (8, false)⟩) (v := ?v33) rfl (by kernel_rfl) (by kernel_rfl) (by kernel_rfl) (fun _ _ _ h => h) (Or.inl ⟨by rfl, ?hy33⟩) (by with_reducible assumption) ?rest33
      case hy33 => (intro V_ hSw; (try dsimp only at hSw); go_simp; (try with_reducible rfl))
      case' rest33 => skip
      try simp only [Act.put, List.setIfInBounds_toArray, List.set_cons_zero, List.set_cons_succ]
      refine wpAnyH_take (i := 11) (oi := ⟨some 59, _, _, _, _, some (8, false)⟩) (v := ?v34) rfl (by kernel_rfl) (by kernel_rfl) (by kernel_rfl) (fun _ _ _ h => h) (Or.inl ⟨by rfl, ?hy34⟩) (by with_reducible assumption) ?rest34
      case hy34 => (intro V_ hSw; (try dsimp only at hSw); go_simp; (try with_reducible rfl))
      case' rest34 => skip
      try simp only [Act.put, List.setIfInBounds_toArray, List.set_cons_zero, List.set_cons_succ]
      refine wpAnyH_ready (rs := [10]) (by kernel_rfl) (by simp) ?_
      refine AllReadyH.cons (o := ⟨some 58, _, _, _, _, some (8, false)⟩) rfl (fun K hK => ?_) ?_
      · go_simp
        refine (ck_ready c' g _ SF.out.bx1).mono ?_
        rintro e wt1 ⟨rfl, hb⟩
        have T1 := Aside0.mk (SF.out.step hb)
        clear hb
        refine hK.out _ _ (HLC.out _ T1.out.below) (fun hHeld => ?_)
        clear hK K
        try simp only [Act.put, List.setIfInBounds_toArray, List.set_cons_zero, List.set_cons_succ]
        refine wpAnyH_ready (rs := [12]) (by kernel_rfl) (by simp) ?_
        refine AllReadyH.cons (o := ⟨some 60, _, _, _, _, some (8, false)⟩) rfl (fun K hK => ?_) ?_
        · go_simp
          refine (rk_ready c' gr _ T1.out.bx0).mono ?_
          rintro e wt2 ⟨rfl, hb⟩
          have T2 := Aside0.mk (T1.out.step hb)
          clear hb
          refine hK.out _ _ (HLC.out _ T2.out.below) (fun hHeld => ?_)
          clear hK K
          try simp only [Act.put, List.setIfInBounds_toArray, List.set_cons_zero, List.set_cons_succ]
          refine wpAnyH_take (i := 13) (oi := ⟨some 61, _, _, _, _, some (8, false)⟩) (v := ?v35) rfl (by kernel_rfl) (by kernel_rfl) (by kernel_rfl) (fun _ _ _ h => h) (Or.inl ⟨by rfl, ?hy35⟩) (by with_reducible assumption) ?rest35
          case hy35 => (intro V_ hSw; (try dsimp only at hSw); go_simp; (try with_reducible rfl))
          case' rest35 => skip
          try simp only [Act.put, List.setIfInBounds_toArray, List.set_cons_zero, List.set_cons_succ]
          refine wpAnyH_take (i := 14) (oi := ⟨some 62, _, _, _, _, none⟩) (v := ?v36) rfl (by kernel_rfl) (by kernel_rfl) (by kernel_rfl) (fun _ _ _ h => h) (Or.inl ⟨by rfl, ?hy36⟩) (by with_reducible assumption) ?rest36
          case hy36 => (intro V_ hSw; (try dsimp only at hSw); go_simp; (try with_reducible rfl))
          case' rest36 => skip
          try simp only [Act.put, List.setIfInBounds_toArray, List.set_cons_zero, List.set_cons_succ]
          refine wpAnyH_take (i := 15) (oi := ⟨some 63, _, _, _, _, none⟩) (v := ?v37) rfl (by kernel_rfl) (by kernel_rfl) (by kernel_rfl) (fun _ _ _ h => h) (Or.inl ⟨by rfl, ?hy37⟩) (by with_reducible assumption) ?rest37
          case hy37 => (intro V_ hSw; (try dsimp only at hSw); go_simp; (try with_reducible rfl))
          case' rest37 => skip
          try simp only [Act.put, List.setIfInBounds_toArray, List.set_cons_zero, List.set_cons_succ]
          refine wpAnyH_take (i := 16) (oi := ⟨some 64, _, _, _, _, some (15, false)⟩) (v := ?v38) rfl (by kernel_rfl) (by kernel_rfl) (by kernel_rfl) (fun _ _ _ h => h) (Or.inl ⟨by rfl, ?hy38⟩) (by with_reducible assumption) ?rest38
          case hy38 => (intro V_ hSw; (try dsimp only at hSw); go_simp; (try with_reducible rfl))
          case' rest38 => skip
          try simp only [Act.put, List.setIfInBounds_toArray, List.set_cons_zero, List.set_cons_succ]
          refine wpAnyH_take (i := 18) (oi := ⟨some 66, _, _, _, _, some (15, false)⟩) (v := ?v39) rfl (by kernel_rfl) (by kernel_rfl) (by kernel_rfl) (fun _ _ _ h => h) (Or.inl ⟨by rfl, ?hy39⟩) (by with_reducible assumption) ?rest39
          case hy39 => (intro V_ hSw; (try dsimp only at hSw); go_simp; (try with_reducible rfl))
          case' rest39 => skip
          try simp only [Act.put, List.setIfInBounds_toArray, List.set_cons_zero, List.set_cons_succ]
          refine wpAnyH_take (i := 19) (oi := ⟨some 67, _, _, _, _, some (15, false)⟩) (v := ?v40) rfl (by kernel_rfl) (by kernel_rfl) (by kernel_rfl) (fun _ _ _ h => h) (Or.inl ⟨by rfl, ?hy40⟩) (by with_reducible assumption) ?rest40
          case hy40 => (intro V_ hSw; (try dsimp only at hSw); go_simp; (try with_reducible rfl))
          case' rest40 => skip
          try simp only [Act.put, List.setIfInBounds_toArray, List.set_cons_zero, List.set_cons_succ]
          refine wpAnyH_take (i := 20) (oi := ⟨some 68, _, _, _, _, some (15, false)⟩) (v := ?v41) rfl (by kernel_rfl) (by kernel_rfl) (by kernel_rfl) (fun _ _ _ h => h) (Or.inl ⟨by rfl, ?hy41⟩) (by with_reducible assumption) ?rest41
          case hy41 => (intro V_ hSw; (try dsimp only at hSw); go_simp; (try with_reducible rfl))
          case' rest41 => skip
          try simp only [Act.put, List.setIfInBounds_toArray, List.set_cons_zero, List.set_cons_succ]
          refine wpAnyH_ready (rs := [17, 21]) (by kernel_rfl) (by simp) ?_
          refine AllReadyH.cons (o := ⟨some 65, _, _, _, _, some (15, false)⟩) rfl (fun K hK => ?_) ?_
          · go_simp
            refine (ck_reading c' g _ T2.out.bx1).mono ?_
            rintro e wt3 ⟨rfl, hb⟩
            have T3 := Aside0.mk (T2.out.step hb)
            clear hb
            refine hK.out _ _ (HLC.out _ T3.out.below) (fun hHeld => ?_)
            clear hK K
            try simp only [Act.put, List.setIfInBounds_toArray, List.set_cons_zero, List.set_cons_succ]
            refine wpAnyH_ready (rs := [21]) (by kernel_rfl) (by simp) ?_
            refine AllReadyH.cons (o := ⟨some 69, _, _, _, _, some (15, false)⟩) rfl (fun K hK => ?_) ?_
            · have z1 : wt3.cell? ⟨gr, 1, none⟩ = some (.int .i64 c'.r) := (blk_cell T3.out.bx0 1).trans rfl
              have z3 : wt3.cell? ⟨gr, 3, none⟩ = some (.int .i64 c'.b) := (blk_cell T3.out.bx0 3).trans rfl
              have z4 : wt3.cell? ⟨gr, 4, none⟩ = some (.int .i64 c'.w) := (blk_cell T3.out.bx0 4).trans rfl
              have z5 : wt3.cell? ⟨gr, 5, none⟩ = some (.int .i64 c'.l) := (blk_cell T3.out.bx0 5).trans rfl
              go_simp
              clear z1 z3 z4 z5
              refine hK.out _ _ (HLC.out _ T3.out.below) (fun hHeld => ?_)
              clear hK K
              try simp only [Act.put, List.setIfInBounds_toArray, List.set_cons_zero, List.set_cons_succ]
              refine wpAnyH_take (i := 22) (oi := ⟨some 70, _, _, _, _, some (15, false)⟩) (v := ?v42) rfl (by kernel_rfl) (by kernel_rfl) (by kernel_rfl) (fun _ _ _ h => h) (Or.inl ⟨by rfl, ?hy42⟩) (by with_reducible assumption) ?rest42
              case hy42 => (intro V_ hSw; (try dsimp only at hSw); go_simp; (try with_reducible rfl))
              case' rest42 => skip
              try simp only [Act.put, List.setIfInBounds_toArray, List.set_cons_zero, List.set_cons_succ]
              refine wpAnyH_take (i := 23) (oi := ⟨some 71, _, _, _, _, none⟩) (v := ?v43) rfl (by kernel_rfl) (by kernel_rfl) (by kernel_rfl) (fun _ _ _ h => h) (Or.inl ⟨by rfl, ?hy43⟩) (by with_reducible assumption) ?rest43
              case hy43 => (intro V_ hSw; (try dsimp only at hSw); go_simp; (try with_reducible rfl))
              case' rest43 => skip
              try simp only [Act.put, List.setIfInBounds_toArray, List.set_cons_zero, List.set_cons_succ]
              refine wpAnyH_take (i := 24) (oi := ⟨some 72, _, _, _, _, none⟩) (v := ?v44) rfl (by kernel_rfl) (by kernel_rfl) (by kernel_rfl) (fun _ _ _ h => h) (Or.inl ⟨by rfl, ?hy44⟩) (by with_reducible assumption) ?rest44
              case hy44 => (intro V_ hSw; (try dsimp only at hSw); go_simp; (try with_reducible rfl))
              case' rest44 => skip
              try simp only [Act.put, List.setIfInBounds_toArray, List.set_cons_zero, List.set_cons_succ]
              refine wpAnyH_take (i := 25) (oi := ⟨some 73, _, _, _, _, some (24, false)⟩) (v := ?v45) rfl (by kernel_rfl) (by kernel_rfl) (by kernel_rfl) (fun _ _ _ h => h) (Or.inl ⟨by rfl, ?hy45⟩) (by with_reducible assumption) ?rest45
              case hy45 => (intro V_ hSw; (try dsimp only at hSw); go_simp; (try with_reducible rfl))
              case' rest45 => skip
              try simp only [Act.put, List.setIfInBounds_toArray, List.set_cons_zero, List.set_cons_succ]
              refine wpAnyH_take (i := 27) (oi := ⟨some 75, _, _, _, _, some (24, false)⟩) (v := ?v46) rfl (by kernel_rfl) (by kernel_rfl) (by kernel_rfl) (fun _ _ _ h => h) (Or.inl ⟨by rfl, ?hy46⟩) (by with_reducible assumption) ?rest46
              case hy46 => (intro V_ hSw; (try dsimp only at hSw); go_simp; (try with_reducible rfl))
              case' rest46 => skip
              try simp only [Act.put, List.setIfInBounds_toArray, List.set_cons_zero, List.set_cons_succ]
              refine wpAnyH_take (i := 28) (oi := ⟨some 76, _, _, _, _, some (24, false)⟩) (v := ?v47) rfl (by kernel_rfl) (by kernel_rfl) (by kernel_rfl) (fun _ _ _ h => h) (Or.inl ⟨by rfl, ?hy47⟩) (by with_reducible assumption) ?rest47
              case hy47 => (intro V_ hSw; (try dsimp only at hSw); go_simp; (try with_reducible rfl))
              case' rest47 => skip
              try simp only [Act.put, List.setIfInBounds_toArray, List.set_cons_zero, List.set_cons_succ]
              refine wpAnyH_take (i := 29) (oi := ⟨some 77, _, _, _, _, some (24, false)⟩) (v := ?v48) rfl (by kernel_rfl) (by kernel_rfl) (by kernel_rfl) (fun _ _ _ h => h) (Or.inl ⟨by rfl, ?hy48⟩) (by with_reducible assumption) ?rest48
              case hy48 => (intro V_ hSw; (try dsimp only at hSw); go_simp; (try with_reducible rfl))
              case' rest48 => skip
              try simp only [Act.put, List.setIfInBounds_toArray, List.set_cons_zero, List.set_cons_succ]
              refine wpAnyH_ready (rs := [26, 30]) (by kernel_rfl) (by simp) ?_
              refine AllReadyH.cons (o := ⟨some 74, _, _, _, _, some (24, false)⟩) rfl (fun K hK => ?_) ?_
              · go_simp
                refine (ck_last c' g _ T3.out.bx1).mono ?_
                rintro e wt4 ⟨rfl, hb⟩
                have T4 := Aside0.mk (T3.out.step hb)
                clear hb
                refine hK.out _ _ (HLC.out _ T4.out.below) (fun hHeld => ?_)
                clear hK K
                try simp only [Act.put, List.setIfInBounds_toArray, List.set_cons_zero, List.set_cons_succ]
                refine wpAnyH_ready (rs := [30]) (by kernel_rfl) (by simp) ?_
                refine AllReadyH.cons (o := ⟨some 78, _, _, _, _, some (24, false)⟩) rfl (fun K hK => ?_) ?_
                · have z1 : wt4.cell? ⟨gr, 1, none⟩ = some (.int .i64 c'.r) := (blk_cell T4.out.bx0 1).trans rfl
                  have z3 : wt4.cell? ⟨gr, 3, none⟩ = some (.int .i64 c'.b) := (blk_cell T4.out.bx0 3).trans rfl
                  have z4 : wt4.cell? ⟨gr, 4, none⟩ = some (.int .i64 c'.w) := (blk_cell T4.out.bx0 4).trans rfl
                  have z5 : wt4.cell? ⟨gr, 5, none⟩ = some (.int .i64 c'.l) := (blk_cell T4.out.bx0 5).trans rfl
                  go_simp
                  clear z1 z3 z4 z5
                  refine hK.out _ _ (HLC.out _ T4.out.below) (fun hHeld => ?_)
                  clear hK K
                  try simp only [Act.put, List.setIfInBounds_toArray, List.set_cons_zero, List.set_cons_succ]
                  refine wpAnyH_take (i := 31) (oi := ⟨some 79, _, _, _, _, some (24, false)⟩) (v := ?v49) rfl (by kernel_rfl) (by kernel_rfl) (by kernel_rfl) (fun _ _ _ h => h) (Or.inl ⟨by rfl, ?hy49⟩) (by with_reducible assumption) ?rest49
                  case hy49 => (intro V_ hSw; (try dsimp only at hSw); go_simp; (try with_reducible rfl))
                  case' rest49 => skip
                  try simp only [Act.put, List.setIfInBounds_toArray, List.set_cons_zero, List.set_cons_succ]
                  refine wpAnyH_take (i := 32) (oi := ⟨some 80, _, _, _, _, none⟩) (v := ?v50) rfl (by kernel_rfl) (by kernel_rfl) (by kernel_rfl) (fun _ _ _ h => h) (Or.inl ⟨by rfl, ?hy50⟩) (by with_reducible assumption) ?rest50
                  case hy50 => (intro V_ hSw; (try dsimp only at hSw); go_simp; (try with_reducible rfl))
                  case' rest50 => skip
                  try simp only [Act.put, List.setIfInBounds_toArray, List.set_cons_zero, List.set_cons_succ]
                  refine wpAnyH_take (i := 33) (oi := ⟨some 81, _, _, _, _, none⟩) (v := ?v51) rfl (by kernel_rfl) (by kernel_rfl) (by kernel_rfl) (fun _ _ _ h => h) (Or.inl ⟨by rfl, ?hy51⟩) (by with_reducible assumption) ?rest51
                  case hy51 => (intro V_ hSw; (try dsimp only at hSw); go_simp; (try with_reducible rfl))
                  case' rest51 => skip
                  try simp only [Act.put, List.setIfInBounds_toArray, List.set_cons_zero, List.set_cons_succ]
                  refine wpAnyH_take (i := 34) (oi := ⟨some 82, _, _, _, _, some (33, false)⟩) (v := ?v52) rfl (by kernel_rfl) (by kernel_rfl) (by kernel_rfl) (fun _ _ _ h => h) (Or.inl ⟨by rfl, ?hy52⟩) (by with_reducible assumption) ?rest52
                  case hy52 => (intro V_ hSw; (try dsimp only at hSw); go_simp; (try with_reducible rfl))
                  case' rest52 => skip
                  try simp only [Act.put, List.setIfInBounds_toArray, List.set_cons_zero, List.set_cons_succ]
                  refine wpAnyH_take (i := 36) (oi := ⟨some 84, _, _, _, _, some (33, false)⟩) (v := ?v53) rfl (by kernel_rfl) (by kernel_rfl) (by kernel_rfl) (fun _ _ _ h => h) (Or.inl ⟨by rfl, ?hy53⟩) (by with_reducible assumption) ?rest53
                  case hy53 => (intro V_ hSw; (try dsimp only at hSw); go_simp; (try with_reducible rfl))
                  case' rest53 => skip
                  try simp only [Act.put, List.setIfInBounds_toArray, List.set_cons_zero, List.set_cons_succ]
                  refine wpAnyH_take (i := 37) (oi := ⟨some 85, _, _, _, _, some (33, false)⟩) (v := ?v54) rfl (by kernel_rfl) (by kernel_rfl) (by kernel_rfl) (fun _ _ _ h => h) (Or.inl ⟨by rfl, ?hy54⟩) (by with_reducible assumption) ?rest54
                  case hy54 => (intro V_ hSw; (try dsimp only at hSw); go_simp; (try with_reducible rfl))
                  case' rest54 => skip
                  try simp only [Act.put, List.setIfInBounds_toArray, List.set_cons_zero, List.set_cons_succ]
                  refine wpAnyH_take (i := 38) (oi := ⟨some 86, _, _, _, _, some (33, false)⟩) (v := ?v55) rfl (by kernel_rfl) (by kernel_rfl) (by kernel_rfl) (fun _ _ _ h => h) (Or.inl ⟨by rfl, ?hy55⟩) (by with_reducible assumption) ?rest55
                  case hy55 => (intro V_ hSw; (try dsimp only at hSw); go_simp; (try with_reducible rfl))
                  case' rest55 => skip
                  try simp only [Act.put, List.setIfInBounds_toArray, List.set_cons_zero, List.set_cons_succ]
                  refine wpAnyH_ready (rs := [35, 39]) (by kernel_rfl) (by simp) ?_
                  refine AllReadyH.cons (o := ⟨some 83, _, _, _, _, some (33, false)⟩) rfl (fun K hK => ?_) ?_
                  · go_simp
                    refine (ck_bound c' g _ T4.out.bx1).mono ?_
                    rintro e wt5 ⟨rfl, hb⟩
                    have T5 := Aside0.mk (T4.out.step hb)
                    clear hb
                    refine hK.out _ _ (HLC.out _ T5.out.below) (fun hHeld => ?_)
                    clear hK K
                    try simp only [Act.put, List.setIfInBounds_toArray, List.set_cons_zero, List.set_cons_succ]
                    refine wpAnyH_ready (rs := [39]) (by kernel_rfl) (by simp) ?_
                    refine AllReadyH.cons (o := ⟨some 87, _, _, _, _, some (33, false)⟩) rfl (fun K hK => ?_) ?_
                    · have z1 : wt5.cell? ⟨gr, 1, none⟩ = some (.int .i64 c'.r) := (blk_cell T5.out.bx0 1).trans rfl
                      have z3 : wt5.cell? ⟨gr, 3, none⟩ = some (.int .i64 c'.b) := (blk_cell T5.out.bx0 3).trans rfl
                      have z4 : wt5.cell? ⟨gr, 4, none⟩ = some (.int .i64 c'.w) := (blk_cell T5.out.bx0 4).trans rfl
                      have z5 : wt5.cell? ⟨gr, 5, none⟩ = some (.int .i64 c'.l) := (blk_cell T5.out.bx0 5).trans rfl
                      go_simp
                      clear z1 z3 z4 z5
                      refine hK.out _ _ (HLC.out _ T5.out.below) (fun hHeld => ?_)
                      clear hK K
                      try simp only [Act.put, List.setIfInBounds_toArray, List.set_cons_zero, List.set_cons_succ]
                      refine wpAnyH_take (i := 40) (oi := ⟨some 88, _, _, _, _, some (33, false)⟩) (v := ?v56) rfl (by kernel_rfl) (by kernel_rfl) (by kernel_rfl) (fun _ _ _ h => h) (Or.inl ⟨by rfl, ?hy56⟩) (by with_reducible assumption) ?rest56
                      case hy56 => (intro V_ hSw; (try dsimp only at hSw); go_simp; (try with_reducible rfl))
                      case' rest56 => skip
                      try simp only [Act.put, List.setIfInBounds_toArray, List.set_cons_zero, List.set_cons_succ]
                      refine wpAnyH_take (i := 41) (oi := ⟨some 89, _, _, _, _, none⟩) (v := ?v57) rfl (by kernel_rfl) (by kernel_rfl) (by kernel_rfl) (fun _ _ _ h => h) (Or.inl ⟨by rfl, ?hy57⟩) (by with_reducible assumption) ?rest57
                      case hy57 => (intro V_ hSw; (try dsimp only at hSw); go_simp; (try with_reducible rfl))
                      case' rest57 => skip
                      try simp only [Act.put, List.setIfInBounds_toArray, List.set_cons_zero, List.set_cons_succ]
                      refine wpAnyH_done (by kernel_rfl) ?_ _
                      refine NoPanic.normal ?_
                      clear hHeld
                      go_wp2_with fail
                      go_roundg (200 - i)
                      case measure => have h1 := HI.out; have h2 := HH2.out; omega
                      case rel => exact ⟨i + 1, c', congrArg (Value.int .i64) (by first | exact HWI.out | exact HWI2.out | rfl | omega), ⟨by have h1 := HI.out; have h2 := HH2.out; omega⟩, HC', T5⟩
                    exact AllReadyH.nil
                  refine AllReadyH.cons (o := ⟨some 87, _, _, _, _, some (33, false)⟩) rfl (fun K hK => ?_) ?_
                  · have z1 : wt4.cell? ⟨gr, 1, none⟩ = some (.int .i64 c'.r) := (blk_cell T4.out.bx0 1).trans rfl
                    have z3 : wt4.cell? ⟨gr, 3, none⟩ = some (.int .i64 c'.b) := (blk_cell T4.out.bx0 3).trans rfl
                    have z4 : wt4.cell? ⟨gr, 4, none⟩ = some (.int .i64 c'.w) := (blk_cell T4.out.bx0 4).trans rfl
                    have z5 : wt4.cell? ⟨gr, 5, none⟩ = some (.int .i64 c'.l) := (blk_cell T4.out.bx0 5).trans rfl
                    go_simp
                    clear z1 z3 z4 z5
                    refine hK.out _ _ (HLC.out _ T4.out.below) (fun hHeld => ?_)
                    clear hK K
                    try simp only [Act.put, List.setIfInBounds_toArray, List.set_cons_zero, List.set_cons_succ]
                    refine wpAnyH_ready (rs := [35]) (by kernel_rfl) (by simp) ?_
                    refine AllReadyH.cons (o := ⟨some 83, _, _, _, _, some (33, false)⟩) rfl (fun K hK => ?_) ?_
                    · go_simp
                      refine (ck_bound c' g _ T4.out.bx1).mono ?_
                      rintro e wt6 ⟨rfl, hb⟩
                      have T6 := Aside0.mk (T4.out.step hb)
                      clear hb
                      refine hK.out _ _ (HLC.out _ T6.out.below) (fun hHeld => ?_)
                      clear hK K
                      try simp only [Act.put, List.setIfInBounds_toArray, List.set_cons_zero, List.set_cons_succ]
                      refine wpAnyH_take (i := 40) (oi := ⟨some 88, _, _, _, _, some (33, false)⟩) (v := ?v58) rfl (by kernel_rfl) (by kernel_rfl) (by kernel_rfl) (fun _ _ _ h => h) (Or.inl ⟨by rfl, ?hy58⟩) (by with_reducible assumption) ?rest58
                      case hy58 => (intro V_ hSw; (try dsimp only at hSw); go_simp; (try with_reducible rfl))
                      case' rest58 => skip
                      try simp only [Act.put, List.setIfInBounds_toArray, List.set_cons_zero, List.set_cons_succ]
                      refine wpAnyH_take (i := 41) (oi := ⟨some 89, _, _, _, _, none⟩) (v := ?v59) rfl (by kernel_rfl) (by kernel_rfl) (by kernel_rfl) (fun _ _ _ h => h) (Or.inl ⟨by rfl, ?hy59⟩) (by with_reducible assumption) ?rest59
                      case hy59 => (intro V_ hSw; (try dsimp only at hSw); go_simp; (try with_reducible rfl))
                      case' rest59 => skip
                      try simp only [Act.put, List.setIfInBounds_toArray, List.set_cons_zero, List.set_cons_succ]
                      refine wpAnyH_done (by kernel_rfl) ?_ _
                      refine NoPanic.normal ?_
                      clear hHeld
                      go_wp2_with fail
                      go_roundg (200 - i)
                      case measure => have h1 := HI.out; have h2 := HH2.out; omega
                      case rel => exact ⟨i + 1, c', congrArg (Value.int .i64) (by first | exact HWI.out | exact HWI2.out | rfl | omega), ⟨by have h1 := HI.out; have h2 := HH2.out; omega⟩, HC', T6⟩
                    exact AllReadyH.nil
                  exact AllReadyH.nil
                exact AllReadyH.nil
              refine AllReadyH.cons (o := ⟨some 78, _, _, _, _, some (24, false)⟩) rfl (fun K hK => ?_) ?_
              · have z1 : wt3.cell? ⟨gr, 1, none⟩ = some (.int .i64 c'.r) := (blk_cell T3.out.bx0 1).trans rfl
                have z3 : wt3.cell? ⟨gr, 3, none⟩ = some (.int .i64 c'.b) := (blk_cell T3.out.bx0 3).trans rfl
                have z4 : wt3.cell? ⟨gr, 4, none⟩ = some (.int .i64 c'.w) := (blk_cell T3.out.bx0 4).trans rfl
                have z5 : wt3.cell? ⟨gr, 5, none⟩ = some (.int .i64 c'.l) := (blk_cell T3.out.bx0 5).trans rfl
                go_simp
                clear z1 z3 z4 z5
                refine hK.out _ _ (HLC.out _ T3.out.below) (fun hHeld => ?_)
                clear hK K
                try simp only [Act.put, List.setIfInBounds_toArray, List.set_cons_zero, List.set_cons_succ]
                refine wpAnyH_ready (rs := [26]) (by kernel_rfl) (by simp) ?_
                refine AllReadyH.cons (o := ⟨some 74, _, _, _, _, some (24, false)⟩) rfl (fun K hK => ?_) ?_
                · go_simp
                  refine (ck_last c' g _ T3.out.bx1).mono ?_
                  rintro e wt7 ⟨rfl, hb⟩
                  have T7 := Aside0.mk (T3.out.step hb)
                  clear hb
                  refine hK.out _ _ (HLC.out _ T7.out.below) (fun hHeld => ?_)
                  clear hK K
                  try simp only [Act.put, List.setIfInBounds_toArray, List.set_cons_zero, List.set_cons_succ]
                  refine wpAnyH_take (i := 31) (oi := ⟨some 79, _, _, _, _, some (24, false)⟩) (v := ?v60) rfl (by kernel_rfl) (by kernel_rfl) (by kernel_rfl) (fun _ _ _ h => h) (Or.inl ⟨by rfl, ?hy60⟩) (by with_reducible assumption) ?rest60
                  case hy60 => (intro V_ hSw; (try dsimp only at hSw); go_simp; (try with_reducible rfl))
                  case' rest60 => skip
                  try simp only [Act.put, List.setIfInBounds_toArray, List.set_cons_zero, List.set_cons_succ]
                  refine wpAnyH_take (i := 32) (oi := ⟨some 80, _, _, _, _, none⟩) (v := ?v61) rfl (by kernel_rfl) (by kernel_rfl) (by kernel_rfl) (fun _ _ _ h => h) (Or.inl ⟨by rfl, ?hy61⟩) (by with_reducible assumption) ?rest61
                  case hy61 => (intro V_ hSw; (try dsimp only at hSw); go_simp; (try with_reducible rfl))
                  case' rest61 => skip
                  try simp only [Act.put, List.setIfInBounds_toArray, List.set_cons_zero, List.set_cons_succ]
                  refine wpAnyH_take (i := 33) (oi := ⟨some 81, _, _, _, _, none⟩) (v := ?v62) rfl (by kernel_rfl) (by kernel_rfl) (by kernel_rfl) (fun _ _ _ h => h) (Or.inl ⟨by rfl, ?hy62⟩) (by with_reducible assumption) ?rest62
                  case hy62 => (intro V_ hSw; (try dsimp only at hSw); go_simp; (try with_reducible rfl))
                  case' rest62 => skip
                  try simp only [Act.put, List.setIfInBounds_toArray, List.set_cons_zero, List.set_cons_succ]
                  refine wpAnyH_take (i := 34) (oi := ⟨some 82, _, _, _, _, some (33, false)⟩) (v := ?v63) rfl (by kernel_rfl) (by kernel_rfl) (by kernel_rfl) (fun _ _ _ h => h) (Or.inl ⟨by rfl, ?hy63⟩) (by with_reducible assumption) ?rest63
                  case hy63 => (intro V_ hSw; (try dsimp only at hSw); go_simp; (try with_reducible rfl))
                  case' rest63 => skip
                  try simp only [Act.put, List.setIfInBounds_toArray, List.set_cons_zero, List.set_cons_succ]
                  refine wpAnyH_take (i := 36) (oi := ⟨some 84, _, _, _, _, some (33, false)⟩) (v := ?v64) rfl (by kernel_rfl) (by kernel_rfl) (by kernel_rfl) (fun _ _ _ h => h) (Or.inl ⟨by rfl, ?hy64⟩) (by with_reducible assumption) ?rest64
                  case hy64 => (intro V_ hSw; (try dsimp only at hSw); go_simp; (try with_reducible rfl))
                  case' rest64 => skip
                  try simp only [Act.put, List.setIfInBounds_toArray, List.set_cons_zero, List.set_cons_succ]
                  refine wpAnyH_take (i := 37) (oi := ⟨some 85, _, _, _, _, some (33, false)⟩) (v := ?v65) rfl (by kernel_rfl) (by kernel_rfl) (by kernel_rfl) (fun _ _ _ h => h) (Or.inl ⟨by rfl, ?hy65⟩) (by with_reducible assumption) ?rest65
                  case hy65 => (intro V_ hSw; (try dsimp only at hSw); go_simp; (try with_reducible rfl))
                  case' rest65 => skip
                  try simp only [Act.put, List.setIfInBounds_toArray, List.set_cons_zero, List.set_cons_succ]
                  refine wpAnyH_take (i := 38) (oi := ⟨some 86, _, _, _, _, some (33, false)⟩) (v := ?v66) rfl (by kernel_rfl) (by kernel_rfl) (by kernel_rfl) (fun _ _ _ h => h) (Or.inl ⟨by rfl, ?hy66⟩) (by with_reducible assumption) ?rest66
                  case hy66 => (intro V_ hSw; (try dsimp only at hSw); go_simp; (try with_reducible rfl))
                  case' rest66 => skip
                  try simp only [Act.put, List.setIfInBounds_toArray, List.set_cons_zero, List.set_cons_succ]
                  refine wpAnyH_ready (rs := [35, 39]) (by kernel_rfl) (by simp) ?_
                  refine AllReadyH.cons (o := ⟨some 83, _, _, _, _, some (33, false)⟩) rfl (fun K hK => ?_) ?_
                  · go_simp
                    refine (ck_bound c' g _ T7.out.bx1).mono ?_
                    rintro e wt8 ⟨rfl, hb⟩
                    have T8 := Aside0.mk (T7.out.step hb)
                    clear hb
                    refine hK.out _ _ (HLC.out _ T8.out.below) (fun hHeld => ?_)
                    clear hK K
                    try simp only [Act.put, List.setIfInBounds_toArray, List.set_cons_zero, List.set_cons_succ]
                    refine wpAnyH_ready (rs := [39]) (by kernel_rfl) (by simp) ?_
                    refine AllReadyH.cons (o := ⟨some 87, _, _, _, _, some (33, false)⟩) rfl (fun K hK => ?_) ?_
                    · have z1 : wt8.cell? ⟨gr, 1, none⟩ = some (.int .i64 c'.r) := (blk_cell T8.out.bx0 1).trans rfl
                      have z3 : wt8.cell? ⟨gr, 3, none⟩ = some (.int .i64 c'.b) := (blk_cell T8.out.bx0 3).trans rfl
                      have z4 : wt8.cell? ⟨gr, 4, none⟩ = some (.int .i64 c'.w) := (blk_cell T8.out.bx0 4).trans rfl
                      have z5 : wt8.cell? ⟨gr, 5, none⟩ = some (.int .i64 c'.l) := (blk_cell T8.out.bx0 5).trans rfl
                      go_simp
                      clear z1 z3 z4 z5
                      refine hK.out _ _ (HLC.out _ T8.out.below) (fun hHeld => ?_)
                      clear hK K
                      try simp only [Act.put, List.setIfInBounds_toArray, List.set_cons_zero, List.set_cons_succ]
                      refine wpAnyH_take (i := 40) (oi := ⟨some 88, _, _, _, _, some (33, false)⟩) (v := ?v67) rfl (by kernel_rfl) (by kernel_rfl) (by kernel_rfl) (fun _ _ _ h => h) (Or.inl ⟨by rfl, ?hy67⟩) (by with_reducible assumption) ?rest67
                      case hy67 => (intro V_ hSw; (try dsimp only at hSw); go_simp; (try with_reducible rfl))
                      case' rest67 => skip
                      try simp only [Act.put, List.setIfInBounds_toArray, List.set_cons_zero, List.set_cons_succ]
                      refine wpAnyH_take (i := 41) (oi := ⟨some 89, _, _, _, _, none⟩) (v := ?v68) rfl (by kernel_rfl) (by kernel_rfl) (by kernel_rfl) (fun _ _ _ h => h) (Or.inl ⟨by rfl, ?hy68⟩) (by with_reducible assumption) ?rest68
                      case hy68 => (intro V_ hSw; (try dsimp only at hSw); go_simp; (try with_reducible rfl))
                      case' rest68 => skip
                      try simp only [Act.put, List.setIfInBounds_toArray, List.set_cons_zero, List.set_cons_succ]
                      refine wpAnyH_done (by kernel_rfl) ?_ _
                      refine NoPanic.normal ?_
                      clear hHeld
                      go_wp2_with fail
                      go_roundg (200 - i)
                      case measure => have h1 := HI.out; have h2 := HH2.out; omega
                      case rel => exact ⟨i + 1, c', congrArg (Value.int .i64) (by first | exact HWI.out | exact HWI2.out | rfl | omega), ⟨by have h1 := HI.out; have h2 := HH2.out; omega⟩, HC', T8⟩
                    exact AllReadyH.nil
                  refine AllReadyH.cons (o := ⟨some 87, _, _, _, _, some (33, false)⟩) rfl (fun K hK => ?_) ?_
                  · have z1 : wt7.cell? ⟨gr, 1, none⟩ = some (.int .i64 c'.r) := (blk_cell T7.out.bx0 1).trans rfl
                    have z3 : wt7.cell? ⟨gr, 3, none⟩ = some (.int .i64 c'.b) := (blk_cell T7.out.bx0 3).trans rfl
                    have z4 : wt7.cell? ⟨gr, 4, none⟩ = some (.int .i64 c'.w) := (blk_cell T7.out.bx0 4).trans rfl
                    have z5 : wt7.cell? ⟨gr, 5, none⟩ = some (.int .i64 c'.l) := (blk_cell T7.out.bx0 5).trans rfl
                    go_simp
                    clear z1 z3 z4 z5
                    refine hK.out _ _ (HLC.out _ T7.out.below) (fun hHeld => ?_)
                    clear hK K
                    try simp only [Act.put, List.setIfInBounds_toArray, List.set_cons_zero, List.set_cons_succ]
                    refine wpAnyH_ready (rs := [35]) (by kernel_rfl) (by simp) ?_
                    refine AllReadyH.cons (o := ⟨some 83, _, _, _, _, some (33, false)⟩) rfl (fun K hK => ?_) ?_
                    · go_simp
                      refine (ck_bound c' g _ T7.out.bx1).mono ?_
                      rintro e wt9 ⟨rfl, hb⟩
                      have T9 := Aside0.mk (T7.out.step hb)
                      clear hb
                      refine hK.out _ _ (HLC.out _ T9.out.below) (fun hHeld => ?_)
                      clear hK K
                      try simp only [Act.put, List.setIfInBounds_toArray, List.set_cons_zero, List.set_cons_succ]
                      refine wpAnyH_take (i := 40) (oi := ⟨some 88, _, _, _, _, some (33, false)⟩) (v := ?v69) rfl (by kernel_rfl) (by kernel_rfl) (by kernel_rfl) (fun _ _ _ h => h) (Or.inl ⟨by rfl, ?hy69⟩) (by with_reducible assumption) ?rest69
                      case hy69 => (intro V_ hSw; (try dsimp only at hSw); go_simp; (try with_reducible rfl))
                      case' rest69 => skip
                      try simp only [Act.put, List.setIfInBounds_toArray, List.set_cons_zero, List.set_cons_succ]
                      refine wpAnyH_take (i := 41) (oi := ⟨some 89, _, _, _, _, none⟩) (v := ?v70) rfl (by kernel_rfl) (by kernel_rfl) (by kernel_rfl) (fun _ _ _ h => h) (Or.inl ⟨by rfl, ?hy70⟩) (by with_reducible assumption) ?rest70
                      case hy70 => (intro V_ hSw; (try dsimp only at hSw); go_simp; (try with_reducible rfl))
                      case' rest70 => skip
                      try simp only [Act.put, List.setIfInBounds_toArray, List.set_cons_zero, List.set_cons_succ]
                      refine wpAnyH_done (by kernel_rfl) ?_ _
                      refine NoPanic.normal ?_
                      clear hHeld
                      go_wp2_with fail
                      go_roundg (200 - i)
                      case measure => have h1 := HI.out; have h2 := HH2.out; omega
                      case rel => exact ⟨i + 1, c', congrArg (Value.int .i64) (by first | exact HWI.out | exact HWI2.out | rfl | omega), ⟨by have h1 := HI.out; have h2 := HH2.out; omega⟩, HC', T9⟩
                    exact AllReadyH.nil
                  exact AllReadyH.nil
                exact AllReadyH.nil
              exact AllReadyH.nil
            exact AllReadyH.nil
          refine AllReadyH.cons (o := ⟨some 69, _, _, _, _, some (15, false)⟩) rfl (fun K hK => ?_) ?_
          · have z1 : wt2.cell? ⟨gr, 1, none⟩ = some (.int .i64 c'.r) := (blk_cell T2.out.bx0 1).trans rfl
            have z3 : wt2.cell? ⟨gr, 3, none⟩ = some (.int .i64 c'.b) := (blk_cell T2.out.bx0 3).trans rfl
            have z4 : wt2.cell? ⟨gr, 4, none⟩ = some (.int .i64 c'.w) := (blk_cell T2.out.bx0 4).trans rfl
            have z5 : wt2.cell? ⟨gr, 5, none⟩ = some (.int .i64 c'.l) := (blk_cell T2.out.bx0 5).trans rfl
            go_simp
            clear z1 z3 z4 z5
            refine hK.out _ _ (HLC.out _ T2.out.below) (fun hHeld => ?_)
            clear hK K
            try simp only [Act.put, List.setIfInBounds_toArray, List.set_cons_zero, List.set_cons_succ]
            refine wpAnyH_ready (rs := [17]) (by kernel_rfl) (by simp) ?_
            refine AllReadyH.cons (o := ⟨some 65, _, _, _, _, some (15, false)⟩) rfl (fun K hK => ?_) ?_
            · go_simp
              refine (ck_reading c' g _ T2.out.bx1).mono ?_
              rintro e wt10 ⟨rfl, hb⟩
              have T10 := Aside0.mk (T2.out.step hb)
              clear hb
              refine hK.out _ _ (HLC.out _ T10.out.below) (fun hHeld => ?_)
              clear hK K
              try simp only [Act.put, List.setIfInBounds_toArray, List.set_cons_zero, List.set_cons_succ]
              refine wpAnyH_take (i := 22) (oi := ⟨some 70, _, _, _, _, some (15, false)⟩) (v := ?v71) rfl (by kernel_rfl) (by kernel_rfl) (by kernel_rfl) (fun _ _ _ h => h) (Or.inl ⟨by rfl, ?hy71⟩) (by with_reducible assumption) ?rest71
              case hy71 => (intro V_ hSw; (try dsimp only at hSw); go_simp; (try with_reducible rfl))
              case' rest71 => skip
              try simp only [Act.put, List.setIfInBounds_toArray, List.set_cons_zero, List.set_cons_succ]
              refine wpAnyH_take (i := 23) (oi := ⟨some 71, _, _, _, _, none⟩) (v := ?v72) rfl (by kernel_rfl) (by kernel_rfl) (by kernel_rfl) (fun _ _ _ h => h) (Or.inl ⟨by rfl, ?hy72⟩) (by with_reducible assumption) ?rest72
              case hy72 => (intro V_ hSw; (try dsimp only at hSw); go_simp; (try with_reducible rfl))
              case' rest72 => skip
              try simp only [Act.put, List.setIfInBounds_toArray, List.set_cons_zero, List.set_cons_succ]
              refine wpAnyH_take (i := 24) (oi := ⟨some 72, _, _, _, _, none⟩) (v := ?v73) rfl (by kernel_rfl) (by kernel_rfl) (by kernel_rfl) (fun _ _ _ h => h) (Or.inl ⟨by rfl, ?hy73⟩) (by with_reducible assumption) ?rest73
              case hy73 => (intro V_ hSw; (try dsimp only at hSw); go_simp; (try with_reducible rfl))
              case' rest73 => skip
              try simp only [Act.put, List.setIfInBounds_toArray, List.set_cons_zero, List.set_cons_succ]
              refine wpAnyH_take (i := 25) (oi := ⟨some 73, _, _, _, _, some (24, false)⟩) (v := ?v74) rfl (by kernel_rfl) (by kernel_rfl) (by kernel_rfl) (fun _ _ _ h => h) (Or.inl ⟨by rfl, ?hy74⟩) (by with_reducible assumption) ?rest74
              case hy74 => (intro V_ hSw; (try dsimp only at hSw); go_simp; (try with_reducible rfl))
              case' rest74 => skip
              try simp only [Act.put, List.setIfInBounds_toArray, List.set_cons_zero, List.set_cons_succ]
              refine wpAnyH_take (i := 27) (oi := ⟨some 75, _, _, _, _, some (24, false)⟩) (v := ?v75) rfl (by kernel_rfl) (by kernel_rfl) (by kernel_rfl) (fun _ _ _ h => h) (Or.inl ⟨by rfl, ?hy75⟩) (by with_reducible assumption) ?rest75
              case hy75 => (intro V_ hSw; (try dsimp only at hSw); go_simp; (try with_reducible rfl))
              case' rest75 => skip
              try simp only [Act.put, List.setIfInBounds_toArray, List.set_cons_zero, List.set_cons_succ]
              refine wpAnyH_take (i := 28) (oi := ⟨some 76, _, _, _, _, some (24, false)⟩) (v := ?v76) rfl (by kernel_rfl) (by kernel_rfl) (by kernel_rfl) (fun _ _ _ h => h) (Or.inl ⟨by rfl, ?hy76⟩) (by with_reducible assumption) ?rest76
              case hy76 => (intro V_ hSw; (try dsimp only at hSw); go_simp; (try with_reducible rfl))
              case' rest76 => skip
              try simp only [Act.put, List.setIfInBounds_toArray, List.set_cons_zero, List.set_cons_succ]
              refine wpAnyH_take (i := 29) (oi := ⟨some 77, _, _, _, _, some (24, false)⟩) (v := ?v77) rfl (by kernel_rfl) (by kernel_rfl) (by kernel_rfl) (fun _ _ _ h => h) (Or.inl ⟨by rfl, ?hy77⟩) (by with_reducible assumption) ?rest77
              case hy77 => (intro V_ hSw; (try dsimp only at hSw); go_simp; (try with_reducible rfl))
              case' rest77 => skip
              try simp only [Act.put, List.setIfInBounds_toArray, List.set_cons_zero, List.set_cons_succ]
              refine wpAnyH_ready (rs := [26, 30]) (by kernel_rfl) (by simp) ?_
              refine AllReadyH.cons (o := ⟨some 74, _, _, _, _, some (24, false)⟩) rfl (fun K hK => ?_) ?_
              · go_simp
                refine (ck_last c' g _ T10.out.bx1).mono ?_
                rintro e wt11 ⟨rfl, hb⟩
                have T11 := Aside0.mk (T10.out.step hb)
                clear hb
                refine hK.out _ _ (HLC.out _ T11.out.below) (fun hHeld => ?_)
                clear hK K
                try simp only [Act.put, List.setIfInBounds_toArray, List.set_cons_zero, List.set_cons_succ]
                refine wpAnyH_ready (rs := [30]) (by kernel_rfl) (by simp) ?_
                refine AllReadyH.cons (o := ⟨some 78, _, _, _, _, some (24, false)⟩) rfl (fun K hK => ?_) ?_
                · have z1 : wt11.cell? ⟨gr, 1, none⟩ = some (.int .i64 c'.r) := (blk_cell T11.out.bx0 1).trans rfl
                  have z3 : wt11.cell? ⟨gr, 3, none⟩ = some (.int .i64 c'.b) := (blk_cell T11.out.bx0 3).trans rfl
                  have z4 : wt11.cell? ⟨gr, 4, none⟩ = some (.int .i64 c'.w) := (blk_cell T11.out.bx0 4).trans rfl
                  have z5 : wt11.cell? ⟨gr, 5, none⟩ = some (.int .i64 c'.l) := (blk_cell T11.out.bx0 5).trans rfl
                  go_simp
                  clear z1 z3 z4 z5
                  refine hK.out _ _ (HLC.out _ T11.out.below) (fun hHeld => ?_)
                  clear hK K
                  try simp only [Act.put, List.setIfInBounds_toArray, List.set_cons_zero, List.set_cons_succ]
                  refine wpAnyH_take (i := 31) (oi := ⟨some 79, _, _, _, _, some (24, false)⟩) (v := ?v78) rfl (by kernel_rfl) (by kernel_rfl) (by kernel_rfl) (fun _ _ _ h => h) (Or.inl ⟨by rfl, ?hy78⟩) (by with_reducible assumption) ?rest78
                  case hy78 => (intro V_ hSw; (try dsimp only at hSw); go_simp; (try with_reducible rfl))
                  case' rest78 => skip
                  try simp only [Act.put, List.setIfInBounds_toArray, List.set_cons_zero, List.set_cons_succ]
                  refine wpAnyH_take (i := 32) (oi := ⟨some 80, _, _, _, _, none⟩) (v := ?v79) rfl (by kernel_rfl) (by kernel_rfl) (by kernel_rfl) (fun _ _ _ h => h) (Or.inl ⟨by rfl, ?hy79⟩) (by with_reducible assumption) ?rest79
                  case hy79 => (intro V_ hSw; (try dsimp only at hSw); go_simp; (try with_reducible rfl))
                  case' rest79 => skip
                  try simp only [Act.put, List.setIfInBounds_toArray, List.set_cons_zero, List.set_cons_succ]
                  refine wpAnyH_take (i := 33) (oi := ⟨some 81, _, _, _, _, none⟩) (v := ?v80) rfl (by kernel_rfl) (by kernel_rfl) (by kernel_rfl) (fun _ _ _ h => h) (Or.inl ⟨by rfl, ?hy80⟩) (by with_reducible assumption) ?rest80
                  case hy80 => (intro V_ hSw; (try dsimp only at hSw); go_simp; (try with_reducible rfl))
                  case' rest80 => skip
                  try simp only [Act.put, List.setIfInBounds_toArray, List.set_cons_zero, List.set_cons_succ]
                  refine wpAnyH_take (i := 34) (oi := ⟨some 82, _, _, _, _, some (33, false)⟩) (v := ?v81) rfl (by kernel_rfl) (by kernel_rfl) (by kernel_rfl) (fun _ _ _ h => h) (Or.inl ⟨by rfl, ?hy81⟩) (by with_reducible assumption) ?rest81
                  case hy81 => (intro V_ hSw; (try dsimp only at hSw); go_simp; (try with_reducible rfl))
                  case' rest81 => skip
                  try simp only [Act.put, List.setIfInBounds_toArray, List.set_cons_zero, List.set_cons_succ]
                  refine wpAnyH_take (i := 36) (oi := ⟨some 84, _, _, _, _, some (33, false)⟩) (v := ?v82) rfl (by kernel_rfl) (by kernel_rfl) (by kernel_rfl) (fun _ _ _ h => h) (Or.inl ⟨by rfl, ?hy82⟩) (by with_reducible assumption) ?rest82
                  case hy82 => (intro V_ hSw; (try dsimp only at hSw); go_simp; (try with_reducible rfl))
                  case' rest82 => skip
                  try simp only [Act.put, List.setIfInBounds_toArray, List.set_cons_zero, List.set_cons_succ]
                  refine wpAnyH_take (i := 37) (oi := ⟨some 85, _, _, _, _, some (33, false)⟩) (v := ?v83) rfl (by kernel_rfl) (by kernel_rfl) (by kernel_rfl) (fun _ _ _ h => h) (Or.inl ⟨by rfl, ?hy83⟩) (by with_reducible assumption) ?rest83
                  case hy83 => (intro V_ hSw; (try dsimp only at hSw); go_simp; (try with_reducible rfl))
                  case' rest83 => skip
                  try simp only [Act.put, List.setIfInBounds_toArray, List.set_cons_zero, List.set_cons_succ]
                  refine wpAnyH_take (i := 38) (oi := ⟨some 86, _, _, _, _, some (33, false)⟩) (v := ?v84) rfl (by kernel_rfl) (by kernel_rfl) (by kernel_rfl) (fun _ _ _ h => h) (Or.inl ⟨by rfl, ?hy84⟩) (by with_reducible assumption) ?rest84
                  case hy84 => (intro V_ hSw; (try dsimp only at hSw); go_simp; (try with_reducible rfl))
                  case' rest84 => skip
                  try simp only [Act.put, List.setIfInBounds_toArray, List.set_cons_zero, List.set_cons_succ]
                  refine wpAnyH_ready (rs := [35, 39]) (by kernel_rfl) (by simp) ?_
                  refine AllReadyH.cons (o := ⟨some 83, _, _, _, _, some (33, false)⟩) rfl (fun K hK => ?_) ?_
                  · go_simp
                    refine (ck_bound c' g _ T11.out.bx1).mono ?_
                    rintro e wt12 ⟨rfl, hb⟩
                    have T12 := Aside0.mk (T11.out.step hb)
                    clear hb
                    refine hK.out _ _ (HLC.out _ T12.out.below) (fun hHeld => ?_)
                    clear hK K
                    try simp only [Act.put, List.setIfInBounds_toArray, List.set_cons_zero, List.set_cons_succ]
                    refine wpAnyH_ready (rs := [39]) (by kernel_rfl) (by simp) ?_
                    refine AllReadyH.cons (o := ⟨some 87, _, _, _, _, some (33, false)⟩) rfl (fun K hK => ?_) ?_
                    · have z1 : wt12.cell? ⟨gr, 1, none⟩ = some (.int .i64 c'.r) := (blk_cell T12.out.bx0 1).trans rfl
                      have z3 : wt12.cell? ⟨gr, 3, none⟩ = some (.int .i64 c'.b) := (blk_cell T12.out.bx0 3).trans rfl
                      have z4 : wt12.cell? ⟨gr, 4, none⟩ = some (.int .i64 c'.w) := (blk_cell T12.out.bx0 4).trans rfl
                      have z5 : wt12.cell? ⟨gr, 5, none⟩ = some (.int .i64 c'.l) := (blk_cell T12.out.bx0 5).trans rfl
                      go_simp
                      clear z1 z3 z4 z5
                      refine hK.out _ _ (HLC.out _ T12.out.below) (fun hHeld => ?_)
                      clear hK K
                      try simp only [Act.put, List.setIfInBounds_toArray, List.set_cons_zero, List.set_cons_succ]
                      refine wpAnyH_take (i := 40) (oi := ⟨some 88, _, _, _, _, some (33, false)⟩) (v := ?v85) rfl (by kernel_rfl) (by kernel_rfl) (by kernel_rfl) (fun _ _ _ h => h) (Or.inl ⟨by rfl, ?hy85⟩) (by with_reducible assumption) ?rest85
                      case hy85 => (intro V_ hSw; (try dsimp only at hSw); go_simp; (try with_reducible rfl))
                      case' rest85 => skip
                      try simp only [Act.put, List.setIfInBounds_toArray, List.set_cons_zero, List.set_cons_succ]
                      refine wpAnyH_take (i := 41) (oi := ⟨some 89, _, _, _, _, none⟩) (v := ?v86) rfl (by kernel_rfl) (by kernel_rfl) (by kernel_rfl) (fun _ _ _ h => h) (Or.inl ⟨by rfl, ?hy86⟩) (by with_reducible assumption) ?rest86
                      case hy86 => (intro V_ hSw; (try dsimp only at hSw); go_simp; (try with_reducible rfl))
                      case' rest86 => skip
                      try simp only [Act.put, List.setIfInBounds_toArray, List.set_cons_zero, List.set_cons_succ]
                      refine wpAnyH_done (by kernel_rfl) ?_ _
                      refine NoPanic.normal ?_
                      clear hHeld
                      go_wp2_with fail
                      go_roundg (200 - i)
                      case measure => have h1 := HI.out; have h2 := HH2.out; omega
                      case rel => exact ⟨i + 1, c', congrArg (Value.int .i64) (by first | exact HWI.out | exact HWI2.out | rfl | omega), ⟨by have h1 := HI.out; have h2 := HH2.out; omega⟩, HC', T12⟩
                    exact AllReadyH.nil
                  refine AllReadyH.cons (o := ⟨some 87, _, _, _, _, some (33, false)⟩) rfl (fun K hK => ?_) ?_
                  · have z1 : wt11.cell? ⟨gr, 1, none⟩ = some (.int .i64 c'.r) := (blk_cell T11.out.bx0 1).trans rfl
                    have z3 : wt11.cell? ⟨gr, 3, none⟩ = some (.int .i64 c'.b) := (blk_cell T11.out.bx0 3).trans rfl
                    have z4 : wt11.cell? ⟨gr, 4, none⟩ = some (.int .i64 c'.w) := (blk_cell T11.out.bx0 4).trans rfl
                    have z5 : wt11.cell? ⟨gr, 5, none⟩ = some (.int .i64 c'.l) := (blk_cell T11.out.bx0 5).trans rfl
                    go_simp
                    clear z1 z3 z4 z5
                    refine hK.out _ _ (HLC.out _ T11.out.below) (fun hHeld => ?_)
                    clear hK K
                    try simp only [Act.put, List.setIfInBounds_toArray, List.set_cons_zero, List.set_cons_succ]
                    refine wpAnyH_ready (rs := [35]) (by kernel_rfl) (by simp) ?_
                    refine AllReadyH.cons (o := ⟨some 83, _, _, _, _, some (33, false)⟩) rfl (fun K hK => ?_) ?_
                    · go_simp
                      refine (ck_bound c' g _ T11.out.bx1).mono ?_
                      rintro e wt13 ⟨rfl, hb⟩
                      have T13 := Aside0.mk (T11.out.step hb)
                      clear hb
                      refine hK.out _ _ (HLC.out _ T13.out.below) (fun hHeld => ?_)
                      clear hK K
                      try simp only [Act.put, List.setIfInBounds_toArray, List.set_cons_zero, List.set_cons_succ]
                      refine wpAnyH_take (i := 40) (oi := ⟨some 88, _, _, _, _, some (33, false)⟩) (v := ?v87) rfl (by kernel_rfl) (by kernel_rfl) (by kernel_rfl) (fun _ _ _ h => h) (Or.inl ⟨by rfl, ?hy87⟩) (by with_reducible assumption) ?rest87
                      case hy87 => (intro V_ hSw; (try dsimp only at hSw); go_simp; (try with_reducible rfl))
                      case' rest87 => skip
                      try simp only [Act.put, List.setIfInBounds_toArray, List.set_cons_zero, List.set_cons_succ]
                      refine wpAnyH_take (i := 41) (oi := ⟨some 89, _, _, _, _, none⟩) (v := ?v88) rfl (by kernel_rfl) (by kernel_rfl) (by kernel_rfl) (fun _ _ _ h => h) (Or.inl ⟨by rfl, ?hy88⟩) (by with_reducible assumption) ?rest88
                      case hy88 => (intro V_ hSw; (try dsimp only at hSw); go_simp; (try with_reducible rfl))
                      case' rest88 => skip
                      try simp only [Act.put, List.setIfInBounds_toArray, List.set_cons_zero, List.set_cons_succ]
                      refine wpAnyH_done (by kernel_rfl) ?_ _
                      refine NoPanic.normal ?_
                      clear hHeld
                      go_wp2_with fail
                      go_roundg (200 - i)
                      case measure => have h1 := HI.out; have h2 := HH2.out; omega
                      case rel => exact ⟨i + 1, c', congrArg (Value.int .i64) (by first | exact HWI.out | exact HWI2.out | rfl | omega), ⟨by have h1 := HI.out; have h2 := HH2.out; omega⟩, HC', T13⟩
                    exact AllReadyH.nil
                  exact AllReadyH.nil
                exact AllReadyH.nil
              refine AllReadyH.cons (o := ⟨some 78, _, _, _, _, some (24, false)⟩) rfl (fun K hK => ?_) ?_
              · have z1 : wt10.cell? ⟨gr, 1, none⟩ = some (.int .i64 c'.r) := (blk_cell T10.out.bx0 1).trans rfl
                have z3 : wt10.cell? ⟨gr, 3, none⟩ = some (.int .i64 c'.b) := (blk_cell T10.out.bx0 3).trans rfl
                have z4 : wt10.cell? ⟨gr, 4, none⟩ = some (.int .i64 c'.w) := (blk_cell T10.out.bx0 4).trans rfl
                have z5 : wt10.cell? ⟨gr, 5, none⟩ = some (.int .i64 c'.l) := (blk_cell T10.out.bx0 5).trans rfl
                go_simp
                clear z1 z3 z4 z5
                refine hK.out _ _ (HLC.out _ T10.out.below) (fun hHeld => ?_)
                clear hK K
                try simp only [Act.put, List.setIfInBounds_toArray, List.set_cons_zero, List.set_cons_succ]
                refine wpAnyH_ready (rs := [26]) (by kernel_rfl) (by simp) ?_
                refine AllReadyH.cons (o := ⟨some 74, _, _, _, _, some (24, false)⟩) rfl (fun K hK => ?_) ?_
                · go_simp
                  refine (ck_last c' g _ T10.out.bx1).mono ?_
                  rintro e wt14 ⟨rfl, hb⟩
                  have T14 := Aside0.mk (T10.out.step hb)
                  clear hb
                  refine hK.out _ _ (HLC.out _ T14.out.below) (fun hHeld => ?_)
                  clear hK K
                  try simp only [Act.put, List.setIfInBounds_toArray, List.set_cons_zero, List.set_cons_succ]
                  refine wpAnyH_take (i := 31) (oi := ⟨some 79, _, _, _, _, some (24, false)⟩) (v := ?v89) rfl (by kernel_rfl) (by kernel_rfl) (by kernel_rfl) (fun _ _ _ h => h) (Or.inl ⟨by rfl, ?hy89⟩) (by with_reducible assumption) ?rest89
                  case hy89 => (intro V_ hSw; (try dsimp only at hSw); go_simp; (try with_reducible rfl))
                  case' rest89 => skip
                  try simp only [Act.put, List.setIfInBounds_toArray, List.set_cons_zero, List.set_cons_succ]
                  refine wpAnyH_take (i := 32) (oi := ⟨some 80, _, _, _, _, none⟩) (v := ?v90) rfl (by kernel_rfl) (by kernel_rfl) (by kernel_rfl) (fun _ _ _ h => h) (Or.inl ⟨by rfl, ?hy90⟩) (by with_reducible assumption) ?rest90
                  case hy90 => (intro V_ hSw; (try dsimp only at hSw); go_simp; (try with_reducible rfl))
                  case' rest90 => skip
                  try simp only [Act.put, List.setIfInBounds_toArray, List.set_cons_zero, List.set_cons_succ]
                  refine wpAnyH_take (i := 33) (oi := ⟨some 81, _, _, _, _, none⟩) (v := ?v91) rfl (by kernel_rfl) (by kernel_rfl) (by kernel_rfl) (fun _ _ _ h => h) (Or.inl ⟨by rfl, ?hy91⟩) (by with_reducible assumption) ?rest91
                  case hy91 => (intro V_ hSw; (try dsimp only at hSw); go_simp; (try with_reducible rfl))
                  case' rest91 => skip
                  try simp only [Act.put, List.setIfInBounds_toArray, List.set_cons_zero, List.set_cons_succ]
                  refine wpAnyH_take (i := 34) (oi := ⟨some 82, _, _, _, _, some (33, false)⟩) (v := ?v92) rfl (by kernel_rfl) (by kernel_rfl) (by kernel_rfl) (fun _ _ _ h => h) (Or.inl ⟨by rfl, ?hy92⟩) (by with_reducible assumption) ?rest92
                  case hy92 => (intro V_ hSw; (try dsimp only at hSw); go_simp; (try with_reducible rfl))
                  case' rest92 => skip
                  try simp only [Act.put, List.setIfInBounds_toArray, List.set_cons_zero, List.set_cons_succ]
                  refine wpAnyH_take (i := 36) (oi := ⟨some 84, _, _, _, _, some (33, false)⟩) (v := ?v93) rfl (by kernel_rfl) (by kernel_rfl) (by kernel_rfl) (fun _ _ _ h => h) (Or.inl ⟨by rfl, ?hy93⟩) (by with_reducible assumption) ?rest93
                  case hy93 => (intro V_ hSw; (try dsimp only at hSw); go_simp; (try with_reducible rfl))
                  case' rest93 => skip
                  try simp only [Act.put, List.setIfInBounds_toArray, List.set_cons_zero, List.set_cons_succ]
                  refine wpAnyH_take (i := 37) (oi := ⟨some 85, _, _, _, _, some (33, false)⟩) (v := ?v94) rfl (by kernel_rfl) (by kernel_rfl) (by kernel_rfl) (fun _ _ _ h => h) (Or.inl ⟨by rfl, ?hy94⟩) (by with_reducible assumption) ?rest94
                  case hy94 => (intro V_ hSw; (try dsimp only at hSw); go_simp; (try with_reducible rfl))
                  case' rest94 => skip
                  try simp only [Act.put, List.setIfInBounds_toArray, List.set_cons_zero, List.set_cons_succ]
                  refine wpAnyH_take (i := 38) (oi := ⟨some 86, _, _, _, _, some (33, false)⟩) (v := ?v95) rfl (by kernel_rfl) (by kernel_rfl) (by kernel_rfl) (fun _ _ _ h => h) (Or.inl ⟨by rfl, ?hy95⟩) (by with_reducible assumption) ?rest95
                  case hy95 => (intro V_ hSw; (try dsimp only at hSw); go_simp; (try with_reducible rfl))
                  case' rest95 => skip
                  try simp only [Act.put, List.setIfInBounds_toArray, List.set_cons_zero, List.set_cons_succ]
                  refine wpAnyH_ready (rs := [35, 39]) (by kernel_rfl) (by simp) ?_
                  refine AllReadyH.cons (o := ⟨some 83, _, _, _, _, some (33, false)⟩) rfl (fun K hK => ?_) ?_
                  · go_simp
                    refine (ck_bound c' g _ T14.out.bx1).mono ?_
                    rintro e wt15 ⟨rfl, hb⟩
                    have T15 := Aside0.mk (T14.out.step hb)
                    clear hb
                    refine hK.out _ _ (HLC.out _ T15.out.below) (fun hHeld => ?_)
                    clear hK K
                    try simp only [Act.put, List.setIfInBounds_toArray, List.set_cons_zero, List.set_cons_succ]
                    refine wpAnyH_ready (rs := [39]) (by kernel_rfl) (by simp) ?_
                    refine AllReadyH.cons (o := ⟨some 87, _, _, _, _, some (33, false)⟩) rfl (fun K hK => ?_) ?_
                    · have z1 : wt15.cell? ⟨gr, 1, none⟩ = some (.int .i64 c'.r) := (blk_cell T15.out.bx0 1).trans rfl
                      have z3 : wt15.cell? ⟨gr, 3, none⟩ = some (.int .i64 c'.b) := (blk_cell T15.out.bx0 3).trans rfl
                      have z4 : wt15.cell? ⟨gr, 4, none⟩ = some (.int .i64 c'.w) := (blk_cell T15.out.bx0 4).trans rfl
                      have z5 : wt15.cell? ⟨gr, 5, none⟩ = some (.int .i64 c'.l) := (blk_cell T15.out.bx0 5).trans rfl
                      go_simp
                      clear z1 z3 z4 z5
                      refine hK.out _ _ (HLC.out _ T15.out.below) (fun hHeld => ?_)
                      clear hK K
                      try simp only [Act.put, List.setIfInBounds_toArray, List.set_cons_zero, List.set_cons_succ]
                      refine wpAnyH_take (i := 40) (oi := ⟨some 88, _, _, _, _, some (33, false)⟩) (v := ?v96) rfl (by kernel_rfl) (by kernel_rfl) (by kernel_rfl) (fun _ _ _ h => h) (Or.inl ⟨by rfl, ?hy96⟩) (by with_reducible assumption) ?rest96
                      case hy96 => (intro V_ hSw; (try dsimp only at hSw); go_simp; (try with_reducible rfl))
                      case' rest96 => skip
                      try simp only [Act.put, List.setIfInBounds_toArray, List.set_cons_zero, List.set_cons_succ]
                      refine wpAnyH_take (i := 41) (oi := ⟨some 89, _, _, _, _, none⟩) (v := ?v97) rfl (by kernel_rfl) (by kernel_rfl) (by kernel_rfl) (fun _ _ _ h => h) (Or.inl ⟨by rfl, ?hy97⟩) (by with_reducible assumption) ?rest97
                      case hy97 => (intro V_ hSw; (try dsimp only at hSw); go_simp; (try with_reducible rfl))
                      case' rest97 => skip
                      try simp only [Act.put, List.setIfInBounds_toArray, List.set_cons_zero, List.set_cons_succ]
                      refine wpAnyH_done (by kernel_rfl) ?_ _
                      refine NoPanic.normal ?_
                      clear hHeld
                      go_wp2_with fail
                      go_roundg (200 - i)
                      case measure => have h1 := HI.out; have h2 := HH2.out; omega
                      case rel => exact ⟨i + 1, c', congrArg (Value.int .i64) (by first | exact HWI.out | exact HWI2.out | rfl | omega), ⟨by have h1 := HI.out; have h2 := HH2.out; omega⟩, HC', T15⟩
                    exact AllReadyH.nil
                  refine AllReadyH.cons (o := ⟨some 87, _, _, _, _, some (33, false)⟩) rfl (fun K hK => ?_) ?_
                  · have z1 : wt14.cell? ⟨gr, 1, none⟩ = some (.int .i64 c'.r) := (blk_cell T14.out.bx0 1).trans rfl
                    have z3 : wt14.cell? ⟨gr, 3, none⟩ = some (.int .i64 c'.b) := (blk_cell T14.out.bx0 3).trans rfl
                    have z4 : wt14.cell? ⟨gr, 4, none⟩ = some (.int .i64 c'.w) := (blk_cell T14.out.bx0 4).trans rfl
                    have z5 : wt14.cell? ⟨gr, 5, none⟩ = some (.int .i64 c'.l) := (blk_cell T14.out.bx0 5).trans rfl
                    go_simp
                    clear z1 z3 z4 z5
                    refine hK.out _ _ (HLC.out _ T14.out.below) (fun hHeld => ?_)
                    clear hK K
                    try simp only [Act.put, List.setIfInBounds_toArray, List.set_cons_zero, List.set_cons_succ]
                    refine wpAnyH_ready (rs := [35]) (by kernel_rfl) (by simp) ?_
                    refine AllReadyH.cons (o := ⟨some 83, _, _, _, _, some (33, false)⟩) rfl (fun K hK => ?_) ?_
                    · go_simp
                      refine (ck_bound c' g _ T14.out.bx1).mono ?_
                      rintro e wt16 ⟨rfl, hb⟩
                      have T16 := Aside0.mk (T14.out.step hb)
                      clear hb
                      refine hK.out _ _ (HLC.out _ T16.out.below) (fun hHeld => ?_)
                      clear hK K
                      try simp only [Act.put, List.setIfInBounds_toArray, List.set_cons_zero, List.set_cons_succ]
                      refine wpAnyH_take (i := 40) (oi := ⟨some 88, _, _, _, _, some (33, false)⟩) (v := ?v98) rfl (by kernel_rfl) (by kernel_rfl) (by kernel_rfl) (fun _ _ _ h => h) (Or.inl ⟨by rfl, ?hy98⟩) (by with_reducible assumption) ?rest98
                      case hy98 => (intro V_ hSw; (try dsimp only at hSw); go_simp; (try with_reducible rfl))
                      case' rest98 => skip
                      try simp only [Act.put, List.setIfInBounds_toArray, List.set_cons_zero, List.set_cons_succ]
                      refine wpAnyH_take (i := 41) (oi := ⟨some 89, _, _, _, _, none⟩) (v := ?v99) rfl (by kernel_rfl) (by kernel_rfl) (by kernel_rfl) (fun _ _ _ h => h) (Or.inl ⟨by rfl, ?hy99⟩) (by with_reducible assumption) ?rest99
                      case hy99 => (intro V_ hSw; (try dsimp only at hSw); go_simp; (try with_reducible rfl))
                      case' rest99 => skip
                      try simp only [Act.put, List.setIfInBounds_toArray, List.set_cons_zero, List.set_cons_succ]
                      refine wpAnyH_done (by kernel_rfl) ?_ _
                      refine NoPanic.normal ?_
                      clear hHeld
                      go_wp2_with fail
                      go_roundg (200 - i)
                      case measure => have h1 := HI.out; have h2 := HH2.out; omega
                      case rel => exact ⟨i + 1, c', congrArg (Value.int .i64) (by first | exact HWI.out | exact HWI2.out | rfl | omega), ⟨by have h1 := HI.out; have h2 := HH2.out; omega⟩, HC', T16⟩
                    exact AllReadyH.nil
                  exact AllReadyH.nil
                exact AllReadyH.nil
              exact AllReadyH.nil
            exact AllReadyH.nil
          exact AllReadyH.nil
        exact AllReadyH.nil
      exact AllReadyH.nil
    exact AllReadyH.nil
def scriptoriumlaw06_ClockPlays.Pure : Prop := ∀ (a0 : Int) (a1 : Int) (a2 : List (S45)), (Lit.int .i64 a0).wf = true → (Lit.int .i64 a1).wf = true → (a2.length ≤ maxLen ∧ a2.length * 32 ≤ 140737488351232 ∧ ∀ y0 ∈ a2, ((Lit.int .i64 y0.f0).wf = true ∧ (Lit.int .i64 y0.f1).wf = true ∧ ((Lit.int .i64 y0.f2.f0).wf = true ∧ (Lit.int .i64 y0.f2.f1).wf = true))) → ∃ k, scriptoriumlaw06_ClockPlays.f k a0 a1 a2 = some true
theorem scriptoriumlaw06_ClockPlays.walk (P : scriptoriumlaw06_ClockPlays.Pure) (a0 : Int) (a1 : Int) (a2 : List (S45)) (A2 : Option Addr) (c2 : Nat) (w : World) (w0 : (Lit.int .i64 a0).wf = true) (w1 : (Lit.int .i64 a1).wf = true) (w2 : (a2.length ≤ maxLen ∧ a2.length * 32 ≤ 140737488351232 ∧ ∀ y0 ∈ a2, ((Lit.int .i64 y0.f0).wf = true ∧ (Lit.int .i64 y0.f1).wf = true ∧ ((Lit.int .i64 y0.f2.f0).wf = true ∧ (Lit.int .i64 y0.f2.f1).wf = true)))) (hr2 : Kd.C k45 w A2 a2.length a2) (hc2 : a2.length ≤ c2) :
  Calls Try.prog 4 #[.int .i64 a0, .int .i64 a1, .slice A2 a2.length c2] w fun e w' => e = .returned (.bool true) ∧ Below w.heap.size w w' := by
  obtain ⟨k, h⟩ := P a0 a1 a2 w0 w1 w2
  refine (scriptoriumlaw06_ClockPlays.calls k a0 a1 A2 c2 a2 true w hr2 hc2 h rfl).mono ?_
  rintro e w' ⟨rfl, hd⟩
  exact ⟨rfl, hd⟩

end Go.Proofs.Ythhgoiabkgfdfaa.PClockRises
