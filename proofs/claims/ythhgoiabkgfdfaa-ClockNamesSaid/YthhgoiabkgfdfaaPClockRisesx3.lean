/- Written by xprint.py, a program of these sessions (over the print of the kit, with leaves typed by hand): one Lean function for each Go function, and the proof that the Go code comes to its answers. -/
import Derived.Test.YthhgoiabkgfdfaaPClockRisesx0
import Derived.Test.YthhgoiabkgfdfaaPClockRisesx1
import Derived.Test.YthhgoiabkgfdfaaPClockRisesx2
namespace Go.Proofs.Ythhgoiabkgfdfaa.PClockRises
open Go.RowKit Go.Proofs.YthhgoiabkgfdfaaW.PrintWords Go.Proofs.YthhgoiabkgfdfaaW.PrintLast Go.Proofs.YthhgoiabkgfdfaaW.PrintMore
attribute [local go_sem] max2_int min2_int max_two min_two max_three min_three max_four min_four   -- for this text's walks alone
attribute [local go_sem] fld_wall fld_logic
set_option linter.unusedVariables false
set_option linter.unusedSimpArgs false

attribute [local go_sem high] eqA33
/-! ### stamp_Max: function 26 (a leaf, by hand) -/
def mcmp (a b : Int) : Int := if a < b then -1 else if a > b then 1 else 0
def cmpS (a b : S33) : Int := if mcmp a.f0 b.f0 = 0 then mcmp a.f1 b.f1 else mcmp a.f0 b.f0
/-- The greatest one, the first of them; of none the first stamp of all. -/
def maxS : List S33 → S33
  | [] => z33
  | x :: t => t.foldl (fun m y => if 0 < cmpS y m then y else m) x
theorem maxS_snoc (l : List S33) (hne : l ≠ []) (y : S33) : maxS (l ++ [y]) = if 0 < cmpS y (maxS l) then y else maxS l := by
  cases l with
  | nil => exact absurd rfl hne
  | cons x t =>
    show List.foldl _ x (t ++ [y]) = _
    rw [List.foldl_append]
    rfl
theorem l_compare (a b : Int) : cmp_Compare_int.f a b = some (mcmp a b) := by
  unfold cmp_Compare_int.f cmp_isNaN_int.f mcmp
  simp only [Option.bind_some, bne_self_eq_false, Bool.false_eq_true, if_false]
  split
  · rfl
  · split <;> rfl
theorem l_or (k : Nat) (x y : Int) (hk : 5 < k) : cmp_Or_int.f k [x, y] = some (if x = 0 then y else x) := by
  obtain ⟨k, rfl⟩ : ∃ j, k = j + 3 := ⟨k - 3, by omega⟩
  have r0 : rd [x, y] 0 = x := rfl
  have r1 : rd [x, y] 1 = y := rfl
  have w0 : wrap64 (0 + 1) = 1 := by unfold wrap64; omega
  have w1 : wrap64 (1 + 1) = 2 := by unfold wrap64; omega
  have l2 : (([x, y] : List Int).length : Int) = 2 := rfl
  unfold cmp_Or_int.f
  rw [l2]
  simp only [cmp_Or_int.l0]
  rw [if_pos (by decide), if_pos (by decide), l2, if_pos (by decide), r0, w0]
  by_cases h : x = 0
  · rw [if_pos h, if_pos h, if_pos (by decide), if_pos (by decide), if_pos (by decide), r1, w1]
    by_cases h2 : y = 0
    · rw [if_pos h2, if_neg (by decide), h2]
    · rw [if_neg h2]
  · rw [if_neg h, if_neg h]
theorem l_cmpS (a b : S33) : stamp_compare.f 20 a.f0 a.f1 b.f0 b.f1 = some (cmpS a b) := by
  unfold stamp_compare.f
  rw [l_compare, l_compare]
  simp only [Option.bind_some]
  rw [l_or 20 _ _ (by omega)]
  rfl
def stamp_Max.f (l0 : List S33) : Option (Int × Int) := some ((maxS l0).f0, (maxS l0).f1)
set_option maxHeartbeats 16000000 in
set_option maxRecDepth 100000 in
theorem maxFunc_calls (A0 : Option Addr) (c0 : Nat) (l0 : List S33) (hne : 0 < l0.length) (w : World) (hr0 : Kd.C k33 w A0 l0.length l0) (hc0 : l0.length ≤ c0) :
    Calls Try.prog 39 #[.slice A0 l0.length c0, .func (.func 38) #[] #[]] w fun e w' => e = .returned (.agg #[.int .i64 (maxS l0).f0, .int .i64 (maxS l0).f1]) ∧ Below w.heap.size w w' := by
  have hu := Try.underlying33
  have HR0 := Aside0.mk hr0
  have HC0 := Aside0.mk hc0
  have HB := Aside0.mk (Below.refl w.heap.size w)
  have HLN := Aside0.mk hr0.2.1
  have HNE := Aside0.mk hne
  have cz : decide ((l0.length : Int) < 1) = false := decide_eq_false (by omega)
  have cz1 : decide (0 < (l0.length : Int)) = true := decide_eq_true (by omega)
  have cz2 : decide (0 < l0.length) = true := decide_eq_true hne
  clear hr0 hc0
  obtain ⟨ad, ead, hx0, hx1⟩ := at_T33 HR0.out 0 (Int.le_refl _) (by omega)
  cases ead
  rw [show ((0 : Int)).toNat = 0 from rfl, show 0 * 2 = 0 from rfl, Addr.add_zero'] at hx0 hx1
  have qi : (0 < l0.length) = True := eq_true hne
  have HX0 := Aside0.mk hx0
  have HX1 := Aside0.mk hx1
  clear hx0 hx1
  go_enter Try.func39, Try.ntmps39
  go_wp2_with (first | ((with_reducible refine gate_dst (N := 4) rfl ?_); refine box_event ?hg (N := 4) ?hd (cs := #[.int .i64 0, .int .i64 0]) (t := 33) ?hr ?_; (case hd => rfl); (case hg => rfl); (case hr => first | (go_simp; done) | (go_simp; rfl)); intro gb1 hg w1 hbox hb; have BK1 := Aside0.mk hbox; have GE1 := Aside0.mk (show w.heap.size ≤ gb1 by rw [hg]; exact below_size HB.out); have HB1 := Aside0.mk (below_step HB.out hb); clear HB hb hbox hg; have hx0 := (HB1.out.cell (World.block_lt_of_cell? w _ HX0.out)).trans HX0.out; have hx1 := (HB1.out.cell (World.block_lt_of_cell? w _ HX1.out)).trans HX1.out) | ((with_reducible refine gate_dst (N := 5) rfl ?_); refine box_event ?hg (N := 5) ?hd (cs := #[.int .i64 0, .int .i64 0]) (t := 33) ?hr ?_; (case hd => rfl); (case hg => rfl); (case hr => first | (go_simp; done) | (go_simp; rfl)); intro gb2 hg w2 hbox hb; have BK2 := Aside0.mk hbox; have GE2 := Aside0.mk (show w.heap.size ≤ gb2 by rw [hg]; exact below_size HB1.out); have NB := Aside0.mk (show gb1 ≠ gb2 by rw [hg]; exact Nat.ne_of_lt (blk_lt BK1.out)); have BK3 := Aside0.mk (blk_below BK1.out hb); have HB2 := Aside0.mk (below_step HB1.out hb); clear BK1 HB1 hb hbox hg; have hcz0 : w2.cell? ⟨gb2, 0, none⟩ = some (.int .i64 0) := (blk_cell BK2.out 0).trans rfl; have hcz1 : w2.cell? ⟨gb2, 1, none⟩ = some (.int .i64 0) := (blk_cell BK2.out 1).trans rfl; have hfz0 := blk_frozen BK2.out 0; have hfz1 := blk_frozen BK2.out 1))
  have HM1 : maxS (l0.take 1) = rd_T33 l0 0 := by
    cases l0 with
    | nil => exact absurd HNE.out (by decide)
    | cons x t => rfl
  go_loopg [6] l0.length (fun kq v6 w' => ∃ (i : Nat), v6 = .int .i64 (i : Int) ∧ Aside0 (kq + i = l0.length + 1 ∧ 1 ≤ i ∧ i ≤ l0.length) ∧ Aside0 (w'.heap[gb1]? = some (.cells #[.int .i64 0, .int .i64 0] 33 (0, 0))) ∧ Aside0 (w'.heap[gb2]? = some (.cells #[.int .i64 (maxS (l0.take i)).f0, .int .i64 (maxS (l0.take i)).f1] 33 (0, 0))) ∧ Aside0 (Below w.heap.size w w'))
  case atStart =>
    refine ⟨1, rfl, ⟨by have := HNE.out; omega⟩, ⟨?_⟩, ⟨?_⟩, ⟨?_⟩⟩
    · (with_reducible repeat (first | refine blk_drewN ?_ _ | refine blk_drew ?_ | refine blk_alloc ?_ _)); refine blk_far ?_ NB.out _; (with_reducible repeat (first | refine blk_drewN ?_ _ | refine blk_drew ?_ | refine blk_alloc ?_ _)); refine blk_far ?_ NB.out _; (with_reducible repeat (first | refine blk_drewN ?_ _ | refine blk_drew ?_ | refine blk_alloc ?_ _)); exact BK3.out
    · rw [HM1]; (with_reducible repeat (first | refine blk_drewN ?_ _ | refine blk_drew ?_ | refine blk_alloc ?_ _)); refine blk_put (cs := #[.int .i64 ((rd_T33 l0 0).f0), .int .i64 0]) ?_ 1 _ rfl; (with_reducible repeat (first | refine blk_drewN ?_ _ | refine blk_drew ?_ | refine blk_alloc ?_ _)); refine blk_put (cs := #[.int .i64 0, .int .i64 0]) ?_ 0 _ rfl; (with_reducible repeat (first | refine blk_drewN ?_ _ | refine blk_drew ?_ | refine blk_alloc ?_ _)); exact BK2.out
    · repeat (first | (with_reducible first | exact HB2.out | apply below_alloc | apply pw_below_drewN | apply below_drew1 | refine below_set ?_ GE1.out | refine below_set ?_ GE2.out) | exact HB2.out)
  case round =>
    clear hx0 hx1 hcz0 hcz1 hfz0 hfz1 HM1 BK2 BK3 HB2 cz cz1 cz2 qi
    obtain ⟨i, rfl, HK, BK1, BK2, HB⟩ := hrel
    cases gk with
    | zero => have := HK.out; omega
    | succ k1 =>
      by_cases hil : i < l0.length
      · have c1 : decide (i < l0.length) = true := decide_eq_true hil
        have p : 0 ≤ (i : Int) := by omega
        have q : (i : Int) < (l0.length : Int) := by omega
        obtain ⟨ad2, e2, hx0, hx1⟩ := at_T33 HR0.out (i : Int) p q
        obtain rfl : ad = ad2 := by injection e2
        have e1 : rd_T33 l0 (i : Int) = l0[i] := by simp [rd_T33, List.getD_eq_getElem?_getD, List.getElem?_eq_getElem hil]
        rw [e1, Int.toNat_natCast] at hx0 hx1
        have hy0 := (HB.out.cell (World.block_lt_of_cell? w _ hx0)).trans hx0
        have hy1 := (HB.out.cell (World.block_lt_of_cell? w _ hx1)).trans hx1
        have HXi := Aside0.mk hx0
        have HYi := Aside0.mk hx1
        clear hx0 hx1 e2
        replace p := eq_true p
        replace q := eq_true q
        obtain ⟨m, hm⟩ : ∃ m, m = maxS (l0.take i) := ⟨_, rfl⟩
        rw [← hm] at BK2
        have HM := Aside0.mk hm
        have HCM := Aside0.mk (l_cmpS (l0[i]) m)
        have hz0 : wr.cell? ⟨gb2, 0, none⟩ = some (.int .i64 m.f0) := (blk_cell BK2.out 0).trans rfl
        have hz1 : wr.cell? ⟨gb2, 1, none⟩ = some (.int .i64 m.f1) := (blk_cell BK2.out 1).trans rfl
        have hd0 : wr.drew.cell? ⟨gb2, 0, none⟩ = some (.int .i64 m.f0) := hz0
        have hd1 : wr.drew.cell? ⟨gb2, 1, none⟩ = some (.int .i64 m.f1) := hz1
        have hv0 : wr.drew.cell? (ad.add (i * 2)) = some (.int .i64 (l0[i]).f0) := hy0
        have hv1 : wr.drew.cell? ⟨(ad.add (i * 2)).block, (ad.add (i * 2)).off + 1, none⟩ = some (.int .i64 (l0[i]).f1) := hy1
        clear hm
        go_wp2_with fail
        go_region_with (go_at_call 38; refine (stamp_compare.calls 20 (l0[i]).f0 (l0[i]).f1 m.f0 m.f1 _ _ HCM.out).mono ?_; rintro e w2 ⟨rfl, hb⟩; have BK3 := Aside0.mk (blk_below (g := gb1) (o := .cells #[.int .i64 0, .int .i64 0] 33 (0, 0)) (blk_drew BK1.out) hb); have BK4 := Aside0.mk (blk_below (g := gb2) (o := .cells #[.int .i64 m.f0, .int .i64 m.f1] 33 (0, 0)) (blk_drew BK2.out) hb); have HB2 := Aside0.mk (below_step (below_drew1 HB.out) hb); clear BK1 BK2 HB hb)
        all_goals
          have hx0 := (HB2.out.cell (World.block_lt_of_cell? w _ HXi.out)).trans HXi.out
          have hx1 := (HB2.out.cell (World.block_lt_of_cell? w _ HYi.out)).trans HYi.out
          have hg0 := (blk_cell BK4.out 0).trans rfl
          have hg1 := (blk_cell BK4.out 1).trans rfl
          have hf0 := blk_frozen BK4.out 0
          have hf1 := blk_frozen BK4.out 1
          have hne : l0.take i ≠ [] := fun e => by
            have h3 : (l0.take i).length = 0 := by rw [e]; rfl
            rw [List.length_take] at h3
            have h2 := HK.out
            omega
          have hsn := maxS_snoc (l0.take i) hne (l0[i])
          rw [← List.take_succ_eq_append_getElem hil, ← HM.out] at hsn
          have hwi : wrap64 ((i : Int) + 1) = ((i + 1 : Nat) : Int) := by have := HLN.out; unfold wrap64; omega
          by_cases c : 0 < cmpS (l0[i]) m
          · have cb : decide (0 < cmpS (l0[i]) m) = true := decide_eq_true c
            rw [if_pos c] at hsn
            have HS := Aside0.mk hsn
            have HW := Aside0.mk hwi
            clear hsn hwi hne
            go_wp2
            all_goals try (exfalso; omega)
            go_roundg k1
            case measure => omega
            case rel =>
              refine ⟨i + 1, by rw [HW.out], ⟨by have := HK.out; omega⟩, ⟨?_⟩, ⟨?_⟩, ⟨?_⟩⟩
              · (with_reducible repeat (first | refine blk_drewN ?_ _ | refine blk_drew ?_ | refine blk_alloc ?_ _)); refine blk_far ?_ NB.out _; (with_reducible repeat (first | refine blk_drewN ?_ _ | refine blk_drew ?_ | refine blk_alloc ?_ _)); refine blk_far ?_ NB.out _; (with_reducible repeat (first | refine blk_drewN ?_ _ | refine blk_drew ?_ | refine blk_alloc ?_ _)); exact BK3.out
              · rw [HS.out]; (with_reducible repeat (first | refine blk_drewN ?_ _ | refine blk_drew ?_ | refine blk_alloc ?_ _)); refine blk_put (cs := #[.int .i64 (l0[i]).f0, .int .i64 m.f1]) ?_ 1 _ rfl; (with_reducible repeat (first | refine blk_drewN ?_ _ | refine blk_drew ?_ | refine blk_alloc ?_ _)); refine blk_put (cs := #[.int .i64 m.f0, .int .i64 m.f1]) ?_ 0 _ rfl; (with_reducible repeat (first | refine blk_drewN ?_ _ | refine blk_drew ?_ | refine blk_alloc ?_ _)); exact BK4.out
              · repeat (first | (with_reducible first | exact HB2.out | apply below_alloc | apply pw_below_drewN | apply below_drew1 | refine below_set ?_ GE1.out | refine below_set ?_ GE2.out) | exact HB2.out)
          · have cb : decide (0 < cmpS (l0[i]) m) = false := decide_eq_false c
            rw [if_neg c] at hsn
            have HS := Aside0.mk hsn
            have HW := Aside0.mk hwi
            clear hsn hwi hne
            go_wp2
            all_goals try (exfalso; omega)
            go_roundg k1
            case measure => omega
            case rel =>
              refine ⟨i + 1, by rw [HW.out], ⟨by have := HK.out; omega⟩, ⟨?_⟩, ⟨?_⟩, ⟨?_⟩⟩
              · (with_reducible repeat (first | refine blk_drewN ?_ _ | refine blk_drew ?_ | refine blk_alloc ?_ _)); exact BK3.out
              · rw [HS.out]; (with_reducible repeat (first | refine blk_drewN ?_ _ | refine blk_drew ?_ | refine blk_alloc ?_ _)); exact BK4.out
              · repeat (first | (with_reducible first | exact HB2.out | apply below_alloc | apply pw_below_drewN | apply below_drew1) | exact HB2.out)
      · have hi : i = l0.length := by have := HK.out; omega
        subst hi
        have c1 : decide (l0.length < l0.length) = false := by simp
        rw [List.take_length] at BK2
        have hz0 : wr.cell? ⟨gb2, 0, none⟩ = some (.int .i64 (maxS l0).f0) := (blk_cell BK2.out 0).trans rfl
        have hz1 : wr.cell? ⟨gb2, 1, none⟩ = some (.int .i64 (maxS l0).f1) := (blk_cell BK2.out 1).trans rfl
        have hz2 : wr.cell? ⟨gb1, 0, none⟩ = some (.int .i64 0) := (blk_cell BK1.out 0).trans rfl
        have hz3 : wr.cell? ⟨gb1, 1, none⟩ = some (.int .i64 0) := (blk_cell BK1.out 1).trans rfl
        have hf0 := blk_frozen BK1.out 0
        have hf1 := blk_frozen BK1.out 1
        go_wp2
        refine bodyPost_ret (results_cell_row rfl _ _ gb1 33 #[.int .i64 (maxS l0).f0, .int .i64 (maxS l0).f1] (0, 0) _ rfl (by (with_reducible repeat (first | refine blk_drewN ?_ _ | refine blk_drew ?_ | refine blk_alloc ?_ _)); refine blk_put (cs := #[.int .i64 (maxS l0).f0, .int .i64 0]) ?_ 1 _ rfl; (with_reducible repeat (first | refine blk_drewN ?_ _ | refine blk_drew ?_ | refine blk_alloc ?_ _)); refine blk_put (cs := #[.int .i64 0, .int .i64 0]) ?_ 0 _ rfl; (with_reducible repeat (first | refine blk_drewN ?_ _ | refine blk_drew ?_ | refine blk_alloc ?_ _)); exact BK1.out) Try.underlying33 rfl (by kernel_rfl)) rfl ?_
        exact ⟨rfl, by repeat (first | (with_reducible first | exact HB.out | apply below_alloc | apply pw_below_drewN | apply below_drew1 | refine below_set ?_ GE1.out | refine below_set ?_ GE2.out) | exact HB.out)⟩
set_option maxHeartbeats 8000000 in
set_option maxRecDepth 100000 in
theorem stamp_Max.calls (A0 : Option Addr) (c0 : Nat) (l0 : List S33) (r1 : Int) (r2 : Int) (w : World) (hr0 : Kd.C k33 w A0 l0.length l0) (hc0 : l0.length ≤ c0) (h : stamp_Max.f l0 = some (r1, r2)) :
    Calls Try.prog 26 #[.slice A0 l0.length c0] w fun e w' => e = .returned (.agg #[.int .i64 r1, .int .i64 r2]) ∧ Below w.heap.size w w' := by
  have hu := Try.underlying33
  unfold stamp_Max.f at h
  simp only [Option.some.injEq, Prod.mk.injEq] at h
  obtain ⟨rfl, rfl⟩ := h
  have HR0 := Aside0.mk hr0
  have HC0 := Aside0.mk hc0
  have HB := Aside0.mk (Below.refl w.heap.size w)
  clear hr0 hc0
  by_cases h0 : l0.length = 0
  · obtain rfl : l0 = [] := List.length_eq_zero_iff.1 h0
    go_enter Try.func26, Try.ntmps26
    go_wp2_with (first | ((with_reducible refine gate_dst (N := 2) rfl ?_); refine box_event ?hg (N := 2) ?hd (cs := #[.int .i64 0, .int .i64 0]) (t := 33) ?hr ?_; (case hd => rfl); (case hg => rfl); (case hr => first | (go_simp; done) | (go_simp; rfl)); intro gb1 hg w1 hbox hb; have BK1 := Aside0.mk hbox; have GE1 := Aside0.mk (show w.heap.size ≤ gb1 by rw [hg]; exact below_size HB.out); have HB1 := Aside0.mk (below_step HB.out hb); clear HB hb hbox hg; have hcz0 : w1.cell? ⟨gb1, 0, none⟩ = some (.int .i64 0) := (blk_cell BK1.out 0).trans rfl; have hcz1 : w1.cell? ⟨gb1, 1, none⟩ = some (.int .i64 0) := (blk_cell BK1.out 1).trans rfl; have hfz0 := blk_frozen BK1.out 0; have hfz1 := blk_frozen BK1.out 1))
    refine bodyPost_ret (results_cell_row rfl _ _ gb1 33 #[.int .i64 0, .int .i64 0] (0, 0) _ rfl (by (with_reducible repeat (first | refine blk_drewN ?_ _ | refine blk_drew ?_ | refine blk_alloc ?_ _)); refine blk_put (cs := #[.int .i64 0, .int .i64 0]) ?_ 1 _ rfl; (with_reducible repeat (first | refine blk_drewN ?_ _ | refine blk_drew ?_ | refine blk_alloc ?_ _)); refine blk_put (cs := #[.int .i64 0, .int .i64 0]) ?_ 0 _ rfl; (with_reducible repeat (first | refine blk_drewN ?_ _ | refine blk_drew ?_ | refine blk_alloc ?_ _)); exact BK1.out) Try.underlying33 rfl (by kernel_rfl)) rfl ?_
    exact ⟨rfl, by repeat (first | (with_reducible first | exact HB1.out | apply below_alloc | apply pw_below_drewN | apply below_drew1 | refine below_set ?_ GE1.out) | exact HB1.out)⟩
  · have hz : ((l0.length : Int) == 0) = false := beq_eq_false_iff_ne.mpr (by omega)
    have hz2 : ¬ (l0 = []) := fun e => h0 (by rw [e]; rfl)
    have hpos : 0 < l0.length := by omega
    have HP := Aside0.mk hpos
    clear h0
    go_enter Try.func26, Try.ntmps26
    go_wp2_with (first | (go_at_call 39; refine (maxFunc_calls A0 c0 l0 HP.out _ ?s1 HC0.out).mono ?_; (case s1 => exact Kd.C_below HR0.out HB1.out); rintro e w2 ⟨rfl, hb⟩; have BK2 := Aside0.mk (blk_below (g := gb1) (o := .cells #[.int .i64 0, .int .i64 0] 33 (0, 0)) BK1.out hb); have HB2 := Aside0.mk (below_step HB1.out hb); clear BK1 HB1 hb; have hcz0 : w2.cell? ⟨gb1, 0, none⟩ = some (.int .i64 0) := (blk_cell BK2.out 0).trans rfl; have hcz1 : w2.cell? ⟨gb1, 1, none⟩ = some (.int .i64 0) := (blk_cell BK2.out 1).trans rfl; have hfz0 := blk_frozen BK2.out 0; have hfz1 := blk_frozen BK2.out 1) | ((with_reducible refine gate_dst (N := 2) rfl ?_); refine box_event ?hg (N := 2) ?hd (cs := #[.int .i64 0, .int .i64 0]) (t := 33) ?hr ?_; (case hd => rfl); (case hg => rfl); (case hr => first | (go_simp; done) | (go_simp; rfl)); intro gb1 hg w1 hbox hb; have BK1 := Aside0.mk hbox; have GE1 := Aside0.mk (show w.heap.size ≤ gb1 by rw [hg]; exact below_size HB.out); have HB1 := Aside0.mk (below_step HB.out hb); clear HB hb hbox hg))
    refine bodyPost_ret (results_cell_row rfl _ _ gb1 33 #[.int .i64 (maxS l0).f0, .int .i64 (maxS l0).f1] (0, 0) _ rfl (by (with_reducible repeat (first | refine blk_drewN ?_ _ | refine blk_drew ?_ | refine blk_alloc ?_ _)); refine blk_put (cs := #[.int .i64 (maxS l0).f0, .int .i64 0]) ?_ 1 _ rfl; (with_reducible repeat (first | refine blk_drewN ?_ _ | refine blk_drew ?_ | refine blk_alloc ?_ _)); refine blk_put (cs := #[.int .i64 0, .int .i64 0]) ?_ 0 _ rfl; (with_reducible repeat (first | refine blk_drewN ?_ _ | refine blk_drew ?_ | refine blk_alloc ?_ _)); exact BK2.out) Try.underlying33 rfl (by kernel_rfl)) rfl ?_
    exact ⟨rfl, by repeat (first | (with_reducible first | exact HB2.out | apply below_alloc | apply pw_below_drewN | apply below_drew1 | refine below_set ?_ GE1.out) | exact HB2.out)⟩

/-! ### stamp_Next: function 31 -/
def stamp_Next.f (a0_0 : Int) (a0_1 : Int) : Option (Int × Int × Int) := (stamp_Check.f a0_0 a0_1).bind fun t118 => (if t118 = 0 then (if (a0_0 == 1099511627776 && (a0_1 == 1048575)) = true then (some (0, 0, 5)) else (if a0_1 = 1048575 then (some (wrap64 (a0_0 + 1), 0, 0)) else (some (a0_0, wrap64 (a0_1 + 1), 0)))) else (some (0, 0, t118)))
set_option maxHeartbeats 8000000 in
set_option maxRecDepth 100000 in
theorem stamp_Next.calls (a0_0 : Int) (a0_1 : Int) (r1 : Int) (r2 : Int) (r3 : Int) (w : World) (h : stamp_Next.f a0_0 a0_1 = some (r1, r2, r3)) :
    Calls Try.prog 31 #[.agg #[.int .i64 a0_0, .int .i64 a0_1]] w fun e w' => e = .returned (.tuple #[.agg #[.int .i64 r1, .int .i64 r2], .int .i64 r3]) ∧ Below w.heap.size w w' := by
  have hu33 := Try.underlying33
  have HB := Aside0.mk (Below.refl w.heap.size w)
  have H : ((stamp_Check.f a0_0 a0_1).bind fun t118 => (if t118 = 0 then (if (a0_0 == 1099511627776 && (a0_1 == 1048575)) = true then (some (0, 0, 5)) else (if a0_1 = 1048575 then (some (wrap64 (a0_0 + 1), 0, 0)) else (some (a0_0, wrap64 (a0_1 + 1), 0)))) else (some (0, 0, t118)))) = some (r1, r2, r3) := h
  clear h
  replace H := Option.bind_eq_some_iff.mp H
  obtain ⟨t118, A20, H⟩ := H
  replace H : (if t118 = 0 then (if (a0_0 == 1099511627776 && (a0_1 == 1048575)) = true then (some (0, 0, 5)) else (if a0_1 = 1048575 then (some (wrap64 (a0_0 + 1), 0, 0)) else (some (a0_0, wrap64 (a0_1 + 1), 0)))) else (some (0, 0, t118))) = some (r1, r2, r3) := H
  have A2 := Aside0.mk A20
  clear A20
  by_cases c3 : t118 = 0
  · rw [if_pos c3] at H
    have c3b0 : (t118 == 0) = true := beq_iff_eq.mpr c3
    have c3b1 : (t118 != 0) = false := bne_eq_false_iff_eq.mpr c3
    clear c3
    by_cases c4 : (a0_0 == 1099511627776 && (a0_1 == 1048575)) = true
    · rw [if_pos c4] at H
      have c4b0 : (a0_0 == 1099511627776 && (a0_1 == 1048575)) = true := c4
      (try (have c4b1 : decide (a0_0 = 1099511627776 && (a0_1 == 1048575)) = true := by simpa using c4))
      (try (have c4b2 : (a0_0 == 1099511627776 && (a0_1 == 1048575)) = true := by simpa using c4))
      clear c4
      simp only [Option.some.injEq, Prod.mk.injEq] at H
      obtain ⟨rfl, rfl, rfl⟩ := H
      go_enter Try.func31, Try.ntmps31
      go_wp2_with (first | ((with_reducible refine gate_dst (N := 1) rfl ?_); refine box_event ?hg (N := 1) ?hd (cs := #[.int .i64 a0_0, .int .i64 a0_1]) (t := 33) ?hr ?_; (case hd => rfl); (case hg => rfl); (case hr => first | (go_simp; done) | (go_simp; rfl)); intro gb116 hg w5 hbox hb; have n0_ := Aside0.mk (below_step (by repeat (first | (with_reducible first | exact HB.out | apply below_alloc | apply pw_below_drewN | apply below_drew1) | exact HB.out)) hb); have n1_ := Aside0.mk (hbox); have n2_ := Aside0.mk ((by rw [hg]; exact (below_size (by repeat (first | (with_reducible first | exact HB.out | apply below_alloc | apply pw_below_drewN | apply below_drew1) | exact HB.out))) : w.heap.size ≤ gb116)); have n3_ := Aside0.mk ((by rw [hg]; exact (below_size (by repeat (first | (with_reducible first | exact HB.out | apply below_alloc | apply pw_below_drewN | apply below_drew1) | exact HB.out))) : w.heap.size ≤ gb116)); clear HB; have HB := n0_; have BK116 := n1_; have GW116 := n2_; have GE116 := n3_; clear n0_ n1_ n2_ n3_; clear hb hbox hg) | ((with_reducible refine gate_dst (N := 2) rfl ?_); refine box_event ?hg (N := 2) ?hd (cs := #[.int .i64 0, .int .i64 0]) (t := 33) ?hr ?_; (case hd => rfl); (case hg => rfl); (case hr => first | (go_simp; done) | (go_simp; rfl)); intro gb117 hg w6 hbox hb; have n0_ := Aside0.mk (blk_below (g := gb116) (o := .cells #[.int .i64 a0_0, .int .i64 a0_1] 33 (0, 0)) (by (with_reducible repeat (first | refine blk_drewN ?_ _ | refine blk_drew ?_ | refine blk_alloc ?_ _)); exact BK116.out) hb); have n1_ := Aside0.mk (below_step (by repeat (first | (with_reducible first | exact HB.out | apply below_alloc | apply pw_below_drewN | apply below_drew1 | refine below_set ?_ GE116.out) | exact HB.out)) hb); have n2_ := Aside0.mk (hbox); have n3_ := Aside0.mk ((by rw [hg]; exact (below_size (by repeat (first | (with_reducible first | exact HB.out | apply below_alloc | apply pw_below_drewN | apply below_drew1 | refine below_set ?_ GE116.out) | exact HB.out))) : w.heap.size ≤ gb117)); have n4_ := Aside0.mk ((by rw [hg]; exact (below_size (by repeat (first | (with_reducible first | exact HB.out | apply below_alloc | apply pw_below_drewN | apply below_drew1 | refine below_set ?_ GE116.out) | exact HB.out))) : w.heap.size ≤ gb117)); have n5_ := Aside0.mk ((by rw [hg]; exact Nat.ne_of_lt (blk_lt (g := gb116) (o := .cells #[.int .i64 a0_0, .int .i64 a0_1] 33 (0, 0)) (by (with_reducible repeat (first | refine blk_drewN ?_ _ | refine blk_drew ?_ | refine blk_alloc ?_ _)); exact BK116.out)) : gb116 ≠ gb117)); have n6_ := Aside0.mk ((by rw [hg]; exact Nat.ne_of_gt (blk_lt (g := gb116) (o := .cells #[.int .i64 a0_0, .int .i64 a0_1] 33 (0, 0)) (by (with_reducible repeat (first | refine blk_drewN ?_ _ | refine blk_drew ?_ | refine blk_alloc ?_ _)); exact BK116.out)) : gb117 ≠ gb116)); clear BK116; clear HB; have BK116 := n0_; have HB := n1_; have BK117 := n2_; have GW117 := n3_; have GE117 := n4_; have NB116_117 := n5_; have NB117_116 := n6_; clear n0_ n1_ n2_ n3_ n4_ n5_ n6_; clear hb hbox hg; have hnb7 := NB116_117.out; have hnc7 := NB117_116.out; have hcz8_0 : w6.cell? ⟨gb116, 0, none⟩ = some (.int .i64 a0_0) := (blk_cell BK116.out 0).trans rfl; have hcz8_1 : w6.cell? ⟨gb116, 1, none⟩ = some (.int .i64 a0_1) := (blk_cell BK116.out 1).trans rfl; have hfz8_0 := blk_frozen BK116.out 0; have hfz8_1 := blk_frozen BK116.out 1) | ((with_reducible refine gate_callee (f := 32) rfl ?_); refine goesL_ (some 6) rfl rfl Try.func32 (by kernel_rfl) rfl #[.agg #[.int .i64 a0_0, .int .i64 a0_1]] rfl (by (try simp only [List.map_toArray, List.map_cons, List.map_nil]); first | done | rfl | (simp only [List.length_drop, List.length_take]; rfl)) ?_; (with_reducible refine (stamp_Check.calls a0_0 a0_1 t118 _ A2.out).mono ?_); rintro e w9 ⟨rfl, hb⟩; refine ⟨_, rfl, ?_⟩; have n0_ := Aside0.mk (blk_below (g := gb116) (o := .cells #[.int .i64 a0_0, .int .i64 a0_1] 33 (0, 0)) (by (with_reducible repeat (first | refine blk_drewN ?_ _ | refine blk_drew ?_ | refine blk_alloc ?_ _)); exact BK116.out) hb); have n1_ := Aside0.mk (blk_below (g := gb117) (o := .cells #[.int .i64 0, .int .i64 0] 33 (0, 0)) (by (with_reducible repeat (first | refine blk_drewN ?_ _ | refine blk_drew ?_ | refine blk_alloc ?_ _)); exact BK117.out) hb); have n2_ := Aside0.mk (below_step (by repeat (first | (with_reducible first | exact HB.out | apply below_alloc | apply pw_below_drewN | apply below_drew1 | refine below_set ?_ GE116.out | refine below_set ?_ GE117.out) | exact HB.out)) hb); clear BK116; clear BK117; clear HB; have BK116 := n0_; have BK117 := n1_; have HB := n2_; clear n0_ n1_ n2_; (try clear hb); (try clear hb2); (try clear hk); (try clear hi); (try clear hgn); have hcz10_0 : w9.cell? ⟨gb116, 0, none⟩ = some (.int .i64 a0_0) := (blk_cell BK116.out 0).trans rfl; have hcz10_1 : w9.cell? ⟨gb116, 1, none⟩ = some (.int .i64 a0_1) := (blk_cell BK116.out 1).trans rfl; have hfz10_0 := blk_frozen BK116.out 0; have hfz10_1 := blk_frozen BK116.out 1; have hcz11_0 : w9.cell? ⟨gb117, 0, none⟩ = some (.int .i64 0) := (blk_cell BK117.out 0).trans rfl; have hcz11_1 : w9.cell? ⟨gb117, 1, none⟩ = some (.int .i64 0) := (blk_cell BK117.out 1).trans rfl; have hfz11_0 := blk_frozen BK117.out 0; have hfz11_1 := blk_frozen BK117.out 1))
      refine bodyPost_ret (results_ct rfl _ _ gb117 33 #[.int .i64 0, .int .i64 0] (0, 0) _ rfl (by (with_reducible repeat (first | refine blk_drewN ?_ _ | refine blk_drew ?_ | refine blk_alloc ?_ _)); refine blk_put (cs := #[.int .i64 0, .int .i64 0]) ?_ 1 _ rfl; (with_reducible repeat (first | refine blk_drewN ?_ _ | refine blk_drew ?_ | refine blk_alloc ?_ _)); refine blk_put (cs := #[.int .i64 0, .int .i64 0]) ?_ 0 _ rfl; (with_reducible repeat (first | refine blk_drewN ?_ _ | refine blk_drew ?_ | refine blk_alloc ?_ _)); exact BK117.out) Try.underlying33 rfl (by kernel_rfl)) rfl ?_
      exact ⟨by first | rfl | (simp [errW_none, errW_some] <;> rfl) | (simp [*, errW_none, errW_some] <;> rfl), by repeat (first | (with_reducible first | exact HB.out | apply below_alloc | apply pw_below_drewN | apply below_drew1 | refine below_set ?_ GE116.out | refine below_set ?_ GE117.out) | exact HB.out)⟩
    · rw [if_neg c4] at H
      have c4b0 : (a0_0 == 1099511627776 && (a0_1 == 1048575)) = false := by simpa using c4
      (try (have c4b1 : decide (a0_0 = 1099511627776 && (a0_1 == 1048575)) = false := by simpa using c4))
      (try (have c4b2 : (a0_0 == 1099511627776 && (a0_1 == 1048575)) = false := by simpa using c4))
      (try (have c4b3 : ¬ (a0_0 = 1099511627776 && (a0_1 == 1048575)) := by simpa using c4))
      clear c4
      by_cases c12 : a0_1 = 1048575
      · rw [if_pos c12] at H
        have c12b0 : (a0_1 == 1048575) = true := beq_iff_eq.mpr c12
        have hx_c4b0_c12 : (a0_0 == 1099511627776) = false := by have q_ := c4b0; rw [c12b0] at q_; simpa using q_
        have hx_c4b0_c12d : ¬ a0_0 = 1099511627776 := by simpa using hx_c4b0_c12
        have hx_c4b0_c12e : decide (a0_0 = 1099511627776) = false := decide_eq_false hx_c4b0_c12d
        have c12b1 : (a0_1 != 1048575) = false := bne_eq_false_iff_eq.mpr c12
        clear c12
        simp only [Option.some.injEq, Prod.mk.injEq] at H
        obtain ⟨rfl, rfl, rfl⟩ := H
        go_enter Try.func31, Try.ntmps31
        go_wp2_with (first | ((with_reducible refine gate_dst (N := 1) rfl ?_); refine box_event ?hg (N := 1) ?hd (cs := #[.int .i64 a0_0, .int .i64 a0_1]) (t := 33) ?hr ?_; (case hd => rfl); (case hg => rfl); (case hr => first | (go_simp; done) | (go_simp; rfl)); intro gb116 hg w13 hbox hb; have n0_ := Aside0.mk (below_step (by repeat (first | (with_reducible first | exact HB.out | apply below_alloc | apply pw_below_drewN | apply below_drew1) | exact HB.out)) hb); have n1_ := Aside0.mk (hbox); have n2_ := Aside0.mk ((by rw [hg]; exact (below_size (by repeat (first | (with_reducible first | exact HB.out | apply below_alloc | apply pw_below_drewN | apply below_drew1) | exact HB.out))) : w.heap.size ≤ gb116)); have n3_ := Aside0.mk ((by rw [hg]; exact (below_size (by repeat (first | (with_reducible first | exact HB.out | apply below_alloc | apply pw_below_drewN | apply below_drew1) | exact HB.out))) : w.heap.size ≤ gb116)); clear HB; have HB := n0_; have BK116 := n1_; have GW116 := n2_; have GE116 := n3_; clear n0_ n1_ n2_ n3_; clear hb hbox hg) | ((with_reducible refine gate_dst (N := 2) rfl ?_); refine box_event ?hg (N := 2) ?hd (cs := #[.int .i64 0, .int .i64 0]) (t := 33) ?hr ?_; (case hd => rfl); (case hg => rfl); (case hr => first | (go_simp; done) | (go_simp; rfl)); intro gb117 hg w14 hbox hb; have n0_ := Aside0.mk (blk_below (g := gb116) (o := .cells #[.int .i64 a0_0, .int .i64 a0_1] 33 (0, 0)) (by (with_reducible repeat (first | refine blk_drewN ?_ _ | refine blk_drew ?_ | refine blk_alloc ?_ _)); exact BK116.out) hb); have n1_ := Aside0.mk (below_step (by repeat (first | (with_reducible first | exact HB.out | apply below_alloc | apply pw_below_drewN | apply below_drew1 | refine below_set ?_ GE116.out) | exact HB.out)) hb); have n2_ := Aside0.mk (hbox); have n3_ := Aside0.mk ((by rw [hg]; exact (below_size (by repeat (first | (with_reducible first | exact HB.out | apply below_alloc | apply pw_below_drewN | apply below_drew1 | refine below_set ?_ GE116.out) | exact HB.out))) : w.heap.size ≤ gb117)); have n4_ := Aside0.mk ((by rw [hg]; exact (below_size (by repeat (first | (with_reducible first | exact HB.out | apply below_alloc | apply pw_below_drewN | apply below_drew1 | refine below_set ?_ GE116.out) | exact HB.out))) : w.heap.size ≤ gb117)); have n5_ := Aside0.mk ((by rw [hg]; exact Nat.ne_of_lt (blk_lt (g := gb116) (o := .cells #[.int .i64 a0_0, .int .i64 a0_1] 33 (0, 0)) (by (with_reducible repeat (first | refine blk_drewN ?_ _ | refine blk_drew ?_ | refine blk_alloc ?_ _)); exact BK116.out)) : gb116 ≠ gb117)); have n6_ := Aside0.mk ((by rw [hg]; exact Nat.ne_of_gt (blk_lt (g := gb116) (o := .cells #[.int .i64 a0_0, .int .i64 a0_1] 33 (0, 0)) (by (with_reducible repeat (first | refine blk_drewN ?_ _ | refine blk_drew ?_ | refine blk_alloc ?_ _)); exact BK116.out)) : gb117 ≠ gb116)); clear BK116; clear HB; have BK116 := n0_; have HB := n1_; have BK117 := n2_; have GW117 := n3_; have GE117 := n4_; have NB116_117 := n5_; have NB117_116 := n6_; clear n0_ n1_ n2_ n3_ n4_ n5_ n6_; clear hb hbox hg; have hnb15 := NB116_117.out; have hnc15 := NB117_116.out; have hcz16_0 : w14.cell? ⟨gb116, 0, none⟩ = some (.int .i64 a0_0) := (blk_cell BK116.out 0).trans rfl; have hcz16_1 : w14.cell? ⟨gb116, 1, none⟩ = some (.int .i64 a0_1) := (blk_cell BK116.out 1).trans rfl; have hfz16_0 := blk_frozen BK116.out 0; have hfz16_1 := blk_frozen BK116.out 1) | ((with_reducible refine gate_callee (f := 32) rfl ?_); refine goesL_ (some 6) rfl rfl Try.func32 (by kernel_rfl) rfl #[.agg #[.int .i64 a0_0, .int .i64 a0_1]] rfl (by (try simp only [List.map_toArray, List.map_cons, List.map_nil]); first | done | rfl | (simp only [List.length_drop, List.length_take]; rfl)) ?_; (with_reducible refine (stamp_Check.calls a0_0 a0_1 t118 _ A2.out).mono ?_); rintro e w17 ⟨rfl, hb⟩; refine ⟨_, rfl, ?_⟩; have n0_ := Aside0.mk (blk_below (g := gb116) (o := .cells #[.int .i64 a0_0, .int .i64 a0_1] 33 (0, 0)) (by (with_reducible repeat (first | refine blk_drewN ?_ _ | refine blk_drew ?_ | refine blk_alloc ?_ _)); exact BK116.out) hb); have n1_ := Aside0.mk (blk_below (g := gb117) (o := .cells #[.int .i64 0, .int .i64 0] 33 (0, 0)) (by (with_reducible repeat (first | refine blk_drewN ?_ _ | refine blk_drew ?_ | refine blk_alloc ?_ _)); exact BK117.out) hb); have n2_ := Aside0.mk (below_step (by repeat (first | (with_reducible first | exact HB.out | apply below_alloc | apply pw_below_drewN | apply below_drew1 | refine below_set ?_ GE116.out | refine below_set ?_ GE117.out) | exact HB.out)) hb); clear BK116; clear BK117; clear HB; have BK116 := n0_; have BK117 := n1_; have HB := n2_; clear n0_ n1_ n2_; (try clear hb); (try clear hb2); (try clear hk); (try clear hi); (try clear hgn); have hcz18_0 : w17.cell? ⟨gb116, 0, none⟩ = some (.int .i64 a0_0) := (blk_cell BK116.out 0).trans rfl; have hcz18_1 : w17.cell? ⟨gb116, 1, none⟩ = some (.int .i64 a0_1) := (blk_cell BK116.out 1).trans rfl; have hfz18_0 := blk_frozen BK116.out 0; have hfz18_1 := blk_frozen BK116.out 1; have hcz19_0 : w17.cell? ⟨gb117, 0, none⟩ = some (.int .i64 0) := (blk_cell BK117.out 0).trans rfl; have hcz19_1 : w17.cell? ⟨gb117, 1, none⟩ = some (.int .i64 0) := (blk_cell BK117.out 1).trans rfl; have hfz19_0 := blk_frozen BK117.out 0; have hfz19_1 := blk_frozen BK117.out 1))
        refine bodyPost_ret (results_ct rfl _ _ gb117 33 #[.int .i64 (wrap64 (a0_0 + 1)), .int .i64 0] (0, 0) _ rfl (by (with_reducible repeat (first | refine blk_drewN ?_ _ | refine blk_drew ?_ | refine blk_alloc ?_ _)); refine blk_put (cs := #[.int .i64 (wrap64 (a0_0 + 1)), .int .i64 0]) ?_ 1 _ rfl; (with_reducible repeat (first | refine blk_drewN ?_ _ | refine blk_drew ?_ | refine blk_alloc ?_ _)); refine blk_put (cs := #[.int .i64 0, .int .i64 0]) ?_ 0 _ rfl; (with_reducible repeat (first | refine blk_drewN ?_ _ | refine blk_drew ?_ | refine blk_alloc ?_ _)); exact BK117.out) Try.underlying33 rfl (by kernel_rfl)) rfl ?_
        exact ⟨by first | rfl | (simp [errW_none, errW_some] <;> rfl) | (simp [*, errW_none, errW_some] <;> rfl), by repeat (first | (with_reducible first | exact HB.out | apply below_alloc | apply pw_below_drewN | apply below_drew1 | refine below_set ?_ GE116.out | refine below_set ?_ GE117.out) | exact HB.out)⟩
      · rw [if_neg c12] at H
        have c12b0 : (a0_1 == 1048575) = false := beq_eq_false_iff_ne.mpr c12
        have c12b1 : (a0_1 != 1048575) = true := bne_iff_ne.mpr c12
        simp only [Option.some.injEq, Prod.mk.injEq] at H
        obtain ⟨rfl, rfl, rfl⟩ := H
        go_enter Try.func31, Try.ntmps31
        go_wp2_with (first | ((with_reducible refine gate_dst (N := 1) rfl ?_); refine box_event ?hg (N := 1) ?hd (cs := #[.int .i64 a0_0, .int .i64 a0_1]) (t := 33) ?hr ?_; (case hd => rfl); (case hg => rfl); (case hr => first | (go_simp; done) | (go_simp; rfl)); intro gb116 hg w20 hbox hb; have n0_ := Aside0.mk (below_step (by repeat (first | (with_reducible first | exact HB.out | apply below_alloc | apply pw_below_drewN | apply below_drew1) | exact HB.out)) hb); have n1_ := Aside0.mk (hbox); have n2_ := Aside0.mk ((by rw [hg]; exact (below_size (by repeat (first | (with_reducible first | exact HB.out | apply below_alloc | apply pw_below_drewN | apply below_drew1) | exact HB.out))) : w.heap.size ≤ gb116)); have n3_ := Aside0.mk ((by rw [hg]; exact (below_size (by repeat (first | (with_reducible first | exact HB.out | apply below_alloc | apply pw_below_drewN | apply below_drew1) | exact HB.out))) : w.heap.size ≤ gb116)); clear HB; have HB := n0_; have BK116 := n1_; have GW116 := n2_; have GE116 := n3_; clear n0_ n1_ n2_ n3_; clear hb hbox hg) | ((with_reducible refine gate_dst (N := 2) rfl ?_); refine box_event ?hg (N := 2) ?hd (cs := #[.int .i64 0, .int .i64 0]) (t := 33) ?hr ?_; (case hd => rfl); (case hg => rfl); (case hr => first | (go_simp; done) | (go_simp; rfl)); intro gb117 hg w21 hbox hb; have n0_ := Aside0.mk (blk_below (g := gb116) (o := .cells #[.int .i64 a0_0, .int .i64 a0_1] 33 (0, 0)) (by (with_reducible repeat (first | refine blk_drewN ?_ _ | refine blk_drew ?_ | refine blk_alloc ?_ _)); exact BK116.out) hb); have n1_ := Aside0.mk (below_step (by repeat (first | (with_reducible first | exact HB.out | apply below_alloc | apply pw_below_drewN | apply below_drew1 | refine below_set ?_ GE116.out) | exact HB.out)) hb); have n2_ := Aside0.mk (hbox); have n3_ := Aside0.mk ((by rw [hg]; exact (below_size (by repeat (first | (with_reducible first | exact HB.out | apply below_alloc | apply pw_below_drewN | apply below_drew1 | refine below_set ?_ GE116.out) | exact HB.out))) : w.heap.size ≤ gb117)); have n4_ := Aside0.mk ((by rw [hg]; exact (below_size (by repeat (first | (with_reducible first | exact HB.out | apply below_alloc | apply pw_below_drewN | apply below_drew1 | refine below_set ?_ GE116.out) | exact HB.out))) : w.heap.size ≤ gb117)); have n5_ := Aside0.mk ((by rw [hg]; exact Nat.ne_of_lt (blk_lt (g := gb116) (o := .cells #[.int .i64 a0_0, .int .i64 a0_1] 33 (0, 0)) (by (with_reducible repeat (first | refine blk_drewN ?_ _ | refine blk_drew ?_ | refine blk_alloc ?_ _)); exact BK116.out)) : gb116 ≠ gb117)); have n6_ := Aside0.mk ((by rw [hg]; exact Nat.ne_of_gt (blk_lt (g := gb116) (o := .cells #[.int .i64 a0_0, .int .i64 a0_1] 33 (0, 0)) (by (with_reducible repeat (first | refine blk_drewN ?_ _ | refine blk_drew ?_ | refine blk_alloc ?_ _)); exact BK116.out)) : gb117 ≠ gb116)); clear BK116; clear HB; have BK116 := n0_; have HB := n1_; have BK117 := n2_; have GW117 := n3_; have GE117 := n4_; have NB116_117 := n5_; have NB117_116 := n6_; clear n0_ n1_ n2_ n3_ n4_ n5_ n6_; clear hb hbox hg; have hnb22 := NB116_117.out; have hnc22 := NB117_116.out; have hcz23_0 : w21.cell? ⟨gb116, 0, none⟩ = some (.int .i64 a0_0) := (blk_cell BK116.out 0).trans rfl; have hcz23_1 : w21.cell? ⟨gb116, 1, none⟩ = some (.int .i64 a0_1) := (blk_cell BK116.out 1).trans rfl; have hfz23_0 := blk_frozen BK116.out 0; have hfz23_1 := blk_frozen BK116.out 1) | ((with_reducible refine gate_callee (f := 32) rfl ?_); refine goesL_ (some 6) rfl rfl Try.func32 (by kernel_rfl) rfl #[.agg #[.int .i64 a0_0, .int .i64 a0_1]] rfl (by (try simp only [List.map_toArray, List.map_cons, List.map_nil]); first | done | rfl | (simp only [List.length_drop, List.length_take]; rfl)) ?_; (with_reducible refine (stamp_Check.calls a0_0 a0_1 t118 _ A2.out).mono ?_); rintro e w24 ⟨rfl, hb⟩; refine ⟨_, rfl, ?_⟩; have n0_ := Aside0.mk (blk_below (g := gb116) (o := .cells #[.int .i64 a0_0, .int .i64 a0_1] 33 (0, 0)) (by (with_reducible repeat (first | refine blk_drewN ?_ _ | refine blk_drew ?_ | refine blk_alloc ?_ _)); exact BK116.out) hb); have n1_ := Aside0.mk (blk_below (g := gb117) (o := .cells #[.int .i64 0, .int .i64 0] 33 (0, 0)) (by (with_reducible repeat (first | refine blk_drewN ?_ _ | refine blk_drew ?_ | refine blk_alloc ?_ _)); exact BK117.out) hb); have n2_ := Aside0.mk (below_step (by repeat (first | (with_reducible first | exact HB.out | apply below_alloc | apply pw_below_drewN | apply below_drew1 | refine below_set ?_ GE116.out | refine below_set ?_ GE117.out) | exact HB.out)) hb); clear BK116; clear BK117; clear HB; have BK116 := n0_; have BK117 := n1_; have HB := n2_; clear n0_ n1_ n2_; (try clear hb); (try clear hb2); (try clear hk); (try clear hi); (try clear hgn); have hcz25_0 : w24.cell? ⟨gb116, 0, none⟩ = some (.int .i64 a0_0) := (blk_cell BK116.out 0).trans rfl; have hcz25_1 : w24.cell? ⟨gb116, 1, none⟩ = some (.int .i64 a0_1) := (blk_cell BK116.out 1).trans rfl; have hfz25_0 := blk_frozen BK116.out 0; have hfz25_1 := blk_frozen BK116.out 1; have hcz26_0 : w24.cell? ⟨gb117, 0, none⟩ = some (.int .i64 0) := (blk_cell BK117.out 0).trans rfl; have hcz26_1 : w24.cell? ⟨gb117, 1, none⟩ = some (.int .i64 0) := (blk_cell BK117.out 1).trans rfl; have hfz26_0 := blk_frozen BK117.out 0; have hfz26_1 := blk_frozen BK117.out 1))
        refine bodyPost_ret (results_ct rfl _ _ gb117 33 #[.int .i64 a0_0, .int .i64 (wrap64 (a0_1 + 1))] (0, 0) _ rfl (by (with_reducible repeat (first | refine blk_drewN ?_ _ | refine blk_drew ?_ | refine blk_alloc ?_ _)); refine blk_put (cs := #[.int .i64 a0_0, .int .i64 0]) ?_ 1 _ rfl; (with_reducible repeat (first | refine blk_drewN ?_ _ | refine blk_drew ?_ | refine blk_alloc ?_ _)); refine blk_put (cs := #[.int .i64 0, .int .i64 0]) ?_ 0 _ rfl; (with_reducible repeat (first | refine blk_drewN ?_ _ | refine blk_drew ?_ | refine blk_alloc ?_ _)); refine blk_far ?_ NB117_116.out _; (with_reducible repeat (first | refine blk_drewN ?_ _ | refine blk_drew ?_ | refine blk_alloc ?_ _)); exact BK117.out) Try.underlying33 rfl (by kernel_rfl)) rfl ?_
        exact ⟨by first | rfl | (simp [errW_none, errW_some] <;> rfl) | (simp [*, errW_none, errW_some] <;> rfl), by repeat (first | (with_reducible first | exact HB.out | apply below_alloc | apply pw_below_drewN | apply below_drew1 | refine below_set ?_ GE116.out | refine below_set ?_ GE117.out) | exact HB.out)⟩
  · rw [if_neg c3] at H
    have c3b0 : (t118 == 0) = false := beq_eq_false_iff_ne.mpr c3
    have c3b1 : (t118 != 0) = true := bne_iff_ne.mpr c3
    simp only [Option.some.injEq, Prod.mk.injEq] at H
    obtain ⟨rfl, rfl, rfl⟩ := H
    go_enter Try.func31, Try.ntmps31
    go_wp2_with (first | ((with_reducible refine gate_dst (N := 1) rfl ?_); refine box_event ?hg (N := 1) ?hd (cs := #[.int .i64 a0_0, .int .i64 a0_1]) (t := 33) ?hr ?_; (case hd => rfl); (case hg => rfl); (case hr => first | (go_simp; done) | (go_simp; rfl)); intro gb116 hg w27 hbox hb; have n0_ := Aside0.mk (below_step (by repeat (first | (with_reducible first | exact HB.out | apply below_alloc | apply pw_below_drewN | apply below_drew1) | exact HB.out)) hb); have n1_ := Aside0.mk (hbox); have n2_ := Aside0.mk ((by rw [hg]; exact (below_size (by repeat (first | (with_reducible first | exact HB.out | apply below_alloc | apply pw_below_drewN | apply below_drew1) | exact HB.out))) : w.heap.size ≤ gb116)); have n3_ := Aside0.mk ((by rw [hg]; exact (below_size (by repeat (first | (with_reducible first | exact HB.out | apply below_alloc | apply pw_below_drewN | apply below_drew1) | exact HB.out))) : w.heap.size ≤ gb116)); clear HB; have HB := n0_; have BK116 := n1_; have GW116 := n2_; have GE116 := n3_; clear n0_ n1_ n2_ n3_; clear hb hbox hg) | ((with_reducible refine gate_dst (N := 2) rfl ?_); refine box_event ?hg (N := 2) ?hd (cs := #[.int .i64 0, .int .i64 0]) (t := 33) ?hr ?_; (case hd => rfl); (case hg => rfl); (case hr => first | (go_simp; done) | (go_simp; rfl)); intro gb117 hg w28 hbox hb; have n0_ := Aside0.mk (blk_below (g := gb116) (o := .cells #[.int .i64 a0_0, .int .i64 a0_1] 33 (0, 0)) (by (with_reducible repeat (first | refine blk_drewN ?_ _ | refine blk_drew ?_ | refine blk_alloc ?_ _)); exact BK116.out) hb); have n1_ := Aside0.mk (below_step (by repeat (first | (with_reducible first | exact HB.out | apply below_alloc | apply pw_below_drewN | apply below_drew1 | refine below_set ?_ GE116.out) | exact HB.out)) hb); have n2_ := Aside0.mk (hbox); have n3_ := Aside0.mk ((by rw [hg]; exact (below_size (by repeat (first | (with_reducible first | exact HB.out | apply below_alloc | apply pw_below_drewN | apply below_drew1 | refine below_set ?_ GE116.out) | exact HB.out))) : w.heap.size ≤ gb117)); have n4_ := Aside0.mk ((by rw [hg]; exact (below_size (by repeat (first | (with_reducible first | exact HB.out | apply below_alloc | apply pw_below_drewN | apply below_drew1 | refine below_set ?_ GE116.out) | exact HB.out))) : w.heap.size ≤ gb117)); have n5_ := Aside0.mk ((by rw [hg]; exact Nat.ne_of_lt (blk_lt (g := gb116) (o := .cells #[.int .i64 a0_0, .int .i64 a0_1] 33 (0, 0)) (by (with_reducible repeat (first | refine blk_drewN ?_ _ | refine blk_drew ?_ | refine blk_alloc ?_ _)); exact BK116.out)) : gb116 ≠ gb117)); have n6_ := Aside0.mk ((by rw [hg]; exact Nat.ne_of_gt (blk_lt (g := gb116) (o := .cells #[.int .i64 a0_0, .int .i64 a0_1] 33 (0, 0)) (by (with_reducible repeat (first | refine blk_drewN ?_ _ | refine blk_drew ?_ | refine blk_alloc ?_ _)); exact BK116.out)) : gb117 ≠ gb116)); clear BK116; clear HB; have BK116 := n0_; have HB := n1_; have BK117 := n2_; have GW117 := n3_; have GE117 := n4_; have NB116_117 := n5_; have NB117_116 := n6_; clear n0_ n1_ n2_ n3_ n4_ n5_ n6_; clear hb hbox hg; have hnb29 := NB116_117.out; have hnc29 := NB117_116.out; have hcz30_0 : w28.cell? ⟨gb116, 0, none⟩ = some (.int .i64 a0_0) := (blk_cell BK116.out 0).trans rfl; have hcz30_1 : w28.cell? ⟨gb116, 1, none⟩ = some (.int .i64 a0_1) := (blk_cell BK116.out 1).trans rfl; have hfz30_0 := blk_frozen BK116.out 0; have hfz30_1 := blk_frozen BK116.out 1) | ((with_reducible refine gate_callee (f := 32) rfl ?_); refine goesL_ (some 6) rfl rfl Try.func32 (by kernel_rfl) rfl #[.agg #[.int .i64 a0_0, .int .i64 a0_1]] rfl (by (try simp only [List.map_toArray, List.map_cons, List.map_nil]); first | done | rfl | (simp only [List.length_drop, List.length_take]; rfl)) ?_; (with_reducible refine (stamp_Check.calls a0_0 a0_1 t118 _ A2.out).mono ?_); rintro e w31 ⟨rfl, hb⟩; refine ⟨_, rfl, ?_⟩; have n0_ := Aside0.mk (blk_below (g := gb116) (o := .cells #[.int .i64 a0_0, .int .i64 a0_1] 33 (0, 0)) (by (with_reducible repeat (first | refine blk_drewN ?_ _ | refine blk_drew ?_ | refine blk_alloc ?_ _)); exact BK116.out) hb); have n1_ := Aside0.mk (blk_below (g := gb117) (o := .cells #[.int .i64 0, .int .i64 0] 33 (0, 0)) (by (with_reducible repeat (first | refine blk_drewN ?_ _ | refine blk_drew ?_ | refine blk_alloc ?_ _)); exact BK117.out) hb); have n2_ := Aside0.mk (below_step (by repeat (first | (with_reducible first | exact HB.out | apply below_alloc | apply pw_below_drewN | apply below_drew1 | refine below_set ?_ GE116.out | refine below_set ?_ GE117.out) | exact HB.out)) hb); clear BK116; clear BK117; clear HB; have BK116 := n0_; have BK117 := n1_; have HB := n2_; clear n0_ n1_ n2_; (try clear hb); (try clear hb2); (try clear hk); (try clear hi); (try clear hgn); have hcz32_0 : w31.cell? ⟨gb117, 0, none⟩ = some (.int .i64 0) := (blk_cell BK117.out 0).trans rfl; have hcz32_1 : w31.cell? ⟨gb117, 1, none⟩ = some (.int .i64 0) := (blk_cell BK117.out 1).trans rfl; have hfz32_0 := blk_frozen BK117.out 0; have hfz32_1 := blk_frozen BK117.out 1))
    refine bodyPost_ret (results_ct rfl _ _ gb117 33 #[.int .i64 0, .int .i64 0] (0, 0) _ rfl (by (with_reducible repeat (first | refine blk_drewN ?_ _ | refine blk_drew ?_ | refine blk_alloc ?_ _)); refine blk_put (cs := #[.int .i64 0, .int .i64 0]) ?_ 1 _ rfl; (with_reducible repeat (first | refine blk_drewN ?_ _ | refine blk_drew ?_ | refine blk_alloc ?_ _)); refine blk_put (cs := #[.int .i64 0, .int .i64 0]) ?_ 0 _ rfl; (with_reducible repeat (first | refine blk_drewN ?_ _ | refine blk_drew ?_ | refine blk_alloc ?_ _)); exact BK117.out) Try.underlying33 rfl (by kernel_rfl)) rfl ?_
    exact ⟨by first | rfl | (simp [errW_none, errW_some] <;> rfl) | (simp [*, errW_none, errW_some] <;> rfl), by repeat (first | (with_reducible first | exact HB.out | apply below_alloc | apply pw_below_drewN | apply below_drew1 | refine below_set ?_ GE116.out | refine below_set ?_ GE117.out) | exact HB.out)⟩

/-! ### clock_Clock_Now: function 14 (a leaf, by hand) -/
theorem next_ck (w l : Int) (hw : 0 ≤ w ∧ w ≤ 1099511627776) (hl : 0 ≤ l ∧ l ≤ 1048575) : stamp_Next.f w l = if w = 1099511627776 ∧ l = 1048575 then some (0, 0, 5) else some ((nxt w l).1, (nxt w l).2, 0) := by
  have hc : stamp_Check.f w l = some 0 := by
    unfold stamp_Check.f
    rw [if_neg (by omega), if_neg (by omega), if_neg (by omega), if_neg (by omega)]
  unfold stamp_Next.f nxt
  rw [hc, Option.bind_some, if_pos rfl]
  by_cases h : w = 1099511627776 ∧ l = 1048575
  · rw [if_pos h, if_pos (by rw [h.1, h.2]; rfl)]
  · have h9 : ¬ ((w == 1099511627776 && (l == 1048575)) = true) := by simp only [Bool.and_eq_true, beq_iff_eq]; exact h
    rw [if_neg h, if_neg h9]
    by_cases h2 : l = 1048575
    · have hw1 : wrap64 (w + 1) = w + 1 := by unfold wrap64; omega
      rw [if_pos h2, if_pos h2, hw1]
    · have hw1 : wrap64 (l + 1) = l + 1 := by unfold wrap64; omega
      rw [if_neg h2, if_neg h2, hw1]
theorem pair_C (W : World) (a b v m : Int) : Kd.C k33 (W.alloc (.cells #[.int .i64 a, .int .i64 b, .int .i64 v, .int .i64 m] 33)) (some ⟨W.heap.size, 0, none⟩) 2 [⟨a, b⟩, ⟨v, m⟩] := by
  have hc := fun i => blk_cell (World.alloc_heap_new W (.cells #[.int .i64 a, .int .i64 b, .int .i64 v, .int .i64 m] 33)) i
  refine ⟨rfl, by omega, fun _ => ⟨_, rfl, fun j p hj => ?_⟩⟩
  match j, hj with
  | 0, hj =>
    cases hj
    refine ⟨[.int .i64 a, .int .i64 b], rfl, k33_mk _ ⟨a, b⟩, fun i u hu => ?_⟩
    match i, hu with
    | 0, hu => cases hu; exact (hc 0).trans rfl
    | 1, hu => cases hu; exact (hc 1).trans rfl
  | 1, hj =>
    cases hj
    refine ⟨[.int .i64 v, .int .i64 m], rfl, k33_mk _ ⟨v, m⟩, fun i u hu => ?_⟩
    match i, hu with
    | 0, hu => cases hu; exact (hc 2).trans rfl
    | 1, hu => cases hu; exact (hc 3).trans rfl
theorem max_ck (a b v m : Int) : stamp_Max.f [⟨a, b⟩, ⟨v, m⟩] = some ((smx a b v m).1, (smx a b v m).2) := by
  have e : maxS [⟨a, b⟩, ⟨v, m⟩] = if 0 < cmpS ⟨v, m⟩ ⟨a, b⟩ then ⟨v, m⟩ else ⟨a, b⟩ := rfl
  unfold stamp_Max.f
  rw [e]
  have h : 0 < cmpS ⟨v, m⟩ ⟨a, b⟩ ↔ (a < v ∨ (a = v ∧ b < m)) := by
    unfold cmpS mcmp
    dsimp only
    by_cases h1 : v < a
    · rw [if_pos h1, if_neg (by omega)]; omega
    · rw [if_neg h1]
      by_cases h2 : v > a
      · rw [if_pos h2, if_neg (by omega)]; omega
      · rw [if_neg h2, if_pos rfl]
        by_cases h3 : m < b
        · rw [if_pos h3]; omega
        · rw [if_neg h3]
          by_cases h4 : m > b
          · rw [if_pos h4]; omega
          · rw [if_neg h4]; omega
  unfold smx
  by_cases h5 : a < v ∨ (a = v ∧ b < m)
  · rw [if_pos h5, if_pos (h.2 h5)]
  · rw [if_neg h5, if_neg (fun h6 => h5 (h.1 h6))]
def atNormal (p : Act → World → Prop) : Exit → Act → World → Prop
  | .normal, a, w => p a w
  | _, _, _ => False
set_option maxHeartbeats 8000000 in
set_option maxRecDepth 100000 in
theorem ck_now0 (c : Ck) (g : Nat) (W : World) (h : c.lies g W) (hk : c.ok) (c0 : c.w = 1099511627776 ∧ c.l = 1048575) : Calls Try.prog 14 #[.pointer (some ⟨g, 0, none⟩)] W fun e w' => e = .returned (.tuple #[.agg #[.int .i64 c.now.2.1.1, .int .i64 c.now.2.1.2], .int .i64 c.now.2.2]) ∧ c.now.1.lies g w' ∧ Off g W w' := by
  have HL := Aside0.mk h
  have HG := Aside0.mk h.lt
  have hN := next_ck c.w c.l hk.2.2.2.2.1 hk.2.2.2.2.2
  have e1 : c.now = (c, (0, 0), 5) := by unfold Ck.now; rw [if_pos c0]
  rw [if_pos c0] at hN
  have HN := Aside0.mk hN
  rw [e1]
  clear c0 e1
  clear h hk hN
  go_enter Try.func14, Try.ntmps14
  go_wp2_with fail
  refine (ck_none c g _ (HL.out.below (alloc_new _ _))).mono ?_
  rintro e w1 ⟨rfl, hb1⟩
  have HBR := Aside0.mk (blk_ckept (World.alloc_heap_new W (Obj.cells #[Value.int IntKind.i64 0, Value.int IntKind.i64 0] 33)) hb1)
  have HB1 := Aside0.mk (below_step (alloc_new W _) hb1)
  obtain ⟨h0, h1, h2, h3, h4, h5, h6, hf⟩ := (HL.out.below HB1.out).cell
  clear hb1 hf
  go_wp2_with fail
  refine (stamp_Next.calls c.w c.l 0 0 5 _ HN.out).mono ?_
  rintro e w2 ⟨rfl, hb2⟩
  have HBR2 := Aside0.mk (blk_ckept HBR.out hb2)
  have HB2 := Aside0.mk (below_step HB1.out hb2)
  clear h0 h1 h2 h3 h4 h5 h6 hb2 HBR HB1
  have r0 : ∀ o, (w2.alloc o).cell? ⟨W.heap.size, 0, none⟩ = some (.int .i64 0) := fun o => (blk_cell (blk_alloc HBR2.out o) 0).trans rfl
  have r1 : ∀ o, (w2.alloc o).cell? ⟨W.heap.size, 1, none⟩ = some (.int .i64 0) := fun o => (blk_cell (blk_alloc HBR2.out o) 1).trans rfl
  have fr0 : ∀ o, (w2.alloc o).frozen? ⟨W.heap.size, 0, none⟩ = false := fun o => blk_frozen (blk_alloc HBR2.out o) 0
  have fr1 : ∀ o, (w2.alloc o).frozen? ⟨W.heap.size, 1, none⟩ = false := fun o => blk_frozen (blk_alloc HBR2.out o) 1
  go_wp2
  refine bodyPost_ret (results_ct rfl _ _ W.heap.size 33 #[.int .i64 0, .int .i64 0] (0, 0) _ rfl (blk_put (cs := #[.int .i64 0, .int .i64 0]) (blk_put (cs := #[.int .i64 0, .int .i64 0]) (blk_alloc HBR2.out _) 0 _ rfl) 1 _ rfl) Try.underlying33 rfl (by kernel_rfl)) rfl ?_
  exact ⟨rfl, blk_far (blk_far (blk_alloc (HL.out.below HB2.out) _) (Nat.ne_of_lt HG.out) _) (Nat.ne_of_lt HG.out) _, off_far (off_far (off_alloc (Off.of_below HB2.out) _) (p := ⟨W.heap.size, 0, none⟩) (Nat.le_refl _) _) (p := ⟨W.heap.size, 1, none⟩) (Nat.le_refl _) _⟩
set_option maxHeartbeats 8000000 in
set_option maxRecDepth 100000 in
theorem ck_now1 (c : Ck) (g : Nat) (W : World) (h : c.lies g W) (hk : c.ok) (c0 : ¬ (c.w = 1099511627776 ∧ c.l = 1048575)) (c1 : c.b ≤ (smx (nxt c.w c.l).1 (nxt c.w c.l).2 c.r 0).1) : Calls Try.prog 14 #[.pointer (some ⟨g, 0, none⟩)] W fun e w' => e = .returned (.tuple #[.agg #[.int .i64 c.now.2.1.1, .int .i64 c.now.2.1.2], .int .i64 c.now.2.2]) ∧ c.now.1.lies g w' ∧ Off g W w' := by
  have HL := Aside0.mk h
  have HG := Aside0.mk h.lt
  have hN := next_ck c.w c.l hk.2.2.2.2.1 hk.2.2.2.2.2
  have e1 : c.now = (c, (0, 0), 61) := by unfold Ck.now; rw [if_neg c0, if_pos c1]
  rw [if_neg c0] at hN
  have HN := Aside0.mk hN
  rw [e1]
  have hc1 := decide_eq_true c1
  clear c0 e1 c1
  generalize nxt c.w c.l = n at *
  generalize hm : smx n.1 n.2 c.r 0 = m at *
  have HM := Aside0.mk hm
  have HC1 := Aside0.mk hc1
  clear h hk hN hc1 hm
  go_enter Try.func14, Try.ntmps14
  go_wp2_with fail
  refine (ck_none c g _ (HL.out.below (alloc_new _ _))).mono ?_
  rintro e w1 ⟨rfl, hb1⟩
  have HBR := Aside0.mk (blk_ckept (World.alloc_heap_new W (Obj.cells #[Value.int IntKind.i64 0, Value.int IntKind.i64 0] 33)) hb1)
  have HB1 := Aside0.mk (below_step (alloc_new W _) hb1)
  obtain ⟨h0, h1, h2, h3, h4, h5, h6, hf⟩ := (HL.out.below HB1.out).cell
  clear hb1 hf
  go_wp2_with fail
  refine (stamp_Next.calls c.w c.l n.1 n.2 0 _ HN.out).mono ?_
  rintro e w2 ⟨rfl, hb2⟩
  have HBR2 := Aside0.mk (blk_ckept HBR.out hb2)
  have HB2 := Aside0.mk (below_step HB1.out hb2)
  clear h0 h1 h2 h3 h4 h5 h6 hb2 HBR HB1
  go_wp2_with fail
  obtain ⟨w3, hw3⟩ : ∃ V, w2.alloc (Obj.cells #[Value.int IntKind.i64 n.1, Value.int IntKind.i64 n.2] 33) = V := ⟨_, rfl⟩
  have HBS3 := Aside0.mk (show w3.heap[w2.heap.size]? = some (Obj.cells #[Value.int IntKind.i64 n.1, Value.int IntKind.i64 n.2] 33) from by rw [← hw3]; exact World.alloc_heap_new w2 _)
  have hb3 : Below w2.heap.size w2 w3 := by rw [← hw3]; exact alloc_new w2 _
  have HBR3 := Aside0.mk (blk_ckept HBR2.out hb3)
  have HB3 := Aside0.mk (below_step HB2.out hb3)
  have HL3 := Aside0.mk (HL.out.below HB3.out)
  have HW2 := Aside0.mk (show W.heap.size < w2.heap.size from blk_lt HBR2.out)
  rw [hw3]
  clear hw3 hb3 HBR2 HB2
  obtain ⟨h0, h1, h2, h3, h4, h5, h6, hf⟩ := HL3.out.cell
  have s0 : w3.cell? ⟨w2.heap.size, 0, none⟩ = some (.int .i64 n.1) := (blk_cell HBS3.out 0).trans rfl
  have s1 : w3.cell? ⟨w2.heap.size, 1, none⟩ = some (.int .i64 n.2) := (blk_cell HBS3.out 1).trans rfl
  have fs0 := blk_frozen HBS3.out 0
  have fs1 := blk_frozen HBS3.out 1
  clear hf
  go_region_with (go_at_call 26; refine (stamp_Max.calls _ 2 [⟨n.1, n.2⟩, ⟨c.r, 0⟩] m.1 m.2 _ (pair_C w3.drew _ _ _ _) (Nat.le_refl _) ((max_ck _ _ _ _).trans (by rw [HM.out]))).mono ?_; rintro e w4 ⟨rfl, hb4⟩; have HB34 := Aside0.mk (below_step ((below_drew1 (Below.refl w3.heap.size w3)).trans (alloc_new w3.drew _)) hb4); have HBS4 := Aside0.mk (blk_ckept HBS3.out HB34.out); have t0 : w4.cell? ⟨w2.heap.size, 0, none⟩ = some (.int .i64 n.1) := (blk_cell HBS4.out 0).trans rfl; have t1 : w4.cell? ⟨w2.heap.size, 1, none⟩ = some (.int .i64 n.2) := (blk_cell HBS4.out 1).trans rfl; have ft0 := blk_frozen HBS4.out 0; have ft1 := blk_frozen HBS4.out 1; clear hb4)
  all_goals (
    obtain ⟨w5, hw5⟩ : ∃ V, (w4.setCell ⟨w2.heap.size, 0, none⟩ (.int .i64 m.1)).setCell ⟨w2.heap.size, 1, none⟩ (.int .i64 m.2) = V := ⟨_, rfl⟩
    have HBS5 := Aside0.mk (show w5.heap[w2.heap.size]? = some (.cells #[.int .i64 m.1, .int .i64 m.2] 33 (0, 0)) from by rw [← hw5]; exact blk_put (cs := #[.int .i64 m.1, .int .i64 n.2]) (blk_put (cs := #[.int .i64 n.1, .int .i64 n.2]) HBS4.out 0 _ rfl) 1 _ rfl)
    have HBR5 := Aside0.mk (show w5.heap[W.heap.size]? = some (.cells #[.int .i64 0, .int .i64 0] 33 (0, 0)) from by rw [← hw5]; exact blk_far (blk_far (blk_ckept HBR3.out HB34.out) (Nat.ne_of_lt HW2.out) _) (Nat.ne_of_lt HW2.out) _)
    have HB5 := Aside0.mk (show Below W.heap.size W w5 from by rw [← hw5]; exact Below.setCell (Below.setCell (below_step HB3.out HB34.out) (p := ⟨w2.heap.size, 0, none⟩) (Nat.le_of_lt HW2.out) _) (p := ⟨w2.heap.size, 1, none⟩) (Nat.le_of_lt HW2.out) _)
    have HL5 := Aside0.mk (HL.out.below HB5.out)
    rw [hw5]
    clear h0 h1 h2 h3 h4 h5 h6 s0 s1 fs0 fs1 t0 t1 ft0 ft1 hw5
    obtain ⟨h0, h1, h2, h3, h4, h5, h6, hf⟩ := HL5.out.cell
    have hf4 := hf 4
    have hf5 := hf 5
    have s0 : w5.cell? ⟨w2.heap.size, 0, none⟩ = some (.int .i64 m.1) := (blk_cell HBS5.out 0).trans rfl
    have s1 : w5.cell? ⟨w2.heap.size, 1, none⟩ = some (.int .i64 m.2) := (blk_cell HBS5.out 1).trans rfl
    have fs0 := blk_frozen HBS5.out 0
    have fs1 := blk_frozen HBS5.out 1
    have r0 : w5.cell? ⟨W.heap.size, 0, none⟩ = some (.int .i64 0) := (blk_cell HBR5.out 0).trans rfl
    have r1 : w5.cell? ⟨W.heap.size, 1, none⟩ = some (.int .i64 0) := (blk_cell HBR5.out 1).trans rfl
    have fr0 := blk_frozen HBR5.out 0
    have fr1 := blk_frozen HBR5.out 1
    have hgW : (g == W.heap.size) = false := beq_eq_false_iff_ne.mpr (Nat.ne_of_lt HG.out)
    have hWg : (W.heap.size == g) = false := beq_eq_false_iff_ne.mpr (Nat.ne_of_gt HG.out)
    have hgW2 : (g = W.heap.size) = False := eq_false (Nat.ne_of_lt HG.out)
    have hWg2 : (W.heap.size = g) = False := eq_false (Nat.ne_of_gt HG.out)
    clear hf
    have d2 := HC1.out
    go_wp2_with fail
    go_quiet (fail)
    go_wp2
    refine bodyPost_ret (results_ct rfl _ _ W.heap.size 33 #[.int .i64 0, .int .i64 0] (0, 0) _ rfl (blk_put (cs := #[.int .i64 0, .int .i64 0]) (blk_put (cs := #[.int .i64 0, .int .i64 0]) (blk_drewN HBR5.out _) 0 _ rfl) 1 _ rfl) Try.underlying33 rfl (by kernel_rfl)) rfl ?_
    exact ⟨rfl, blk_far (blk_far (blk_drewN HL5.out _) (Nat.ne_of_lt HG.out) _) (Nat.ne_of_lt HG.out) _, off_far (off_far (Off.of_below (pw_below_drewN HB5.out _)) (p := ⟨W.heap.size, 0, none⟩) (Nat.le_refl _) _) (p := ⟨W.heap.size, 1, none⟩) (Nat.le_refl _) _⟩)
set_option maxHeartbeats 8000000 in
set_option maxRecDepth 100000 in
theorem ck_now2 (c : Ck) (g : Nat) (W : World) (h : c.lies g W) (hk : c.ok) (c0 : ¬ (c.w = 1099511627776 ∧ c.l = 1048575)) (c1 : ¬ c.b ≤ (smx (nxt c.w c.l).1 (nxt c.w c.l).2 c.r 0).1) : Calls Try.prog 14 #[.pointer (some ⟨g, 0, none⟩)] W fun e w' => e = .returned (.tuple #[.agg #[.int .i64 c.now.2.1.1, .int .i64 c.now.2.1.2], .int .i64 c.now.2.2]) ∧ c.now.1.lies g w' ∧ Off g W w' := by
  have HL := Aside0.mk h
  have HG := Aside0.mk h.lt
  have hN := next_ck c.w c.l hk.2.2.2.2.1 hk.2.2.2.2.2
  have e1 : c.now = ({ c with w := (smx (nxt c.w c.l).1 (nxt c.w c.l).2 c.r 0).1, l := (smx (nxt c.w c.l).1 (nxt c.w c.l).2 c.r 0).2 }, smx (nxt c.w c.l).1 (nxt c.w c.l).2 c.r 0, 0) := by unfold Ck.now; rw [if_neg c0, if_neg c1]
  rw [if_neg c0] at hN
  have HN := Aside0.mk hN
  rw [e1]
  have hc1 := decide_eq_false c1
  clear c0 e1 c1
  generalize nxt c.w c.l = n at *
  generalize hm : smx n.1 n.2 c.r 0 = m at *
  have HM := Aside0.mk hm
  have HC1 := Aside0.mk hc1
  clear h hk hN hc1 hm
  go_enter Try.func14, Try.ntmps14
  go_wp2_with fail
  refine (ck_none c g _ (HL.out.below (alloc_new _ _))).mono ?_
  rintro e w1 ⟨rfl, hb1⟩
  have HBR := Aside0.mk (blk_ckept (World.alloc_heap_new W (Obj.cells #[Value.int IntKind.i64 0, Value.int IntKind.i64 0] 33)) hb1)
  have HB1 := Aside0.mk (below_step (alloc_new W _) hb1)
  obtain ⟨h0, h1, h2, h3, h4, h5, h6, hf⟩ := (HL.out.below HB1.out).cell
  clear hb1 hf
  go_wp2_with fail
  refine (stamp_Next.calls c.w c.l n.1 n.2 0 _ HN.out).mono ?_
  rintro e w2 ⟨rfl, hb2⟩
  have HBR2 := Aside0.mk (blk_ckept HBR.out hb2)
  have HB2 := Aside0.mk (below_step HB1.out hb2)
  clear h0 h1 h2 h3 h4 h5 h6 hb2 HBR HB1
  go_wp2_with fail
  obtain ⟨w3, hw3⟩ : ∃ V, w2.alloc (Obj.cells #[Value.int IntKind.i64 n.1, Value.int IntKind.i64 n.2] 33) = V := ⟨_, rfl⟩
  have HBS3 := Aside0.mk (show w3.heap[w2.heap.size]? = some (Obj.cells #[Value.int IntKind.i64 n.1, Value.int IntKind.i64 n.2] 33) from by rw [← hw3]; exact World.alloc_heap_new w2 _)
  have hb3 : Below w2.heap.size w2 w3 := by rw [← hw3]; exact alloc_new w2 _
  have HBR3 := Aside0.mk (blk_ckept HBR2.out hb3)
  have HB3 := Aside0.mk (below_step HB2.out hb3)
  have HL3 := Aside0.mk (HL.out.below HB3.out)
  have HW2 := Aside0.mk (show W.heap.size < w2.heap.size from blk_lt HBR2.out)
  rw [hw3]
  clear hw3 hb3 HBR2 HB2
  obtain ⟨h0, h1, h2, h3, h4, h5, h6, hf⟩ := HL3.out.cell
  have s0 : w3.cell? ⟨w2.heap.size, 0, none⟩ = some (.int .i64 n.1) := (blk_cell HBS3.out 0).trans rfl
  have s1 : w3.cell? ⟨w2.heap.size, 1, none⟩ = some (.int .i64 n.2) := (blk_cell HBS3.out 1).trans rfl
  have fs0 := blk_frozen HBS3.out 0
  have fs1 := blk_frozen HBS3.out 1
  clear hf
  go_region_with (go_at_call 26; refine (stamp_Max.calls _ 2 [⟨n.1, n.2⟩, ⟨c.r, 0⟩] m.1 m.2 _ (pair_C w3.drew _ _ _ _) (Nat.le_refl _) ((max_ck _ _ _ _).trans (by rw [HM.out]))).mono ?_; rintro e w4 ⟨rfl, hb4⟩; have HB34 := Aside0.mk (below_step ((below_drew1 (Below.refl w3.heap.size w3)).trans (alloc_new w3.drew _)) hb4); have HBS4 := Aside0.mk (blk_ckept HBS3.out HB34.out); have t0 : w4.cell? ⟨w2.heap.size, 0, none⟩ = some (.int .i64 n.1) := (blk_cell HBS4.out 0).trans rfl; have t1 : w4.cell? ⟨w2.heap.size, 1, none⟩ = some (.int .i64 n.2) := (blk_cell HBS4.out 1).trans rfl; have ft0 := blk_frozen HBS4.out 0; have ft1 := blk_frozen HBS4.out 1; clear hb4)
  all_goals (
    obtain ⟨w5, hw5⟩ : ∃ V, (w4.setCell ⟨w2.heap.size, 0, none⟩ (.int .i64 m.1)).setCell ⟨w2.heap.size, 1, none⟩ (.int .i64 m.2) = V := ⟨_, rfl⟩
    have HBS5 := Aside0.mk (show w5.heap[w2.heap.size]? = some (.cells #[.int .i64 m.1, .int .i64 m.2] 33 (0, 0)) from by rw [← hw5]; exact blk_put (cs := #[.int .i64 m.1, .int .i64 n.2]) (blk_put (cs := #[.int .i64 n.1, .int .i64 n.2]) HBS4.out 0 _ rfl) 1 _ rfl)
    have HBR5 := Aside0.mk (show w5.heap[W.heap.size]? = some (.cells #[.int .i64 0, .int .i64 0] 33 (0, 0)) from by rw [← hw5]; exact blk_far (blk_far (blk_ckept HBR3.out HB34.out) (Nat.ne_of_lt HW2.out) _) (Nat.ne_of_lt HW2.out) _)
    have HB5 := Aside0.mk (show Below W.heap.size W w5 from by rw [← hw5]; exact Below.setCell (Below.setCell (below_step HB3.out HB34.out) (p := ⟨w2.heap.size, 0, none⟩) (Nat.le_of_lt HW2.out) _) (p := ⟨w2.heap.size, 1, none⟩) (Nat.le_of_lt HW2.out) _)
    have HL5 := Aside0.mk (HL.out.below HB5.out)
    rw [hw5]
    clear h0 h1 h2 h3 h4 h5 h6 s0 s1 fs0 fs1 t0 t1 ft0 ft1 hw5
    obtain ⟨h0, h1, h2, h3, h4, h5, h6, hf⟩ := HL5.out.cell
    have hf4 := hf 4
    have hf5 := hf 5
    have s0 : w5.cell? ⟨w2.heap.size, 0, none⟩ = some (.int .i64 m.1) := (blk_cell HBS5.out 0).trans rfl
    have s1 : w5.cell? ⟨w2.heap.size, 1, none⟩ = some (.int .i64 m.2) := (blk_cell HBS5.out 1).trans rfl
    have fs0 := blk_frozen HBS5.out 0
    have fs1 := blk_frozen HBS5.out 1
    have r0 : w5.cell? ⟨W.heap.size, 0, none⟩ = some (.int .i64 0) := (blk_cell HBR5.out 0).trans rfl
    have r1 : w5.cell? ⟨W.heap.size, 1, none⟩ = some (.int .i64 0) := (blk_cell HBR5.out 1).trans rfl
    have fr0 := blk_frozen HBR5.out 0
    have fr1 := blk_frozen HBR5.out 1
    have hgW : (g == W.heap.size) = false := beq_eq_false_iff_ne.mpr (Nat.ne_of_lt HG.out)
    have hWg : (W.heap.size == g) = false := beq_eq_false_iff_ne.mpr (Nat.ne_of_gt HG.out)
    have hgW2 : (g = W.heap.size) = False := eq_false (Nat.ne_of_lt HG.out)
    have hWg2 : (W.heap.size = g) = False := eq_false (Nat.ne_of_gt HG.out)
    clear hf
    have d2 := HC1.out
    go_wp2_with fail
    go_quiet (fail)
    go_wp2
    refine bodyPost_ret (results_ct rfl _ _ W.heap.size 33 #[.int .i64 m.1, .int .i64 m.2] (0, 0) _ rfl (blk_put (cs := #[.int .i64 m.1, .int .i64 0]) (blk_put (cs := #[.int .i64 0, .int .i64 0]) (blk_far (blk_far (blk_drewN HBR5.out _) (Nat.ne_of_gt HG.out) _) (Nat.ne_of_gt HG.out) _) 0 _ rfl) 1 _ rfl) Try.underlying33 rfl (by kernel_rfl)) rfl ?_
    exact ⟨rfl, blk_far (blk_far (blk_put (cs := #[.int .i64 c.o, .int .i64 c.r, .int .i64 c.f, .int .i64 c.b, .int .i64 m.1, .int .i64 c.l, .bool true]) (blk_put (cs := #[.int .i64 c.o, .int .i64 c.r, .int .i64 c.f, .int .i64 c.b, .int .i64 c.w, .int .i64 c.l, .bool true]) (blk_drewN HL5.out _) 4 _ rfl) 5 _ rfl) (Nat.ne_of_lt HG.out) _) (Nat.ne_of_lt HG.out) _, off_far (off_far (off_setCell (off_setCell (Off.of_below (pw_below_drewN HB5.out _)) _) _) (p := ⟨W.heap.size, 0, none⟩) (Nat.le_refl _) _) (p := ⟨W.heap.size, 1, none⟩) (Nat.le_refl _) _⟩)
theorem ck_now (c : Ck) (g : Nat) (W : World) (h : c.lies g W) (hk : c.ok) : Calls Try.prog 14 #[.pointer (some ⟨g, 0, none⟩)] W fun e w' => e = .returned (.tuple #[.agg #[.int .i64 c.now.2.1.1, .int .i64 c.now.2.1.2], .int .i64 c.now.2.2]) ∧ c.now.1.lies g w' ∧ Off g W w' := by
  by_cases c0 : c.w = 1099511627776 ∧ c.l = 1048575
  · exact ck_now0 c g W h hk c0
  by_cases c1 : c.b ≤ (smx (nxt c.w c.l).1 (nxt c.w c.l).2 c.r 0).1
  · exact ck_now1 c g W h hk c0 c1
  exact ck_now2 c g W h hk c0 c1
def clock_Clock_Now.f (o r f b w l : Int) (m : Bool) : Option (Int × Int × Int × Int × Int × Int × Int × Int × Int × Bool) := if m = true ∧ (⟨o, r, f, b, w, l⟩ : Ck).ok then some ((⟨o, r, f, b, w, l⟩ : Ck).now.2.1.1, (⟨o, r, f, b, w, l⟩ : Ck).now.2.1.2, (⟨o, r, f, b, w, l⟩ : Ck).now.2.2, (⟨o, r, f, b, w, l⟩ : Ck).now.1.o, (⟨o, r, f, b, w, l⟩ : Ck).now.1.r, (⟨o, r, f, b, w, l⟩ : Ck).now.1.f, (⟨o, r, f, b, w, l⟩ : Ck).now.1.b, (⟨o, r, f, b, w, l⟩ : Ck).now.1.w, (⟨o, r, f, b, w, l⟩ : Ck).now.1.l, true) else none
theorem clock_Clock_Now.calls (g : Nat) (o r f b w l : Int) (m : Bool) (r1 : Int) (r2 : Int) (r3 : Int) (r4 : Int) (r5 : Int) (r6 : Int) (r7 : Int) (r8 : Int) (r9 : Int) (r10 : Bool) (w0 W : World) (hI : IsS51 w0 W g o r f b w l m) (hB : Below w0.heap.size w0 W) (h : clock_Clock_Now.f o r f b w l m = some (r1, r2, r3, r4, r5, r6, r7, r8, r9, r10)) :
    Calls Try.prog 14 #[.pointer (some ⟨g, 0, none⟩)] W fun e w' => e = .returned (.tuple #[.agg #[.int .i64 r1, .int .i64 r2], .int .i64 r3]) ∧ IsS51 w0 w' g r4 r5 r6 r7 r8 r9 r10 ∧ Below w0.heap.size w0 w' ∧ KeepBut W w' g none := by
  unfold clock_Clock_Now.f at h
  by_cases hm : m = true ∧ (⟨o, r, f, b, w, l⟩ : Ck).ok
  case neg => rw [if_neg hm] at h; exact absurd h (by simp)
  rw [if_pos hm] at h
  simp only [Option.some.injEq, Prod.mk.injEq] at h
  obtain ⟨rfl, rfl, rfl, rfl, rfl, rfl, rfl, rfl, rfl, rfl⟩ := h
  obtain ⟨rfl, hk⟩ := hm
  obtain ⟨hl, hg⟩ := hI
  refine (ck_now (⟨o, r, f, b, w, l⟩ : Ck) g W hl hk).mono ?_
  rintro e w' ⟨rfl, h1, hO⟩
  exact ⟨rfl, ⟨h1, hg⟩, hB.trans (hO.below hg hB.size), ⟨hO.size, fun i hi hn _ => hO.block i hi hn⟩⟩

/-! ### clock_Clock_See: function 15 (a leaf, by hand) -/
theorem check_ck (w l : Int) : stamp_Check.f w l = some (if w < 0 ∨ 1099511627776 < w ∨ l < 0 ∨ 1048575 < l then 9 else 0) := by
  unfold stamp_Check.f
  by_cases h1 : w < 0
  · simp [h1]
  by_cases h2 : 1099511627776 < w
  · simp [h1, h2]; try omega
  by_cases h3 : l < 0
  · simp [h1, h2, h3]; try omega
  by_cases h4 : 1048575 < l
  · simp [h1, h2, h3, h4]; try omega
  simp [h1, h2, h3, h4]; try omega
set_option maxHeartbeats 8000000 in
set_option maxRecDepth 100000 in
theorem ck_see0 (c : Ck) (g : Nat) (x y : Int) (W : World) (h : c.lies g W) (hk : c.ok) (c0 : x < 0 ∨ 1099511627776 < x ∨ y < 0 ∨ 1048575 < y) : Calls Try.prog 15 #[.pointer (some ⟨g, 0, none⟩), .agg #[.int .i64 x, .int .i64 y]] W fun e w' => e = .returned (.int .i64 (c.see x y).2) ∧ (c.see x y).1.lies g w' ∧ Off g W w' := by
  have HL := Aside0.mk h
  have hmix : Try.prog.follows .mixedOrders = true := by kernel_rfl
  have HG := Aside0.mk h.lt
  have hwr : wrap64 (c.r + c.o) = c.r + c.o := by unfold Ck.ok at hk; unfold wrap64; omega
  clear h hk
  have e1 : c.see x y = (c, 9) := by unfold Ck.see; rw [if_pos c0]
  have CK2 := Aside0.mk ((check_ck x y).trans (congrArg some (if_pos c0)))
  rw [e1]
  clear c0 e1 hwr
  go_enter Try.func15, Try.ntmps15
  go_wp2_with fail
  refine (ck_none c g _ (HL.out.below (alloc_new _ _))).mono ?_
  rintro e w1 ⟨rfl, hb1⟩
  have hbr := blk_ckept (World.alloc_heap_new W (Obj.cells #[Value.int IntKind.i64 x, Value.int IntKind.i64 y] 33)) hb1
  have HBR := Aside0.mk hbr
  have HB1 := Aside0.mk (below_step (alloc_new W _) hb1)
  have r0 : w1.cell? ⟨W.heap.size, 0, none⟩ = some (.int .i64 x) := (blk_cell hbr 0).trans rfl
  have r1 : w1.cell? ⟨W.heap.size, 1, none⟩ = some (.int .i64 y) := (blk_cell hbr 1).trans rfl
  clear hbr hb1
  go_wp2_with fail
  refine (stamp_Check.calls x y 9 _ CK2.out).mono ?_
  rintro e w2 ⟨rfl, hb2⟩
  have hbr := blk_ckept HBR.out hb2
  have HBR2 := Aside0.mk hbr
  have HB2 := Aside0.mk (below_step HB1.out hb2)
  clear r0 r1
  have r0 : w2.cell? ⟨W.heap.size, 0, none⟩ = some (.int .i64 x) := (blk_cell hbr 0).trans rfl
  have r1 : w2.cell? ⟨W.heap.size, 1, none⟩ = some (.int .i64 y) := (blk_cell hbr 1).trans rfl
  obtain ⟨h0, h1, h2, h3, h4, h5, h6, hf⟩ := (HL.out.below HB2.out).cell
  have hf4 := hf 4
  have hf5 := hf 5
  clear hbr hb2 hf
  go_wp2
  go_ret
  exact ⟨rfl, HL.out.below HB2.out, Off.of_below HB2.out⟩
set_option maxHeartbeats 8000000 in
set_option maxRecDepth 100000 in
theorem ck_see1 (c : Ck) (g : Nat) (x y : Int) (W : World) (h : c.lies g W) (hk : c.ok) (c0 : ¬ (x < 0 ∨ 1099511627776 < x ∨ y < 0 ∨ 1048575 < y)) (c1 : c.r + c.o < x) : Calls Try.prog 15 #[.pointer (some ⟨g, 0, none⟩), .agg #[.int .i64 x, .int .i64 y]] W fun e w' => e = .returned (.int .i64 (c.see x y).2) ∧ (c.see x y).1.lies g w' ∧ Off g W w' := by
  have HL := Aside0.mk h
  have hmix : Try.prog.follows .mixedOrders = true := by kernel_rfl
  have HG := Aside0.mk h.lt
  have hwr : wrap64 (c.r + c.o) = c.r + c.o := by unfold Ck.ok at hk; unfold wrap64; omega
  clear h hk
  have e1 : c.see x y = (c, 60) := by unfold Ck.see; rw [if_neg c0, if_pos c1]
  have CK2 := Aside0.mk ((check_ck x y).trans (congrArg some (if_neg c0)))
  rw [e1]
  have d1 : decide (c.r + c.o < x) = true := decide_eq_true c1
  clear c0 e1 c1
  go_enter Try.func15, Try.ntmps15
  go_wp2_with fail
  refine (ck_none c g _ (HL.out.below (alloc_new _ _))).mono ?_
  rintro e w1 ⟨rfl, hb1⟩
  have hbr := blk_ckept (World.alloc_heap_new W (Obj.cells #[Value.int IntKind.i64 x, Value.int IntKind.i64 y] 33)) hb1
  have HBR := Aside0.mk hbr
  have HB1 := Aside0.mk (below_step (alloc_new W _) hb1)
  have r0 : w1.cell? ⟨W.heap.size, 0, none⟩ = some (.int .i64 x) := (blk_cell hbr 0).trans rfl
  have r1 : w1.cell? ⟨W.heap.size, 1, none⟩ = some (.int .i64 y) := (blk_cell hbr 1).trans rfl
  clear hbr hb1
  go_wp2_with fail
  refine (stamp_Check.calls x y 0 _ CK2.out).mono ?_
  rintro e w2 ⟨rfl, hb2⟩
  have hbr := blk_ckept HBR.out hb2
  have HBR2 := Aside0.mk hbr
  have HB2 := Aside0.mk (below_step HB1.out hb2)
  clear r0 r1
  have r0 : w2.cell? ⟨W.heap.size, 0, none⟩ = some (.int .i64 x) := (blk_cell hbr 0).trans rfl
  have r1 : w2.cell? ⟨W.heap.size, 1, none⟩ = some (.int .i64 y) := (blk_cell hbr 1).trans rfl
  obtain ⟨h0, h1, h2, h3, h4, h5, h6, hf⟩ := (HL.out.below HB2.out).cell
  have hf4 := hf 4
  have hf5 := hf 5
  clear hbr hb2 hf
  go_wp2_with fail
  go_quiet (fail)
  go_wp2
  go_ret
  exact ⟨rfl, HL.out.below (pw_below_drewN HB2.out _), Off.of_below (pw_below_drewN HB2.out _)⟩
set_option maxHeartbeats 8000000 in
set_option maxRecDepth 100000 in
theorem ck_see2 (c : Ck) (g : Nat) (x y : Int) (W : World) (h : c.lies g W) (hk : c.ok) (c0 : ¬ (x < 0 ∨ 1099511627776 < x ∨ y < 0 ∨ 1048575 < y)) (c1 : ¬ c.r + c.o < x) (c2 : c.b ≤ x) : Calls Try.prog 15 #[.pointer (some ⟨g, 0, none⟩), .agg #[.int .i64 x, .int .i64 y]] W fun e w' => e = .returned (.int .i64 (c.see x y).2) ∧ (c.see x y).1.lies g w' ∧ Off g W w' := by
  have HL := Aside0.mk h
  have hmix : Try.prog.follows .mixedOrders = true := by kernel_rfl
  have HG := Aside0.mk h.lt
  have hwr : wrap64 (c.r + c.o) = c.r + c.o := by unfold Ck.ok at hk; unfold wrap64; omega
  clear h hk
  have e1 : c.see x y = (c, 61) := by unfold Ck.see; rw [if_neg c0, if_neg c1, if_pos c2]
  have CK2 := Aside0.mk ((check_ck x y).trans (congrArg some (if_neg c0)))
  rw [e1]
  have d1 : decide (c.r + c.o < x) = false := decide_eq_false c1
  have d2 : decide (c.b ≤ x) = true := decide_eq_true c2
  clear c0 e1 c1 c2
  go_enter Try.func15, Try.ntmps15
  go_wp2_with fail
  refine (ck_none c g _ (HL.out.below (alloc_new _ _))).mono ?_
  rintro e w1 ⟨rfl, hb1⟩
  have hbr := blk_ckept (World.alloc_heap_new W (Obj.cells #[Value.int IntKind.i64 x, Value.int IntKind.i64 y] 33)) hb1
  have HBR := Aside0.mk hbr
  have HB1 := Aside0.mk (below_step (alloc_new W _) hb1)
  have r0 : w1.cell? ⟨W.heap.size, 0, none⟩ = some (.int .i64 x) := (blk_cell hbr 0).trans rfl
  have r1 : w1.cell? ⟨W.heap.size, 1, none⟩ = some (.int .i64 y) := (blk_cell hbr 1).trans rfl
  clear hbr hb1
  go_wp2_with fail
  refine (stamp_Check.calls x y 0 _ CK2.out).mono ?_
  rintro e w2 ⟨rfl, hb2⟩
  have hbr := blk_ckept HBR.out hb2
  have HBR2 := Aside0.mk hbr
  have HB2 := Aside0.mk (below_step HB1.out hb2)
  clear r0 r1
  have r0 : w2.cell? ⟨W.heap.size, 0, none⟩ = some (.int .i64 x) := (blk_cell hbr 0).trans rfl
  have r1 : w2.cell? ⟨W.heap.size, 1, none⟩ = some (.int .i64 y) := (blk_cell hbr 1).trans rfl
  obtain ⟨h0, h1, h2, h3, h4, h5, h6, hf⟩ := (HL.out.below HB2.out).cell
  have hf4 := hf 4
  have hf5 := hf 5
  clear hbr hb2 hf
  go_wp2_with fail
  go_quiet (fail)
  go_wp2_with fail
  go_quiet (fail)
  go_wp2
  go_ret
  exact ⟨rfl, HL.out.below (pw_below_drewN (pw_below_drewN HB2.out _) _), Off.of_below (pw_below_drewN (pw_below_drewN HB2.out _) _)⟩
set_option maxHeartbeats 8000000 in
set_option maxRecDepth 100000 in
theorem ck_see3 (c : Ck) (g : Nat) (x y : Int) (W : World) (h : c.lies g W) (hk : c.ok) (c0 : ¬ (x < 0 ∨ 1099511627776 < x ∨ y < 0 ∨ 1048575 < y)) (c1 : ¬ c.r + c.o < x) (c2 : ¬ c.b ≤ x) : Calls Try.prog 15 #[.pointer (some ⟨g, 0, none⟩), .agg #[.int .i64 x, .int .i64 y]] W fun e w' => e = .returned (.int .i64 (c.see x y).2) ∧ (c.see x y).1.lies g w' ∧ Off g W w' := by
  have HL := Aside0.mk h
  have hmix : Try.prog.follows .mixedOrders = true := by kernel_rfl
  have HG := Aside0.mk h.lt
  have hwr : wrap64 (c.r + c.o) = c.r + c.o := by unfold Ck.ok at hk; unfold wrap64; omega
  clear h hk
  have e1 : c.see x y = ({ c with w := (smx c.w c.l x y).1, l := (smx c.w c.l x y).2 }, 0) := by unfold Ck.see; rw [if_neg c0, if_neg c1, if_neg c2]
  have CK2 := Aside0.mk ((check_ck x y).trans (congrArg some (if_neg c0)))
  rw [e1]
  have d1 : decide (c.r + c.o < x) = false := decide_eq_false c1
  have d2 : decide (c.b ≤ x) = false := decide_eq_false c2
  clear c0 e1 c1 c2
  go_enter Try.func15, Try.ntmps15
  go_wp2_with fail
  refine (ck_none c g _ (HL.out.below (alloc_new _ _))).mono ?_
  rintro e w1 ⟨rfl, hb1⟩
  have hbr := blk_ckept (World.alloc_heap_new W (Obj.cells #[Value.int IntKind.i64 x, Value.int IntKind.i64 y] 33)) hb1
  have HBR := Aside0.mk hbr
  have HB1 := Aside0.mk (below_step (alloc_new W _) hb1)
  have r0 : w1.cell? ⟨W.heap.size, 0, none⟩ = some (.int .i64 x) := (blk_cell hbr 0).trans rfl
  have r1 : w1.cell? ⟨W.heap.size, 1, none⟩ = some (.int .i64 y) := (blk_cell hbr 1).trans rfl
  clear hbr hb1
  go_wp2_with fail
  refine (stamp_Check.calls x y 0 _ CK2.out).mono ?_
  rintro e w2 ⟨rfl, hb2⟩
  have hbr := blk_ckept HBR.out hb2
  have HBR2 := Aside0.mk hbr
  have HB2 := Aside0.mk (below_step HB1.out hb2)
  clear r0 r1
  have r0 : w2.cell? ⟨W.heap.size, 0, none⟩ = some (.int .i64 x) := (blk_cell hbr 0).trans rfl
  have r1 : w2.cell? ⟨W.heap.size, 1, none⟩ = some (.int .i64 y) := (blk_cell hbr 1).trans rfl
  obtain ⟨h0, h1, h2, h3, h4, h5, h6, hf⟩ := (HL.out.below HB2.out).cell
  have hf4 := hf 4
  have hf5 := hf 5
  clear hbr hb2 hf
  go_wp2_with fail
  go_quiet (fail)
  go_wp2_with fail
  go_quiet (fail)
  go_wp2_with fail
  generalize hw3 : World.drewN (World.drewN w2 _) _ = w3
  have HB3 := Aside0.mk (show Below W.heap.size W w3 by rw [← hw3]; exact pw_below_drewN (pw_below_drewN HB2.out _) _)
  have hbr3 : w3.heap[W.heap.size]? = some (.cells #[.int .i64 x, .int .i64 y] 33 (0, 0)) := by rw [← hw3]; exact HBR2.out
  have HL3 := Aside0.mk (HL.out.below HB3.out)
  clear hw3 HBR2 HB2 HBR HB1 h0 h1 h2 h3 h4 h5 h6 hf4 hf5 r0 r1 d1 d2 hwr
  obtain ⟨h0, h1, h2, h3, h4, h5, h6, hf⟩ := HL3.out.cell
  have r0 : w3.cell? ⟨W.heap.size, 0, none⟩ = some (.int .i64 x) := (blk_cell hbr3 0).trans rfl
  have r1 : w3.cell? ⟨W.heap.size, 1, none⟩ = some (.int .i64 y) := (blk_cell hbr3 1).trans rfl
  clear hf hbr3
  go_region_with (go_at_call 26; refine (stamp_Max.calls _ 2 [⟨c.w, c.l⟩, ⟨x, y⟩] (smx c.w c.l x y).1 (smx c.w c.l x y).2 _ (pair_C w3.drew _ _ _ _) (Nat.le_refl _) (max_ck _ _ _ _)).mono ?_; rintro e w4 ⟨rfl, hb4⟩; have HB34 := Aside0.mk (below_step ((below_drew1 (Below.refl w3.heap.size w3)).trans (alloc_new w3.drew _)) hb4); have HL4 := Aside0.mk (HL3.out.below HB34.out); have f40 := blk_frozen HL4.out 4; have f41 := blk_frozen HL4.out 5; obtain ⟨q0, q1, q2, q3, q4, q5, q6, qf⟩ := HL4.out.cell; clear qf hb4)
  all_goals (go_wp2; go_ret; exact ⟨rfl, blk_put (cs := #[.int .i64 c.o, .int .i64 c.r, .int .i64 c.f, .int .i64 c.b, .int .i64 (smx c.w c.l x y).1, .int .i64 c.l, .bool true]) (blk_put (cs := #[.int .i64 c.o, .int .i64 c.r, .int .i64 c.f, .int .i64 c.b, .int .i64 c.w, .int .i64 c.l, .bool true]) HL4.out 4 _ rfl) 5 _ rfl, off_setCell (off_setCell (Off.of_below (below_step HB3.out HB34.out)) _) _⟩)
theorem ck_see (c : Ck) (g : Nat) (x y : Int) (W : World) (h : c.lies g W) (hk : c.ok) : Calls Try.prog 15 #[.pointer (some ⟨g, 0, none⟩), .agg #[.int .i64 x, .int .i64 y]] W fun e w' => e = .returned (.int .i64 (c.see x y).2) ∧ (c.see x y).1.lies g w' ∧ Off g W w' := by
  by_cases c0 : x < 0 ∨ 1099511627776 < x ∨ y < 0 ∨ 1048575 < y
  · exact ck_see0 c g x y W h hk c0
  by_cases c1 : c.r + c.o < x
  · exact ck_see1 c g x y W h hk c0 c1
  by_cases c2 : c.b ≤ x
  · exact ck_see2 c g x y W h hk c0 c1 c2
  exact ck_see3 c g x y W h hk c0 c1 c2
def clock_Clock_See.f (o r f b w l : Int) (m : Bool) (x : Int) (y : Int) : Option (Int × Int × Int × Int × Int × Int × Int × Bool) := if m = true ∧ (⟨o, r, f, b, w, l⟩ : Ck).ok then some (((⟨o, r, f, b, w, l⟩ : Ck).see x y).2, ((⟨o, r, f, b, w, l⟩ : Ck).see x y).1.o, ((⟨o, r, f, b, w, l⟩ : Ck).see x y).1.r, ((⟨o, r, f, b, w, l⟩ : Ck).see x y).1.f, ((⟨o, r, f, b, w, l⟩ : Ck).see x y).1.b, ((⟨o, r, f, b, w, l⟩ : Ck).see x y).1.w, ((⟨o, r, f, b, w, l⟩ : Ck).see x y).1.l, true) else none
theorem clock_Clock_See.calls (g : Nat) (o r f b w l : Int) (m : Bool) (x : Int) (y : Int) (r1 : Int) (r2 : Int) (r3 : Int) (r4 : Int) (r5 : Int) (r6 : Int) (r7 : Int) (r8 : Bool) (w0 W : World) (hI : IsS51 w0 W g o r f b w l m) (hB : Below w0.heap.size w0 W) (h : clock_Clock_See.f o r f b w l m x y = some (r1, r2, r3, r4, r5, r6, r7, r8)) :
    Calls Try.prog 15 #[.pointer (some ⟨g, 0, none⟩), .agg #[.int .i64 x, .int .i64 y]] W fun e w' => e = .returned (.int .i64 r1) ∧ IsS51 w0 w' g r2 r3 r4 r5 r6 r7 r8 ∧ Below w0.heap.size w0 w' ∧ KeepBut W w' g none := by
  unfold clock_Clock_See.f at h
  by_cases hm : m = true ∧ (⟨o, r, f, b, w, l⟩ : Ck).ok
  case neg => rw [if_neg hm] at h; exact absurd h (by simp)
  rw [if_pos hm] at h
  simp only [Option.some.injEq, Prod.mk.injEq] at h
  obtain ⟨rfl, rfl, rfl, rfl, rfl, rfl, rfl, rfl⟩ := h
  obtain ⟨rfl, hk⟩ := hm
  obtain ⟨hl, hg⟩ := hI
  refine (ck_see (⟨o, r, f, b, w, l⟩ : Ck) g x y W hl hk).mono ?_
  rintro e w' ⟨rfl, h1, hO⟩
  exact ⟨rfl, ⟨h1, hg⟩, hB.trans (hO.below hg hB.size), ⟨hO.size, fun i hi hn _ => hO.block i hi hn⟩⟩

/-! ### clock_Clock_Ready: function 19 (a leaf, by hand) -/
def clock_Clock_Ready.f (o r f b w l : Int) (m : Bool) : Option (Bool × Int × Int × Int × Int × Int × Int × Bool) := if m = true then some (decide ((⟨o, r, f, b, w, l⟩ : Ck).f ≤ (⟨o, r, f, b, w, l⟩ : Ck).r), (⟨o, r, f, b, w, l⟩ : Ck).o, (⟨o, r, f, b, w, l⟩ : Ck).r, (⟨o, r, f, b, w, l⟩ : Ck).f, (⟨o, r, f, b, w, l⟩ : Ck).b, (⟨o, r, f, b, w, l⟩ : Ck).w, (⟨o, r, f, b, w, l⟩ : Ck).l, true) else none
theorem clock_Clock_Ready.calls (g : Nat) (o r f b w l : Int) (m : Bool) (r1 : Bool) (r2 : Int) (r3 : Int) (r4 : Int) (r5 : Int) (r6 : Int) (r7 : Int) (r8 : Bool) (w0 W : World) (hI : IsS51 w0 W g o r f b w l m) (hB : Below w0.heap.size w0 W) (h : clock_Clock_Ready.f o r f b w l m = some (r1, r2, r3, r4, r5, r6, r7, r8)) :
    Calls Try.prog 19 #[.pointer (some ⟨g, 0, none⟩)] W fun e w' => e = .returned (.bool r1) ∧ IsS51 w0 w' g r2 r3 r4 r5 r6 r7 r8 ∧ Below w0.heap.size w0 w' ∧ KeepBut W w' g none := by
  unfold clock_Clock_Ready.f at h
  by_cases hm : m = true
  case neg => rw [if_neg hm] at h; exact absurd h (by simp)
  rw [if_pos hm] at h
  simp only [Option.some.injEq, Prod.mk.injEq] at h
  obtain ⟨rfl, rfl, rfl, rfl, rfl, rfl, rfl, rfl⟩ := h
  subst hm
  obtain ⟨hl, hg⟩ := hI
  refine (ck_ready (⟨o, r, f, b, w, l⟩ : Ck) g W hl).mono ?_
  rintro e w' ⟨rfl, hb⟩
  exact ⟨rfl, ⟨(hb.block _ (blk_lt hl)).trans hl, hg⟩, below_step hB hb, KeepBut.of_below hb _ _⟩

/-! ### clock_Clock_Last: function 21 (a leaf, by hand) -/
def clock_Clock_Last.f (o r f b w l : Int) (m : Bool) : Option (Int × Int × Int × Int × Int × Int × Int × Int × Bool) := if m = true then some ((⟨o, r, f, b, w, l⟩ : Ck).w, (⟨o, r, f, b, w, l⟩ : Ck).l, (⟨o, r, f, b, w, l⟩ : Ck).o, (⟨o, r, f, b, w, l⟩ : Ck).r, (⟨o, r, f, b, w, l⟩ : Ck).f, (⟨o, r, f, b, w, l⟩ : Ck).b, (⟨o, r, f, b, w, l⟩ : Ck).w, (⟨o, r, f, b, w, l⟩ : Ck).l, true) else none
theorem clock_Clock_Last.calls (g : Nat) (o r f b w l : Int) (m : Bool) (r1 : Int) (r2 : Int) (r3 : Int) (r4 : Int) (r5 : Int) (r6 : Int) (r7 : Int) (r8 : Int) (r9 : Bool) (w0 W : World) (hI : IsS51 w0 W g o r f b w l m) (hB : Below w0.heap.size w0 W) (h : clock_Clock_Last.f o r f b w l m = some (r1, r2, r3, r4, r5, r6, r7, r8, r9)) :
    Calls Try.prog 21 #[.pointer (some ⟨g, 0, none⟩)] W fun e w' => e = .returned (.agg #[.int .i64 r1, .int .i64 r2]) ∧ IsS51 w0 w' g r3 r4 r5 r6 r7 r8 r9 ∧ Below w0.heap.size w0 w' ∧ KeepBut W w' g none := by
  unfold clock_Clock_Last.f at h
  by_cases hm : m = true
  case neg => rw [if_neg hm] at h; exact absurd h (by simp)
  rw [if_pos hm] at h
  simp only [Option.some.injEq, Prod.mk.injEq] at h
  obtain ⟨rfl, rfl, rfl, rfl, rfl, rfl, rfl, rfl, rfl⟩ := h
  subst hm
  obtain ⟨hl, hg⟩ := hI
  refine (ck_last (⟨o, r, f, b, w, l⟩ : Ck) g W hl).mono ?_
  rintro e w' ⟨rfl, hb⟩
  exact ⟨rfl, ⟨(hb.block _ (blk_lt hl)).trans hl, hg⟩, below_step hB hb, KeepBut.of_below hb _ _⟩

end Go.Proofs.Ythhgoiabkgfdfaa.PClockRises
