/- Written by xprint.py, a program of these sessions (over the print of the kit, with leaves typed by hand): one Lean function for each Go function, and the proof that the Go code comes to its answers. -/
import Derived.Test.YthdmkacnkdmbiaaPRecordStagedx0
import Derived.Test.YthdmkacnkdmbiaaPRecordStagedx3
import Derived.Test.YthdmkacnkdmbiaaPRecordStagedx4
namespace Go.Proofs.Ythdmkacnkdmbiaa.PRecordStaged
open Go.RowKit Go.Proofs.YthdmkacnkdmbiaaW.PrintWords Go.Proofs.YthdmkacnkdmbiaaW.PrintLast Go.Proofs.YthdmkacnkdmbiaaW.PrintMore
attribute [local go_sem] max2_int min2_int max_two min_two max_three min_three max_four min_four   -- for this text's walks alone
attribute [local go_sem] str_gtr str_leq str_geq
set_option linter.unusedVariables false
set_option linter.unusedSimpArgs false

-- NOT PRINTED: function 40 (api_Stamp_40)

/-! ### stamp_Max: function 31 (a leaf, by hand) -/
def mcmp (a b : Int) : Int := if a < b then -1 else if a > b then 1 else 0
def cmpS (a b : S24) : Int := if mcmp a.f0 b.f0 = 0 then mcmp a.f1 b.f1 else mcmp a.f0 b.f0
/-- The greatest one, the first of them; of none the first stamp of all. -/
def maxS : List S24 → S24
  | [] => z24
  | x :: t => t.foldl (fun m y => if 0 < cmpS y m then y else m) x
theorem maxS_snoc (l : List S24) (hne : l ≠ []) (y : S24) : maxS (l ++ [y]) = if 0 < cmpS y (maxS l) then y else maxS l := by
  cases l with
  | nil => exact absurd rfl hne
  | cons x t =>
    show List.foldl _ x (t ++ [y]) = _
    rw [List.foldl_append]
    rfl
theorem l_compare (a b : Int) : cmp_Compare_int.f a b = some (mcmp a b) := by
  unfold cmp_Compare_int.f cmp_isNaN_int.f mcmp
  simp only [Option.bind_some, bne_self_eq_false, Bool.false_eq_true, if_false]
  split
  · rfl
  · split <;> rfl
theorem l_or (k : Nat) (x y : Int) (hk : 5 < k) : cmp_Or_int.f k [x, y] = some (if x = 0 then y else x) := by
  obtain ⟨k, rfl⟩ : ∃ j, k = j + 3 := ⟨k - 3, by omega⟩
  have r0 : rd [x, y] 0 = x := rfl
  have r1 : rd [x, y] 1 = y := rfl
  have w0 : wrap64 (0 + 1) = 1 := by unfold wrap64; omega
  have w1 : wrap64 (1 + 1) = 2 := by unfold wrap64; omega
  have l2 : (([x, y] : List Int).length : Int) = 2 := rfl
  unfold cmp_Or_int.f
  rw [l2]
  simp only [cmp_Or_int.l0]
  rw [if_pos (by decide), if_pos (by decide), l2, if_pos (by decide), r0, w0]
  by_cases h : x = 0
  · rw [if_pos h, if_pos h, if_pos (by decide), if_pos (by decide), if_pos (by decide), r1, w1]
    by_cases h2 : y = 0
    · rw [if_pos h2, if_neg (by decide), h2]
    · rw [if_neg h2]
  · rw [if_neg h, if_neg h]
theorem l_cmpS (a b : S24) : stamp_compare.f 20 a.f0 a.f1 b.f0 b.f1 = some (cmpS a b) := by
  unfold stamp_compare.f
  rw [l_compare, l_compare]
  simp only [Option.bind_some]
  rw [l_or 20 _ _ (by omega)]
  rfl
def stamp_Max.f (l0 : List S24) : Option (Int × Int) := some ((maxS l0).f0, (maxS l0).f1)
set_option maxHeartbeats 16000000 in
set_option maxRecDepth 100000 in
theorem maxFunc_calls (A0 : Option Addr) (c0 : Nat) (l0 : List S24) (hne : 0 < l0.length) (w : World) (hr0 : Kd.C k24 w A0 l0.length l0) (hc0 : l0.length ≤ c0) :
    Calls Try.prog 40 #[.slice A0 l0.length c0, .func (.func 23) #[] #[]] w fun e w' => e = .returned (.agg #[.int .i64 (maxS l0).f0, .int .i64 (maxS l0).f1]) ∧ Below w.heap.size w w' := by
  have hu := Try.underlying24
  have HR0 := Aside0.mk hr0
  have HC0 := Aside0.mk hc0
  have HB := Aside0.mk (Below.refl w.heap.size w)
  have HLN := Aside0.mk hr0.2.1
  have HNE := Aside0.mk hne
  have cz : decide ((l0.length : Int) < 1) = false := decide_eq_false (by omega)
  have cz1 : decide (0 < (l0.length : Int)) = true := decide_eq_true (by omega)
  have cz2 : decide (0 < l0.length) = true := decide_eq_true hne
  clear hr0 hc0
  obtain ⟨ad, ead, hx0, hx1⟩ := at_T24 HR0.out 0 (Int.le_refl _) (by omega)
  cases ead
  rw [show ((0 : Int)).toNat = 0 from rfl, show 0 * 2 = 0 from rfl, Addr.add_zero'] at hx0 hx1
  have qi : (0 < l0.length) = True := eq_true hne
  have HX0 := Aside0.mk hx0
  have HX1 := Aside0.mk hx1
  clear hx0 hx1
  go_enter Try.func40, Try.ntmps40
  go_wp2_with (first | ((with_reducible refine gate_dst (N := 4) rfl ?_); refine box_event ?hg (N := 4) ?hd (cs := #[.int .i64 0, .int .i64 0]) (t := 24) ?hr ?_; (case hd => rfl); (case hg => rfl); (case hr => first | (go_simp; done) | (go_simp; rfl)); intro gb1 hg w1 hbox hb; have BK1 := Aside0.mk hbox; have GE1 := Aside0.mk (show w.heap.size ≤ gb1 by rw [hg]; exact below_size HB.out); have HB1 := Aside0.mk (below_step HB.out hb); clear HB hb hbox hg; have hx0 := (HB1.out.cell (World.block_lt_of_cell? w _ HX0.out)).trans HX0.out; have hx1 := (HB1.out.cell (World.block_lt_of_cell? w _ HX1.out)).trans HX1.out) | ((with_reducible refine gate_dst (N := 5) rfl ?_); refine box_event ?hg (N := 5) ?hd (cs := #[.int .i64 0, .int .i64 0]) (t := 24) ?hr ?_; (case hd => rfl); (case hg => rfl); (case hr => first | (go_simp; done) | (go_simp; rfl)); intro gb2 hg w2 hbox hb; have BK2 := Aside0.mk hbox; have GE2 := Aside0.mk (show w.heap.size ≤ gb2 by rw [hg]; exact below_size HB1.out); have NB := Aside0.mk (show gb1 ≠ gb2 by rw [hg]; exact Nat.ne_of_lt (blk_lt BK1.out)); have BK3 := Aside0.mk (blk_below BK1.out hb); have HB2 := Aside0.mk (below_step HB1.out hb); clear BK1 HB1 hb hbox hg; have hcz0 : w2.cell? ⟨gb2, 0, none⟩ = some (.int .i64 0) := (blk_cell BK2.out 0).trans rfl; have hcz1 : w2.cell? ⟨gb2, 1, none⟩ = some (.int .i64 0) := (blk_cell BK2.out 1).trans rfl; have hfz0 := blk_frozen BK2.out 0; have hfz1 := blk_frozen BK2.out 1))
  have HM1 : maxS (l0.take 1) = rd_T24 l0 0 := by
    cases l0 with
    | nil => exact absurd HNE.out (by decide)
    | cons x t => rfl
  go_loopg [6] l0.length (fun kq v6 w' => ∃ (i : Nat), v6 = .int .i64 (i : Int) ∧ Aside0 (kq + i = l0.length + 1 ∧ 1 ≤ i ∧ i ≤ l0.length) ∧ Aside0 (w'.heap[gb1]? = some (.cells #[.int .i64 0, .int .i64 0] 24 (0, 0))) ∧ Aside0 (w'.heap[gb2]? = some (.cells #[.int .i64 (maxS (l0.take i)).f0, .int .i64 (maxS (l0.take i)).f1] 24 (0, 0))) ∧ Aside0 (Below w.heap.size w w'))
  case atStart =>
    refine ⟨1, rfl, ⟨by have := HNE.out; omega⟩, ⟨?_⟩, ⟨?_⟩, ⟨?_⟩⟩
    · (with_reducible repeat (first | refine blk_drewN ?_ _ | refine blk_drew ?_ | refine blk_alloc ?_ _)); refine blk_far ?_ NB.out _; (with_reducible repeat (first | refine blk_drewN ?_ _ | refine blk_drew ?_ | refine blk_alloc ?_ _)); refine blk_far ?_ NB.out _; (with_reducible repeat (first | refine blk_drewN ?_ _ | refine blk_drew ?_ | refine blk_alloc ?_ _)); exact BK3.out
    · rw [HM1]; (with_reducible repeat (first | refine blk_drewN ?_ _ | refine blk_drew ?_ | refine blk_alloc ?_ _)); refine blk_put (cs := #[.int .i64 ((rd_T24 l0 0).f0), .int .i64 0]) ?_ 1 _ rfl; (with_reducible repeat (first | refine blk_drewN ?_ _ | refine blk_drew ?_ | refine blk_alloc ?_ _)); refine blk_put (cs := #[.int .i64 0, .int .i64 0]) ?_ 0 _ rfl; (with_reducible repeat (first | refine blk_drewN ?_ _ | refine blk_drew ?_ | refine blk_alloc ?_ _)); exact BK2.out
    · repeat (first | (with_reducible first | exact HB2.out | apply below_alloc | apply pw_below_drewN | apply below_drew1 | refine below_set ?_ GE1.out | refine below_set ?_ GE2.out) | exact HB2.out)
  case round =>
    clear hx0 hx1 hcz0 hcz1 hfz0 hfz1 HM1 BK2 BK3 HB2 cz cz1 cz2 qi
    obtain ⟨i, rfl, HK, BK1, BK2, HB⟩ := hrel
    cases gk with
    | zero => have := HK.out; omega
    | succ k1 =>
      by_cases hil : i < l0.length
      · have c1 : decide (i < l0.length) = true := decide_eq_true hil
        have p : 0 ≤ (i : Int) := by omega
        have q : (i : Int) < (l0.length : Int) := by omega
        obtain ⟨ad2, e2, hx0, hx1⟩ := at_T24 HR0.out (i : Int) p q
        obtain rfl : ad = ad2 := by injection e2
        have e1 : rd_T24 l0 (i : Int) = l0[i] := by simp [rd_T24, List.getD_eq_getElem?_getD, List.getElem?_eq_getElem hil]
        rw [e1, Int.toNat_natCast] at hx0 hx1
        have hy0 := (HB.out.cell (World.block_lt_of_cell? w _ hx0)).trans hx0
        have hy1 := (HB.out.cell (World.block_lt_of_cell? w _ hx1)).trans hx1
        have HXi := Aside0.mk hx0
        have HYi := Aside0.mk hx1
        clear hx0 hx1 e2
        replace p := eq_true p
        replace q := eq_true q
        obtain ⟨m, hm⟩ : ∃ m, m = maxS (l0.take i) := ⟨_, rfl⟩
        rw [← hm] at BK2
        have HM := Aside0.mk hm
        have HCM := Aside0.mk (l_cmpS (l0[i]) m)
        have hz0 : wr.cell? ⟨gb2, 0, none⟩ = some (.int .i64 m.f0) := (blk_cell BK2.out 0).trans rfl
        have hz1 : wr.cell? ⟨gb2, 1, none⟩ = some (.int .i64 m.f1) := (blk_cell BK2.out 1).trans rfl
        have hd0 : wr.drew.cell? ⟨gb2, 0, none⟩ = some (.int .i64 m.f0) := hz0
        have hd1 : wr.drew.cell? ⟨gb2, 1, none⟩ = some (.int .i64 m.f1) := hz1
        have hv0 : wr.drew.cell? (ad.add (i * 2)) = some (.int .i64 (l0[i]).f0) := hy0
        have hv1 : wr.drew.cell? ⟨(ad.add (i * 2)).block, (ad.add (i * 2)).off + 1, none⟩ = some (.int .i64 (l0[i]).f1) := hy1
        clear hm
        go_wp2_with fail
        go_region_with (go_at_call 23; refine (stamp_compare.calls 20 (l0[i]).f0 (l0[i]).f1 m.f0 m.f1 _ _ HCM.out).mono ?_; rintro e w2 ⟨rfl, hb⟩; have BK3 := Aside0.mk (blk_below (g := gb1) (o := .cells #[.int .i64 0, .int .i64 0] 24 (0, 0)) (blk_drew BK1.out) hb); have BK4 := Aside0.mk (blk_below (g := gb2) (o := .cells #[.int .i64 m.f0, .int .i64 m.f1] 24 (0, 0)) (blk_drew BK2.out) hb); have HB2 := Aside0.mk (below_step (below_drew1 HB.out) hb); clear BK1 BK2 HB hb)
        all_goals
          have hx0 := (HB2.out.cell (World.block_lt_of_cell? w _ HXi.out)).trans HXi.out
          have hx1 := (HB2.out.cell (World.block_lt_of_cell? w _ HYi.out)).trans HYi.out
          have hg0 := (blk_cell BK4.out 0).trans rfl
          have hg1 := (blk_cell BK4.out 1).trans rfl
          have hf0 := blk_frozen BK4.out 0
          have hf1 := blk_frozen BK4.out 1
          have hne : l0.take i ≠ [] := fun e => by
            have h3 : (l0.take i).length = 0 := by rw [e]; rfl
            rw [List.length_take] at h3
            have h2 := HK.out
            omega
          have hsn := maxS_snoc (l0.take i) hne (l0[i])
          rw [← List.take_succ_eq_append_getElem hil, ← HM.out] at hsn
          have hwi : wrap64 ((i : Int) + 1) = ((i + 1 : Nat) : Int) := by have := HLN.out; unfold wrap64; omega
          by_cases c : 0 < cmpS (l0[i]) m
          · have cb : decide (0 < cmpS (l0[i]) m) = true := decide_eq_true c
            rw [if_pos c] at hsn
            have HS := Aside0.mk hsn
            have HW := Aside0.mk hwi
            clear hsn hwi hne
            go_wp2
            all_goals try (exfalso; omega)
            go_roundg k1
            case measure => omega
            case rel =>
              refine ⟨i + 1, by rw [HW.out], ⟨by have := HK.out; omega⟩, ⟨?_⟩, ⟨?_⟩, ⟨?_⟩⟩
              · (with_reducible repeat (first | refine blk_drewN ?_ _ | refine blk_drew ?_ | refine blk_alloc ?_ _)); refine blk_far ?_ NB.out _; (with_reducible repeat (first | refine blk_drewN ?_ _ | refine blk_drew ?_ | refine blk_alloc ?_ _)); refine blk_far ?_ NB.out _; (with_reducible repeat (first | refine blk_drewN ?_ _ | refine blk_drew ?_ | refine blk_alloc ?_ _)); exact BK3.out
              · rw [HS.out]; (with_reducible repeat (first | refine blk_drewN ?_ _ | refine blk_drew ?_ | refine blk_alloc ?_ _)); refine blk_put (cs := #[.int .i64 (l0[i]).f0, .int .i64 m.f1]) ?_ 1 _ rfl; (with_reducible repeat (first | refine blk_drewN ?_ _ | refine blk_drew ?_ | refine blk_alloc ?_ _)); refine blk_put (cs := #[.int .i64 m.f0, .int .i64 m.f1]) ?_ 0 _ rfl; (with_reducible repeat (first | refine blk_drewN ?_ _ | refine blk_drew ?_ | refine blk_alloc ?_ _)); exact BK4.out
              · repeat (first | (with_reducible first | exact HB2.out | apply below_alloc | apply pw_below_drewN | apply below_drew1 | refine below_set ?_ GE1.out | refine below_set ?_ GE2.out) | exact HB2.out)
          · have cb : decide (0 < cmpS (l0[i]) m) = false := decide_eq_false c
            rw [if_neg c] at hsn
            have HS := Aside0.mk hsn
            have HW := Aside0.mk hwi
            clear hsn hwi hne
            go_wp2
            all_goals try (exfalso; omega)
            go_roundg k1
            case measure => omega
            case rel =>
              refine ⟨i + 1, by rw [HW.out], ⟨by have := HK.out; omega⟩, ⟨?_⟩, ⟨?_⟩, ⟨?_⟩⟩
              · (with_reducible repeat (first | refine blk_drewN ?_ _ | refine blk_drew ?_ | refine blk_alloc ?_ _)); exact BK3.out
              · rw [HS.out]; (with_reducible repeat (first | refine blk_drewN ?_ _ | refine blk_drew ?_ | refine blk_alloc ?_ _)); exact BK4.out
              · repeat (first | (with_reducible first | exact HB2.out | apply below_alloc | apply pw_below_drewN | apply below_drew1) | exact HB2.out)
      · have hi : i = l0.length := by have := HK.out; omega
        subst hi
        have c1 : decide (l0.length < l0.length) = false := by simp
        rw [List.take_length] at BK2
        have hz0 : wr.cell? ⟨gb2, 0, none⟩ = some (.int .i64 (maxS l0).f0) := (blk_cell BK2.out 0).trans rfl
        have hz1 : wr.cell? ⟨gb2, 1, none⟩ = some (.int .i64 (maxS l0).f1) := (blk_cell BK2.out 1).trans rfl
        have hz2 : wr.cell? ⟨gb1, 0, none⟩ = some (.int .i64 0) := (blk_cell BK1.out 0).trans rfl
        have hz3 : wr.cell? ⟨gb1, 1, none⟩ = some (.int .i64 0) := (blk_cell BK1.out 1).trans rfl
        have hf0 := blk_frozen BK1.out 0
        have hf1 := blk_frozen BK1.out 1
        go_wp2
        refine bodyPost_ret (results_cell_row rfl _ _ gb1 24 #[.int .i64 (maxS l0).f0, .int .i64 (maxS l0).f1] (0, 0) _ rfl (by (with_reducible repeat (first | refine blk_drewN ?_ _ | refine blk_drew ?_ | refine blk_alloc ?_ _)); refine blk_put (cs := #[.int .i64 (maxS l0).f0, .int .i64 0]) ?_ 1 _ rfl; (with_reducible repeat (first | refine blk_drewN ?_ _ | refine blk_drew ?_ | refine blk_alloc ?_ _)); refine blk_put (cs := #[.int .i64 0, .int .i64 0]) ?_ 0 _ rfl; (with_reducible repeat (first | refine blk_drewN ?_ _ | refine blk_drew ?_ | refine blk_alloc ?_ _)); exact BK1.out) Try.underlying24 rfl (by kernel_rfl)) rfl ?_
        exact ⟨rfl, by repeat (first | (with_reducible first | exact HB.out | apply below_alloc | apply pw_below_drewN | apply below_drew1 | refine below_set ?_ GE1.out | refine below_set ?_ GE2.out) | exact HB.out)⟩
set_option maxHeartbeats 8000000 in
set_option maxRecDepth 100000 in
theorem stamp_Max.calls (A0 : Option Addr) (c0 : Nat) (l0 : List S24) (r1 : Int) (r2 : Int) (w : World) (hr0 : Kd.C k24 w A0 l0.length l0) (hc0 : l0.length ≤ c0) (h : stamp_Max.f l0 = some (r1, r2)) :
    Calls Try.prog 31 #[.slice A0 l0.length c0] w fun e w' => e = .returned (.agg #[.int .i64 r1, .int .i64 r2]) ∧ Below w.heap.size w w' := by
  have hu := Try.underlying24
  unfold stamp_Max.f at h
  simp only [Option.some.injEq, Prod.mk.injEq] at h
  obtain ⟨rfl, rfl⟩ := h
  have HR0 := Aside0.mk hr0
  have HC0 := Aside0.mk hc0
  have HB := Aside0.mk (Below.refl w.heap.size w)
  clear hr0 hc0
  by_cases h0 : l0.length = 0
  · obtain rfl : l0 = [] := List.length_eq_zero_iff.1 h0
    go_enter Try.func31, Try.ntmps31
    go_wp2_with (first | ((with_reducible refine gate_dst (N := 2) rfl ?_); refine box_event ?hg (N := 2) ?hd (cs := #[.int .i64 0, .int .i64 0]) (t := 24) ?hr ?_; (case hd => rfl); (case hg => rfl); (case hr => first | (go_simp; done) | (go_simp; rfl)); intro gb1 hg w1 hbox hb; have BK1 := Aside0.mk hbox; have GE1 := Aside0.mk (show w.heap.size ≤ gb1 by rw [hg]; exact below_size HB.out); have HB1 := Aside0.mk (below_step HB.out hb); clear HB hb hbox hg; have hcz0 : w1.cell? ⟨gb1, 0, none⟩ = some (.int .i64 0) := (blk_cell BK1.out 0).trans rfl; have hcz1 : w1.cell? ⟨gb1, 1, none⟩ = some (.int .i64 0) := (blk_cell BK1.out 1).trans rfl; have hfz0 := blk_frozen BK1.out 0; have hfz1 := blk_frozen BK1.out 1))
    refine bodyPost_ret (results_cell_row rfl _ _ gb1 24 #[.int .i64 0, .int .i64 0] (0, 0) _ rfl (by (with_reducible repeat (first | refine blk_drewN ?_ _ | refine blk_drew ?_ | refine blk_alloc ?_ _)); refine blk_put (cs := #[.int .i64 0, .int .i64 0]) ?_ 1 _ rfl; (with_reducible repeat (first | refine blk_drewN ?_ _ | refine blk_drew ?_ | refine blk_alloc ?_ _)); refine blk_put (cs := #[.int .i64 0, .int .i64 0]) ?_ 0 _ rfl; (with_reducible repeat (first | refine blk_drewN ?_ _ | refine blk_drew ?_ | refine blk_alloc ?_ _)); exact BK1.out) Try.underlying24 rfl (by kernel_rfl)) rfl ?_
    exact ⟨rfl, by repeat (first | (with_reducible first | exact HB1.out | apply below_alloc | apply pw_below_drewN | apply below_drew1 | refine below_set ?_ GE1.out) | exact HB1.out)⟩
  · have hz : ((l0.length : Int) == 0) = false := beq_eq_false_iff_ne.mpr (by omega)
    have hz2 : ¬ (l0 = []) := fun e => h0 (by rw [e]; rfl)
    have hpos : 0 < l0.length := by omega
    have HP := Aside0.mk hpos
    clear h0
    go_enter Try.func31, Try.ntmps31
    go_wp2_with (first | (go_at_call 40; refine (maxFunc_calls A0 c0 l0 HP.out _ ?s1 HC0.out).mono ?_; (case s1 => exact Kd.C_below HR0.out HB1.out); rintro e w2 ⟨rfl, hb⟩; have BK2 := Aside0.mk (blk_below (g := gb1) (o := .cells #[.int .i64 0, .int .i64 0] 24 (0, 0)) BK1.out hb); have HB2 := Aside0.mk (below_step HB1.out hb); clear BK1 HB1 hb; have hcz0 : w2.cell? ⟨gb1, 0, none⟩ = some (.int .i64 0) := (blk_cell BK2.out 0).trans rfl; have hcz1 : w2.cell? ⟨gb1, 1, none⟩ = some (.int .i64 0) := (blk_cell BK2.out 1).trans rfl; have hfz0 := blk_frozen BK2.out 0; have hfz1 := blk_frozen BK2.out 1) | ((with_reducible refine gate_dst (N := 2) rfl ?_); refine box_event ?hg (N := 2) ?hd (cs := #[.int .i64 0, .int .i64 0]) (t := 24) ?hr ?_; (case hd => rfl); (case hg => rfl); (case hr => first | (go_simp; done) | (go_simp; rfl)); intro gb1 hg w1 hbox hb; have BK1 := Aside0.mk hbox; have GE1 := Aside0.mk (show w.heap.size ≤ gb1 by rw [hg]; exact below_size HB.out); have HB1 := Aside0.mk (below_step HB.out hb); clear HB hb hbox hg))
    refine bodyPost_ret (results_cell_row rfl _ _ gb1 24 #[.int .i64 (maxS l0).f0, .int .i64 (maxS l0).f1] (0, 0) _ rfl (by (with_reducible repeat (first | refine blk_drewN ?_ _ | refine blk_drew ?_ | refine blk_alloc ?_ _)); refine blk_put (cs := #[.int .i64 (maxS l0).f0, .int .i64 0]) ?_ 1 _ rfl; (with_reducible repeat (first | refine blk_drewN ?_ _ | refine blk_drew ?_ | refine blk_alloc ?_ _)); refine blk_put (cs := #[.int .i64 0, .int .i64 0]) ?_ 0 _ rfl; (with_reducible repeat (first | refine blk_drewN ?_ _ | refine blk_drew ?_ | refine blk_alloc ?_ _)); exact BK2.out) Try.underlying24 rfl (by kernel_rfl)) rfl ?_
    exact ⟨rfl, by repeat (first | (with_reducible first | exact HB2.out | apply below_alloc | apply pw_below_drewN | apply below_drew1 | refine below_set ?_ GE1.out) | exact HB2.out)⟩

end Go.Proofs.Ythdmkacnkdmbiaa.PRecordStaged
