/- Written by xprint.py, a program of these sessions (over the print of the kit, with leaves typed by hand): one Lean function for each Go function, and the proof that the Go code comes to its answers. -/
import Derived.Test.YtclbcmblgbinpaaPQuillJoinx0
import Derived.Test.YtclbcmblgbinpaaPQuillJoinx1
namespace Go.Proofs.Ytclbcmblgbinpaa.PQuillJoin
open Go.RowKit Go.Proofs.YtclbcmblgbinpaaW.PrintWords Go.Proofs.YtclbcmblgbinpaaW.PrintLast Go.Proofs.YtclbcmblgbinpaaW.PrintMore
attribute [local go_sem] max2_int min2_int max_two min_two max_three min_three max_four min_four   -- for this text's walks alone
set_option linter.unusedVariables false
set_option linter.unusedSimpArgs false

/-! ### quill_Num: function 14 -/
mutual
def quill_Num.j0 : Nat → Int → Bool → Option (List Int × Int)
  | 0, _, _ => none
  | k + 1, x0, x10 => if x10 = true then (some (([] : List Int), 2)) else (quill_Num.l0 k x0 ([] : List Int))
def quill_Num.l0 : Nat → Int → List Int → Option (List Int × Int)
  | 0, _, _ => none
  | k + 1, x0, x4 => if x0 > 0 then (if x4.length < 140737488355328 then (quill_Num.l0 k (x0 / 256) (x4 ++ [(x0) % 256])) else (none)) else ((slices_Reverse_byte_byte.f k x4).bind fun t110 => ((some (([((x4.length : Int)) % 256] : List Int) : List Int)).bind fun y111 => (if y111.length + t110.length < 140737488355328 then (some ((y111 ++ t110), 0)) else (none))))
end
def quill_Num.f (k : Nat) (a0 : Int) : Option (List Int × Int) := if a0 < 0 then (quill_Num.j0 k a0 true) else (quill_Num.j0 k a0 (decide (a0 > 9007199254740991)))
theorem quill_Num.mono_l : ∀ k, (∀ y0 y1, LeO (quill_Num.j0 k y0 y1) (quill_Num.j0 (k + 1) y0 y1)) ∧ (∀ y0 y1, LeO (quill_Num.l0 k y0 y1) (quill_Num.l0 (k + 1) y0 y1))
  | 0 => ⟨fun _ _ r h => by simp [quill_Num.j0] at h, fun _ _ r h => by simp [quill_Num.l0] at h⟩
  | k + 1 => by
    obtain ⟨ih0, ih1⟩ := quill_Num.mono_l k
    refine ⟨?_, ?_⟩
    · intro y0 y1
      unfold quill_Num.j0
      repeat' first
      | (with_reducible exact ih0 _ _)
      | (with_reducible exact ih1 _ _)
      | (with_reducible exact slices_Reverse_byte_byte.mono _ _)
      | (with_reducible exact LeO.refl _)
      | (with_reducible exact LeO.none _)
      | (with_reducible refine LeO.ite ?_ ?_)
      | (with_reducible refine LeO.bind ?_ (fun _ => ?_))
      | exact ih0 _ _
      | exact ih1 _ _
      | exact slices_Reverse_byte_byte.mono _ _
      | exact LeO.none _
      | refine LeO.ite ?_ ?_
      | refine LeO.bind ?_ (fun _ => ?_)
    · intro y0 y1
      unfold quill_Num.l0
      repeat' first
      | (with_reducible exact ih0 _ _)
      | (with_reducible exact ih1 _ _)
      | (with_reducible exact slices_Reverse_byte_byte.mono _ _)
      | (with_reducible exact LeO.refl _)
      | (with_reducible exact LeO.none _)
      | (with_reducible refine LeO.ite ?_ ?_)
      | (with_reducible refine LeO.bind ?_ (fun _ => ?_))
      | exact ih0 _ _
      | exact ih1 _ _
      | exact slices_Reverse_byte_byte.mono _ _
      | exact LeO.none _
      | refine LeO.ite ?_ ?_
      | refine LeO.bind ?_ (fun _ => ?_)
theorem quill_Num.mono : ∀ a0 k, LeO (quill_Num.f k a0) (quill_Num.f (k + 1) a0) := by
  intro a0 k
  obtain ⟨ih0, ih1⟩ := quill_Num.mono_l k
  unfold quill_Num.f
  repeat' first
      | (with_reducible exact ih0 _ _)
      | (with_reducible exact ih1 _ _)
      | (with_reducible exact slices_Reverse_byte_byte.mono _ _)
      | (with_reducible exact LeO.refl _)
      | (with_reducible exact LeO.none _)
      | (with_reducible refine LeO.ite ?_ ?_)
      | (with_reducible refine LeO.bind ?_ (fun _ => ?_))
      | exact ih0 _ _
      | exact ih1 _ _
      | exact slices_Reverse_byte_byte.mono _ _
      | exact LeO.none _
      | refine LeO.ite ?_ ?_
      | refine LeO.bind ?_ (fun _ => ?_)
set_option maxHeartbeats 8000000 in
set_option maxRecDepth 100000 in
theorem quill_Num.calls (k : Nat) (a0 : Int) (r1 : List Int) (r2 : Int) (w : World) (h : quill_Num.f k a0 = some (r1, r2)) :
    Calls Try.prog 14 #[.int .i64 a0] w fun e w' => ∃ v0_ : Value, e = .returned (.tuple #[v0_, .int .i64 r2]) ∧ Kd.R (Kd.int .u8) 5 w' w.heap.size (fun _ => True) v0_ r1 ∧ Below w.heap.size w w' := by
  have HB := Aside0.mk (Below.refl w.heap.size w)
  have H : (if a0 < 0 then (quill_Num.j0 k a0 true) else (quill_Num.j0 k a0 (decide (a0 > 9007199254740991)))) = some (r1, r2) := h
  clear h
  have HC2 := Aside0.mk H
  clear H
  go_enter Try.func14, Try.ntmps14
  go_upto_region 1 with (fail)
  go_cut [10] (fun v10 wc => ∃ (kq : Nat) (x10_1 : Bool), v10 = .bool x10_1 ∧ Aside0 (quill_Num.j0 kq a0 x10_1 = some (r1, r2)) ∧ Aside0 (kq ≤ k) ∧ Aside0 (Below w.heap.size w wc))
  case first =>
    have H := HC2.out
    clear HC2
    by_cases c3 : a0 < 0
    · rw [if_pos c3] at H
      have c3b0 : decide (a0 < 0) = true := decide_eq_true c3
      clear c3
      (first | rw [c3b0] | (simp only [i64_w, i32_w]; rw [c3b0]) | skip)
      have H' := Aside0.mk H
      clear H
      go_wp2
      go_meet
      case rel => exact ⟨_, (true), (by first | rfl | (simp; done) | (simp [*]; done)), H', ⟨by first | omega | exact Nat.le_refl _⟩, ⟨by repeat (first | (with_reducible first | exact HB.out | apply below_alloc | apply pw_below_drewN | apply below_drew1) | exact HB.out)⟩⟩
    · rw [if_neg c3] at H
      have c3b0 : decide (a0 < 0) = false := decide_eq_false c3
      clear c3
      (first | rw [c3b0] | (simp only [i64_w, i32_w]; rw [c3b0]) | skip)
      have H' := Aside0.mk H
      clear H
      go_wp2
      go_meet
      case rel => exact ⟨_, (decide (a0 > 9007199254740991)), (by first | rfl | (simp; done) | (simp [*]; done)), H', ⟨by first | omega | exact Nat.le_refl _⟩, ⟨by repeat (first | (with_reducible first | exact HB.out | apply below_alloc | apply pw_below_drewN | apply below_drew1) | exact HB.out)⟩⟩
  case rest =>
    clear HC2
    try clear c1
    try clear p2
    try clear c3
    try clear c3b0
    obtain ⟨kq, x10_1, rfl, HA, HJ1, HB⟩ := hcut
    cases kq with
    | zero => exact absurd HA.out (by simp [quill_Num.j0])
    | succ kj1 =>
      have H := HA.out
      clear HA
      simp only [quill_Num.j0] at H
      by_cases c4 : x10_1 = true
      · subst c4
        have H1 : (some (([] : List Int), 2)) = some (r1, r2) := by rw [if_pos rfl] at H; exact H
        clear H
        have H := H1
        clear H1
        simp only [Option.some.injEq, Prod.mk.injEq] at H
        obtain ⟨rfl, rfl⟩ := H
        go_wp2
        go_ret2
        exact ⟨_, by first | rfl | (simp [errW_none, errW_some] <;> rfl) | (simp [*, errW_none, errW_some] <;> rfl), by first | exact Kd.R_nil _ _ _ _ _ | exact Kd.N_nil _ _ _ _ _ | exact Kd.V_nil _ _ _ _ _ | exact Kd.Q_nil _ _ _ _ _ | exact Kd.S_nil _ _ _ _ _, by repeat (first | (with_reducible first | exact HB.out | apply below_alloc | apply pw_below_drewN | apply below_drew1) | exact HB.out)⟩
      · replace c4 := Bool.eq_false_iff.mpr c4
        subst c4
        have H1 : (quill_Num.l0 kj1 a0 ([] : List Int)) = some (r1, r2) := by rw [if_neg (show ¬ (false = true) by decide)] at H; exact H
        clear H
        have H := H1
        clear H1
        have H' := Aside0.mk H
        clear H
        go_wp2
        go_loopg [0, 4] kj1 (fun kq v0 v4 w' => ∃ (x0_2 : Int) (x4_2 : List Int), v0 = .int .i64 x0_2 ∧ Aside0 (quill_Num.l0 kq x0_2 x4_2 = some (r1, r2)) ∧ Aside0 (kq ≤ kj1) ∧ Aside0 (Kd.R (Kd.int .u8) 5 w' w.heap.size (fun _ => True) v4 x4_2) ∧ Aside0 (Below w.heap.size w w'))
        case atStart => exact ⟨(a0), (([] : List Int)), (by first | rfl | (simp; done) | (simp [*]; done)), H', ⟨Nat.le_refl _⟩, ⟨by first | exact Kd.R_nil _ _ _ _ _ | exact Kd.N_nil _ _ _ _ _ | exact Kd.V_nil _ _ _ _ _ | exact Kd.Q_nil _ _ _ _ _ | exact Kd.S_nil _ _ _ _ _⟩, ⟨by repeat (first | (with_reducible first | exact HB.out | apply below_alloc | apply pw_below_drewN | apply below_drew1) | exact HB.out)⟩⟩
        case round =>
          clear H'
          try clear c1
          try clear p2
          try clear c3
          try clear c3b0
          try clear c4
          try clear p2
          obtain ⟨x0_2, x4_2, rfl, HA, HK2, HO_4, HB⟩ := hrel
          cases gk with
          | zero => exact absurd HA.out (by simp [quill_Num.l0])
          | succ k2 =>
            have H := HA.out
            clear HA
            simp only [quill_Num.l0] at H
            by_cases c5 : x0_2 > 0
            · rw [if_pos c5] at H
              have c5b0 : decide (0 < x0_2) = true := decide_eq_true c5
              clear c5
              by_cases c6 : x4_2.length < 140737488355328
              · rw [if_pos c6] at H
                have LMc6 := Aside0.mk c6
                clear c6
                obtain ⟨y107, hy107⟩ : ∃ y_ : List Int, y_ = (x4_2 ++ [(x0_2) % 256]) := ⟨_, rfl⟩
                replace H : (quill_Num.l0 k2 (x0_2 / 256) y107) = some (r1, r2) := by first | (rw [hy107]; with_reducible exact H) | (have H2_ := (Option.bind_some _ _).symm.trans H; rw [hy107]; with_reducible exact H2_) | (have H2_ := (Option.bind_some _ _).symm.trans H; with_reducible exact H2_) | with_reducible exact H | (rw [hy107]; exact H) | exact H
                have Ny107 := Aside0.mk hy107
                clear hy107
                have H' := Aside0.mk H
                clear H
                go_wp2_with (first | ((with_reducible refine gate_builtin (b := .append) (xs := #[.tmp 15, .tmp 18]) rfl ?_); at_builtin; refine Kd.R_append (Kd.int .u8) (w0 := w) w.heap.size rfl (.tmp 15) (.tmp 18) 22 5 (.int .u8 0) 1 rfl Try.underlying22 info5 rfl (by decide) (by omega) u4 x4_2 ((x0_2) % 256) [.int .u8 ((x0_2) % 256)] (fun _ => True) (fun _ => False) rfl rfl ?aP (fun _ hk => hk.elim) ?aF ?aO ?aB ?aS ?aL ?_; (case aP => exact rfl); (case aB => exact (by repeat (first | (with_reducible first | exact HB.out | apply below_alloc | apply pw_below_drewN | apply below_drew1) | exact HB.out))); (case aF => exact (fun _ _ => trivial)); (case aO => exact (by (with_reducible repeat (first | apply Kd.R_alloc | apply Kd.R_drewN | apply Kd.R_drew)); exact HO_4.out)); (case aS => exact (below_size (by repeat (first | (with_reducible first | exact HB.out | apply below_alloc | apply pw_below_drewN | apply below_drew1) | exact HB.out)))); (case aL => have := LMc6.out; omega); intro v108 w7 ho hb hg hat; rw [← Ny107.out] at ho; have n0_ := Aside0.mk (hb); have n1_ := Aside0.mk (ho); clear HB; clear HO_4; have HB := n0_; have HO109 := n1_; clear n0_ n1_; clear ho hb hg hat))
                go_roundg k2
                case measure => have := HJ1.out; have := HK2.out; omega
                case rel => exact ⟨(x0_2 / 256), (y107), (by first | rfl | (simp; done) | (simp [*]; done)), H', ⟨by have := HJ1.out; have := HK2.out; omega⟩, ⟨by (with_reducible repeat (first | apply Kd.R_alloc | apply Kd.R_drewN | apply Kd.R_drew)); exact HO109.out⟩, ⟨by repeat (first | (with_reducible first | exact HB.out | apply below_alloc | apply pw_below_drewN | apply below_drew1) | exact HB.out)⟩⟩
              · rw [if_neg c6] at H
                exact absurd H (by simp)
            · rw [if_neg c5] at H
              have c5b0 : decide (0 < x0_2) = false := decide_eq_false c5
              clear c5
              replace H := Option.bind_eq_some_iff.mp H
              obtain ⟨t110, A80, H⟩ := H
              replace H : ((some (([((x4_2.length : Int)) % 256] : List Int) : List Int)).bind fun y111 => (if y111.length + t110.length < 140737488355328 then (some ((y111 ++ t110), 0)) else (none))) = some (r1, r2) := H
              have A8 := Aside0.mk A80
              clear A80
              obtain ⟨y111, hy111⟩ : ∃ y_ : List Int, y_ = (([((x4_2.length : Int)) % 256] : List Int)) := ⟨_, rfl⟩
              replace H : (if y111.length + t110.length < 140737488355328 then (some ((y111 ++ t110), 0)) else (none)) = some (r1, r2) := by first | (rw [hy111]; with_reducible exact H) | (have H2_ := (Option.bind_some _ _).symm.trans H; rw [hy111]; with_reducible exact H2_) | (have H2_ := (Option.bind_some _ _).symm.trans H; with_reducible exact H2_) | with_reducible exact H | (rw [hy111]; exact H) | exact H
              have Ny111 := Aside0.mk hy111
              clear hy111
              by_cases c9 : y111.length + t110.length < 140737488355328
              · rw [if_pos c9] at H
                have LMc9 := Aside0.mk c9
                clear c9
                obtain ⟨y114, hy114⟩ : ∃ y_ : List Int, y_ = (y111 ++ t110) := ⟨_, rfl⟩
                replace H : (some (y114, 0)) = some (r1, r2) := by first | (rw [hy114]; with_reducible exact H) | (have H2_ := (Option.bind_some _ _).symm.trans H; rw [hy114]; with_reducible exact H2_) | (have H2_ := (Option.bind_some _ _).symm.trans H; with_reducible exact H2_) | with_reducible exact H | (rw [hy114]; exact H) | exact H
                have Ny114 := Aside0.mk hy114
                clear hy114
                simp only [Option.some.injEq, Prod.mk.injEq] at H
                obtain ⟨rfl, rfl⟩ := H
                obtain ⟨Ao10, co10, eo10⟩ := Kd.R_slice HO_4.out
                subst eo10
                go_wp2_with (first | ((with_reducible refine gate_callee (f := 33) rfl ?_); refine goesL_ (some 21) rfl rfl Try.func33 (by kernel_rfl) rfl #[.slice Ao10 x4_2.length co10] rfl (by (try simp only [List.map_toArray, List.map_cons, List.map_nil]); first | done | rfl | (simp only [List.length_drop, List.length_take]; rfl)) ?_; (with_reducible refine (slices_Reverse_byte_byte.calls k2 (fun k_ => some k_ = (.slice Ao10 x4_2.length co10 : Value).ownBlock) (.slice Ao10 x4_2.length co10) x4_2 t110 w _ ?side1 ?side2 A8.out).mono ?_); (case side1 => repeat (first | (with_reducible first | exact HB.out | apply below_alloc | apply pw_below_drewN | apply below_drew1) | exact HB.out)); (case side2 => exact Kd.R_tight rfl HO_4.out); rintro e w11 ⟨rfl, hy0, hb, hkp⟩; refine ⟨_, rfl, ?_⟩; have n0_ := Aside0.mk (Kd.R_reok rfl hy0 (fun k_ e_ => HO_4.out.1 k_ e_)); have n1_ := Aside0.mk (hb); clear HO_4; clear HB; have HO_4 := n0_; have HB := n1_; clear n0_ n1_; (try clear hb); (try clear hkp); (try clear hy0)) | ((with_reducible refine gate_dst (N := 25) rfl ?_); refine Kd.R_lit (Kd.int .u8) _ 5 ?hg (N := 25) ?hd (xs := ([((x4_2.length : Int)) % 256] : List Int)) (inner := [.int .u8 (((x4_2.length : Int)) % 256)]) (ok := fun _ => True) (okp := fun _ => True) ?hr ?hp (fun _ hk => hk) trivial (Below.refl _ _) (Nat.le_refl _) (by simp) ?_; (case hd => rfl); (case hg => rfl); (case hr => first | (go_simp; done) | (go_simp; rfl)); (case hp => exact (Reps.one (show Kd.M (Kd.int .u8) _ _ _ (((x4_2.length : Int)) % 256) [.int .u8 (((x4_2.length : Int)) % 256)] from rfl) (Reps.none _ _))); intro v112 w12 ho13 hb hg_ hnew_; clear hg_ hnew_; (first | rw [← Ny111.out] at ho13 | (simp only [Int.reduceToNat] at ho13; rw [← Ny111.out] at ho13)); have n0_ := Aside0.mk (Kd.R_elder' (by (with_reducible repeat (first | apply Kd.R_alloc | apply Kd.R_drewN | apply Kd.R_drew)); exact HO_4.out) (Kd.R_base ho13) hb); have n1_ := Aside0.mk (Kd.R_lower (Kd.R_new' ho13 (Kd.R_lt (by (with_reducible repeat (first | apply Kd.R_alloc | apply Kd.R_drewN | apply Kd.R_drew)); exact HO_4.out))) (below_size (by repeat (first | (with_reducible first | exact HB.out | apply below_alloc | apply pw_below_drewN | apply below_drew1) | exact HB.out)))); have n2_ := Aside0.mk (below_step (by repeat (first | (with_reducible first | exact HB.out | apply below_alloc | apply pw_below_drewN | apply below_drew1) | exact HB.out)) hb); clear HO_4; clear HB; have HO_4 := n0_; have HO113 := n1_; have HB := n2_; clear n0_ n1_ n2_; clear hb ho13) | ((with_reducible refine gate_builtin (b := .append) (xs := #[.tmp 25, .tmp 26]) rfl ?_); at_builtin; refine Kd.R_append_rows (Kd.int .u8) (w0 := w) w.heap.size rfl (.tmp 25) (.tmp 26) 22 5 (.int .u8 0) 1 rfl Try.underlying22 info5 rfl (by decide) (by omega) v112 y111 t110 _ _ _ (fun k_ => some k_ ≠ (.slice Ao10 x4_2.length co10 : Value).ownBlock) (fun _ => False) rfl rfl ?aO ?aR (fun _ _ h => h) (fun _ h => h.elim) ?aF ?aB ?aS ?aL ?_; (case aR => rw [show x4_2.length = t110.length from (Kd.R_reads' HO_4.out).1]; repeat (first | exact (Kd.R_reads' HO_4.out).2.2 | (with_reducible refine Kd.C_alloc ?_ _) | (with_reducible refine Kd.C_drewN ?_ _) | (with_reducible refine Kd.C_drew ?_))); (case aB => exact (by repeat (first | (with_reducible first | exact HB.out | apply below_alloc | apply pw_below_drewN | apply below_drew1) | exact HB.out))); (case aF => exact (fun k_ hk => Kd.fresh' (Kd.R_lt (by (with_reducible repeat (first | apply Kd.R_alloc | apply Kd.R_drewN | apply Kd.R_drew)); exact HO_4.out)) k_ hk)); (case aO => exact (by (with_reducible repeat (first | apply Kd.R_alloc | apply Kd.R_drewN | apply Kd.R_drew)); exact Kd.R_mono HO113.out (fun _ hk => hk.2))); (case aS => exact (below_size (by repeat (first | (with_reducible first | exact HB.out | apply below_alloc | apply pw_below_drewN | apply below_drew1) | exact HB.out)))); (case aL => have := LMc9.out; have hlx_ := (Kd.R_reads' HO_4.out).1; omega); intro v115 w14 ho hb hg hat; rw [← Ny114.out] at ho; have n0_ := Aside0.mk (Kd.R_after (ok := (fun _ => True)) (by (with_reducible repeat (first | apply Kd.R_alloc | apply Kd.R_drewN | apply Kd.R_drew)); exact HO_4.out) hg hat); have n1_ := Aside0.mk (hb); have n2_ := Aside0.mk (ho); clear HO_4; clear HB; clear HO113; have HO_4 := n0_; have HB := n1_; have HO116 := n2_; clear n0_ n1_ n2_; clear ho hb hg hat))
                go_ret2
                exact ⟨_, by first | rfl | (simp [errW_none, errW_some] <;> rfl) | (simp [*, errW_none, errW_some] <;> rfl), by (with_reducible repeat (first | apply Kd.R_alloc | apply Kd.R_drewN | apply Kd.R_drew)); exact Kd.R_mono HO116.out (fun _ hk => trivial), by repeat (first | (with_reducible first | exact HB.out | apply below_alloc | apply pw_below_drewN | apply below_drew1) | exact HB.out)⟩
              · rw [if_neg c9] at H
                exact absurd H (by simp)

/-! ### quill_Str: function 23 -/
def quill_Str.f (k : Nat) (a0 : ByteArray) (a1 : Int) : Option (List Int × Int) := if a1 < 0 then (some (([] : List Int), 2)) else (if (a0.size : Int) > a1 then (some (([] : List Int), 5)) else ((quill_Num.f k (a0.size : Int)).bind fun bt117 => (if bt117.2 = 0 then (if bt117.1.length + a0.size < 140737488355328 then (some ((bt117.1 ++ bytesOf a0), 0)) else (none)) else (some (([] : List Int), bt117.2)))))
theorem quill_Str.mono : ∀ a0 a1 k, LeO (quill_Str.f k a0 a1) (quill_Str.f (k + 1) a0 a1) := by
  intro a0 a1 k
  unfold quill_Str.f
  repeat' first
      | (with_reducible exact quill_Num.mono _ _)
      | (with_reducible exact LeO.refl _)
      | (with_reducible exact LeO.none _)
      | (with_reducible refine LeO.ite ?_ ?_)
      | (with_reducible refine LeO.bind ?_ (fun _ => ?_))
      | exact quill_Num.mono _ _
      | exact LeO.none _
      | refine LeO.ite ?_ ?_
      | refine LeO.bind ?_ (fun _ => ?_)
set_option maxHeartbeats 8000000 in
set_option maxRecDepth 100000 in
theorem quill_Str.calls (k : Nat) (a0 : ByteArray) (a1 : Int) (r1 : List Int) (r2 : Int) (w : World) (h : quill_Str.f k a0 a1 = some (r1, r2)) :
    Calls Try.prog 23 #[.string a0, .int .i64 a1] w fun e w' => ∃ v0_ : Value, e = .returned (.tuple #[v0_, .int .i64 r2]) ∧ Kd.R (Kd.int .u8) 5 w' w.heap.size (fun _ => True) v0_ r1 ∧ Below w.heap.size w w' := by
  have HB := Aside0.mk (Below.refl w.heap.size w)
  have H : (if a1 < 0 then (some (([] : List Int), 2)) else (if (a0.size : Int) > a1 then (some (([] : List Int), 5)) else ((quill_Num.f k (a0.size : Int)).bind fun bt117 => (if bt117.2 = 0 then (if bt117.1.length + a0.size < 140737488355328 then (some ((bt117.1 ++ bytesOf a0), 0)) else (none)) else (some (([] : List Int), bt117.2)))))) = some (r1, r2) := h
  clear h
  by_cases c3 : a1 < 0
  · rw [if_pos c3] at H
    have c3b0 : decide (a1 < 0) = true := decide_eq_true c3
    clear c3
    simp only [Option.some.injEq, Prod.mk.injEq] at H
    obtain ⟨rfl, rfl⟩ := H
    go_enter Try.func23, Try.ntmps23
    go_wp2
    go_ret2
    exact ⟨_, by first | rfl | (simp [errW_none, errW_some] <;> rfl) | (simp [*, errW_none, errW_some] <;> rfl), by first | exact Kd.R_nil _ _ _ _ _ | exact Kd.N_nil _ _ _ _ _ | exact Kd.V_nil _ _ _ _ _ | exact Kd.Q_nil _ _ _ _ _ | exact Kd.S_nil _ _ _ _ _, by repeat (first | (with_reducible first | exact HB.out | apply below_alloc | apply pw_below_drewN | apply below_drew1) | exact HB.out)⟩
  · rw [if_neg c3] at H
    have c3b0 : decide (a1 < 0) = false := decide_eq_false c3
    clear c3
    by_cases c4 : (a0.size : Int) > a1
    · rw [if_pos c4] at H
      have c4b0 : decide (a1 < (a0.size : Int)) = true := decide_eq_true c4
      clear c4
      simp only [Option.some.injEq, Prod.mk.injEq] at H
      obtain ⟨rfl, rfl⟩ := H
      go_enter Try.func23, Try.ntmps23
      go_wp2
      go_ret2
      exact ⟨_, by first | rfl | (simp [errW_none, errW_some] <;> rfl) | (simp [*, errW_none, errW_some] <;> rfl), by first | exact Kd.R_nil _ _ _ _ _ | exact Kd.N_nil _ _ _ _ _ | exact Kd.V_nil _ _ _ _ _ | exact Kd.Q_nil _ _ _ _ _ | exact Kd.S_nil _ _ _ _ _, by repeat (first | (with_reducible first | exact HB.out | apply below_alloc | apply pw_below_drewN | apply below_drew1) | exact HB.out)⟩
    · rw [if_neg c4] at H
      have c4b0 : decide (a1 < (a0.size : Int)) = false := decide_eq_false c4
      clear c4
      replace H := Option.bind_eq_some_iff.mp H
      obtain ⟨⟨t117, t118⟩, A50, H⟩ := H
      replace H : (if t118 = 0 then (if t117.length + a0.size < 140737488355328 then (some ((t117 ++ bytesOf a0), 0)) else (none)) else (some (([] : List Int), t118))) = some (r1, r2) := H
      have A5 := Aside0.mk A50
      clear A50
      by_cases c6 : t118 = 0
      · rw [if_pos c6] at H
        have c6b0 : (t118 == 0) = true := beq_iff_eq.mpr c6
        have c6b1 : (t118 != 0) = false := bne_eq_false_iff_eq.mpr c6
        clear c6
        by_cases c7 : t117.length + a0.size < 140737488355328
        · rw [if_pos c7] at H
          have LMc7 := Aside0.mk c7
          clear c7
          obtain ⟨y121, hy121⟩ : ∃ y_ : List Int, y_ = (t117 ++ bytesOf a0) := ⟨_, rfl⟩
          replace H : (some (y121, 0)) = some (r1, r2) := by first | (rw [hy121]; with_reducible exact H) | (have H2_ := (Option.bind_some _ _).symm.trans H; rw [hy121]; with_reducible exact H2_) | (have H2_ := (Option.bind_some _ _).symm.trans H; with_reducible exact H2_) | with_reducible exact H | (rw [hy121]; exact H) | exact H
          have Ny121 := Aside0.mk hy121
          clear hy121
          simp only [Option.some.injEq, Prod.mk.injEq] at H
          obtain ⟨rfl, rfl⟩ := H
          go_enter Try.func23, Try.ntmps23
          go_wp2_with (first | ((with_reducible refine gate_callee (f := 14) rfl ?_); refine goesL_ (some 19) rfl rfl Try.func14 (by kernel_rfl) rfl #[.int .i64 (a0.size : Int)] rfl (by (try simp only [List.map_toArray, List.map_cons, List.map_nil]); first | done | rfl | (simp only [List.length_drop, List.length_take]; rfl)) ?_; (with_reducible refine (quill_Num.calls k (a0.size : Int) t117 t118 _ A5.out).mono ?_); rintro e w8 ⟨v119, rfl, ho0, hb⟩; refine ⟨_, rfl, ?_⟩; have n0_ := Aside0.mk (Kd.R_lower ho0 (below_size (by repeat (first | (with_reducible first | exact HB.out | apply below_alloc | apply pw_below_drewN | apply below_drew1) | exact HB.out)))); have n1_ := Aside0.mk (below_step (by repeat (first | (with_reducible first | exact HB.out | apply below_alloc | apply pw_below_drewN | apply below_drew1) | exact HB.out)) hb); clear HB; have HO120 := n0_; have HB := n1_; clear n0_ n1_; (try clear hb); (try clear hb2); (try clear hk); (try clear hi); (try clear ho0)) | (at_builtin; refine print_append_str (w0 := w) w.heap.size rfl (.tmp 25) _ 22 9 5 rfl Try.underlying22 Try.underlying9 info5 v119 t117 a0 rfl rfl ?aO ?aB ?aS ?aL ?_; (case aB => exact (by repeat (first | (with_reducible first | exact HB.out | apply below_alloc | apply pw_below_drewN | apply below_drew1) | exact HB.out))); (case aO => exact (Kd.own_of_R (by (with_reducible repeat (first | apply Kd.R_alloc | apply Kd.R_drewN | apply Kd.R_drew)); exact HO120.out))); (case aS => exact (below_size (by repeat (first | (with_reducible first | exact HB.out | apply below_alloc | apply pw_below_drewN | apply below_drew1) | exact HB.out)))); (case aL => have := LMc7.out; omega); intro v122 w9 ho0 hb hg; have ho := Kd.R_of_own (h1 := fun _ => rfl) (ok := fun _ => True) ho0 (fun _ _ => trivial); clear ho0; have hat := True.intro; rw [← Ny121.out] at ho; change Kd.R (Kd.int .u8) 5 w9 w.heap.size (fun _ => True) v122 y121 at ho; have n0_ := Aside0.mk (hb); have n1_ := Aside0.mk (ho); clear HB; clear HO120; have HB := n0_; have HO123 := n1_; clear n0_ n1_; clear ho hb hg hat))
          go_ret2
          exact ⟨_, by first | rfl | (simp [errW_none, errW_some] <;> rfl) | (simp [*, errW_none, errW_some] <;> rfl), by (with_reducible repeat (first | apply Kd.R_alloc | apply Kd.R_drewN | apply Kd.R_drew)); exact HO123.out, by repeat (first | (with_reducible first | exact HB.out | apply below_alloc | apply pw_below_drewN | apply below_drew1) | exact HB.out)⟩
        · rw [if_neg c7] at H
          exact absurd H (by simp)
      · rw [if_neg c6] at H
        have c6b0 : (t118 == 0) = false := beq_eq_false_iff_ne.mpr c6
        have c6b1 : (t118 != 0) = true := bne_iff_ne.mpr c6
        simp only [Option.some.injEq, Prod.mk.injEq] at H
        obtain ⟨rfl, rfl⟩ := H
        go_enter Try.func23, Try.ntmps23
        go_wp2_with (first | ((with_reducible refine gate_callee (f := 14) rfl ?_); refine goesL_ (some 19) rfl rfl Try.func14 (by kernel_rfl) rfl #[.int .i64 (a0.size : Int)] rfl (by (try simp only [List.map_toArray, List.map_cons, List.map_nil]); first | done | rfl | (simp only [List.length_drop, List.length_take]; rfl)) ?_; (with_reducible refine (quill_Num.calls k (a0.size : Int) t117 t118 _ A5.out).mono ?_); rintro e w10 ⟨v119, rfl, ho0, hb⟩; refine ⟨_, rfl, ?_⟩; have n0_ := Aside0.mk (Kd.R_lower ho0 (below_size (by repeat (first | (with_reducible first | exact HB.out | apply below_alloc | apply pw_below_drewN | apply below_drew1) | exact HB.out)))); have n1_ := Aside0.mk (below_step (by repeat (first | (with_reducible first | exact HB.out | apply below_alloc | apply pw_below_drewN | apply below_drew1) | exact HB.out)) hb); clear HB; have HO120 := n0_; have HB := n1_; clear n0_ n1_; (try clear hb); (try clear hb2); (try clear hk); (try clear hi); (try clear ho0)))
        go_ret2
        exact ⟨_, by first | rfl | (simp [errW_none, errW_some] <;> rfl) | (simp [*, errW_none, errW_some] <;> rfl), by first | exact Kd.R_nil _ _ _ _ _ | exact Kd.N_nil _ _ _ _ _ | exact Kd.V_nil _ _ _ _ _ | exact Kd.Q_nil _ _ _ _ _ | exact Kd.S_nil _ _ _ _ _, by repeat (first | (with_reducible first | exact HB.out | apply below_alloc | apply pw_below_drewN | apply below_drew1) | exact HB.out)⟩

/-! ### quill_TakeNum: function 19 (a leaf, by hand) -/
def quill_TakeNum.f (l0 : List Int) : Option (Int × List Int × Int) := if isByts l0 = true ∧ l0.length < 140737488355328 then (some (qTake l0)) else (none)
set_option maxHeartbeats 8000000 in
set_option maxRecDepth 100000 in
theorem quill_TakeNum.calls (A0 : Option Addr) (c0 : Nat) (l0 : List Int) (r1 : Int) (r2 : List Int) (r3 : Int) (w : World) (hr0 : Kd.C (Kd.int .u8) w A0 l0.length l0) (hc0 : l0.length ≤ c0) (h : quill_TakeNum.f l0 = some (r1, r2, r3)) :
    Calls Try.prog 19 #[.slice A0 l0.length c0] w fun e w' => ∃ v1_ : Value, e = .returned (.tuple #[.int .i64 r1, v1_, .int .i64 r3]) ∧ Kd.R (Kd.int .u8) 5 w' w.heap.size (fun _ => True) v1_ r2 ∧ Below w.heap.size w w' := by
  unfold quill_TakeNum.f at h
  by_cases hc : isByts l0 = true ∧ l0.length < 140737488355328
  · rw [if_pos hc] at h
    have hq := Option.some.inj h
    clear h
    have HR0 := Aside0.mk hr0
    have HC0 := Aside0.mk hc0
    have HBy := Aside0.mk ((isByts_iff l0).1 hc.1)
    have hl2 : r2.length < 140737488355328 := by have := qTake_len l0; rw [hq] at this; have : r2.length ≤ l0.length := this; omega
    have hcl : slices_Clone_byte_byte.f r2 = some r2 := if_pos hl2
    have HQ := Aside0.mk hq
    have HCL := Aside0.mk hcl
    clear hr0 hc0 hc hq hcl hl2
    go_enter Try.func19, Try.ntmps19
    go_wp2_with fail
    refine (quill_take.calls A0 c0 l0 _ HBy.out HR0.out HC0.out).mono ?_
    rw [HQ.out]
    rintro e w1 ⟨A, c, rfl, hC, hcl, hd⟩
    dsimp only at hC hcl
    have HC1 := Aside0.mk (Kd.C_below hC hd.below)
    have HB1 := Aside0.mk hd.below
    clear hC hd
    go_wp2_with fail
    refine (slices_Clone_byte_byte.calls A c r2 r2 _ HC1.out hcl HCL.out).mono ?_
    rintro e w2 ⟨v2, rfl, ho, hb⟩
    have HO := Aside0.mk (Kd.R_lower ho (below_size HB1.out))
    have HB := Aside0.mk (below_step HB1.out hb)
    clear ho hb
    go_wp2
    go_ret3
    exact ⟨_, rfl, HO.out, HB.out⟩
  · rw [if_neg hc] at h
    exact absurd h (by simp)

/-! ### scriptoriumlaw01_is: function 27 (a leaf, by hand) -/
theorem lit_reads (w : World) (s : Nat) (hs : w.heap.size = s) (xs : List Int) (m : Nat × Nat) (hl : xs.length ≤ 9223372036854775807) : Kd.C (Kd.int .u8) (w.alloc (.cells (nums .u8 xs).toArray 5 m)) (some ⟨s, 0, none⟩) xs.length xs := by
  subst hs
  refine Kd.C_of_reads (d := (0 : Int)) (h1 := fun _ => rfl) ⟨rfl, hl, fun _ => ⟨_, rfl, fun j hj => ?_⟩⟩
  rw [add_plain]
  have h1 : ∀ (a : Array Obj) (x : Obj), (a.push x)[a.size]? = some x := fun a x => by simp
  simp only [World.cell?, World.alloc, h1]
  simp [nums, List.getD_eq_getElem?_getD, List.getElem?_eq_getElem hj]
theorem eqB_calls (xs : List Int) (n m : Nat) (A B : Option Addr) (c d : Nat) (w : World) (hn : xs.length = n) (hm : xs.length = m) (hc : n ≤ c) (hd : m ≤ d) (k : Nat) (h : scriptoriumref00_EqBytes.f k xs xs = some true)
    (hr : Kd.C (Kd.int .u8) w A xs.length xs) (hr2 : Kd.C (Kd.int .u8) w B xs.length xs) :
    Calls Try.prog 16 #[.slice A n c, .slice B m d] w fun e w' => e = .returned (.bool true) ∧ Below w.heap.size w w' := by
  subst hn
  subst hm
  exact (scriptoriumref00_EqBytes.calls k A c xs B d xs true w hr hc hr2 hd h).mono fun e w' ⟨h1, h2⟩ => ⟨h1, h2.below⟩
theorem takeNum_at (xs : List Int) (len : Nat) (A : Option Addr) (c : Nat) (n : Int) (rest : List Int) (er : Int) (w : World) (hn : xs.length = len) (hc : len ≤ c) (h : quill_TakeNum.f xs = some (n, rest, er)) (hr : Kd.C (Kd.int .u8) w A xs.length xs) :
    Calls Try.prog 19 #[.slice A len c] w fun e w' => ∃ v1_ : Value, e = .returned (.tuple #[.int .i64 n, v1_, .int .i64 er]) ∧ Kd.R (Kd.int .u8) 5 w' w.heap.size (fun _ => True) v1_ rest ∧ Below w.heap.size w w' := by
  subst hn
  exact quill_TakeNum.calls A c xs n rest er w hr hc h
set_option maxHeartbeats 8000000 in
set_option maxRecDepth 100000 in
/-- A number's bytes, there and back: of a literal (its capacity is its length). -/
theorem is_true (k : Nat) (n : Int) (b : List Int) (A : Option Addr) (len : Nat) (w : World) (hlen : b.length = len) (hsm : b.length ≤ 100) (hr : Kd.C (Kd.int .u8) w A b.length b)
    (hnum : quill_Num.f k n = some (b, 0)) (htake : quill_TakeNum.f (b ++ [9]) = some (n, [9], 0)) (he : scriptoriumref00_EqBytes.f k b b = some true) (he9 : scriptoriumref00_EqBytes.f k [9] [9] = some true) :
    Calls Try.prog 27 #[.int .i64 n, .slice A len len] w fun e w' => e = .returned (.bool true) ∧ Below w.heap.size w w' := by
  subst hlen
  have HR := Aside0.mk hr
  have HN := Aside0.mk hnum
  have HT := Aside0.mk htake
  have HE := Aside0.mk he
  have HE9 := Aside0.mk he9
  clear hr hnum htake he he9
  go_enter Try.func27, Try.ntmps27
  go_wp2_with fail
  refine (quill_Num.calls k n b 0 _ HN.out).mono ?_
  rintro e w1 ⟨v1, rfl, ho1, hb1⟩
  have HO1 := Aside0.mk ho1
  have HB1 := Aside0.mk hb1
  clear ho1 hb1
  obtain ⟨A1, c1, e1⟩ := Kd.R_slice HO1.out
  subst e1
  have HR1 := Aside0.mk (Kd.C_below HR.out HB1.out)
  obtain ⟨i0, hi, hz0, hz1, hz2⟩ := info_parts info5
  have hl9 := lit_reads w1 _ rfl [9] (0, 0) (by decide)
  go_wp2_with (at_builtin; refine wpList_append_grows _ rfl (.tmp 16) (.tmp 17) 22 rfl 5 i0 (.int .u8 0) 1 1 Try.underlying22 hi hz0 hz1 hz2 rfl (by decide) A b.length b.length (nums .u8 b) rfl ?c1 ?c2 ?c3 ⟨w1.heap.size, 0, none⟩ 1 1 [.int .u8 9] rfl rfl ?c4 ?c5 ?c6 ?c7 ?c8 ?_)
  case c1 =>
    intro hA
    have h0 : b.length = 0 := by
      rcases Nat.eq_zero_or_pos b.length with h0 | h0
      · exact h0
      · obtain ⟨ad, he, _⟩ := HR1.out.2.2 h0
        rw [hA] at he
        cases he
    exact ⟨h0, h0⟩
  case c2 => rw [nums_length, Nat.mul_one]
  case c3 =>
    intro ad hA j u hj
    have hjl : j < b.length := by
      rcases Nat.lt_or_ge j b.length with h' | h'
      · exact h'
      · rw [List.getElem?_eq_none (by rw [nums_length]; exact h')] at hj
        cases hj
    obtain ⟨ad', he', hc⟩ := Kd.at_int (Kd.C_alloc HR1.out _) j (by omega) (by omega)
    rw [hA] at he'
    injection he' with he'
    subst he'
    rw [Int.toNat_natCast] at hc
    rw [hc]
    rw [nums, List.getElem?_map, List.getElem?_eq_getElem hjl] at hj
    simp at hj
    rw [← hj]
    simp [rd, List.getD_eq_getElem?_getD, List.getElem?_eq_getElem hjl]
  case c4 =>
    intro j u hj
    match j, hj with
    | 0, hj =>
      simp at hj
      subst hj
      obtain ⟨ad', he', hc⟩ := Kd.at_int hl9 0 (by omega) (by simp)
      injection he' with he'
      subst he'
      exact hc
  case c5 =>
    intro u hu
    simp at hu
    subst hu
    rfl
  case c6 => omega
  case c7 => unfold maxLen; omega
  case c8 => omega
  intro v2 w2 ho2 hg2
  have ho2' : w2.ownsRow (w1.heap.size + 1) 5 1 v2 (b ++ [9]).length (nums .u8 (b ++ [9])) := by
    rw [nums_append, List.length_append]
    exact ho2
  obtain ⟨A2, c2, e2, hr2⟩ := own_reads ho2'
  subst e2
  have hc2 := own_cap ho2'
  have HR2 := Aside0.mk (Kd.C_of_reads (d := (0 : Int)) (h1 := fun _ => rfl) hr2)
  have HBb : Below w.heap.size w w2 := below_step (below_alloc HB1.out _) ⟨hg2.os, hg2.tape, hg2.output, hg2.size, fun i hi => hg2.block i hi (by simp)⟩
  have HB2 := Aside0.mk HBb
  have hb12 : Aside0 (Below w1.heap.size w1 w2) := ⟨below_step (below_alloc (Below.refl _ _) _) ⟨hg2.os, hg2.tape, hg2.output, hg2.size, fun i hi => hg2.block i hi (by simp)⟩⟩
  clear HBb ho2 ho2' hg2 hr2 hl9 hi hz0 hz1 hz2 HB1
  have HC2 := Aside0.mk hc2
  clear hc2
  go_wp2_with fail
  refine (takeNum_at (b ++ [9]) _ A2 c2 n [9] 0 _ (by simp) ?hc HT.out HR2.out).mono ?_
  case hc => have := HC2.out; simp at this; exact this
  rintro e w3 ⟨v3, rfl, ho3, hb3⟩
  have HO1' := Aside0.mk (Kd.R_below HO1.out hb12.out)
  have HO3 := Aside0.mk ho3
  have HR3 := Aside0.mk (Kd.C_below HR1.out (below_step hb12.out hb3))
  have HR4 := Aside0.mk (Kd.R_below HO1'.out hb3)
  have HB3 := Aside0.mk (below_step HB2.out hb3)
  obtain ⟨A3, c3, e3⟩ := Kd.R_slice HO3.out
  subst e3
  clear ho3 hb3 HO1' hb12 HB2 HR2 HR1
  go_wp2_with fail
  refine (eqB_calls b _ _ A1 A c1 _ _ rfl rfl ?hc1 ?hc2 k HE.out ?hr1 ?hr2).mono ?_
  case hc1 => exact (Kd.R_reads' HO1.out).2.1
  case hc2 => exact Nat.le_refl _
  case hr1 => exact (Kd.R_reads' HR4.out).2.2
  case hr2 => exact HR3.out
  rintro e w4 ⟨rfl, hb4⟩
  have HB4 := Aside0.mk (below_step HB3.out hb4)
  have HO4 := Aside0.mk (Kd.R_below HO3.out hb4)
  clear hb4 HB3 HO3 HR4 HR3
  have hl9 := lit_reads w4 _ rfl [9] (0, 0) (by decide)
  have HL9 := Aside0.mk hl9
  clear hl9
  go_wp2_with fail
  refine (eqB_calls [9] _ _ A3 _ c3 _ _ rfl rfl ?hc3 ?hc4 k HE9.out ?hr3 ?hr4).mono ?_
  case hc3 => exact (Kd.R_reads' HO4.out).2.1
  case hc4 => exact Nat.le_refl _
  case hr3 => exact Kd.C_alloc (Kd.R_reads' HO4.out).2.2 _
  case hr4 => exact HL9.out
  rintro e w5 ⟨rfl, hb5⟩
  have HB5 := Aside0.mk (below_step (below_alloc HB4.out _) hb5)
  clear hb5 HB4
  go_wp2
  go_ret
  exact ⟨rfl, HB5.out⟩

/-! ### scriptoriumlaw01_works: function 17 (a leaf, by hand) -/
theorem takeStr_at (xs : List Int) (len : Nat) (A : Option Addr) (c : Nat) (most : Int) (s : ByteArray) (rest : List Int) (er : Int) (w : World) (hn : xs.length = len) (hc : len ≤ c) (h : quill_TakeStr.f xs most = some (s, rest, er)) (hr : Kd.C (Kd.int .u8) w A xs.length xs) :
    Calls Try.prog 21 #[.slice A len c, .int .i64 most] w fun e w' => ∃ v1_ : Value, e = .returned (.tuple #[.string s, v1_, .int .i64 er]) ∧ Kd.R (Kd.int .u8) 5 w' w.heap.size (fun _ => True) v1_ rest ∧ Below w.heap.size w w' := by
  subst hn
  exact quill_TakeStr.calls A c xs most s rest er w hr hc h
def scriptoriumlaw01_works.f : Option (Bool) := some true
set_option maxHeartbeats 16000000 in
set_option maxRecDepth 100000 in
theorem scriptoriumlaw01_works.calls (r : Bool) (w : World) (h : scriptoriumlaw01_works.f = some r) :
    Calls Try.prog 17 #[] w fun e w' => e = .returned (.bool r) ∧ Below w.heap.size w w' := by
  obtain rfl := Option.some.inj h
  go_enter Try.func17, Try.ntmps17
  have HB0 := Aside0.mk (Below.refl w.heap.size w)
  go_wp2_with fail
  refine (quill_Str.calls 20 (⟨#[97, 98]⟩ : ByteArray) (2) [1, 2, 97, 98] 0 _ (by kernel_rfl)).mono ?_
  rintro e w1 ⟨v0, rfl, ho, hb⟩
  have HB1 := Aside0.mk (below_step HB0.out hb)
  clear HB0 hb
  have HOp := Aside0.mk ho
  clear ho
  obtain ⟨Ap, cp, ep⟩ := Kd.R_slice HOp.out
  subst ep
  have HL := Aside0.mk (lit_reads w1 _ rfl [1, 2, 97, 98, 99] (0, 0) (by decide))
  go_wp2_with fail
  refine (takeStr_at [1, 2, 97, 98, 99] 5 _ _ (2) (⟨#[97, 98]⟩ : ByteArray) [99] 0 _ rfl (Nat.le_refl _) (by kernel_rfl) HL.out).mono ?_
  rintro e w2 ⟨v1, rfl, ho, hb⟩
  have HB2 := Aside0.mk (below_step (below_alloc HB1.out _) hb)
  replace HOp := Aside0.mk (Kd.R_below (Kd.R_alloc HOp.out _) hb)
  clear HB1 hb HL
  have HOq := Aside0.mk ho
  clear ho
  obtain ⟨Aq, cq, eq⟩ := Kd.R_slice HOq.out
  subst eq
  have HL := Aside0.mk (lit_reads w2 _ rfl [0] (0, 0) (by decide))
  go_wp2_with fail
  refine (is_true 20 0 [0] _ 1 _ rfl (by decide) HL.out (by kernel_rfl) (by kernel_rfl) (by kernel_rfl) (by kernel_rfl)).mono ?_
  rintro e w3 ⟨rfl, hb⟩
  have HB3 := Aside0.mk (below_step (below_alloc HB2.out _) hb)
  replace HOp := Aside0.mk (Kd.R_below (Kd.R_alloc HOp.out _) hb)
  replace HOq := Aside0.mk (Kd.R_below (Kd.R_alloc HOq.out _) hb)
  clear HB2 hb HL
  have HL := Aside0.mk (lit_reads w3 _ rfl [1, 1] (0, 0) (by decide))
  go_wp2_with fail
  refine (is_true 20 1 [1, 1] _ 2 _ rfl (by decide) HL.out (by kernel_rfl) (by kernel_rfl) (by kernel_rfl) (by kernel_rfl)).mono ?_
  rintro e w4 ⟨rfl, hb⟩
  have HB4 := Aside0.mk (below_step (below_alloc HB3.out _) hb)
  replace HOp := Aside0.mk (Kd.R_below (Kd.R_alloc HOp.out _) hb)
  replace HOq := Aside0.mk (Kd.R_below (Kd.R_alloc HOq.out _) hb)
  clear HB3 hb HL
  have HL := Aside0.mk (lit_reads w4 _ rfl [2, 1, 0] (0, 0) (by decide))
  go_wp2_with fail
  refine (is_true 20 256 [2, 1, 0] _ 3 _ rfl (by decide) HL.out (by kernel_rfl) (by kernel_rfl) (by kernel_rfl) (by kernel_rfl)).mono ?_
  rintro e w5 ⟨rfl, hb⟩
  have HB5 := Aside0.mk (below_step (below_alloc HB4.out _) hb)
  replace HOp := Aside0.mk (Kd.R_below (Kd.R_alloc HOp.out _) hb)
  replace HOq := Aside0.mk (Kd.R_below (Kd.R_alloc HOq.out _) hb)
  clear HB4 hb HL
  have HL := Aside0.mk (lit_reads w5 _ rfl [1, 2, 97, 98] (0, 0) (by decide))
  go_wp2_with fail
  refine (eqB_calls [1, 2, 97, 98] _ _ _ _ _ _ _ rfl rfl (Kd.R_reads' HOp.out).2.1 (Nat.le_refl _) 20 (by kernel_rfl) (Kd.C_alloc (Kd.R_reads' HOp.out).2.2 _) HL.out).mono ?_
  rintro e w6 ⟨rfl, hb⟩
  have HB6 := Aside0.mk (below_step (below_alloc HB5.out _) hb)
  replace HOp := Aside0.mk (Kd.R_below (Kd.R_alloc HOp.out _) hb)
  replace HOq := Aside0.mk (Kd.R_below (Kd.R_alloc HOq.out _) hb)
  clear HB5 hb HL
  have HL := Aside0.mk (lit_reads w6 _ rfl [99] (0, 0) (by decide))
  go_wp2_with fail
  refine (eqB_calls [99] _ _ _ _ _ _ _ rfl rfl (Kd.R_reads' HOq.out).2.1 (Nat.le_refl _) 20 (by kernel_rfl) (Kd.C_alloc (Kd.R_reads' HOq.out).2.2 _) HL.out).mono ?_
  rintro e w7 ⟨rfl, hb⟩
  have HB7 := Aside0.mk (below_step (below_alloc HB6.out _) hb)
  replace HOp := Aside0.mk (Kd.R_below (Kd.R_alloc HOp.out _) hb)
  replace HOq := Aside0.mk (Kd.R_below (Kd.R_alloc HOq.out _) hb)
  clear HB6 hb HL
  go_wp2
  go_ret
  exact ⟨rfl, HB7.out⟩

/-! ### scriptoriumref00_CopyBytes: function 18 -/
def scriptoriumref00_CopyBytes.f (l0 : List Int) : Option (List Int) := if ([] : List Int).length + l0.length < 140737488355328 then (some (([] : List Int) ++ l0)) else (none)
set_option maxHeartbeats 8000000 in
set_option maxRecDepth 100000 in
theorem scriptoriumref00_CopyBytes.calls (A0 : Option Addr) (c0 : Nat) (l0 : List Int) (r : List Int) (w : World) (hr0 : Kd.C (Kd.int .u8) w A0 l0.length l0) (hc0 : l0.length ≤ c0) (h : scriptoriumref00_CopyBytes.f l0 = some r) :
    Calls Try.prog 18 #[.slice A0 l0.length c0] w fun e w' => ∃ v0_ : Value, e = .returned (v0_) ∧ Kd.R (Kd.int .u8) 5 w' w.heap.size (fun _ => True) v0_ r ∧ Below w.heap.size w w' := by
  have HR0 := Aside0.mk hr0
  have HC0 := Aside0.mk hc0
  clear hr0 hc0
  have HB := Aside0.mk (Below.refl w.heap.size w)
  have H : (if ([] : List Int).length + l0.length < 140737488355328 then (some (([] : List Int) ++ l0)) else (none)) = some r := h
  clear h
  by_cases c2 : ([] : List Int).length + l0.length < 140737488355328
  · rw [if_pos c2] at H
    have LMc2 := Aside0.mk c2
    clear c2
    obtain ⟨y124, hy124⟩ : ∃ y_ : List Int, y_ = (([] : List Int) ++ l0) := ⟨_, rfl⟩
    replace H : (some y124) = some r := by first | (rw [hy124]; with_reducible exact H) | (have H2_ := (Option.bind_some _ _).symm.trans H; rw [hy124]; with_reducible exact H2_) | (have H2_ := (Option.bind_some _ _).symm.trans H; with_reducible exact H2_) | with_reducible exact H | (rw [hy124]; exact H) | exact H
    have Ny124 := Aside0.mk hy124
    clear hy124
    obtain rfl := Option.some.inj H
    go_enter Try.func18, Try.ntmps18
    go_wp2_with (first | ((with_reducible refine gate_builtin (b := .append) (xs := #[.tmp 4, .tmp 5]) rfl ?_); at_builtin; refine Kd.R_append_rows (Kd.int .u8) (w0 := w) w.heap.size rfl (.tmp 4) (.tmp 5) 22 5 (.int .u8 0) 1 rfl Try.underlying22 info5 rfl (by decide) (by omega) (.slice none 0 0) ([] : List Int) l0 _ _ _ (fun _ => True) (fun _ => False) rfl rfl ?aO ?aR (fun _ _ h => h) (fun _ h => h.elim) ?aF ?aB ?aS ?aL ?_; (case aR => repeat (first | exact HR0.out | (with_reducible refine Kd.C_alloc ?_ _) | (with_reducible refine Kd.C_drewN ?_ _) | (with_reducible refine Kd.C_drew ?_))); (case aB => exact (by repeat (first | (with_reducible first | exact HB.out | apply below_alloc | apply pw_below_drewN | apply below_drew1) | exact HB.out))); (case aF => exact (fun _ _ => trivial)); (case aO => exact ((Kd.R_nil _ _ _ _ (fun _ => True)))); (case aS => exact (below_size (by repeat (first | (with_reducible first | exact HB.out | apply below_alloc | apply pw_below_drewN | apply below_drew1) | exact HB.out)))); (case aL => have := LMc2.out; omega); intro v125 w3 ho hb hg hat; rw [← Ny124.out] at ho; have n0_ := Aside0.mk (hb); have n1_ := Aside0.mk (ho); clear HB; have HB := n0_; have HO126 := n1_; clear n0_ n1_; clear ho hb hg hat))
    go_ret
    exact ⟨_, by first | rfl | (simp [errW_none, errW_some] <;> rfl) | (simp [*, errW_none, errW_some] <;> rfl), by (with_reducible repeat (first | apply Kd.R_alloc | apply Kd.R_drewN | apply Kd.R_drew)); exact HO126.out, by repeat (first | (with_reducible first | exact HB.out | apply below_alloc | apply pw_below_drewN | apply below_drew1) | exact HB.out)⟩
  · rw [if_neg c2] at H
    exact absurd H (by simp)

-- NOT PRINTED: function 39 (slices_Grow_byte_byte)

/-! ### slices_Concat_byte_byte: function 38 (a leaf, by hand) -/
/-- How long they are, one behind the other. -/
def sumLen (l : List (List Int)) : Nat := (l.map List.length).sum
theorem sumLen_take (l : List (List Int)) (n : Nat) (h : n < l.length) : sumLen (l.take (n + 1)) = sumLen (l.take n) + (l[n]).length := by
  unfold sumLen
  rw [List.take_succ_eq_append_getElem h, List.map_append, List.sum_append]
  simp
theorem sumLen_le (l : List (List Int)) (n : Nat) : sumLen (l.take n) ≤ sumLen l := by
  unfold sumLen
  have h : (l.map List.length).sum = ((l.take n).map List.length).sum + ((l.drop n).map List.length).sum := by
    rw [← List.sum_append, ← List.map_append, List.take_append_drop]
  omega
theorem flatten_len (l : List (List Int)) : l.flatten.length = sumLen l := by
  unfold sumLen
  exact List.length_flatten
theorem flatten_take (l : List (List Int)) (n : Nat) (h : n < l.length) : (l.take (n + 1)).flatten = (l.take n).flatten ++ l[n] := by
  rw [List.take_succ_eq_append_getElem h, List.flatten_append]
  simp
def slices_Concat_byte_byte.f (l0 : List (List Int)) : Option (List Int) := if sumLen l0 < 140737488355328 then (some l0.flatten) else (none)
set_option maxHeartbeats 8000000 in
set_option maxRecDepth 100000 in
/-- slices.Grow of nil: nothing, with room. -/
theorem growNil (n : Nat) (w : World) (hn : n < 140737488355328) :
    Calls Try.prog 39 #[.slice none 0 0, .int .i64 n] w fun e w' => ∃ v, e = .returned v ∧ Kd.R (Kd.int .u8) 5 w' w.heap.size (fun _ => True) v [] ∧ Below w.heap.size w w' := by
  have HB := Aside0.mk (Below.refl w.heap.size w)
  have LM := Aside0.mk hn
  by_cases h0 : n = 0
  · subst h0
    go_enter Try.func39, Try.ntmps39
    go_wp2
    go_ret
    exact ⟨_, rfl, Kd.R_nil _ _ _ _ _, HB.out⟩
  · have hp : decide (0 < n) = true := decide_eq_true (by omega)
    have hq : decide ((n : Int) < 0) = false := decide_eq_false (by omega)
    have hw : IntKind.i64.wrap (n : Int) = (n : Int) := by rw [IntKind.wrap_i64]; omega
    have hw2 : wrap64 (n : Int) = (n : Int) := by unfold wrap64; omega
    clear hn h0
    go_enter Try.func39, Try.ntmps39
    go_wp2_with (first | ((with_reducible refine gate_builtin (b := .append) (xs := #[.tmp 20, .tmp 21]) rfl ?_); at_builtin; refine Kd.R_append_zeros (Kd.int .u8) (w0 := w) w.heap.size rfl (.tmp 20) (.tmp 21) 22 3 5 (.int .u8 0) 1 rfl Try.underlying22 Try.underlying3 info5 rfl (by decide) (by decide) (.slice none 0 0) ([] : List Int) 0 (n : Int) (fun _ => True) rfl rfl rfl (fun _ _ => trivial) (Kd.R_nil _ _ _ _ _) (by omega) HB.out (Nat.le_refl _) (by have := LM.out; simp; omega) ?_; intro v1 w1 ho hb hg hat; obtain ⟨A, c, eo⟩ := Kd.R_slice ho; subst eo; obtain ⟨i01, hi01, _, hsz1, _⟩ := info_parts info5; obtain ⟨hcut1, _, _⟩ := print_take_of (P := Try.prog) (Value.int .u8) 0 22 5 .i64 Try.underlying22 hi01 hsz1 A c ([] ++ List.replicate (n : Int).toNat (0 : Int)) 0 (by omega) (by omega) (Kd.R_reads' ho).2.1; have HO := Aside0.mk (Kd.R_take (m := 0) ho (Nat.zero_le _)); have HB1 := Aside0.mk hb; clear ho hb hg hat hi01 hsz1 HB))
    go_ret
    exact ⟨_, rfl, HO.out, HB1.out⟩
set_option maxHeartbeats 8000000 in
set_option maxRecDepth 100000 in
theorem slices_Concat_byte_byte.calls (A0 : Option Addr) (c0 : Nat) (l0 : List (List Int)) (r : List Int) (w : World) (hr0 : Kd.C (Kd.slice 5 (Kd.int .u8)) w A0 l0.length l0) (hc0 : l0.length ≤ c0) (h : slices_Concat_byte_byte.f l0 = some r) :
    Calls Try.prog 38 #[.slice A0 l0.length c0] w fun e w' => ∃ v0_ : Value, e = .returned (v0_) ∧ Kd.R (Kd.int .u8) 5 w' w.heap.size (fun _ => True) v0_ r ∧ Below w.heap.size w w' := by
  unfold slices_Concat_byte_byte.f at h
  by_cases hc : sumLen l0 < 140737488355328
  · rw [if_pos hc] at h
    obtain rfl := Option.some.inj h
    clear h
    have HR0 := Aside0.mk hr0
    have HC0 := Aside0.mk hc0
    have LM := Aside0.mk hc
    have HLN := Aside0.mk hr0.2.1
    clear hr0 hc0 hc
    go_enter Try.func38, Try.ntmps38
    go_wp2
    go_loopg [3, 11] l0.length (fun kq v3 v11 w' => ∃ (i : Nat), v3 = .int .i64 (sumLen (l0.take i) : Int) ∧ v11 = .int .i64 (i : Int) ∧ Aside0 (kq + i = l0.length) ∧ Drawn0 w w')
    case atStart => exact ⟨0, rfl, rfl, ⟨rfl⟩, Drawn0.refl _⟩
    case round =>
      obtain ⟨i, rfl, rfl, HK, ⟨m1, rfl⟩⟩ := hrel
      cases gk with
      | zero =>
        have hi : i = l0.length := by have := HK.out; omega
        subst hi
        have cz : decide ((l0.length : Int) < (l0.length : Int)) = false := by simp
        have e0 : sumLen (l0.take l0.length) = sumLen l0 := by rw [List.take_length]
        rw [e0]
        clear e0
        go_wp2_with fail
        refine (growNil (sumLen l0) _ LM.out).mono ?_
        rintro e w1 ⟨v1, rfl, ho, hb⟩
        have HO1 := Aside0.mk (Kd.R_lower ho (below_size (pw_below_drewN (Below.refl w.heap.size w) m1)))
        have HB1 := Aside0.mk (below_step (pw_below_drewN (Below.refl w.heap.size w) m1) hb)
        clear ho hb HK
        go_wp2
        go_loopg [6, 27] l0.length (fun kq v6 v27 w' => ∃ (i : Nat), v27 = .int .i64 (i : Int) ∧ Aside0 (kq + i = l0.length) ∧ Aside0 (Kd.R (Kd.int .u8) 5 w' w.heap.size (fun _ => True) v6 (l0.take i).flatten) ∧ Aside0 (Below w.heap.size w w'))
        case atStart => exact ⟨0, rfl, ⟨rfl⟩, HO1, HB1⟩
        case round =>
          obtain ⟨i, rfl, HK, HO, HB⟩ := hrel
          cases gk with
          | zero =>
            have hi : i = l0.length := by have := HK.out; omega
            subst hi
            have cz : decide ((l0.length : Int) < (l0.length : Int)) = false := by simp
            go_wp2
            go_ret
            exact ⟨_, rfl, by have h := HO.out; rw [List.take_length] at h; exact h, HB.out⟩
          | succ k1 =>
            have hil : i < l0.length := by have := HK.out; omega
            have c1 : decide (i < l0.length) = true := decide_eq_true hil
            have p : 0 ≤ (i : Int) := by omega
            have q : (i : Int) < (l0.length : Int) := by omega
            obtain ⟨ad, Ai, ci, e, hx, hl, hi⟩ := at_L1 HR0.out (i : Int) p q
            cases e
            have e1 : rd_L1 l0 (i : Int) = l0[i] := by simp [rd_L1, List.getD_eq_getElem?_getD, List.getElem?_eq_getElem hil]
            rw [e1, Int.toNat_natCast] at hx
            rw [e1] at hl hi
            have hx2 := (HB.out.cell (World.block_lt_of_cell? w _ hx)).trans hx
            have HRi := Aside0.mk (Kd.C_below hi HB.out)
            have HLi := Aside0.mk hl
            have hs := sumLen_take l0 i hil
            have hle := sumLen_le l0 (i + 1)
            have hfl := flatten_len (l0.take i)
            have hcat := flatten_take l0 i hil
            have LR := Aside0.mk (show ((l0.take i).flatten).length + (l0[i]).length < 140737488355328 by have := LM.out; omega)
            clear hx hl hi hs hle hfl
            replace p := eq_true p
            replace q := eq_true q
            go_wp2_with (first | ((with_reducible refine gate_builtin (b := .append) (xs := #[.tmp 31, .tmp 32]) rfl ?_); at_builtin; refine Kd.R_append_rows (Kd.int .u8) (w0 := w) w.heap.size rfl (.tmp 31) (.tmp 32) 22 5 (.int .u8 0) 1 rfl Try.underlying22 info5 rfl (by decide) (by omega) u6 (l0.take i).flatten (l0[i]) _ _ _ (fun _ => True) (fun _ => False) rfl rfl ?aO ?aR (fun _ _ h => h) (fun _ h => h.elim) ?aF ?aB ?aS ?aL ?_; (case aR => exact HRi.out); (case aB => exact HB.out); (case aF => exact (fun _ _ => trivial)); (case aO => exact HO.out); (case aS => exact below_size HB.out); (case aL => have := LR.out; omega); intro v2 w2 ho2 hb2 hg2 hat2; rw [← hcat] at ho2; have HO2 := Aside0.mk ho2; have HB2 := Aside0.mk hb2; clear ho2 hb2 hg2 hat2))
            go_roundg k1
            case measure => omega
            case rel => exact ⟨i + 1, by rw [show wrap64 ((i : Int) + 1) = ((i + 1 : Nat) : Int) by have := HLN.out; unfold wrap64; omega], ⟨by have := HK.out; omega⟩, HO2, HB2⟩
      | succ k1 =>
        have hil : i < l0.length := by have := HK.out; omega
        have c1 : decide (i < l0.length) = true := decide_eq_true hil
        have hb := sumLen_le l0 (i + 1)
        have hs := sumLen_take l0 i hil
        have p : 0 ≤ (i : Int) := by omega
        have q : (i : Int) < (l0.length : Int) := by omega
        obtain ⟨ad, Ai, ci, e, hx, hl, hi⟩ := at_L1 HR0.out (i : Int) p q
        cases e
        have e1 : rd_L1 l0 (i : Int) = l0[i] := by simp [rd_L1, List.getD_eq_getElem?_getD, List.getElem?_eq_getElem hil]
        rw [e1, Int.toNat_natCast] at hx
        have hx2 : (w.drewN m1).cell? (ad.add i) = some (.slice Ai (l0[i]).length ci) := hx
        clear hl hi hx
        have hsz : decide (((sumLen (l0.take i) : Int) + ((l0[i]).length : Int)) < 0) = false := decide_eq_false (by omega)
        have hsw : IntKind.i64.wrap ((sumLen (l0.take i) : Int) + ((l0[i]).length : Int)) = ((sumLen (l0.take i) : Int) + ((l0[i]).length : Int)) := by
          rw [IntKind.wrap_i64]
          have := LM.out
          omega
        replace p := eq_true p
        replace q := eq_true q
        go_wp2
        go_roundg k1
        case measure => omega
        case rel => exact ⟨i + 1, by rw [hs, Int.natCast_add], by rw [show wrap64 ((i : Int) + 1) = ((i + 1 : Nat) : Int) by have := HLN.out; unfold wrap64; omega], ⟨by have := HK.out; omega⟩, by repeat (first | exact Drawn0.refl _ | apply Drawn0.step)⟩
  · rw [if_neg hc] at h
    exact absurd h (by simp)

/-! ### quill_Join: function 31 -/
def quill_Join.f (l0 : List (List Int)) : Option (List Int) := (slices_Concat_byte_byte.f l0).bind fun t127 => (some t127)
set_option maxHeartbeats 8000000 in
set_option maxRecDepth 100000 in
theorem quill_Join.calls (A0 : Option Addr) (c0 : Nat) (l0 : List (List Int)) (r : List Int) (w : World) (hr0 : Kd.C (Kd.slice 5 (Kd.int .u8)) w A0 l0.length l0) (hc0 : l0.length ≤ c0) (h : quill_Join.f l0 = some r) :
    Calls Try.prog 31 #[.slice A0 l0.length c0] w fun e w' => ∃ v0_ : Value, e = .returned (v0_) ∧ Kd.R (Kd.int .u8) 5 w' w.heap.size (fun _ => True) v0_ r ∧ Below w.heap.size w w' := by
  have HR0 := Aside0.mk hr0
  have HC0 := Aside0.mk hc0
  clear hr0 hc0
  have HB := Aside0.mk (Below.refl w.heap.size w)
  have H : ((slices_Concat_byte_byte.f l0).bind fun t127 => (some t127)) = some r := h
  clear h
  replace H := Option.bind_eq_some_iff.mp H
  obtain ⟨t127, A20, H⟩ := H
  replace H : (some t127) = some r := H
  have A2 := Aside0.mk A20
  clear A20
  obtain rfl := Option.some.inj H
  go_enter Try.func31, Try.ntmps31
  go_wp2_with (first | ((with_reducible refine gate_callee (f := 38) rfl ?_); refine goesL_ (some 4) rfl rfl Try.func38 (by kernel_rfl) rfl #[.slice A0 l0.length c0] rfl (by (try simp only [List.map_toArray, List.map_cons, List.map_nil]); first | done | rfl | (simp only [List.length_drop, List.length_take]; rfl)) ?_; (with_reducible refine (slices_Concat_byte_byte.calls _ _ l0 t127 _ ?side1 ?side2 A2.out).mono ?_); (case side1 => repeat (first | exact HR0.out | (with_reducible refine Kd.C_alloc ?_ _) | (with_reducible refine Kd.C_drewN ?_ _) | (with_reducible refine Kd.C_drew ?_))); (case side2 => exact HC0.out); rintro e w3 ⟨v128, rfl, ho0, hb⟩; refine ⟨_, rfl, ?_⟩; have n0_ := Aside0.mk (Kd.R_lower ho0 (below_size (by repeat (first | (with_reducible first | exact HB.out | apply below_alloc | apply pw_below_drewN | apply below_drew1) | exact HB.out)))); have n1_ := Aside0.mk (below_step (by repeat (first | (with_reducible first | exact HB.out | apply below_alloc | apply pw_below_drewN | apply below_drew1) | exact HB.out)) hb); clear HB; have HO129 := n0_; have HB := n1_; clear n0_ n1_; (try clear hb); (try clear hb2); (try clear hk); (try clear hi); (try clear ho0)))
  go_ret
  exact ⟨_, by first | rfl | (simp [errW_none, errW_some] <;> rfl) | (simp [*, errW_none, errW_some] <;> rfl), by (with_reducible repeat (first | apply Kd.R_alloc | apply Kd.R_drewN | apply Kd.R_drew)); exact HO129.out, by repeat (first | (with_reducible first | exact HB.out | apply below_alloc | apply pw_below_drewN | apply below_drew1) | exact HB.out)⟩

/-! ### scriptoriumref01_Join: function 32 -/
def scriptoriumref01_Join.l0 : Nat → List (List Int) → List Int → Int → Option (List Int)
  | 0, _, _, _ => none
  | k + 1, x0, x3, x4 => if x4 < (x0.length : Int) then (if 0 ≤ x4 then (if x3.length + (rd_L1 x0 x4).length < 140737488355328 then (scriptoriumref01_Join.l0 k x0 (x3 ++ (rd_L1 x0 x4)) (wrap64 (x4 + 1))) else (none)) else (none)) else (some x3)
def scriptoriumref01_Join.f (k : Nat) (l0 : List (List Int)) : Option (List Int) := scriptoriumref01_Join.l0 k l0 ([] : List Int) 0
theorem scriptoriumref01_Join.mono_l : ∀ k, (∀ y0 y1 y2, LeO (scriptoriumref01_Join.l0 k y0 y1 y2) (scriptoriumref01_Join.l0 (k + 1) y0 y1 y2))
  | 0 => fun _ _ _ r h => by simp [scriptoriumref01_Join.l0] at h
  | k + 1 => by
    have ih0 := scriptoriumref01_Join.mono_l k
    · intro y0 y1 y2
      unfold scriptoriumref01_Join.l0
      repeat' first
      | (with_reducible exact ih0 _ _ _)
      | (with_reducible exact LeO.refl _)
      | (with_reducible exact LeO.none _)
      | (with_reducible refine LeO.ite ?_ ?_)
      | (with_reducible refine LeO.bind ?_ (fun _ => ?_))
      | exact ih0 _ _ _
      | exact LeO.none _
      | refine LeO.ite ?_ ?_
      | refine LeO.bind ?_ (fun _ => ?_)
theorem scriptoriumref01_Join.mono : ∀ a0 k, LeO (scriptoriumref01_Join.f k a0) (scriptoriumref01_Join.f (k + 1) a0) := by
  intro a0 k
  have ih0 := scriptoriumref01_Join.mono_l k
  unfold scriptoriumref01_Join.f
  repeat' first
      | (with_reducible exact ih0 _ _ _)
      | (with_reducible exact LeO.refl _)
      | (with_reducible exact LeO.none _)
      | (with_reducible refine LeO.ite ?_ ?_)
      | (with_reducible refine LeO.bind ?_ (fun _ => ?_))
      | exact ih0 _ _ _
      | exact LeO.none _
      | refine LeO.ite ?_ ?_
      | refine LeO.bind ?_ (fun _ => ?_)
set_option maxHeartbeats 8000000 in
set_option maxRecDepth 100000 in
theorem scriptoriumref01_Join.calls (k : Nat) (A0 : Option Addr) (c0 : Nat) (l0 : List (List Int)) (r : List Int) (w : World) (hr0 : Kd.C (Kd.slice 5 (Kd.int .u8)) w A0 l0.length l0) (hc0 : l0.length ≤ c0) (h : scriptoriumref01_Join.f k l0 = some r) :
    Calls Try.prog 32 #[.slice A0 l0.length c0] w fun e w' => ∃ v0_ : Value, e = .returned (v0_) ∧ Kd.R (Kd.int .u8) 5 w' w.heap.size (fun _ => True) v0_ r ∧ Below w.heap.size w w' := by
  have HR0 := Aside0.mk hr0
  have HC0 := Aside0.mk hc0
  clear hr0 hc0
  have HB := Aside0.mk (Below.refl w.heap.size w)
  have H : (scriptoriumref01_Join.l0 k l0 ([] : List Int) 0) = some r := h
  clear h
  have H' := Aside0.mk H
  clear H
  go_enter Try.func32, Try.ntmps32
  go_wp2
  go_loopg [3, 4] k (fun kq v3 v4 w' => ∃ (x3_1 : List Int) (x4_1 : Int), v4 = .int .i64 x4_1 ∧ Aside0 (scriptoriumref01_Join.l0 kq l0 x3_1 x4_1 = some r) ∧ Aside0 (kq ≤ k) ∧ Aside0 (Kd.R (Kd.int .u8) 5 w' w.heap.size (fun _ => True) v3 x3_1) ∧ Aside0 (Below w.heap.size w w'))
  case atStart => exact ⟨(([] : List Int)), (0), (by first | rfl | (simp; done) | (simp [*]; done)), H', ⟨Nat.le_refl _⟩, ⟨by first | exact Kd.R_nil _ _ _ _ _ | exact Kd.N_nil _ _ _ _ _ | exact Kd.V_nil _ _ _ _ _ | exact Kd.Q_nil _ _ _ _ _ | exact Kd.S_nil _ _ _ _ _⟩, ⟨by repeat (first | (with_reducible first | exact HB.out | apply below_alloc | apply pw_below_drewN | apply below_drew1) | exact HB.out)⟩⟩
  case round =>
    clear H'
    obtain ⟨x3_1, x4_1, rfl, HA, HK1, HO_3, HB⟩ := hrel
    cases gk with
    | zero => exact absurd HA.out (by simp [scriptoriumref01_Join.l0])
    | succ k1 =>
      have H := HA.out
      clear HA
      simp only [scriptoriumref01_Join.l0] at H
      by_cases c2 : x4_1 < (l0.length : Int)
      · rw [if_pos c2] at H
        have c2b0 : decide (x4_1 < (l0.length : Int)) = true := decide_eq_true c2
        clear c2
        by_cases c3 : 0 ≤ x4_1
        · rw [if_pos c3] at H
          have c3b0 : decide (0 ≤ x4_1) = true := decide_eq_true c3
          clear c3
          by_cases c4 : x3_1.length + (rd_L1 l0 x4_1).length < 140737488355328
          · rw [if_pos c4] at H
            have LMc4 := Aside0.mk c4
            clear c4
            obtain ⟨y131, hy131⟩ : ∃ y_ : List Int, y_ = (x3_1 ++ (rd_L1 l0 x4_1)) := ⟨_, rfl⟩
            replace H : (scriptoriumref01_Join.l0 k1 l0 y131 (wrap64 (x4_1 + 1))) = some r := by first | (rw [hy131]; with_reducible exact H) | (have H2_ := (Option.bind_some _ _).symm.trans H; rw [hy131]; with_reducible exact H2_) | (have H2_ := (Option.bind_some _ _).symm.trans H; with_reducible exact H2_) | with_reducible exact H | (rw [hy131]; exact H) | exact H
            have Ny131 := Aside0.mk hy131
            clear hy131
            have H' := Aside0.mk H
            clear H
            have p130 : 0 ≤ (x4_1 : Int) := of_decide_eq_true (by first | (with_reducible assumption) | assumption)
            have q130 : x4_1 < (l0.length : Int) := of_decide_eq_true (by first | (with_reducible assumption) | assumption)
            obtain ⟨ad130, A130_0, c130_0, e130, hx130_0, hl130_0, hi130_0⟩ := at_L1 HR0.out x4_1 p130 q130
            cases e130
            replace hx130_0 := (HB.out.cell (World.block_lt_of_cell? w _ hx130_0)).trans hx130_0
            have HR130_0 := Aside0.mk hi130_0
            have HC130_0 := Aside0.mk hl130_0
            clear hi130_0 hl130_0
            replace p130 := eq_true p130
            replace q130 := eq_true q130
            go_wp2_with (first | ((with_reducible refine gate_builtin (b := .append) (xs := #[.tmp 11, .tmp 15]) rfl ?_); at_builtin; refine Kd.R_append_rows (Kd.int .u8) (w0 := w) w.heap.size rfl (.tmp 11) (.tmp 15) 22 5 (.int .u8 0) 1 rfl Try.underlying22 info5 rfl (by decide) (by omega) u3 x3_1 (rd_L1 l0 x4_1) _ _ _ (fun _ => True) (fun _ => False) rfl rfl ?aO ?aR (fun _ _ h => h) (fun _ h => h.elim) ?aF ?aB ?aS ?aL ?_; (case aR => repeat (first | exact (Kd.C_below HR130_0.out HB.out) | (with_reducible refine Kd.C_alloc ?_ _) | (with_reducible refine Kd.C_drewN ?_ _) | (with_reducible refine Kd.C_drew ?_))); (case aB => exact (by repeat (first | (with_reducible first | exact HB.out | apply below_alloc | apply pw_below_drewN | apply below_drew1) | exact HB.out))); (case aF => exact (fun _ _ => trivial)); (case aO => exact (by (with_reducible repeat (first | apply Kd.R_alloc | apply Kd.R_drewN | apply Kd.R_drew)); exact HO_3.out)); (case aS => exact (below_size (by repeat (first | (with_reducible first | exact HB.out | apply below_alloc | apply pw_below_drewN | apply below_drew1) | exact HB.out)))); (case aL => have := LMc4.out; omega); intro v132 w5 ho hb hg hat; rw [← Ny131.out] at ho; have n0_ := Aside0.mk (hb); have n1_ := Aside0.mk (ho); clear HB; clear HO_3; have HB := n0_; have HO133 := n1_; clear n0_ n1_; clear ho hb hg hat))
            go_roundg k1
            case measure => have := HK1.out; omega
            case rel => exact ⟨(y131), (wrap64 (x4_1 + 1)), (by first | rfl | (simp; done) | (simp [*]; done)), H', ⟨by have := HK1.out; omega⟩, ⟨by (with_reducible repeat (first | apply Kd.R_alloc | apply Kd.R_drewN | apply Kd.R_drew)); exact HO133.out⟩, ⟨by repeat (first | (with_reducible first | exact HB.out | apply below_alloc | apply pw_below_drewN | apply below_drew1) | exact HB.out)⟩⟩
          · rw [if_neg c4] at H
            exact absurd H (by simp)
        · rw [if_neg c3] at H
          exact absurd H (by simp)
      · rw [if_neg c2] at H
        have c2b0 : decide (x4_1 < (l0.length : Int)) = false := decide_eq_false c2
        clear c2
        obtain rfl := Option.some.inj H
        go_wp2
        go_ret
        exact ⟨_, by first | rfl | (simp [errW_none, errW_some] <;> rfl) | (simp [*, errW_none, errW_some] <;> rfl), by (with_reducible repeat (first | apply Kd.R_alloc | apply Kd.R_drewN | apply Kd.R_drew)); exact HO_3.out, by repeat (first | (with_reducible first | exact HB.out | apply below_alloc | apply pw_below_drewN | apply below_drew1) | exact HB.out)⟩

end Go.Proofs.Ytclbcmblgbinpaa.PQuillJoin
