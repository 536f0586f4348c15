/- Written by xprint.py, a program of these sessions (over the print of the kit, with leaves typed by hand): one Lean function for each Go function, and the proof that the Go code comes to its answers. -/
import Derived.Test.YtclbcmblgbinpaaPQuillOrderx0
import Derived.Test.YtclbcmblgbinpaaPQuillOrderx1
namespace Go.Proofs.Ytclbcmblgbinpaa.PQuillOrder
open Go.RowKit Go.Proofs.YtclbcmblgbinpaaW.PrintWords Go.Proofs.YtclbcmblgbinpaaW.PrintLast Go.Proofs.YtclbcmblgbinpaaW.PrintMore
attribute [local go_sem] max2_int min2_int max_two min_two max_three min_three max_four min_four   -- for this text's walks alone
set_option linter.unusedVariables false
set_option linter.unusedSimpArgs false

/-! ### slices_Clone_byte_byte: function 35 (a leaf, by hand) -/
def slices_Clone_byte_byte.f (l0 : List Int) : Option (List Int) := if l0.length < 140737488355328 then (some l0) else (none)
set_option maxHeartbeats 8000000 in
set_option maxRecDepth 100000 in
theorem slices_Clone_byte_byte.calls (A0 : Option Addr) (c0 : Nat) (l0 : List Int) (r : List Int) (w : World) (hr0 : Kd.C (Kd.int .u8) w A0 l0.length l0) (hc0 : l0.length ≤ c0) (h : slices_Clone_byte_byte.f l0 = some r) :
    Calls Try.prog 35 #[.slice A0 l0.length c0] w fun e w' => ∃ v0_ : Value, e = .returned (v0_) ∧ Kd.R (Kd.int .u8) 5 w' w.heap.size (fun _ => True) v0_ r ∧ Below w.heap.size w w' := by
  have HR0 := Aside0.mk hr0
  have HC0 := Aside0.mk hc0
  clear hr0 hc0
  have HB := Aside0.mk (Below.refl w.heap.size w)
  have H : (if l0.length < 140737488355328 then (some l0) else (none)) = some r := h
  clear h
  by_cases c2 : l0.length < 140737488355328
  · rw [if_pos c2] at H
    have LM := Aside0.mk c2
    clear c2
    obtain rfl := Option.some.inj H
    clear H
    have qT : ∀ (w : World) (a : Option Addr) (n c n' c' : Nat), (binOp .eql 22 (.slice a n c) (.slice none n' c')).run Try.prog w = .ok (.bool a.isNone) w := fun w a n c n' c' => Lib.run_eql_slice_nil w _ _ a n c n' c' Try.underlying22
    cases A0 with
    | none =>
      have h0 : l0.length = 0 := by
        rcases Nat.eq_zero_or_pos l0.length with h0 | h0
        · exact h0
        · obtain ⟨ad, he, _⟩ := HR0.out.2.2 h0
          cases he
      obtain rfl : l0 = [] := List.length_eq_zero_iff.1 h0
      go_enter Try.func35, Try.ntmps35
      go_wp2
      go_ret
      exact ⟨_, rfl, Kd.R_nil _ _ _ _ _, HB.out⟩
    | some a =>
      go_enter Try.func35, Try.ntmps35
      go_wp2_with (first | ((with_reducible refine gate_dst (N := 5) rfl ?_); (try (refine gate_guard (by rfl) ?_; dsimp only)); refine Kd.R_lit (Kd.int .u8) _ 5 ?hg (N := 5) ?hd (xs := ([] : List Int)) (inner := []) (ok := fun _ => True) (okp := fun _ => True) ?hr ?hp (fun _ hk => hk) trivial (Below.refl _ _) (Nat.le_refl _) (by simp) ?_; (case hd => rfl); (case hg => rfl); (case hr => first | (go_simp; done) | (go_simp; rfl)); (case hp => exact (Reps.none _ _)); intro v1 w1 ho1 hb1 hg1 hn1; clear hg1 hn1; have HO1 := Aside0.mk ho1; have HB1 := Aside0.mk hb1; clear ho1 hb1; obtain ⟨Ao, co, eo⟩ := Kd.R_slice HO1.out; subst eo) | ((with_reducible refine gate_builtin (b := .append) (xs := #[.tmp 5, .tmp 6]) rfl ?_); at_builtin; refine Kd.R_append_rows (Kd.int .u8) (w0 := w) w.heap.size rfl (.tmp 5) (.tmp 6) 22 5 (.int .u8 0) 1 rfl Try.underlying22 info5 rfl (by decide) (by omega) (.slice Ao ([] : List Int).length co) ([] : List Int) l0 _ _ _ (fun _ => True) (fun _ => False) rfl rfl ?aO ?aR (fun _ _ h => h) (fun _ h => h.elim) ?aF ?aB ?aS ?aL ?_; (case aR => exact Kd.C_below HR0.out HB1.out); (case aB => exact HB1.out); (case aF => exact (fun _ _ => trivial)); (case aO => exact HO1.out); (case aS => exact below_size HB1.out); (case aL => have := LM.out; simp; omega); intro v2 w2 ho2 hb2 hg2 hat2; have HO2 := Aside0.mk ho2; have HB2 := Aside0.mk hb2; clear ho2 hb2 hg2 hat2))
      go_ret
      exact ⟨_, rfl, HO2.out, HB2.out⟩
  · rw [if_neg c2] at H
    exact absurd H (by simp)

/-! ### quill_TakeStr: function 21 (a leaf, by hand) -/
/-- A text's taking. -/
def qTakeStr (l : List Int) (most : Int) : ByteArray × List Int × Int :=
  if most < 0 then ((⟨#[]⟩ : ByteArray), [], 2)
  else if (qTake l).2.2 ≠ 0 then ((⟨#[]⟩ : ByteArray), [], (qTake l).2.2)
  else if most < (qTake l).1 then ((⟨#[]⟩ : ByteArray), [], 5)
  else if ((qTake l).2.1.length : Int) < (qTake l).1 then ((⟨#[]⟩ : ByteArray), [], 3)
  else (strOfNums ((qTake l).2.1.take (qTake l).1.toNat), (qTake l).2.1.drop (qTake l).1.toNat, 0)
def quill_TakeStr.f (l0 : List Int) (a1 : Int) : Option (ByteArray × List Int × Int) := if isByts l0 = true ∧ l0.length < 140737488355328 then (some (qTakeStr l0 a1)) else (none)
set_option maxHeartbeats 8000000 in
set_option maxRecDepth 100000 in
theorem quill_TakeStr.calls (A0 : Option Addr) (c0 : Nat) (l0 : List Int) (a1 : Int) (r1 : ByteArray) (r2 : List Int) (r3 : Int) (w : World) (hr0 : Kd.C (Kd.int .u8) w A0 l0.length l0) (hc0 : l0.length ≤ c0) (h : quill_TakeStr.f l0 a1 = some (r1, r2, r3)) :
    Calls Try.prog 21 #[.slice A0 l0.length c0, .int .i64 a1] w fun e w' => ∃ v1_ : Value, e = .returned (.tuple #[.string r1, v1_, .int .i64 r3]) ∧ Kd.R (Kd.int .u8) 5 w' w.heap.size (fun _ => True) v1_ r2 ∧ Below w.heap.size w w' := by
  unfold quill_TakeStr.f at h
  by_cases hc : isByts l0 = true ∧ l0.length < 140737488355328
  · rw [if_pos hc] at h
    have hq := Option.some.inj h
    clear h
    have HR0 := Aside0.mk hr0
    have HC0 := Aside0.mk hc0
    have HBy := Aside0.mk ((isByts_iff l0).1 hc.1)
    obtain ⟨⟨n, rest, er⟩, hqt⟩ : ∃ q, q = qTake l0 := ⟨_, rfl⟩
    have hl2 : rest.length < 140737488355328 := by have := qTake_len l0; rw [← hqt] at this; have : rest.length ≤ l0.length := this; omega
    have hbd := qTake_bd l0 HBy.out
    unfold qTakeStr at hq
    rw [← hqt] at hq hbd
    have hn0 : 0 ≤ n := hbd.1
    have hn1 : n ≤ 9007199254740991 := hbd.2
    have HQT := Aside0.mk hqt
    dsimp only at hq
    clear hr0 hc0 hc hqt hbd
    by_cases h1 : a1 < 0
    · rw [if_pos h1] at hq
      injection hq with q1 hq
      injection hq with q2 q3
      subst q1 q2 q3
      go_enter Try.func21, Try.ntmps21
      go_wp2
      go_ret3
      exact ⟨_, rfl, Kd.R_nil _ _ _ _ _, Below.refl _ _⟩
    rw [if_neg h1] at hq
    by_cases h2 : er ≠ 0
    · rw [if_pos h2] at hq
      injection hq with q1 hq
      injection hq with q2 q3
      subst q1 q2 q3
      have h2b : (er != 0) = true := bne_iff_ne.2 h2
      clear h2
      go_enter Try.func21, Try.ntmps21
      go_wp2_with fail
      refine (quill_take.calls A0 c0 l0 _ HBy.out HR0.out HC0.out).mono ?_
      rw [← HQT.out]
      rintro e w1 ⟨A, c, rfl, hC, hcl, hd⟩
      have HB1 := Aside0.mk hd.below
      clear hC hd
      go_wp2
      go_ret3
      exact ⟨_, rfl, Kd.R_nil _ _ _ _ _, HB1.out⟩
    rw [if_neg h2] at hq
    have h2b : er = 0 := Decidable.not_not.1 h2
    subst h2b
    clear h2
    by_cases h3 : a1 < n
    · rw [if_pos h3] at hq
      injection hq with q1 hq
      injection hq with q2 q3
      subst q1 q2 q3
      go_enter Try.func21, Try.ntmps21
      go_wp2_with fail
      refine (quill_take.calls A0 c0 l0 _ HBy.out HR0.out HC0.out).mono ?_
      rw [← HQT.out]
      rintro e w1 ⟨A, c, rfl, hC, hcl, hd⟩
      have HB1 := Aside0.mk hd.below
      clear hC hd
      go_wp2
      go_ret3
      exact ⟨_, rfl, Kd.R_nil _ _ _ _ _, HB1.out⟩
    rw [if_neg h3] at hq
    by_cases h4 : (rest.length : Int) < n
    · rw [if_pos h4] at hq
      injection hq with q1 hq
      injection hq with q2 q3
      subst q1 q2 q3
      go_enter Try.func21, Try.ntmps21
      go_wp2_with fail
      refine (quill_take.calls A0 c0 l0 _ HBy.out HR0.out HC0.out).mono ?_
      rw [← HQT.out]
      rintro e w1 ⟨A, c, rfl, hC, hcl, hd⟩
      have HB1 := Aside0.mk hd.below
      clear hC hd
      go_wp2
      go_ret3
      exact ⟨_, rfl, Kd.R_nil _ _ _ _ _, HB1.out⟩
    rw [if_neg h4] at hq
    injection hq with q1 hq
    injection hq with q2 q3
    subst q3
    have hl3 : r2.length < 140737488355328 := by rw [← q2, List.length_drop]; omega
    have HCL : Aside0 (slices_Clone_byte_byte.f r2 = some r2) := ⟨if_pos hl3⟩
    have Q1 := Aside0.mk q1
    have Q2 := Aside0.mk q2
    clear q1 q2
    go_enter Try.func21, Try.ntmps21
    go_wp2_with fail
    refine (quill_take.calls A0 c0 l0 _ HBy.out HR0.out HC0.out).mono ?_
    rw [← HQT.out]
    rintro e w1 ⟨A, c, rfl, hC0, hcl, hd⟩
    dsimp only at hC0 hcl
    have hC := Kd.C_below hC0 hd.below
    have HB1 := Aside0.mk hd.below
    clear hC0 hd
    obtain ⟨i01, hi01, _, hsz1, _⟩ := info_parts info5
    obtain ⟨hcut1, hA1, hC1⟩ := print_take_of (P := Try.prog) (Value.int .u8) 0 22 5 .i64 Try.underlying22 hi01 hsz1 A c rest n hn0 (by omega) hcl
    obtain ⟨y, hy⟩ : ∃ y, y = rest.take n.toNat := ⟨_, rfl⟩
    rw [← hy] at hcut1 hA1 hC1
    obtain ⟨A2, hcut2, hA2, hC2⟩ := print_drop_of (P := Try.prog) (Value.int .u8) 0 22 5 .i64 Try.underlying22 hi01 hsz1 A c rest n hn0 (by omega) hcl
    have HR1 : Aside0 (Kd.C (Kd.int .u8) w1 A y.length y) := ⟨Kd.C_of_reads (h1 := fun _ => rfl) (hA1 w1 (Kd.reads_of_C hC))⟩
    have HR2 : Aside0 (Kd.C (Kd.int .u8) w1 A2 r2.length r2) := ⟨by rw [← Q2.out]; exact Kd.C_of_reads (h1 := fun _ => rfl) (hA2 w1 (Kd.reads_of_C hC))⟩
    rw [Q2.out] at hcut2 hC2
    have HC2 := Aside0.mk hC2
    have hcv := fun (W : World) (hb : Below w1.heap.size w1 W) => Kd.C_string (P := Try.prog) (c := c) Try.underlying22 Try.underlying5 Try.underlying9 (Kd.C_below HR1.out hb)
    rw [hy, Q1.out, ← hy] at hcv
    clear hy
    have HCV := Aside0.mk hcv
    clear hcv hC hcl hA1 hA2 hC1 hC2 hi01 hsz1
    go_wp2_with fail
    have hcv1 := HCV.out w1.drew (below_drew (Below.refl _ _))
    go_region_with (go_at_call 35; refine (slices_Clone_byte_byte.calls A2 _ r2 r2 _ ?s1 ?s2 HCL.out).mono ?_; (case s1 => exact Kd.C_drew HR2.out); (case s2 => exact HC2.out); rintro e w2 ⟨v2, rfl, ho, hb⟩; have hcv2 := HCV.out w2 (below_step (below_drew (Below.refl _ _)) hb); have HO := Aside0.mk (Kd.R_lower ho (below_size (below_drew HB1.out))); have HB := Aside0.mk (below_step (below_drew HB1.out) hb); clear ho hb)
    all_goals
      go_wp2
      go_ret3
      exact ⟨_, rfl, (by assumption : Aside0 (Kd.R _ _ _ _ _ _ _)).out, (by assumption : Aside0 (Below w.heap.size w _)).out⟩
  · rw [if_neg hc] at h
    exact absurd h (by simp)

/-! ### quill_Str: function 23 -/
def quill_Str.f (k : Nat) (a0 : ByteArray) (a1 : Int) : Option (List Int × Int) := if a1 < 0 then (some (([] : List Int), 2)) else (if (a0.size : Int) > a1 then (some (([] : List Int), 5)) else ((quill_Num.f k (a0.size : Int)).bind fun bt117 => (if bt117.2 = 0 then (if bt117.1.length + a0.size < 140737488355328 then (some ((bt117.1 ++ bytesOf a0), 0)) else (none)) else (some (([] : List Int), bt117.2)))))
theorem quill_Str.mono : ∀ a0 a1 k, LeO (quill_Str.f k a0 a1) (quill_Str.f (k + 1) a0 a1) := by
  intro a0 a1 k
  unfold quill_Str.f
  repeat' first
      | (with_reducible exact quill_Num.mono _ _)
      | (with_reducible exact LeO.refl _)
      | (with_reducible exact LeO.none _)
      | (with_reducible refine LeO.ite ?_ ?_)
      | (with_reducible refine LeO.bind ?_ (fun _ => ?_))
      | exact quill_Num.mono _ _
      | exact LeO.none _
      | refine LeO.ite ?_ ?_
      | refine LeO.bind ?_ (fun _ => ?_)
set_option maxHeartbeats 8000000 in
set_option maxRecDepth 100000 in
theorem quill_Str.calls (k : Nat) (a0 : ByteArray) (a1 : Int) (r1 : List Int) (r2 : Int) (w : World) (h : quill_Str.f k a0 a1 = some (r1, r2)) :
    Calls Try.prog 23 #[.string a0, .int .i64 a1] w fun e w' => ∃ v0_ : Value, e = .returned (.tuple #[v0_, .int .i64 r2]) ∧ Kd.R (Kd.int .u8) 5 w' w.heap.size (fun _ => True) v0_ r1 ∧ Below w.heap.size w w' := by
  have HB := Aside0.mk (Below.refl w.heap.size w)
  have H : (if a1 < 0 then (some (([] : List Int), 2)) else (if (a0.size : Int) > a1 then (some (([] : List Int), 5)) else ((quill_Num.f k (a0.size : Int)).bind fun bt117 => (if bt117.2 = 0 then (if bt117.1.length + a0.size < 140737488355328 then (some ((bt117.1 ++ bytesOf a0), 0)) else (none)) else (some (([] : List Int), bt117.2)))))) = some (r1, r2) := h
  clear h
  by_cases c3 : a1 < 0
  · rw [if_pos c3] at H
    have c3b0 : decide (a1 < 0) = true := decide_eq_true c3
    clear c3
    simp only [Option.some.injEq, Prod.mk.injEq] at H
    obtain ⟨rfl, rfl⟩ := H
    go_enter Try.func23, Try.ntmps23
    go_wp2
    go_ret2
    exact ⟨_, by first | rfl | (simp [errW_none, errW_some] <;> rfl) | (simp [*, errW_none, errW_some] <;> rfl), by first | exact Kd.R_nil _ _ _ _ _ | exact Kd.N_nil _ _ _ _ _ | exact Kd.V_nil _ _ _ _ _ | exact Kd.Q_nil _ _ _ _ _ | exact Kd.S_nil _ _ _ _ _, by repeat (first | (with_reducible first | exact HB.out | apply below_alloc | apply pw_below_drewN | apply below_drew1) | exact HB.out)⟩
  · rw [if_neg c3] at H
    have c3b0 : decide (a1 < 0) = false := decide_eq_false c3
    clear c3
    by_cases c4 : (a0.size : Int) > a1
    · rw [if_pos c4] at H
      have c4b0 : decide (a1 < (a0.size : Int)) = true := decide_eq_true c4
      clear c4
      simp only [Option.some.injEq, Prod.mk.injEq] at H
      obtain ⟨rfl, rfl⟩ := H
      go_enter Try.func23, Try.ntmps23
      go_wp2
      go_ret2
      exact ⟨_, by first | rfl | (simp [errW_none, errW_some] <;> rfl) | (simp [*, errW_none, errW_some] <;> rfl), by first | exact Kd.R_nil _ _ _ _ _ | exact Kd.N_nil _ _ _ _ _ | exact Kd.V_nil _ _ _ _ _ | exact Kd.Q_nil _ _ _ _ _ | exact Kd.S_nil _ _ _ _ _, by repeat (first | (with_reducible first | exact HB.out | apply below_alloc | apply pw_below_drewN | apply below_drew1) | exact HB.out)⟩
    · rw [if_neg c4] at H
      have c4b0 : decide (a1 < (a0.size : Int)) = false := decide_eq_false c4
      clear c4
      replace H := Option.bind_eq_some_iff.mp H
      obtain ⟨⟨t117, t118⟩, A50, H⟩ := H
      replace H : (if t118 = 0 then (if t117.length + a0.size < 140737488355328 then (some ((t117 ++ bytesOf a0), 0)) else (none)) else (some (([] : List Int), t118))) = some (r1, r2) := H
      have A5 := Aside0.mk A50
      clear A50
      by_cases c6 : t118 = 0
      · rw [if_pos c6] at H
        have c6b0 : (t118 == 0) = true := beq_iff_eq.mpr c6
        have c6b1 : (t118 != 0) = false := bne_eq_false_iff_eq.mpr c6
        clear c6
        by_cases c7 : t117.length + a0.size < 140737488355328
        · rw [if_pos c7] at H
          have LMc7 := Aside0.mk c7
          clear c7
          obtain ⟨y121, hy121⟩ : ∃ y_ : List Int, y_ = (t117 ++ bytesOf a0) := ⟨_, rfl⟩
          replace H : (some (y121, 0)) = some (r1, r2) := by first | (rw [hy121]; with_reducible exact H) | (have H2_ := (Option.bind_some _ _).symm.trans H; rw [hy121]; with_reducible exact H2_) | (have H2_ := (Option.bind_some _ _).symm.trans H; with_reducible exact H2_) | with_reducible exact H | (rw [hy121]; exact H) | exact H
          have Ny121 := Aside0.mk hy121
          clear hy121
          simp only [Option.some.injEq, Prod.mk.injEq] at H
          obtain ⟨rfl, rfl⟩ := H
          go_enter Try.func23, Try.ntmps23
          go_wp2_with (first | ((with_reducible refine gate_callee (f := 14) rfl ?_); refine goesL_ (some 19) rfl rfl Try.func14 (by kernel_rfl) rfl #[.int .i64 (a0.size : Int)] rfl (by (try simp only [List.map_toArray, List.map_cons, List.map_nil]); first | done | rfl | (simp only [List.length_drop, List.length_take]; rfl)) ?_; (with_reducible refine (quill_Num.calls k (a0.size : Int) t117 t118 _ A5.out).mono ?_); rintro e w8 ⟨v119, rfl, ho0, hb⟩; refine ⟨_, rfl, ?_⟩; have n0_ := Aside0.mk (Kd.R_lower ho0 (below_size (by repeat (first | (with_reducible first | exact HB.out | apply below_alloc | apply pw_below_drewN | apply below_drew1) | exact HB.out)))); have n1_ := Aside0.mk (below_step (by repeat (first | (with_reducible first | exact HB.out | apply below_alloc | apply pw_below_drewN | apply below_drew1) | exact HB.out)) hb); clear HB; have HO120 := n0_; have HB := n1_; clear n0_ n1_; (try clear hb); (try clear hb2); (try clear hk); (try clear hi); (try clear ho0)) | (at_builtin; refine print_append_str (w0 := w) w.heap.size rfl (.tmp 25) _ 22 9 5 rfl Try.underlying22 Try.underlying9 info5 v119 t117 a0 rfl rfl ?aO ?aB ?aS ?aL ?_; (case aB => exact (by repeat (first | (with_reducible first | exact HB.out | apply below_alloc | apply pw_below_drewN | apply below_drew1) | exact HB.out))); (case aO => exact (Kd.own_of_R (by (with_reducible repeat (first | apply Kd.R_alloc | apply Kd.R_drewN | apply Kd.R_drew)); exact HO120.out))); (case aS => exact (below_size (by repeat (first | (with_reducible first | exact HB.out | apply below_alloc | apply pw_below_drewN | apply below_drew1) | exact HB.out)))); (case aL => have := LMc7.out; omega); intro v122 w9 ho0 hb hg; have ho := Kd.R_of_own (h1 := fun _ => rfl) (ok := fun _ => True) ho0 (fun _ _ => trivial); clear ho0; have hat := True.intro; rw [← Ny121.out] at ho; change Kd.R (Kd.int .u8) 5 w9 w.heap.size (fun _ => True) v122 y121 at ho; have n0_ := Aside0.mk (hb); have n1_ := Aside0.mk (ho); clear HB; clear HO120; have HB := n0_; have HO123 := n1_; clear n0_ n1_; clear ho hb hg hat))
          go_ret2
          exact ⟨_, by first | rfl | (simp [errW_none, errW_some] <;> rfl) | (simp [*, errW_none, errW_some] <;> rfl), by (with_reducible repeat (first | apply Kd.R_alloc | apply Kd.R_drewN | apply Kd.R_drew)); exact HO123.out, by repeat (first | (with_reducible first | exact HB.out | apply below_alloc | apply pw_below_drewN | apply below_drew1) | exact HB.out)⟩
        · rw [if_neg c7] at H
          exact absurd H (by simp)
      · rw [if_neg c6] at H
        have c6b0 : (t118 == 0) = false := beq_eq_false_iff_ne.mpr c6
        have c6b1 : (t118 != 0) = true := bne_iff_ne.mpr c6
        simp only [Option.some.injEq, Prod.mk.injEq] at H
        obtain ⟨rfl, rfl⟩ := H
        go_enter Try.func23, Try.ntmps23
        go_wp2_with (first | ((with_reducible refine gate_callee (f := 14) rfl ?_); refine goesL_ (some 19) rfl rfl Try.func14 (by kernel_rfl) rfl #[.int .i64 (a0.size : Int)] rfl (by (try simp only [List.map_toArray, List.map_cons, List.map_nil]); first | done | rfl | (simp only [List.length_drop, List.length_take]; rfl)) ?_; (with_reducible refine (quill_Num.calls k (a0.size : Int) t117 t118 _ A5.out).mono ?_); rintro e w10 ⟨v119, rfl, ho0, hb⟩; refine ⟨_, rfl, ?_⟩; have n0_ := Aside0.mk (Kd.R_lower ho0 (below_size (by repeat (first | (with_reducible first | exact HB.out | apply below_alloc | apply pw_below_drewN | apply below_drew1) | exact HB.out)))); have n1_ := Aside0.mk (below_step (by repeat (first | (with_reducible first | exact HB.out | apply below_alloc | apply pw_below_drewN | apply below_drew1) | exact HB.out)) hb); clear HB; have HO120 := n0_; have HB := n1_; clear n0_ n1_; (try clear hb); (try clear hb2); (try clear hk); (try clear hi); (try clear ho0)))
        go_ret2
        exact ⟨_, by first | rfl | (simp [errW_none, errW_some] <;> rfl) | (simp [*, errW_none, errW_some] <;> rfl), by first | exact Kd.R_nil _ _ _ _ _ | exact Kd.N_nil _ _ _ _ _ | exact Kd.V_nil _ _ _ _ _ | exact Kd.Q_nil _ _ _ _ _ | exact Kd.S_nil _ _ _ _ _, by repeat (first | (with_reducible first | exact HB.out | apply below_alloc | apply pw_below_drewN | apply below_drew1) | exact HB.out)⟩

/-! ### quill_TakeNum: function 19 (a leaf, by hand) -/
def quill_TakeNum.f (l0 : List Int) : Option (Int × List Int × Int) := if isByts l0 = true ∧ l0.length < 140737488355328 then (some (qTake l0)) else (none)
set_option maxHeartbeats 8000000 in
set_option maxRecDepth 100000 in
theorem quill_TakeNum.calls (A0 : Option Addr) (c0 : Nat) (l0 : List Int) (r1 : Int) (r2 : List Int) (r3 : Int) (w : World) (hr0 : Kd.C (Kd.int .u8) w A0 l0.length l0) (hc0 : l0.length ≤ c0) (h : quill_TakeNum.f l0 = some (r1, r2, r3)) :
    Calls Try.prog 19 #[.slice A0 l0.length c0] w fun e w' => ∃ v1_ : Value, e = .returned (.tuple #[.int .i64 r1, v1_, .int .i64 r3]) ∧ Kd.R (Kd.int .u8) 5 w' w.heap.size (fun _ => True) v1_ r2 ∧ Below w.heap.size w w' := by
  unfold quill_TakeNum.f at h
  by_cases hc : isByts l0 = true ∧ l0.length < 140737488355328
  · rw [if_pos hc] at h
    have hq := Option.some.inj h
    clear h
    have HR0 := Aside0.mk hr0
    have HC0 := Aside0.mk hc0
    have HBy := Aside0.mk ((isByts_iff l0).1 hc.1)
    have hl2 : r2.length < 140737488355328 := by have := qTake_len l0; rw [hq] at this; have : r2.length ≤ l0.length := this; omega
    have hcl : slices_Clone_byte_byte.f r2 = some r2 := if_pos hl2
    have HQ := Aside0.mk hq
    have HCL := Aside0.mk hcl
    clear hr0 hc0 hc hq hcl hl2
    go_enter Try.func19, Try.ntmps19
    go_wp2_with fail
    refine (quill_take.calls A0 c0 l0 _ HBy.out HR0.out HC0.out).mono ?_
    rw [HQ.out]
    rintro e w1 ⟨A, c, rfl, hC, hcl, hd⟩
    dsimp only at hC hcl
    have HC1 := Aside0.mk (Kd.C_below hC hd.below)
    have HB1 := Aside0.mk hd.below
    clear hC hd
    go_wp2_with fail
    refine (slices_Clone_byte_byte.calls A c r2 r2 _ HC1.out hcl HCL.out).mono ?_
    rintro e w2 ⟨v2, rfl, ho, hb⟩
    have HO := Aside0.mk (Kd.R_lower ho (below_size HB1.out))
    have HB := Aside0.mk (below_step HB1.out hb)
    clear ho hb
    go_wp2
    go_ret3
    exact ⟨_, rfl, HO.out, HB.out⟩
  · rw [if_neg hc] at h
    exact absurd h (by simp)

/-! ### scriptoriumlaw01_is: function 27 (a leaf, by hand) -/
theorem lit_reads (w : World) (s : Nat) (hs : w.heap.size = s) (xs : List Int) (m : Nat × Nat) (hl : xs.length ≤ 9223372036854775807) : Kd.C (Kd.int .u8) (w.alloc (.cells (nums .u8 xs).toArray 5 m)) (some ⟨s, 0, none⟩) xs.length xs := by
  subst hs
  refine Kd.C_of_reads (d := (0 : Int)) (h1 := fun _ => rfl) ⟨rfl, hl, fun _ => ⟨_, rfl, fun j hj => ?_⟩⟩
  rw [add_plain]
  have h1 : ∀ (a : Array Obj) (x : Obj), (a.push x)[a.size]? = some x := fun a x => by simp
  simp only [World.cell?, World.alloc, h1]
  simp [nums, List.getD_eq_getElem?_getD, List.getElem?_eq_getElem hj]
theorem eqB_calls (xs : List Int) (n m : Nat) (A B : Option Addr) (c d : Nat) (w : World) (hn : xs.length = n) (hm : xs.length = m) (hc : n ≤ c) (hd : m ≤ d) (k : Nat) (h : scriptoriumref00_EqBytes.f k xs xs = some true)
    (hr : Kd.C (Kd.int .u8) w A xs.length xs) (hr2 : Kd.C (Kd.int .u8) w B xs.length xs) :
    Calls Try.prog 16 #[.slice A n c, .slice B m d] w fun e w' => e = .returned (.bool true) ∧ Below w.heap.size w w' := by
  subst hn
  subst hm
  exact (scriptoriumref00_EqBytes.calls k A c xs B d xs true w hr hc hr2 hd h).mono fun e w' ⟨h1, h2⟩ => ⟨h1, h2.below⟩
theorem takeNum_at (xs : List Int) (len : Nat) (A : Option Addr) (c : Nat) (n : Int) (rest : List Int) (er : Int) (w : World) (hn : xs.length = len) (hc : len ≤ c) (h : quill_TakeNum.f xs = some (n, rest, er)) (hr : Kd.C (Kd.int .u8) w A xs.length xs) :
    Calls Try.prog 19 #[.slice A len c] w fun e w' => ∃ v1_ : Value, e = .returned (.tuple #[.int .i64 n, v1_, .int .i64 er]) ∧ Kd.R (Kd.int .u8) 5 w' w.heap.size (fun _ => True) v1_ rest ∧ Below w.heap.size w w' := by
  subst hn
  exact quill_TakeNum.calls A c xs n rest er w hr hc h
set_option maxHeartbeats 8000000 in
set_option maxRecDepth 100000 in
/-- A number's bytes, there and back: of a literal (its capacity is its length). -/
theorem is_true (k : Nat) (n : Int) (b : List Int) (A : Option Addr) (len : Nat) (w : World) (hlen : b.length = len) (hsm : b.length ≤ 100) (hr : Kd.C (Kd.int .u8) w A b.length b)
    (hnum : quill_Num.f k n = some (b, 0)) (htake : quill_TakeNum.f (b ++ [9]) = some (n, [9], 0)) (he : scriptoriumref00_EqBytes.f k b b = some true) (he9 : scriptoriumref00_EqBytes.f k [9] [9] = some true) :
    Calls Try.prog 27 #[.int .i64 n, .slice A len len] w fun e w' => e = .returned (.bool true) ∧ Below w.heap.size w w' := by
  subst hlen
  have HR := Aside0.mk hr
  have HN := Aside0.mk hnum
  have HT := Aside0.mk htake
  have HE := Aside0.mk he
  have HE9 := Aside0.mk he9
  clear hr hnum htake he he9
  go_enter Try.func27, Try.ntmps27
  go_wp2_with fail
  refine (quill_Num.calls k n b 0 _ HN.out).mono ?_
  rintro e w1 ⟨v1, rfl, ho1, hb1⟩
  have HO1 := Aside0.mk ho1
  have HB1 := Aside0.mk hb1
  clear ho1 hb1
  obtain ⟨A1, c1, e1⟩ := Kd.R_slice HO1.out
  subst e1
  have HR1 := Aside0.mk (Kd.C_below HR.out HB1.out)
  obtain ⟨i0, hi, hz0, hz1, hz2⟩ := info_parts info5
  have hl9 := lit_reads w1 _ rfl [9] (0, 0) (by decide)
  go_wp2_with (at_builtin; refine wpList_append_grows _ rfl (.tmp 16) (.tmp 17) 22 rfl 5 i0 (.int .u8 0) 1 1 Try.underlying22 hi hz0 hz1 hz2 rfl (by decide) A b.length b.length (nums .u8 b) rfl ?c1 ?c2 ?c3 ⟨w1.heap.size, 0, none⟩ 1 1 [.int .u8 9] rfl rfl ?c4 ?c5 ?c6 ?c7 ?c8 ?_)
  case c1 =>
    intro hA
    have h0 : b.length = 0 := by
      rcases Nat.eq_zero_or_pos b.length with h0 | h0
      · exact h0
      · obtain ⟨ad, he, _⟩ := HR1.out.2.2 h0
        rw [hA] at he
        cases he
    exact ⟨h0, h0⟩
  case c2 => rw [nums_length, Nat.mul_one]
  case c3 =>
    intro ad hA j u hj
    have hjl : j < b.length := by
      rcases Nat.lt_or_ge j b.length with h' | h'
      · exact h'
      · rw [List.getElem?_eq_none (by rw [nums_length]; exact h')] at hj
        cases hj
    obtain ⟨ad', he', hc⟩ := Kd.at_int (Kd.C_alloc HR1.out _) j (by omega) (by omega)
    rw [hA] at he'
    injection he' with he'
    subst he'
    rw [Int.toNat_natCast] at hc
    rw [hc]
    rw [nums, List.getElem?_map, List.getElem?_eq_getElem hjl] at hj
    simp at hj
    rw [← hj]
    simp [rd, List.getD_eq_getElem?_getD, List.getElem?_eq_getElem hjl]
  case c4 =>
    intro j u hj
    match j, hj with
    | 0, hj =>
      simp at hj
      subst hj
      obtain ⟨ad', he', hc⟩ := Kd.at_int hl9 0 (by omega) (by simp)
      injection he' with he'
      subst he'
      exact hc
  case c5 =>
    intro u hu
    simp at hu
    subst hu
    rfl
  case c6 => omega
  case c7 => unfold maxLen; omega
  case c8 => omega
  intro v2 w2 ho2 hg2
  have ho2' : w2.ownsRow (w1.heap.size + 1) 5 1 v2 (b ++ [9]).length (nums .u8 (b ++ [9])) := by
    rw [nums_append, List.length_append]
    exact ho2
  obtain ⟨A2, c2, e2, hr2⟩ := own_reads ho2'
  subst e2
  have hc2 := own_cap ho2'
  have HR2 := Aside0.mk (Kd.C_of_reads (d := (0 : Int)) (h1 := fun _ => rfl) hr2)
  have HBb : Below w.heap.size w w2 := below_step (below_alloc HB1.out _) ⟨hg2.os, hg2.tape, hg2.output, hg2.size, fun i hi => hg2.block i hi (by simp)⟩
  have HB2 := Aside0.mk HBb
  have hb12 : Aside0 (Below w1.heap.size w1 w2) := ⟨below_step (below_alloc (Below.refl _ _) _) ⟨hg2.os, hg2.tape, hg2.output, hg2.size, fun i hi => hg2.block i hi (by simp)⟩⟩
  clear HBb ho2 ho2' hg2 hr2 hl9 hi hz0 hz1 hz2 HB1
  have HC2 := Aside0.mk hc2
  clear hc2
  go_wp2_with fail
  refine (takeNum_at (b ++ [9]) _ A2 c2 n [9] 0 _ (by simp) ?hc HT.out HR2.out).mono ?_
  case hc => have := HC2.out; simp at this; exact this
  rintro e w3 ⟨v3, rfl, ho3, hb3⟩
  have HO1' := Aside0.mk (Kd.R_below HO1.out hb12.out)
  have HO3 := Aside0.mk ho3
  have HR3 := Aside0.mk (Kd.C_below HR1.out (below_step hb12.out hb3))
  have HR4 := Aside0.mk (Kd.R_below HO1'.out hb3)
  have HB3 := Aside0.mk (below_step HB2.out hb3)
  obtain ⟨A3, c3, e3⟩ := Kd.R_slice HO3.out
  subst e3
  clear ho3 hb3 HO1' hb12 HB2 HR2 HR1
  go_wp2_with fail
  refine (eqB_calls b _ _ A1 A c1 _ _ rfl rfl ?hc1 ?hc2 k HE.out ?hr1 ?hr2).mono ?_
  case hc1 => exact (Kd.R_reads' HO1.out).2.1
  case hc2 => exact Nat.le_refl _
  case hr1 => exact (Kd.R_reads' HR4.out).2.2
  case hr2 => exact HR3.out
  rintro e w4 ⟨rfl, hb4⟩
  have HB4 := Aside0.mk (below_step HB3.out hb4)
  have HO4 := Aside0.mk (Kd.R_below HO3.out hb4)
  clear hb4 HB3 HO3 HR4 HR3
  have hl9 := lit_reads w4 _ rfl [9] (0, 0) (by decide)
  have HL9 := Aside0.mk hl9
  clear hl9
  go_wp2_with fail
  refine (eqB_calls [9] _ _ A3 _ c3 _ _ rfl rfl ?hc3 ?hc4 k HE9.out ?hr3 ?hr4).mono ?_
  case hc3 => exact (Kd.R_reads' HO4.out).2.1
  case hc4 => exact Nat.le_refl _
  case hr3 => exact Kd.C_alloc (Kd.R_reads' HO4.out).2.2 _
  case hr4 => exact HL9.out
  rintro e w5 ⟨rfl, hb5⟩
  have HB5 := Aside0.mk (below_step (below_alloc HB4.out _) hb5)
  clear hb5 HB4
  go_wp2
  go_ret
  exact ⟨rfl, HB5.out⟩

/-! ### scriptoriumlaw01_works: function 17 (a leaf, by hand) -/
theorem takeStr_at (xs : List Int) (len : Nat) (A : Option Addr) (c : Nat) (most : Int) (s : ByteArray) (rest : List Int) (er : Int) (w : World) (hn : xs.length = len) (hc : len ≤ c) (h : quill_TakeStr.f xs most = some (s, rest, er)) (hr : Kd.C (Kd.int .u8) w A xs.length xs) :
    Calls Try.prog 21 #[.slice A len c, .int .i64 most] w fun e w' => ∃ v1_ : Value, e = .returned (.tuple #[.string s, v1_, .int .i64 er]) ∧ Kd.R (Kd.int .u8) 5 w' w.heap.size (fun _ => True) v1_ rest ∧ Below w.heap.size w w' := by
  subst hn
  exact quill_TakeStr.calls A c xs most s rest er w hr hc h
def scriptoriumlaw01_works.f : Option (Bool) := some true
set_option maxHeartbeats 16000000 in
set_option maxRecDepth 100000 in
theorem scriptoriumlaw01_works.calls (r : Bool) (w : World) (h : scriptoriumlaw01_works.f = some r) :
    Calls Try.prog 17 #[] w fun e w' => e = .returned (.bool r) ∧ Below w.heap.size w w' := by
  obtain rfl := Option.some.inj h
  go_enter Try.func17, Try.ntmps17
  have HB0 := Aside0.mk (Below.refl w.heap.size w)
  go_wp2_with fail
  refine (quill_Str.calls 20 (⟨#[97, 98]⟩ : ByteArray) (2) [1, 2, 97, 98] 0 _ (by kernel_rfl)).mono ?_
  rintro e w1 ⟨v0, rfl, ho, hb⟩
  have HB1 := Aside0.mk (below_step HB0.out hb)
  clear HB0 hb
  have HOp := Aside0.mk ho
  clear ho
  obtain ⟨Ap, cp, ep⟩ := Kd.R_slice HOp.out
  subst ep
  have HL := Aside0.mk (lit_reads w1 _ rfl [1, 2, 97, 98, 99] (0, 0) (by decide))
  go_wp2_with fail
  refine (takeStr_at [1, 2, 97, 98, 99] 5 _ _ (2) (⟨#[97, 98]⟩ : ByteArray) [99] 0 _ rfl (Nat.le_refl _) (by kernel_rfl) HL.out).mono ?_
  rintro e w2 ⟨v1, rfl, ho, hb⟩
  have HB2 := Aside0.mk (below_step (below_alloc HB1.out _) hb)
  replace HOp := Aside0.mk (Kd.R_below (Kd.R_alloc HOp.out _) hb)
  clear HB1 hb HL
  have HOq := Aside0.mk ho
  clear ho
  obtain ⟨Aq, cq, eq⟩ := Kd.R_slice HOq.out
  subst eq
  have HL := Aside0.mk (lit_reads w2 _ rfl [0] (0, 0) (by decide))
  go_wp2_with fail
  refine (is_true 20 0 [0] _ 1 _ rfl (by decide) HL.out (by kernel_rfl) (by kernel_rfl) (by kernel_rfl) (by kernel_rfl)).mono ?_
  rintro e w3 ⟨rfl, hb⟩
  have HB3 := Aside0.mk (below_step (below_alloc HB2.out _) hb)
  replace HOp := Aside0.mk (Kd.R_below (Kd.R_alloc HOp.out _) hb)
  replace HOq := Aside0.mk (Kd.R_below (Kd.R_alloc HOq.out _) hb)
  clear HB2 hb HL
  have HL := Aside0.mk (lit_reads w3 _ rfl [1, 1] (0, 0) (by decide))
  go_wp2_with fail
  refine (is_true 20 1 [1, 1] _ 2 _ rfl (by decide) HL.out (by kernel_rfl) (by kernel_rfl) (by kernel_rfl) (by kernel_rfl)).mono ?_
  rintro e w4 ⟨rfl, hb⟩
  have HB4 := Aside0.mk (below_step (below_alloc HB3.out _) hb)
  replace HOp := Aside0.mk (Kd.R_below (Kd.R_alloc HOp.out _) hb)
  replace HOq := Aside0.mk (Kd.R_below (Kd.R_alloc HOq.out _) hb)
  clear HB3 hb HL
  have HL := Aside0.mk (lit_reads w4 _ rfl [2, 1, 0] (0, 0) (by decide))
  go_wp2_with fail
  refine (is_true 20 256 [2, 1, 0] _ 3 _ rfl (by decide) HL.out (by kernel_rfl) (by kernel_rfl) (by kernel_rfl) (by kernel_rfl)).mono ?_
  rintro e w5 ⟨rfl, hb⟩
  have HB5 := Aside0.mk (below_step (below_alloc HB4.out _) hb)
  replace HOp := Aside0.mk (Kd.R_below (Kd.R_alloc HOp.out _) hb)
  replace HOq := Aside0.mk (Kd.R_below (Kd.R_alloc HOq.out _) hb)
  clear HB4 hb HL
  have HL := Aside0.mk (lit_reads w5 _ rfl [1, 2, 97, 98] (0, 0) (by decide))
  go_wp2_with fail
  refine (eqB_calls [1, 2, 97, 98] _ _ _ _ _ _ _ rfl rfl (Kd.R_reads' HOp.out).2.1 (Nat.le_refl _) 20 (by kernel_rfl) (Kd.C_alloc (Kd.R_reads' HOp.out).2.2 _) HL.out).mono ?_
  rintro e w6 ⟨rfl, hb⟩
  have HB6 := Aside0.mk (below_step (below_alloc HB5.out _) hb)
  replace HOp := Aside0.mk (Kd.R_below (Kd.R_alloc HOp.out _) hb)
  replace HOq := Aside0.mk (Kd.R_below (Kd.R_alloc HOq.out _) hb)
  clear HB5 hb HL
  have HL := Aside0.mk (lit_reads w6 _ rfl [99] (0, 0) (by decide))
  go_wp2_with fail
  refine (eqB_calls [99] _ _ _ _ _ _ _ rfl rfl (Kd.R_reads' HOq.out).2.1 (Nat.le_refl _) 20 (by kernel_rfl) (Kd.C_alloc (Kd.R_reads' HOq.out).2.2 _) HL.out).mono ?_
  rintro e w7 ⟨rfl, hb⟩
  have HB7 := Aside0.mk (below_step (below_alloc HB6.out _) hb)
  replace HOp := Aside0.mk (Kd.R_below (Kd.R_alloc HOp.out _) hb)
  replace HOq := Aside0.mk (Kd.R_below (Kd.R_alloc HOq.out _) hb)
  clear HB6 hb HL
  go_wp2
  go_ret
  exact ⟨rfl, HB7.out⟩

/-! ### scriptoriumref00_Bring: function 26 -/
def scriptoriumref00_Bring.f (a0 : Int) (a1 : Int) : Option (Int) := if a1 ≤ 0 then (some 0) else (if a1 = 0 then (none) else (if (Int.tmod a0 a1) < 0 then (some (wrap64 ((Int.tmod a0 a1) + a1))) else (some (Int.tmod a0 a1))))
set_option maxHeartbeats 8000000 in
set_option maxRecDepth 100000 in
theorem scriptoriumref00_Bring.calls (a0 : Int) (a1 : Int) (r : Int) (w : World) (h : scriptoriumref00_Bring.f a0 a1 = some r) :
    Calls Try.prog 26 #[.int .i64 a0, .int .i64 a1] w fun e w' => e = .returned (.int .i64 r) ∧ Drawn0 w w' := by
  have H : (if a1 ≤ 0 then (some 0) else (if a1 = 0 then (none) else (if (Int.tmod a0 a1) < 0 then (some (wrap64 ((Int.tmod a0 a1) + a1))) else (some (Int.tmod a0 a1))))) = some r := h
  clear h
  by_cases c3 : a1 ≤ 0
  · rw [if_pos c3] at H
    have c3b0 : decide (a1 ≤ 0) = true := decide_eq_true c3
    clear c3
    obtain rfl := Option.some.inj H
    go_enter Try.func26, Try.ntmps26
    go_wp2
    go_ret
    exact ⟨by first | rfl | (simp; done) | (simp [*]; done), by repeat (first | exact Drawn0.refl _ | apply Drawn0.step)⟩
  · rw [if_neg c3] at H
    have c3b0 : decide (a1 ≤ 0) = false := decide_eq_false c3
    clear c3
    by_cases c4 : a1 = 0
    · rw [if_pos c4] at H
      exact absurd H (by simp)
    · rw [if_neg c4] at H
      have c4b0 : (a1 == 0) = false := beq_eq_false_iff_ne.mpr c4
      have c4b1 : (a1 != 0) = true := bne_iff_ne.mpr c4
      by_cases c5 : (Int.tmod a0 a1) < 0
      · rw [if_pos c5] at H
        have c5b0 : decide ((Int.tmod a0 a1) < 0) = true := decide_eq_true c5
        clear c5
        obtain rfl := Option.some.inj H
        go_enter Try.func26, Try.ntmps26
        go_wp2
        go_ret
        exact ⟨by first | rfl | (simp; done) | (simp [*]; done), by repeat (first | exact Drawn0.refl _ | apply Drawn0.step)⟩
      · rw [if_neg c5] at H
        have c5b0 : decide ((Int.tmod a0 a1) < 0) = false := decide_eq_false c5
        clear c5
        obtain rfl := Option.some.inj H
        go_enter Try.func26, Try.ntmps26
        go_wp2
        go_ret
        exact ⟨by first | rfl | (simp; done) | (simp [*]; done), by repeat (first | exact Drawn0.refl _ | apply Drawn0.step)⟩

/-! ### scriptoriumlaw01_number: function 25 -/
def scriptoriumlaw01_number.f (a0 : Int) : Option (Int) := (scriptoriumref00_Bring.f a0 9007199254740992).bind fun t124 => (some t124)
set_option maxHeartbeats 8000000 in
set_option maxRecDepth 100000 in
theorem scriptoriumlaw01_number.calls (a0 : Int) (r : Int) (w : World) (h : scriptoriumlaw01_number.f a0 = some r) :
    Calls Try.prog 25 #[.int .i64 a0] w fun e w' => e = .returned (.int .i64 r) ∧ Drawn0 w w' := by
  have H : ((scriptoriumref00_Bring.f a0 9007199254740992).bind fun t124 => (some t124)) = some r := h
  clear h
  replace H := Option.bind_eq_some_iff.mp H
  obtain ⟨t124, A20, H⟩ := H
  replace H : (some t124) = some r := H
  have A2 := Aside0.mk A20
  clear A20
  obtain rfl := Option.some.inj H
  go_enter Try.func25, Try.ntmps25
  go_wp2_with (first | ((with_reducible refine gate_callee (f := 26) rfl ?_); refine goesL_ (some 4) rfl rfl Try.func26 (by kernel_rfl) rfl #[.int .i64 a0, .int .i64 9007199254740992] rfl (by (try simp only [List.map_toArray, List.map_cons, List.map_nil]); first | done | rfl | (simp only [List.length_drop, List.length_take]; rfl)) ?_; (with_reducible refine (scriptoriumref00_Bring.calls a0 9007199254740992 t124 _ A2.out).mono ?_); rintro e w' ⟨rfl, ⟨nd, rfl⟩⟩; refine ⟨_, rfl, ?_⟩))
  go_ret
  exact ⟨by first | rfl | (simp; done) | (simp [*]; done), by repeat (first | exact Drawn0.refl _ | apply Drawn0.step)⟩

/-! ### bytes_Equal: function 36 -/
def bytes_Equal.f (l0 : List Int) (l1 : List Int) : Option (Bool) := some ((strOfNums l0).toList == (strOfNums l1).toList)
set_option maxHeartbeats 8000000 in
set_option maxRecDepth 100000 in
theorem bytes_Equal.calls (A0 : Option Addr) (c0 : Nat) (l0 : List Int) (A1 : Option Addr) (c1 : Nat) (l1 : List Int) (r : Bool) (w : World) (hr0 : Kd.C (Kd.int .u8) w A0 l0.length l0) (hc0 : l0.length ≤ c0) (hr1 : Kd.C (Kd.int .u8) w A1 l1.length l1) (hc1 : l1.length ≤ c1) (h : bytes_Equal.f l0 l1 = some r) :
    Calls Try.prog 36 #[.slice A0 l0.length c0, .slice A1 l1.length c1] w fun e w' => e = .returned (.bool r) ∧ Drawn0 w w' := by
  have HR0 := Aside0.mk hr0
  have HC0 := Aside0.mk hc0
  clear hr0 hc0
  have HR1 := Aside0.mk hr1
  have HC1 := Aside0.mk hc1
  clear hr1 hc1
  have H : (some ((strOfNums l0).toList == (strOfNums l1).toList)) = some r := h
  clear h
  obtain rfl := Option.some.inj H
  have hcv3 := Kd.C_string (P := Try.prog) (A := A0) (c := c0) Try.underlying22 Try.underlying5 Try.underlying9 HR0.out
  have hcv4 := Kd.C_string (P := Try.prog) (A := A1) (c := c1) Try.underlying22 Try.underlying5 Try.underlying9 HR1.out
  go_enter Try.func36, Try.ntmps36
  go_wp2
  go_ret
  exact ⟨by first | rfl | (simp; done) | (simp [*]; done), by repeat (first | exact Drawn0.refl _ | apply Drawn0.step)⟩

/-! ### bytes_HasPrefix: function 28 -/
def bytes_HasPrefix.f (l0 : List Int) (l1 : List Int) : Option (Bool) := if (l0.length : Int) ≥ (l1.length : Int) then (if 0 ≤ (l1.length : Int) then (if (l1.length : Int) ≤ (l0.length : Int) then ((bytes_Equal.f (l0.take ((l1.length : Int) : Int).toNat) l1).bind fun t126 => (some t126)) else (none)) else (none)) else (some false)
set_option maxHeartbeats 8000000 in
set_option maxRecDepth 100000 in
theorem bytes_HasPrefix.calls (A0 : Option Addr) (c0 : Nat) (l0 : List Int) (A1 : Option Addr) (c1 : Nat) (l1 : List Int) (r : Bool) (w : World) (hr0 : Kd.C (Kd.int .u8) w A0 l0.length l0) (hc0 : l0.length ≤ c0) (hr1 : Kd.C (Kd.int .u8) w A1 l1.length l1) (hc1 : l1.length ≤ c1) (h : bytes_HasPrefix.f l0 l1 = some r) :
    Calls Try.prog 28 #[.slice A0 l0.length c0, .slice A1 l1.length c1] w fun e w' => e = .returned (.bool r) ∧ Drawn0 w w' := by
  have HR0 := Aside0.mk hr0
  have HC0 := Aside0.mk hc0
  clear hr0 hc0
  have HR1 := Aside0.mk hr1
  have HC1 := Aside0.mk hc1
  clear hr1 hc1
  have H : (if (l0.length : Int) ≥ (l1.length : Int) then (if 0 ≤ (l1.length : Int) then (if (l1.length : Int) ≤ (l0.length : Int) then ((bytes_Equal.f (l0.take ((l1.length : Int) : Int).toNat) l1).bind fun t126 => (some t126)) else (none)) else (none)) else (some false)) = some r := h
  clear h
  by_cases c3 : (l0.length : Int) ≥ (l1.length : Int)
  · rw [if_pos c3] at H
    have c3b0 : decide ((l1.length : Int) ≤ (l0.length : Int)) = true := decide_eq_true c3
    have c3b1 : decide (l1.length ≤ l0.length) = true := decide_eq_true (Int.ofNat_le.mp c3)
    clear c3
    by_cases c4 : 0 ≤ (l1.length : Int)
    · rw [if_pos c4] at H
      have c4b0 := eq_true c4
      have c4b1 : decide (0 ≤ (l1.length : Int)) = true := decide_eq_true c4
      clear c4
      by_cases c5 : (l1.length : Int) ≤ (l0.length : Int)
      · rw [if_pos c5] at H
        have c5b0 := eq_true c5
        have c5b1 : decide ((l1.length : Int) ≤ (l0.length : Int)) = true := decide_eq_true c5
        clear c5
        replace H := Option.bind_eq_some_iff.mp H
        obtain ⟨t126, A60, H⟩ := H
        replace H : (some t126) = some r := H
        have A6 := Aside0.mk A60
        clear A60
        obtain rfl := Option.some.inj H
        obtain ⟨i07, hi07, _, hsz7, _⟩ := info_parts info5
        obtain ⟨hcut7, hA7, hC7⟩ := print_take_of (P := Try.prog) (Value.int .u8) 0 22 5 .i64 Try.underlying22 hi07 hsz7 A0 c0 l0 (l1.length : Int) (of_decide_eq_true (by first | (with_reducible assumption) | assumption)) (of_decide_eq_true (by first | (with_reducible assumption) | assumption)) HC0.out
        have HR125 := Aside0.mk (Kd.C_of_reads (h1 := fun _ => rfl) (hA7 _ (Kd.reads_of_C HR0.out)))
        have HC125 := Aside0.mk hC7
        clear hA7 hC7 hi07 hsz7
        go_enter Try.func28, Try.ntmps28
        go_wp2_with (first | (go_at_call 36; refine calls_of_args (args' := #[.slice A0 (l0.take ((l1.length : Int) : Int).toNat).length c0, .slice A1 l1.length c1]) (by first | rfl | (rw [show (l0.take ((l1.length : Int) : Int).toNat).length = (l1.length : Int).toNat from (by rw [List.length_take]; have h_ : ((l1.length : Int) : Int) ≤ (l0.length : Int) := of_decide_eq_true (by first | (with_reducible assumption) | assumption); omega)] <;> rfl) | rfl | (simp [List.length_take]; done)) ?_; (with_reducible refine (bytes_Equal.calls _ _ (l0.take ((l1.length : Int) : Int).toNat) _ _ l1 t126 _ ?side1 ?side2 ?side3 ?side4 A6.out).mono ?_); (case side1 => repeat (first | exact HR125.out | (with_reducible refine Kd.C_alloc ?_ _) | (with_reducible refine Kd.C_drewN ?_ _) | (with_reducible refine Kd.C_drew ?_))); (case side2 => exact HC125.out); (case side3 => repeat (first | exact HR1.out | (with_reducible refine Kd.C_alloc ?_ _) | (with_reducible refine Kd.C_drewN ?_ _) | (with_reducible refine Kd.C_drew ?_))); (case side4 => exact HC1.out); rintro e w' ⟨rfl, ⟨nd, rfl⟩⟩))
        go_ret
        exact ⟨by first | rfl | (simp; done) | (simp [*]; done), by repeat (first | exact Drawn0.refl _ | apply Drawn0.step)⟩
      · rw [if_neg c5] at H
        exact absurd H (by simp)
    · rw [if_neg c4] at H
      exact absurd H (by simp)
  · rw [if_neg c3] at H
    have c3b0 : decide ((l1.length : Int) ≤ (l0.length : Int)) = false := decide_eq_false c3
    have c3b1 : decide (l1.length ≤ l0.length) = false := decide_eq_false (fun h => c3 (Int.ofNat_le.mpr h))
    clear c3
    obtain rfl := Option.some.inj H
    go_enter Try.func28, Try.ntmps28
    go_wp2
    go_ret
    exact ⟨by first | rfl | (simp; done) | (simp [*]; done), by repeat (first | exact Drawn0.refl _ | apply Drawn0.step)⟩

-- NOT PRINTED: function 37 (bytealg_Compare)

/-! ### bytes_Compare: function 29 (a leaf, by hand) -/
theorem run_bytesOf (w : World) (A : Option Addr) (c : Nat) (xs : List Int) (hr : Kd.C (Kd.int .u8) w A xs.length xs) : (Extern.Bytes.bytesOf (.slice A xs.length c)).run Try.prog w = .ok ⟨(Lib.bytesOf xs).toArray⟩ w := by
  cases A with
  | none =>
    have h0 : xs.length = 0 := by
      rcases Nat.eq_zero_or_pos xs.length with h0 | h0
      · exact h0
      · obtain ⟨ad, he, _⟩ := hr.2.2 h0
        cases he
    obtain rfl : xs = [] := List.length_eq_zero_iff.1 h0
    rfl
  | some a =>
    have hc : ∀ j x, xs[j]? = some x → w.cell? (a.add j) = some (.int .u8 x) := by
      intro j x hj
      have hjl := (List.getElem?_eq_some_iff.1 hj).1
      obtain ⟨ad, he, h⟩ := hr.2.2 (by omega)
      obtain ⟨cs, _, hcs, hcell⟩ := h j x hj
      have hcs : cs = [.int .u8 x] := hcs
      subst hcs
      have := hcell 0 (.int .u8 x) rfl
      injection he with he
      subst he
      have e : j * (Kd.int .u8).sz + 0 = j := by show j * 1 + 0 = j; omega
      rw [e] at this
      exact this
    have hl := Lib.run_loadBytesX (P := Try.prog) w xs a .empty hc
    have he : (⟨ByteArray.empty.data ++ (Lib.bytesOf xs).toArray⟩ : ByteArray) = ⟨(Lib.bytesOf xs).toArray⟩ := by
      apply ByteArray.ext
      show (#[] : Array UInt8) ++ (Lib.bytesOf xs).toArray = (Lib.bytesOf xs).toArray
      simp
    rw [he] at hl
    exact hl
theorem run_compare (w : World) (A0 : Option Addr) (c0 : Nat) (l0 : List Int) (A1 : Option Addr) (c1 : Nat) (l1 : List Int) (hr0 : Kd.C (Kd.int .u8) w A0 l0.length l0) (hr1 : Kd.C (Kd.int .u8) w A1 l1.length l1) :
    (Extern.BytealgCompare.compare #[.slice A0 l0.length c0, .slice A1 l1.length c1]).run Try.prog w = .ok (.int .i64 (Lib.compareBytes (Lib.bytesOf l0) (Lib.bytesOf l1))) w := by
  change Sem.run Try.prog (do pure (goInt (Extern.BytealgCompare.cmp (← Extern.Bytes.bytesOf (.slice A0 l0.length c0)) (← Extern.Bytes.bytesOf (.slice A1 l1.length c1))))) w = _
  simp only [Sem.run_bind, Sem.run_pure, run_bytesOf w A0 c0 l0 hr0, run_bytesOf w A1 c1 l1 hr1, Result.andThen]
  rw [Lib.cmp_eq]
  rfl
def bytes_Compare.f (l0 : List Int) (l1 : List Int) : Option (Int) := some (Lib.compareBytes (Lib.bytesOf l0) (Lib.bytesOf l1))
set_option maxHeartbeats 8000000 in
set_option maxRecDepth 100000 in
theorem bytes_Compare.calls (A0 : Option Addr) (c0 : Nat) (l0 : List Int) (A1 : Option Addr) (c1 : Nat) (l1 : List Int) (r : Int) (w : World) (hr0 : Kd.C (Kd.int .u8) w A0 l0.length l0) (hc0 : l0.length ≤ c0) (hr1 : Kd.C (Kd.int .u8) w A1 l1.length l1) (hc1 : l1.length ≤ c1) (h : bytes_Compare.f l0 l1 = some r) :
    Calls Try.prog 29 #[.slice A0 l0.length c0, .slice A1 l1.length c1] w fun e w' => e = .returned (.int .i64 r) ∧ Drawn0 w w' := by
  obtain rfl := Option.some.inj h
  have HC := Aside0.mk (run_compare w A0 c0 l0 A1 c1 l1 hr0 hr1)
  clear h hr0 hr1 hc0 hc1
  go_enter Try.func29, Try.ntmps29
  go_wp2
  rw [run_callFunc_extern Try.func37 (by kernel_rfl) (by kernel_rfl) (by kernel_rfl) (e := Extern.BytealgCompare.compare) (by kernel_rfl), HC.out]
  simp only [Result.andThen]
  rw [Oper.upon_value]
  go_wp2
  go_ret
  exact ⟨rfl, Drawn0.refl _⟩

/-! ### scriptoriumlaw01_compare: function 30 -/
def scriptoriumlaw01_compare.f (a0 : Int) (a1 : Int) : Option (Int) := if a0 < a1 then (some (-1)) else (if a0 > a1 then (some 1) else (some 0))
set_option maxHeartbeats 8000000 in
set_option maxRecDepth 100000 in
theorem scriptoriumlaw01_compare.calls (a0 : Int) (a1 : Int) (r : Int) (w : World) (h : scriptoriumlaw01_compare.f a0 a1 = some r) :
    Calls Try.prog 30 #[.int .i64 a0, .int .i64 a1] w fun e w' => e = .returned (.int .i64 r) ∧ Drawn0 w w' := by
  have H : (if a0 < a1 then (some (-1)) else (if a0 > a1 then (some 1) else (some 0))) = some r := h
  clear h
  by_cases c3 : a0 < a1
  · rw [if_pos c3] at H
    have c3b0 : decide (a0 < a1) = true := decide_eq_true c3
    clear c3
    obtain rfl := Option.some.inj H
    go_enter Try.func30, Try.ntmps30
    go_wp2
    go_ret
    exact ⟨by first | rfl | (simp; done) | (simp [*]; done), by repeat (first | exact Drawn0.refl _ | apply Drawn0.step)⟩
  · rw [if_neg c3] at H
    have c3b0 : decide (a0 < a1) = false := decide_eq_false c3
    clear c3
    by_cases c4 : a0 > a1
    · rw [if_pos c4] at H
      have c4b0 : decide (a1 < a0) = true := decide_eq_true c4
      clear c4
      obtain rfl := Option.some.inj H
      go_enter Try.func30, Try.ntmps30
      go_wp2
      go_ret
      exact ⟨by first | rfl | (simp; done) | (simp [*]; done), by repeat (first | exact Drawn0.refl _ | apply Drawn0.step)⟩
    · rw [if_neg c4] at H
      have c4b0 : decide (a1 < a0) = false := decide_eq_false c4
      clear c4
      obtain rfl := Option.some.inj H
      go_enter Try.func30, Try.ntmps30
      go_wp2
      go_ret
      exact ⟨by first | rfl | (simp; done) | (simp [*]; done), by repeat (first | exact Drawn0.refl _ | apply Drawn0.step)⟩

/-! ### scriptoriumlaw01_QuillOrder: function 12 -/
def scriptoriumlaw01_QuillOrder.f (k : Nat) (a0 : Int) (a1 : Int) : Option (Bool) := (scriptoriumlaw01_works.f).bind fun t127 => (if t127 = true then ((scriptoriumlaw01_number.f a0).bind fun t128 => ((scriptoriumlaw01_number.f a1).bind fun t129 => ((quill_Num.f k t128).bind fun bt130 => ((quill_Num.f k t129).bind fun bt134 => (if bt130.2 = 0 then (if bt134.2 = 0 then ((bytes_Compare.f bt130.1 bt134.1).bind fun t138 => ((scriptoriumlaw01_compare.f t128 t129).bind fun t139 => (if t138 = t139 then (if t128 = t129 then (some true) else ((bytes_HasPrefix.f bt130.1 bt134.1).bind fun t140 => (some (!t140)))) else (some false)))) else (some false)) else (some false)))))) else (some false))
theorem scriptoriumlaw01_QuillOrder.mono : ∀ a0 a1 k, LeO (scriptoriumlaw01_QuillOrder.f k a0 a1) (scriptoriumlaw01_QuillOrder.f (k + 1) a0 a1) := by
  intro a0 a1 k
  unfold scriptoriumlaw01_QuillOrder.f
  repeat' first
      | (with_reducible exact quill_Num.mono _ _)
      | (with_reducible exact LeO.refl _)
      | (with_reducible exact LeO.none _)
      | (with_reducible refine LeO.ite ?_ ?_)
      | (with_reducible refine LeO.bind ?_ (fun _ => ?_))
      | exact quill_Num.mono _ _
      | exact LeO.none _
      | refine LeO.ite ?_ ?_
      | refine LeO.bind ?_ (fun _ => ?_)
set_option maxHeartbeats 8000000 in
set_option maxRecDepth 100000 in
theorem scriptoriumlaw01_QuillOrder.calls (k : Nat) (a0 : Int) (a1 : Int) (r : Bool) (w : World) (h : scriptoriumlaw01_QuillOrder.f k a0 a1 = some r) (hrt : r = true) :
    Calls Try.prog 12 #[.int .i64 a0, .int .i64 a1] w fun e w' => e = .returned (.bool r) ∧ Below w.heap.size w w' := by
  have HB := Aside0.mk (Below.refl w.heap.size w)
  have H : ((scriptoriumlaw01_works.f).bind fun t127 => (if t127 = true then ((scriptoriumlaw01_number.f a0).bind fun t128 => ((scriptoriumlaw01_number.f a1).bind fun t129 => ((quill_Num.f k t128).bind fun bt130 => ((quill_Num.f k t129).bind fun bt134 => (if bt130.2 = 0 then (if bt134.2 = 0 then ((bytes_Compare.f bt130.1 bt134.1).bind fun t138 => ((scriptoriumlaw01_compare.f t128 t129).bind fun t139 => (if t138 = t139 then (if t128 = t129 then (some true) else ((bytes_HasPrefix.f bt130.1 bt134.1).bind fun t140 => (some (!t140)))) else (some false)))) else (some false)) else (some false)))))) else (some false))) = some r := h
  clear h
  replace H := Option.bind_eq_some_iff.mp H
  obtain ⟨t127, A30, H⟩ := H
  replace H : (if t127 = true then ((scriptoriumlaw01_number.f a0).bind fun t128 => ((scriptoriumlaw01_number.f a1).bind fun t129 => ((quill_Num.f k t128).bind fun bt130 => ((quill_Num.f k t129).bind fun bt134 => (if bt130.2 = 0 then (if bt134.2 = 0 then ((bytes_Compare.f bt130.1 bt134.1).bind fun t138 => ((scriptoriumlaw01_compare.f t128 t129).bind fun t139 => (if t138 = t139 then (if t128 = t129 then (some true) else ((bytes_HasPrefix.f bt130.1 bt134.1).bind fun t140 => (some (!t140)))) else (some false)))) else (some false)) else (some false)))))) else (some false)) = some r := H
  have A3 := Aside0.mk A30
  clear A30
  by_cases c4 : t127 = true
  · subst c4
    have H1 : ((scriptoriumlaw01_number.f a0).bind fun t128 => ((scriptoriumlaw01_number.f a1).bind fun t129 => ((quill_Num.f k t128).bind fun bt130 => ((quill_Num.f k t129).bind fun bt134 => (if bt130.2 = 0 then (if bt134.2 = 0 then ((bytes_Compare.f bt130.1 bt134.1).bind fun t138 => ((scriptoriumlaw01_compare.f t128 t129).bind fun t139 => (if t138 = t139 then (if t128 = t129 then (some true) else ((bytes_HasPrefix.f bt130.1 bt134.1).bind fun t140 => (some (!t140)))) else (some false)))) else (some false)) else (some false)))))) = some r := by rw [if_pos rfl] at H; exact H
    clear H
    have H := H1
    clear H1
    replace H := Option.bind_eq_some_iff.mp H
    obtain ⟨t128, A50, H⟩ := H
    replace H : ((scriptoriumlaw01_number.f a1).bind fun t129 => ((quill_Num.f k t128).bind fun bt130 => ((quill_Num.f k t129).bind fun bt134 => (if bt130.2 = 0 then (if bt134.2 = 0 then ((bytes_Compare.f bt130.1 bt134.1).bind fun t138 => ((scriptoriumlaw01_compare.f t128 t129).bind fun t139 => (if t138 = t139 then (if t128 = t129 then (some true) else ((bytes_HasPrefix.f bt130.1 bt134.1).bind fun t140 => (some (!t140)))) else (some false)))) else (some false)) else (some false))))) = some r := H
    have A5 := Aside0.mk A50
    clear A50
    replace H := Option.bind_eq_some_iff.mp H
    obtain ⟨t129, A60, H⟩ := H
    replace H : ((quill_Num.f k t128).bind fun bt130 => ((quill_Num.f k t129).bind fun bt134 => (if bt130.2 = 0 then (if bt134.2 = 0 then ((bytes_Compare.f bt130.1 bt134.1).bind fun t138 => ((scriptoriumlaw01_compare.f t128 t129).bind fun t139 => (if t138 = t139 then (if t128 = t129 then (some true) else ((bytes_HasPrefix.f bt130.1 bt134.1).bind fun t140 => (some (!t140)))) else (some false)))) else (some false)) else (some false)))) = some r := H
    have A6 := Aside0.mk A60
    clear A60
    replace H := Option.bind_eq_some_iff.mp H
    obtain ⟨⟨t130, t131⟩, A70, H⟩ := H
    replace H : ((quill_Num.f k t129).bind fun bt134 => (if t131 = 0 then (if bt134.2 = 0 then ((bytes_Compare.f t130 bt134.1).bind fun t138 => ((scriptoriumlaw01_compare.f t128 t129).bind fun t139 => (if t138 = t139 then (if t128 = t129 then (some true) else ((bytes_HasPrefix.f t130 bt134.1).bind fun t140 => (some (!t140)))) else (some false)))) else (some false)) else (some false))) = some r := H
    have A7 := Aside0.mk A70
    clear A70
    replace H := Option.bind_eq_some_iff.mp H
    obtain ⟨⟨t134, t135⟩, A80, H⟩ := H
    replace H : (if t131 = 0 then (if t135 = 0 then ((bytes_Compare.f t130 t134).bind fun t138 => ((scriptoriumlaw01_compare.f t128 t129).bind fun t139 => (if t138 = t139 then (if t128 = t129 then (some true) else ((bytes_HasPrefix.f t130 t134).bind fun t140 => (some (!t140)))) else (some false)))) else (some false)) else (some false)) = some r := H
    have A8 := Aside0.mk A80
    clear A80
    by_cases c9 : t131 = 0
    · rw [if_pos c9] at H
      have c9b0 : (t131 == 0) = true := beq_iff_eq.mpr c9
      have c9b1 : (t131 != 0) = false := bne_eq_false_iff_eq.mpr c9
      clear c9
      by_cases c10 : t135 = 0
      · rw [if_pos c10] at H
        have c10b0 : (t135 == 0) = true := beq_iff_eq.mpr c10
        have c10b1 : (t135 != 0) = false := bne_eq_false_iff_eq.mpr c10
        clear c10
        replace H := Option.bind_eq_some_iff.mp H
        obtain ⟨t138, A110, H⟩ := H
        replace H : ((scriptoriumlaw01_compare.f t128 t129).bind fun t139 => (if t138 = t139 then (if t128 = t129 then (some true) else ((bytes_HasPrefix.f t130 t134).bind fun t140 => (some (!t140)))) else (some false))) = some r := H
        have A11 := Aside0.mk A110
        clear A110
        replace H := Option.bind_eq_some_iff.mp H
        obtain ⟨t139, A120, H⟩ := H
        replace H : (if t138 = t139 then (if t128 = t129 then (some true) else ((bytes_HasPrefix.f t130 t134).bind fun t140 => (some (!t140)))) else (some false)) = some r := H
        have A12 := Aside0.mk A120
        clear A120
        by_cases c13 : t138 = t139
        · rw [if_pos c13] at H
          have c13b0 : (t138 == t139) = true := beq_iff_eq.mpr c13
          have c13b1 : (t138 != t139) = false := bne_eq_false_iff_eq.mpr c13
          clear c13
          by_cases c14 : t128 = t129
          · rw [if_pos c14] at H
            have c14b0 : (t128 == t129) = true := beq_iff_eq.mpr c14
            have c14b1 : (t128 != t129) = false := bne_eq_false_iff_eq.mpr c14
            clear c14
            obtain rfl := Option.some.inj H
            go_enter Try.func12, Try.ntmps12
            go_wp2_with (first | ((with_reducible refine gate_callee (f := 17) rfl ?_); refine goesL_ (some 9) rfl rfl Try.func17 (by kernel_rfl) rfl #[] rfl (by (try simp only [List.map_toArray, List.map_cons, List.map_nil]); first | done | rfl | (simp only [List.length_drop, List.length_take]; rfl)) ?_; (with_reducible refine (scriptoriumlaw01_works.calls  true _ A3.out).mono ?_); rintro e w15 ⟨rfl, hb⟩; refine ⟨_, rfl, ?_⟩; have n0_ := Aside0.mk (below_step (by repeat (first | (with_reducible first | exact HB.out | apply below_alloc | apply pw_below_drewN | apply below_drew1) | exact HB.out)) hb); clear HB; have HB := n0_; clear n0_; (try clear hb); (try clear hb2); (try clear hk); (try clear hi)) | ((with_reducible refine gate_callee (f := 25) rfl ?_); refine goesL_ (some 12) rfl rfl Try.func25 (by kernel_rfl) rfl #[.int .i64 a0] rfl (by (try simp only [List.map_toArray, List.map_cons, List.map_nil]); first | done | rfl | (simp only [List.length_drop, List.length_take]; rfl)) ?_; (with_reducible refine (scriptoriumlaw01_number.calls a0 t128 _ A5.out).mono ?_); rintro e w' ⟨rfl, ⟨nd, rfl⟩⟩; refine ⟨_, rfl, ?_⟩) | ((with_reducible refine gate_callee (f := 25) rfl ?_); refine goesL_ (some 14) rfl rfl Try.func25 (by kernel_rfl) rfl #[.int .i64 a1] rfl (by (try simp only [List.map_toArray, List.map_cons, List.map_nil]); first | done | rfl | (simp only [List.length_drop, List.length_take]; rfl)) ?_; (with_reducible refine (scriptoriumlaw01_number.calls a1 t129 _ A6.out).mono ?_); rintro e w' ⟨rfl, ⟨nd, rfl⟩⟩; refine ⟨_, rfl, ?_⟩) | ((with_reducible refine gate_callee (f := 14) rfl ?_); refine goesL_ (some 17) rfl rfl Try.func14 (by kernel_rfl) rfl #[.int .i64 t128] rfl (by (try simp only [List.map_toArray, List.map_cons, List.map_nil]); first | done | rfl | (simp only [List.length_drop, List.length_take]; rfl)) ?_; (with_reducible refine (quill_Num.calls k t128 t130 t131 _ A7.out).mono ?_); rintro e w16 ⟨v132, rfl, ho0, hb⟩; refine ⟨_, rfl, ?_⟩; have n0_ := Aside0.mk (Kd.R_lower ho0 (below_size (by repeat (first | (with_reducible first | exact HB.out | apply below_alloc | apply pw_below_drewN | apply below_drew1) | exact HB.out)))); have n1_ := Aside0.mk (below_step (by repeat (first | (with_reducible first | exact HB.out | apply below_alloc | apply pw_below_drewN | apply below_drew1) | exact HB.out)) hb); clear HB; have HO133 := n0_; have HB := n1_; clear n0_ n1_; (try clear hb); (try clear hb2); (try clear hk); (try clear hi); (try clear ho0)) | ((with_reducible refine gate_callee (f := 14) rfl ?_); refine goesL_ (some 22) rfl rfl Try.func14 (by kernel_rfl) rfl #[.int .i64 t129] rfl (by (try simp only [List.map_toArray, List.map_cons, List.map_nil]); first | done | rfl | (simp only [List.length_drop, List.length_take]; rfl)) ?_; (with_reducible refine (quill_Num.calls k t129 t134 t135 _ A8.out).mono ?_); rintro e w17 ⟨v136, rfl, ho0, hb⟩; refine ⟨_, rfl, ?_⟩; have n0_ := Aside0.mk (Kd.R_elder' (by (with_reducible repeat (first | apply Kd.R_alloc | apply Kd.R_drewN | apply Kd.R_drew)); exact HO133.out) (Kd.R_base ho0) hb); have n1_ := Aside0.mk (Kd.R_lower (Kd.R_new' ho0 (Kd.R_lt (by (with_reducible repeat (first | apply Kd.R_alloc | apply Kd.R_drewN | apply Kd.R_drew)); exact HO133.out))) (below_size (by repeat (first | (with_reducible first | exact HB.out | apply below_alloc | apply pw_below_drewN | apply below_drew1) | exact HB.out)))); have n2_ := Aside0.mk (below_step (by repeat (first | (with_reducible first | exact HB.out | apply below_alloc | apply pw_below_drewN | apply below_drew1) | exact HB.out)) hb); clear HO133; clear HB; have HO133 := n0_; have HO137 := n1_; have HB := n2_; clear n0_ n1_ n2_; (try clear hb); (try clear hb2); (try clear hk); (try clear hi); (try clear ho0); obtain ⟨Ao18, co18, eo18⟩ := Kd.R_slice HO133.out; subst eo18; obtain ⟨Ao19, co19, eo19⟩ := Kd.R_slice HO137.out; subst eo19) | (go_at_call 29; (with_reducible refine (bytes_Compare.calls _ _ t130 _ _ t134 t138 _ ?side1 ?side2 ?side3 ?side4 A11.out).mono ?_); (case side1 => repeat (first | exact (Kd.R_reads' HO133.out).2.2 | (with_reducible refine Kd.C_alloc ?_ _) | (with_reducible refine Kd.C_drewN ?_ _) | (with_reducible refine Kd.C_drew ?_))); (case side2 => exact (Kd.R_reads' HO133.out).2.1); (case side3 => repeat (first | exact (Kd.R_reads' HO137.out).2.2 | (with_reducible refine Kd.C_alloc ?_ _) | (with_reducible refine Kd.C_drewN ?_ _) | (with_reducible refine Kd.C_drew ?_))); (case side4 => exact (Kd.R_reads' HO137.out).2.1); rintro e w' ⟨rfl, ⟨nd, rfl⟩⟩) | (go_at_call 30; (with_reducible refine (scriptoriumlaw01_compare.calls t128 t129 t139 _ A12.out).mono ?_); rintro e w' ⟨rfl, ⟨nd, rfl⟩⟩))
            go_ret
            exact ⟨by first | rfl | (simp [errW_none, errW_some] <;> rfl) | (simp [*, errW_none, errW_some] <;> rfl), by repeat (first | (with_reducible first | exact HB.out | apply below_alloc | apply pw_below_drewN | apply below_drew1) | exact HB.out)⟩
          · rw [if_neg c14] at H
            have c14b0 : (t128 == t129) = false := beq_eq_false_iff_ne.mpr c14
            have c14b1 : (t128 != t129) = true := bne_iff_ne.mpr c14
            replace H := Option.bind_eq_some_iff.mp H
            obtain ⟨t140, A200, H⟩ := H
            replace H : (some (!t140)) = some r := H
            have A20 := Aside0.mk A200
            clear A200
            obtain rfl := Option.some.inj H
            go_enter Try.func12, Try.ntmps12
            go_wp2_with (first | ((with_reducible refine gate_callee (f := 17) rfl ?_); refine goesL_ (some 9) rfl rfl Try.func17 (by kernel_rfl) rfl #[] rfl (by (try simp only [List.map_toArray, List.map_cons, List.map_nil]); first | done | rfl | (simp only [List.length_drop, List.length_take]; rfl)) ?_; (with_reducible refine (scriptoriumlaw01_works.calls  true _ A3.out).mono ?_); rintro e w21 ⟨rfl, hb⟩; refine ⟨_, rfl, ?_⟩; have n0_ := Aside0.mk (below_step (by repeat (first | (with_reducible first | exact HB.out | apply below_alloc | apply pw_below_drewN | apply below_drew1) | exact HB.out)) hb); clear HB; have HB := n0_; clear n0_; (try clear hb); (try clear hb2); (try clear hk); (try clear hi)) | ((with_reducible refine gate_callee (f := 25) rfl ?_); refine goesL_ (some 12) rfl rfl Try.func25 (by kernel_rfl) rfl #[.int .i64 a0] rfl (by (try simp only [List.map_toArray, List.map_cons, List.map_nil]); first | done | rfl | (simp only [List.length_drop, List.length_take]; rfl)) ?_; (with_reducible refine (scriptoriumlaw01_number.calls a0 t128 _ A5.out).mono ?_); rintro e w' ⟨rfl, ⟨nd, rfl⟩⟩; refine ⟨_, rfl, ?_⟩) | ((with_reducible refine gate_callee (f := 25) rfl ?_); refine goesL_ (some 14) rfl rfl Try.func25 (by kernel_rfl) rfl #[.int .i64 a1] rfl (by (try simp only [List.map_toArray, List.map_cons, List.map_nil]); first | done | rfl | (simp only [List.length_drop, List.length_take]; rfl)) ?_; (with_reducible refine (scriptoriumlaw01_number.calls a1 t129 _ A6.out).mono ?_); rintro e w' ⟨rfl, ⟨nd, rfl⟩⟩; refine ⟨_, rfl, ?_⟩) | ((with_reducible refine gate_callee (f := 14) rfl ?_); refine goesL_ (some 17) rfl rfl Try.func14 (by kernel_rfl) rfl #[.int .i64 t128] rfl (by (try simp only [List.map_toArray, List.map_cons, List.map_nil]); first | done | rfl | (simp only [List.length_drop, List.length_take]; rfl)) ?_; (with_reducible refine (quill_Num.calls k t128 t130 t131 _ A7.out).mono ?_); rintro e w22 ⟨v132, rfl, ho0, hb⟩; refine ⟨_, rfl, ?_⟩; have n0_ := Aside0.mk (Kd.R_lower ho0 (below_size (by repeat (first | (with_reducible first | exact HB.out | apply below_alloc | apply pw_below_drewN | apply below_drew1) | exact HB.out)))); have n1_ := Aside0.mk (below_step (by repeat (first | (with_reducible first | exact HB.out | apply below_alloc | apply pw_below_drewN | apply below_drew1) | exact HB.out)) hb); clear HB; have HO133 := n0_; have HB := n1_; clear n0_ n1_; (try clear hb); (try clear hb2); (try clear hk); (try clear hi); (try clear ho0)) | ((with_reducible refine gate_callee (f := 14) rfl ?_); refine goesL_ (some 22) rfl rfl Try.func14 (by kernel_rfl) rfl #[.int .i64 t129] rfl (by (try simp only [List.map_toArray, List.map_cons, List.map_nil]); first | done | rfl | (simp only [List.length_drop, List.length_take]; rfl)) ?_; (with_reducible refine (quill_Num.calls k t129 t134 t135 _ A8.out).mono ?_); rintro e w23 ⟨v136, rfl, ho0, hb⟩; refine ⟨_, rfl, ?_⟩; have n0_ := Aside0.mk (Kd.R_elder' (by (with_reducible repeat (first | apply Kd.R_alloc | apply Kd.R_drewN | apply Kd.R_drew)); exact HO133.out) (Kd.R_base ho0) hb); have n1_ := Aside0.mk (Kd.R_lower (Kd.R_new' ho0 (Kd.R_lt (by (with_reducible repeat (first | apply Kd.R_alloc | apply Kd.R_drewN | apply Kd.R_drew)); exact HO133.out))) (below_size (by repeat (first | (with_reducible first | exact HB.out | apply below_alloc | apply pw_below_drewN | apply below_drew1) | exact HB.out)))); have n2_ := Aside0.mk (below_step (by repeat (first | (with_reducible first | exact HB.out | apply below_alloc | apply pw_below_drewN | apply below_drew1) | exact HB.out)) hb); clear HO133; clear HB; have HO133 := n0_; have HO137 := n1_; have HB := n2_; clear n0_ n1_ n2_; (try clear hb); (try clear hb2); (try clear hk); (try clear hi); (try clear ho0); obtain ⟨Ao24, co24, eo24⟩ := Kd.R_slice HO133.out; subst eo24; obtain ⟨Ao25, co25, eo25⟩ := Kd.R_slice HO137.out; subst eo25) | (go_at_call 29; (with_reducible refine (bytes_Compare.calls _ _ t130 _ _ t134 t138 _ ?side1 ?side2 ?side3 ?side4 A11.out).mono ?_); (case side1 => repeat (first | exact (Kd.R_reads' HO133.out).2.2 | (with_reducible refine Kd.C_alloc ?_ _) | (with_reducible refine Kd.C_drewN ?_ _) | (with_reducible refine Kd.C_drew ?_))); (case side2 => exact (Kd.R_reads' HO133.out).2.1); (case side3 => repeat (first | exact (Kd.R_reads' HO137.out).2.2 | (with_reducible refine Kd.C_alloc ?_ _) | (with_reducible refine Kd.C_drewN ?_ _) | (with_reducible refine Kd.C_drew ?_))); (case side4 => exact (Kd.R_reads' HO137.out).2.1); rintro e w' ⟨rfl, ⟨nd, rfl⟩⟩) | (go_at_call 30; (with_reducible refine (scriptoriumlaw01_compare.calls t128 t129 t139 _ A12.out).mono ?_); rintro e w' ⟨rfl, ⟨nd, rfl⟩⟩) | (go_at_call 28; (with_reducible refine (bytes_HasPrefix.calls _ _ t130 _ _ t134 t140 _ ?side1 ?side2 ?side3 ?side4 A20.out).mono ?_); (case side1 => repeat (first | exact (Kd.R_reads' HO133.out).2.2 | (with_reducible refine Kd.C_alloc ?_ _) | (with_reducible refine Kd.C_drewN ?_ _) | (with_reducible refine Kd.C_drew ?_))); (case side2 => exact (Kd.R_reads' HO133.out).2.1); (case side3 => repeat (first | exact (Kd.R_reads' HO137.out).2.2 | (with_reducible refine Kd.C_alloc ?_ _) | (with_reducible refine Kd.C_drewN ?_ _) | (with_reducible refine Kd.C_drew ?_))); (case side4 => exact (Kd.R_reads' HO137.out).2.1); rintro e w' ⟨rfl, ⟨nd, rfl⟩⟩))
            go_ret
            exact ⟨by first | rfl | (simp [errW_none, errW_some] <;> rfl) | (simp [*, errW_none, errW_some] <;> rfl), by repeat (first | (with_reducible first | exact HB.out | apply below_alloc | apply pw_below_drewN | apply below_drew1) | exact HB.out)⟩
        · rw [if_neg c13] at H
          have c13b0 : (t138 == t139) = false := beq_eq_false_iff_ne.mpr c13
          have c13b1 : (t138 != t139) = true := bne_iff_ne.mpr c13
          exact absurd (Option.some.inj (H.trans (congrArg some hrt))) (by decide)
      · rw [if_neg c10] at H
        have c10b0 : (t135 == 0) = false := beq_eq_false_iff_ne.mpr c10
        have c10b1 : (t135 != 0) = true := bne_iff_ne.mpr c10
        exact absurd (Option.some.inj (H.trans (congrArg some hrt))) (by decide)
    · rw [if_neg c9] at H
      have c9b0 : (t131 == 0) = false := beq_eq_false_iff_ne.mpr c9
      have c9b1 : (t131 != 0) = true := bne_iff_ne.mpr c9
      exact absurd (Option.some.inj (H.trans (congrArg some hrt))) (by decide)
  · replace c4 := Bool.eq_false_iff.mpr c4
    subst c4
    have H1 : (some false) = some r := by rw [if_neg (show ¬ (false = true) by decide)] at H; exact H
    clear H
    have H := H1
    clear H1
    exact absurd (Option.some.inj (H.trans (congrArg some hrt))) (by decide)

/-- THE ONE PURE STATEMENT of scriptoriumlaw01_QuillOrder: yours. -/
def scriptoriumlaw01_QuillOrder.Pure : Prop := ∀ (a0 : Int) (a1 : Int), (Lit.int .i64 a0).wf = true → (Lit.int .i64 a1).wf = true → ∃ k, scriptoriumlaw01_QuillOrder.f k a0 a1 = some true
theorem scriptoriumlaw01_QuillOrder.walk (P : scriptoriumlaw01_QuillOrder.Pure) (a0 : Int) (a1 : Int) (w : World) (w0 : (Lit.int .i64 a0).wf = true) (w1 : (Lit.int .i64 a1).wf = true) :
    Calls Try.prog 12 #[.int .i64 a0, .int .i64 a1] w fun e w' => e = .returned (.bool true) ∧ Below w.heap.size w w' := by
  obtain ⟨k, h⟩ := P a0 a1 w0 w1
  refine (scriptoriumlaw01_QuillOrder.calls k a0 a1 true w h rfl).mono ?_
  rintro e w' ⟨rfl, hd⟩
  exact ⟨rfl, hd⟩

end Go.Proofs.Ytclbcmblgbinpaa.PQuillOrder
