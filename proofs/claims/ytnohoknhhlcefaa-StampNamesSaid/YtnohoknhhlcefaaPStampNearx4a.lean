/- Written by xprint.py, a program of these sessions (over the print of the kit, with leaves typed by hand): one Lean function for each Go function, and the proof that the Go code comes to its answers. -/
import Derived.Test.YtnohoknhhlcefaaPStampNearx0
import Derived.Test.YtnohoknhhlcefaaPStampNearx1
import Derived.Test.YtnohoknhhlcefaaPStampNearx2
import Derived.Test.YtnohoknhhlcefaaPStampNearx3
namespace Go.Proofs.Ytnohoknhhlcefaa.PStampNear
open Go.RowKit Go.Proofs.YtnohoknhhlcefaaW.PrintWords Go.Proofs.YtnohoknhhlcefaaW.PrintLast Go.Proofs.YtnohoknhhlcefaaW.PrintMore
attribute [local go_sem] max2_int min2_int max_two min_two max_three min_three max_four min_four   -- for this text's walks alone
set_option linter.unusedVariables false
set_option linter.unusedSimpArgs false

attribute [local go_sem high] eqA23
/-! ### scriptoriumlaw05_StampNear: function 5 -/
def scriptoriumlaw05_StampNear.j0 : Nat → Int → Bool → Int → Int → Int → Int → Int → Int → Int → Int → Option (Bool)
 | 0, _, _, _, _, _, _, _, _, _, _ => none
 | k + 1, x10, x11, x162000, x162001, x163000, x163001, x167000, x167001, x173000, x173001 => (stamp_Check.f x167000 x167001).bind fun t175 => (if t175 = 0 then ((stamp_Less.f k x162000 x162001 x167000 x167001).bind fun t176 => (if t176 = true then (if x10 = 0 then (if (x173000 == x162000 && (x173001 == x162001)) = true then (if x11 = true then (some false) else ((stamp_Less.f k x162000 x162001 x163000 x163001).bind fun t177 => (if t177 = true then ((scriptoriumlaw05_awake.f k).bind fun t178 => (some t178)) else ((stamp_Less.f k x162000 x162001 x163000 x163001).bind fun t179 => (if t179 = true then (some false) else ((stamp_Less.f k x163000 x163001 x167000 x167001).bind fun t180 => (if t180 = true then ((scriptoriumlaw05_awake.f k).bind fun t181 => (some t181)) else (some false)))))))) else (some false)) else (some false)) else (some false))) else (some false))
def scriptoriumlaw05_StampNear.f (k : Nat) (a0_0 : Int) (a0_1 : Int) (a1_0 : Int) (a1_1 : Int) : Option (Bool) := (scriptoriumlaw05_bring.f a0_0 a0_1).bind fun bt157 => ((scriptoriumlaw05_bring.f a1_0 a1_1).bind fun bt159 => ((stamp_Next.f bt157.1 bt157.2).bind fun bt163 => (if bt163.2.2 = 0 then ((stamp_Prev.f bt163.1 bt163.2.1).bind fun bt169 => ((stamp_Less.f k bt157.1 bt157.2 bt159.1 bt159.2).bind fun t173 => (if t173 = true then ((stamp_Less.f k bt159.1 bt159.2 bt163.1 bt163.2.1).bind fun t174 => (scriptoriumlaw05_StampNear.j0 k bt169.2.2 t174 bt157.1 bt157.2 bt159.1 bt159.2 bt163.1 bt163.2.1 bt169.1 bt169.2.1)) else (scriptoriumlaw05_StampNear.j0 k bt169.2.2 false bt157.1 bt157.2 bt159.1 bt159.2 bt163.1 bt163.2.1 bt169.1 bt169.2.1)))) else (if bt163.2.2 = 5 then (if (bt157.1 == 1099511627776 && (bt157.2 == 1048575)) = true then ((stamp_Less.f k bt157.1 bt157.2 bt159.1 bt159.2).bind fun t167 => (if t167 = true then (some false) else ((scriptoriumlaw05_awake.f k).bind fun t168 => (some t168)))) else (some false)) else (some false)))))
theorem scriptoriumlaw05_StampNear.mono_l : ∀ k, (∀ y0 y1 y2 y3 y4 y5 y6 y7 y8 y9, LeO (scriptoriumlaw05_StampNear.j0 k y0 y1 y2 y3 y4 y5 y6 y7 y8 y9) (scriptoriumlaw05_StampNear.j0 (k + 1) y0 y1 y2 y3 y4 y5 y6 y7 y8 y9))
 | 0 => fun _ _ _ _ _ _ _ _ _ _ r h => by simp [scriptoriumlaw05_StampNear.j0] at h
 | k + 1 => by
  have ih0 := scriptoriumlaw05_StampNear.mono_l k
  ·intro y0 y1 y2 y3 y4 y5 y6 y7 y8 y9
   unfold scriptoriumlaw05_StampNear.j0
   repeat' first
   | (with_reducible exact ih0 _ _ _ _ _ _ _ _ _ _)
   | (with_reducible exact scriptoriumlaw05_awake.mono _)
   | (with_reducible exact stamp_Less.mono _ _ _ _ _)
   | (with_reducible exact LeO.refl _)
   | (with_reducible exact LeO.none _)
   | (with_reducible refine LeO.ite ?_ ?_)
   | (with_reducible refine LeO.bind ?_ (fun _ => ?_))
   | exact ih0 _ _ _ _ _ _ _ _ _ _
   | exact scriptoriumlaw05_awake.mono _
   | exact stamp_Less.mono _ _ _ _ _
   | exact LeO.none _
   | refine LeO.ite ?_ ?_
   | refine LeO.bind ?_ (fun _ => ?_)
theorem scriptoriumlaw05_StampNear.mono : ∀ a0 a1 a2 a3 k, LeO (scriptoriumlaw05_StampNear.f k a0 a1 a2 a3) (scriptoriumlaw05_StampNear.f (k + 1) a0 a1 a2 a3) := by
 intro a0 a1 a2 a3 k
 have ih0 := scriptoriumlaw05_StampNear.mono_l k
 unfold scriptoriumlaw05_StampNear.f
 repeat' first
   | (with_reducible exact ih0 _ _ _ _ _ _ _ _ _ _)
   | (with_reducible exact scriptoriumlaw05_awake.mono _)
   | (with_reducible exact stamp_Less.mono _ _ _ _ _)
   | (with_reducible exact LeO.refl _)
   | (with_reducible exact LeO.none _)
   | (with_reducible refine LeO.ite ?_ ?_)
   | (with_reducible refine LeO.bind ?_ (fun _ => ?_))
   | exact ih0 _ _ _ _ _ _ _ _ _ _
   | exact scriptoriumlaw05_awake.mono _
   | exact stamp_Less.mono _ _ _ _ _
   | exact LeO.none _
   | refine LeO.ite ?_ ?_
   | refine LeO.bind ?_ (fun _ => ?_)
def scriptoriumlaw05_StampNear.T1 : Bool × List (List Nat × List Nat) := (true, [([], []), ([0], [0]), ([], []), ([2, 1], [2]), ([], []), ([], []), ([4, 1, 3, 0, 1, 4, 5], [1, 4]), ([5, 3, 6, 0, 1, 2, 3, 4, 5, 6], [3, 5])])
def scriptoriumlaw05_StampNear.B1 : List Nat := [0, 1, 0, 7, 0, 0, 63, 127]
theorem scriptoriumlaw05_StampNear.tab1 : rtab .any (opsOf Try.f5 1) = scriptoriumlaw05_StampNear.T1 := by kernel_rfl
theorem scriptoriumlaw05_StampNear.bits1 : waitsOk scriptoriumlaw05_StampNear.T1.2 scriptoriumlaw05_StampNear.B1 = true := by kernel_rfl
set_option maxHeartbeats 8000000 in
set_option maxRecDepth 100000 in
theorem scriptoriumlaw05_StampNear.calls_t (k : Nat) (a0_0 : Int) (a0_1 : Int) (a1_0 : Int) (a1_1 : Int) (r : Bool) (w : World) (h : scriptoriumlaw05_StampNear.f k a0_0 a0_1 a1_0 a1_1 = some r) (hrt : r = true) (hq : ∀ p q, scriptoriumlaw05_bring.f a0_0 a0_1 = some p → stamp_Next.f p.1 p.2 = some q → q.2.2 = 0) :
  Calls Try.prog 5 #[.agg #[.int .i64 a0_0, .int .i64 a0_1], .agg #[.int .i64 a1_0, .int .i64 a1_1]] w fun e w' => e = .returned (.bool r) ∧ Below w.heap.size w w' := by
 have hu23 := Try.underlying23
 have HB := Aside0.mk (Below.refl w.heap.size w)
 have H : ((scriptoriumlaw05_bring.f a0_0 a0_1).bind fun bt157 => ((scriptoriumlaw05_bring.f a1_0 a1_1).bind fun bt159 => ((stamp_Next.f bt157.1 bt157.2).bind fun bt163 => (if bt163.2.2 = 0 then ((stamp_Prev.f bt163.1 bt163.2.1).bind fun bt169 => ((stamp_Less.f k bt157.1 bt157.2 bt159.1 bt159.2).bind fun t173 => (if t173 = true then ((stamp_Less.f k bt159.1 bt159.2 bt163.1 bt163.2.1).bind fun t174 => (scriptoriumlaw05_StampNear.j0 k bt169.2.2 t174 bt157.1 bt157.2 bt159.1 bt159.2 bt163.1 bt163.2.1 bt169.1 bt169.2.1)) else (scriptoriumlaw05_StampNear.j0 k bt169.2.2 false bt157.1 bt157.2 bt159.1 bt159.2 bt163.1 bt163.2.1 bt169.1 bt169.2.1)))) else (if bt163.2.2 = 5 then (if (bt157.1 == 1099511627776 && (bt157.2 == 1048575)) = true then ((stamp_Less.f k bt157.1 bt157.2 bt159.1 bt159.2).bind fun t167 => (if t167 = true then (some false) else ((scriptoriumlaw05_awake.f k).bind fun t168 => (some t168)))) else (some false)) else (some false)))))) = some r := h
 clear h
 replace H := Option.bind_eq_some_iff.mp H
 obtain ⟨⟨t157, t158⟩, A30, H⟩ := H
 replace H : ((scriptoriumlaw05_bring.f a1_0 a1_1).bind fun bt159 => ((stamp_Next.f t157 t158).bind fun bt163 => (if bt163.2.2 = 0 then ((stamp_Prev.f bt163.1 bt163.2.1).bind fun bt169 => ((stamp_Less.f k t157 t158 bt159.1 bt159.2).bind fun t173 => (if t173 = true then ((stamp_Less.f k bt159.1 bt159.2 bt163.1 bt163.2.1).bind fun t174 => (scriptoriumlaw05_StampNear.j0 k bt169.2.2 t174 t157 t158 bt159.1 bt159.2 bt163.1 bt163.2.1 bt169.1 bt169.2.1)) else (scriptoriumlaw05_StampNear.j0 k bt169.2.2 false t157 t158 bt159.1 bt159.2 bt163.1 bt163.2.1 bt169.1 bt169.2.1)))) else (if bt163.2.2 = 5 then (if (t157 == 1099511627776 && (t158 == 1048575)) = true then ((stamp_Less.f k t157 t158 bt159.1 bt159.2).bind fun t167 => (if t167 = true then (some false) else ((scriptoriumlaw05_awake.f k).bind fun t168 => (some t168)))) else (some false)) else (some false))))) = some r := H
 have A3 := Aside0.mk A30
 clear A30
 replace H := Option.bind_eq_some_iff.mp H
 obtain ⟨⟨t159, t160⟩, A40, H⟩ := H
 replace H : ((stamp_Next.f t157 t158).bind fun bt163 => (if bt163.2.2 = 0 then ((stamp_Prev.f bt163.1 bt163.2.1).bind fun bt169 => ((stamp_Less.f k t157 t158 t159 t160).bind fun t173 => (if t173 = true then ((stamp_Less.f k t159 t160 bt163.1 bt163.2.1).bind fun t174 => (scriptoriumlaw05_StampNear.j0 k bt169.2.2 t174 t157 t158 t159 t160 bt163.1 bt163.2.1 bt169.1 bt169.2.1)) else (scriptoriumlaw05_StampNear.j0 k bt169.2.2 false t157 t158 t159 t160 bt163.1 bt163.2.1 bt169.1 bt169.2.1)))) else (if bt163.2.2 = 5 then (if (t157 == 1099511627776 && (t158 == 1048575)) = true then ((stamp_Less.f k t157 t158 t159 t160).bind fun t167 => (if t167 = true then (some false) else ((scriptoriumlaw05_awake.f k).bind fun t168 => (some t168)))) else (some false)) else (some false)))) = some r := H
 have A4 := Aside0.mk A40
 clear A40
 replace H := Option.bind_eq_some_iff.mp H
 obtain ⟨⟨t163, t164, t165⟩, A50, H⟩ := H
 replace H : (if t165 = 0 then ((stamp_Prev.f t163 t164).bind fun bt169 => ((stamp_Less.f k t157 t158 t159 t160).bind fun t173 => (if t173 = true then ((stamp_Less.f k t159 t160 t163 t164).bind fun t174 => (scriptoriumlaw05_StampNear.j0 k bt169.2.2 t174 t157 t158 t159 t160 t163 t164 bt169.1 bt169.2.1)) else (scriptoriumlaw05_StampNear.j0 k bt169.2.2 false t157 t158 t159 t160 t163 t164 bt169.1 bt169.2.1)))) else (if t165 = 5 then (if (t157 == 1099511627776 && (t158 == 1048575)) = true then ((stamp_Less.f k t157 t158 t159 t160).bind fun t167 => (if t167 = true then (some false) else ((scriptoriumlaw05_awake.f k).bind fun t168 => (some t168)))) else (some false)) else (some false))) = some r := H
 have A5 := Aside0.mk A50
 clear A50
 have c6 : t165 = 0 := hq (t157, t158) (t163, t164, t165) A3.out A5.out
 clear hq
 ·rw [if_pos c6] at H
  have c6b0 : (t165 == 0) = true := beq_iff_eq.mpr c6
  have c6b1 : (t165 != 0) = false := bne_eq_false_iff_eq.mpr c6
  clear c6
  replace H := Option.bind_eq_some_iff.mp H
  obtain ⟨⟨t169, t170, t171⟩, A70, H⟩ := H
  replace H : ((stamp_Less.f k t157 t158 t159 t160).bind fun t173 => (if t173 = true then ((stamp_Less.f k t159 t160 t163 t164).bind fun t174 => (scriptoriumlaw05_StampNear.j0 k t171 t174 t157 t158 t159 t160 t163 t164 t169 t170)) else (scriptoriumlaw05_StampNear.j0 k t171 false t157 t158 t159 t160 t163 t164 t169 t170))) = some r := H
  have A7 := Aside0.mk A70
  clear A70
  have HC8 := Aside0.mk H
  clear H
  go_enter Try.func5, Try.ntmps5
  try go_wp2_with (first | ((with_reducible refine gate_dst (N := 2) rfl ?_); refine box_event ?hg (N := 2) ?hd (cs := #[.int .i64 a0_0, .int .i64 a0_1]) (t := 23) ?hr ?_; (case hd => rfl); (case hg => rfl); (case hr => first | (go_simp; done) | (go_simp; rfl)); intro gb155 hg w9 hbox hb; have n0_ := Aside0.mk (below_step (by repeat (first | (with_reducible first | exact HB.out | apply below_alloc | apply pw_below_drewN | apply below_drew1) | exact HB.out)) hb); have n1_ := Aside0.mk (hbox); have n2_ := Aside0.mk ((by rw [hg]; exact (below_size (by repeat (first | (with_reducible first | exact HB.out | apply below_alloc | apply pw_below_drewN | apply below_drew1) | exact HB.out))) : w.heap.size ≤ gb155)); have n3_ := Aside0.mk ((by rw [hg]; exact (below_size (by repeat (first | (with_reducible first | exact HB.out | apply below_alloc | apply pw_below_drewN | apply below_drew1) | exact HB.out))) : w.heap.size ≤ gb155)); clear HB; have HB := n0_; have BK155 := n1_; have GW155 := n2_; have GE155 := n3_; clear n0_ n1_ n2_ n3_; clear hb hbox hg) | ((with_reducible refine gate_dst (N := 3) rfl ?_); refine box_event ?hg (N := 3) ?hd (cs := #[.int .i64 a1_0, .int .i64 a1_1]) (t := 23) ?hr ?_; (case hd => rfl); (case hg => rfl); (case hr => first | (go_simp; done) | (go_simp; rfl)); intro gb156 hg w10 hbox hb; have n0_ := Aside0.mk (blk_below (g := gb155) (o := .cells #[.int .i64 a0_0, .int .i64 a0_1] 23 (0, 0)) (by (with_reducible repeat first | apply blk_drewN | apply blk_drew | apply blk_alloc); exact BK155.out) hb); have n1_ := Aside0.mk (below_step (by repeat (first | (with_reducible first | exact HB.out | apply below_alloc | apply pw_below_drewN | apply below_drew1 | refine below_set ?_ GE155.out) | exact HB.out)) hb); have n2_ := Aside0.mk (hbox); have n3_ := Aside0.mk ((by rw [hg]; exact (below_size (by repeat (first | (with_reducible first | exact HB.out | apply below_alloc | apply pw_below_drewN | apply below_drew1 | refine below_set ?_ GE155.out) | exact HB.out))) : w.heap.size ≤ gb156)); have n4_ := Aside0.mk ((by rw [hg]; exact (below_size (by repeat (first | (with_reducible first | exact HB.out | apply below_alloc | apply pw_below_drewN | apply below_drew1 | refine below_set ?_ GE155.out) | exact HB.out))) : w.heap.size ≤ gb156)); have n5_ := Aside0.mk ((by rw [hg]; exact Nat.ne_of_lt (blk_lt (by (with_reducible repeat first | apply blk_drewN | apply blk_drew | apply blk_alloc); exact BK155.out)) : gb155 ≠ gb156)); have n6_ := Aside0.mk ((by rw [hg]; exact Nat.ne_of_gt (blk_lt (by (with_reducible repeat first | apply blk_drewN | apply blk_drew | apply blk_alloc); exact BK155.out)) : gb156 ≠ gb155)); clear BK155; clear HB; have BK155 := n0_; have HB := n1_; have BK156 := n2_; have GW156 := n3_; have GE156 := n4_; have NB155_156 := n5_; have NB156_155 := n6_; clear n0_ n1_ n2_ n3_ n4_ n5_ n6_; clear hb hbox hg))
  have n0_ := Aside0.mk (blk_drew BK155.out)
  have n1_ := Aside0.mk (blk_drew BK156.out)
  have n2_ := Aside0.mk (below_drew1 HB.out)
  clear BK155
  clear BK156
  clear HB
  have BK155 := n0_
  have BK156 := n1_
  have HB := n2_
  clear n0_ n1_ n2_
  refine start_ (n := 8) (S := fun w' => w'.cell? ⟨gb155, 0, none⟩ = some (.int .i64 a0_0) ∧ w'.cell? ⟨gb155, 1, none⟩ = some (.int .i64 a0_1) ∧ w'.cell? ⟨gb156, 0, none⟩ = some (.int .i64 a1_0) ∧ w'.cell? ⟨gb156, 1, none⟩ = some (.int .i64 a1_1)) (ds := []) #[false, false, false, false, false, false, false, false] (by kernel_rfl) rfl rfl ⟨(blk_cell BK155.out 0).trans rfl, (blk_cell BK155.out 1).trans rfl, (blk_cell BK156.out 0).trans rfl, (blk_cell BK156.out 1).trans rfl⟩ (fun hHeld => ?_); refine with_tabW scriptoriumlaw05_StampNear.tab1 scriptoriumlaw05_StampNear.bits1 (fun HT_ HW_ => ?_)
  generalize w10.drew = w11 at BK155 BK156 HB hHeld ⊢
  refine take_ (i := 0) (N := some 12) (v := ?_) (a' := ?_) #[true, false, false, false, false, false, false, false] rfl rfl (take_ofW HT_.out HW_.out (by kernel_rfl)) (fun _ _ _ h => h) (Or.inl ⟨by rfl, ?_⟩) hHeld ?_ ?_
  rotate_left
  ·rintro w' ⟨s0, s1, s2, s3⟩
   go_simp
   with_reducible rfl
  rotate_left
  ·simp only [Act.put, List.setIfInBounds_toArray, List.set_cons_zero, List.set_cons_succ, i64_w, i32_w]
   rfl
  refine take_ (i := 2) (N := some 14) (v := ?_) (a' := ?_) #[true, false, true, false, false, false, false, false] rfl rfl (take_ofW HT_.out HW_.out (by kernel_rfl)) (fun _ _ _ h => h) (Or.inl ⟨by rfl, ?_⟩) hHeld ?_ ?_
  rotate_left
  ·rintro w' ⟨s0, s1, s2, s3⟩
   go_simp
   with_reducible rfl
  rotate_left
  ·simp only [Act.put, List.setIfInBounds_toArray, List.set_cons_zero, List.set_cons_succ, i64_w, i32_w]
   rfl
  refine join_ (σ := Nat × Nat) 2 #[true, true, true, true, true, true, false, false] (fun s_ => [(13, .agg #[.int .i64 t157, .int .i64 t158]), (15, .agg #[.int .i64 t159, .int .i64 t160]), (5, .pointer (some ⟨s_.1, 0, none⟩)), (6, .pointer (some ⟨s_.2, 0, none⟩))]) (fun s_ w' => (w'.cell? ⟨gb155, 0, none⟩ = some (.int .i64 a0_0) ∧ w'.cell? ⟨gb155, 1, none⟩ = some (.int .i64 a0_1) ∧ w'.cell? ⟨gb156, 0, none⟩ = some (.int .i64 a1_0) ∧ w'.cell? ⟨gb156, 1, none⟩ = some (.int .i64 a1_1)) ∧ (w'.heap[gb155]? = some (.cells #[.int .i64 a0_0, .int .i64 a0_1] 23 (0, 0))) ∧ (w'.heap[gb156]? = some (.cells #[.int .i64 a1_0, .int .i64 a1_1] 23 (0, 0))) ∧ (w'.heap[s_.1]? = some (.cells #[.int .i64 0, .int .i64 0] 23 (0, 0))) ∧ (w'.heap[s_.2]? = some (.cells #[.int .i64 0, .int .i64 0] 23 (0, 0))) ∧ (w.heap.size ≤ s_.1) ∧ (w.heap.size ≤ s_.1) ∧ (gb155 ≠ s_.1) ∧ (s_.1 ≠ gb155) ∧ (gb156 ≠ s_.1) ∧ (s_.1 ≠ gb156) ∧ (s_.2 ≠ s_.1) ∧ (s_.1 ≠ s_.2) ∧ (w.heap.size ≤ s_.2) ∧ (w.heap.size ≤ s_.2) ∧ (gb155 ≠ s_.2) ∧ (s_.2 ≠ gb155) ∧ (gb156 ≠ s_.2) ∧ (s_.2 ≠ gb156) ∧ (Below w.heap.size w w')) ?_ ?_
  rotate_left
  ·intro hJ1_3_4_5
   refine join_ (σ := Nat) 3 #[true, true, true, true, true, false, false, false] (fun s_ => [(13, .agg #[.int .i64 t157, .int .i64 t158]), (15, .agg #[.int .i64 t159, .int .i64 t160]), (5, .pointer (some ⟨s_, 0, none⟩))]) (fun s_ w' => (w'.cell? ⟨gb155, 0, none⟩ = some (.int .i64 a0_0) ∧ w'.cell? ⟨gb155, 1, none⟩ = some (.int .i64 a0_1) ∧ w'.cell? ⟨gb156, 0, none⟩ = some (.int .i64 a1_0) ∧ w'.cell? ⟨gb156, 1, none⟩ = some (.int .i64 a1_1)) ∧ (w'.heap[gb155]? = some (.cells #[.int .i64 a0_0, .int .i64 a0_1] 23 (0, 0))) ∧ (w'.heap[gb156]? = some (.cells #[.int .i64 a1_0, .int .i64 a1_1] 23 (0, 0))) ∧ (w'.heap[s_]? = some (.cells #[.int .i64 0, .int .i64 0] 23 (0, 0))) ∧ (w.heap.size ≤ s_) ∧ (w.heap.size ≤ s_) ∧ (gb155 ≠ s_) ∧ (s_ ≠ gb155) ∧ (gb156 ≠ s_) ∧ (s_ ≠ gb156) ∧ (Below w.heap.size w w')) ?_ ?_
   rotate_left
   ·intro hJ1_3_4
    refine join_ (σ := Nat) 3 #[true, true, true, true, false, true, false, false] (fun s_ => [(13, .agg #[.int .i64 t157, .int .i64 t158]), (15, .agg #[.int .i64 t159, .int .i64 t160]), (6, .pointer (some ⟨s_, 0, none⟩))]) (fun s_ w' => (w'.cell? ⟨gb155, 0, none⟩ = some (.int .i64 a0_0) ∧ w'.cell? ⟨gb155, 1, none⟩ = some (.int .i64 a0_1) ∧ w'.cell? ⟨gb156, 0, none⟩ = some (.int .i64 a1_0) ∧ w'.cell? ⟨gb156, 1, none⟩ = some (.int .i64 a1_1)) ∧ (w'.heap[gb155]? = some (.cells #[.int .i64 a0_0, .int .i64 a0_1] 23 (0, 0))) ∧ (w'.heap[gb156]? = some (.cells #[.int .i64 a1_0, .int .i64 a1_1] 23 (0, 0))) ∧ (w'.heap[s_]? = some (.cells #[.int .i64 0, .int .i64 0] 23 (0, 0))) ∧ (w.heap.size ≤ s_) ∧ (w.heap.size ≤ s_) ∧ (gb155 ≠ s_) ∧ (s_ ≠ gb155) ∧ (gb156 ≠ s_) ∧ (s_ ≠ gb156) ∧ (Below w.heap.size w w')) ?_ ?_
    rotate_left
    ·intro hJ1_3_5
     refine join_ (σ := Nat × Nat) 3 #[true, true, true, false, true, true, false, false] (fun s_ => [(13, .agg #[.int .i64 t157, .int .i64 t158]), (5, .pointer (some ⟨s_.1, 0, none⟩)), (6, .pointer (some ⟨s_.2, 0, none⟩))]) (fun s_ w' => (w'.cell? ⟨gb155, 0, none⟩ = some (.int .i64 a0_0) ∧ w'.cell? ⟨gb155, 1, none⟩ = some (.int .i64 a0_1) ∧ w'.cell? ⟨gb156, 0, none⟩ = some (.int .i64 a1_0) ∧ w'.cell? ⟨gb156, 1, none⟩ = some (.int .i64 a1_1)) ∧ (w'.heap[gb155]? = some (.cells #[.int .i64 a0_0, .int .i64 a0_1] 23 (0, 0))) ∧ (w'.heap[gb156]? = some (.cells #[.int .i64 a1_0, .int .i64 a1_1] 23 (0, 0))) ∧ (w'.heap[s_.1]? = some (.cells #[.int .i64 0, .int .i64 0] 23 (0, 0))) ∧ (w'.heap[s_.2]? = some (.cells #[.int .i64 0, .int .i64 0] 23 (0, 0))) ∧ (w.heap.size ≤ s_.1) ∧ (w.heap.size ≤ s_.1) ∧ (gb155 ≠ s_.1) ∧ (s_.1 ≠ gb155) ∧ (gb156 ≠ s_.1) ∧ (s_.1 ≠ gb156) ∧ (s_.2 ≠ s_.1) ∧ (s_.1 ≠ s_.2) ∧ (w.heap.size ≤ s_.2) ∧ (w.heap.size ≤ s_.2) ∧ (gb155 ≠ s_.2) ∧ (s_.2 ≠ gb155) ∧ (gb156 ≠ s_.2) ∧ (s_.2 ≠ gb156) ∧ (Below w.heap.size w w')) ?_ ?_
     rotate_left
     ·intro hJ1_4_5
      refine join_ (σ := Unit) 4 #[true, true, true, true, false, false, false, false] (fun s_ => [(13, .agg #[.int .i64 t157, .int .i64 t158]), (15, .agg #[.int .i64 t159, .int .i64 t160])]) (fun s_ w' => (w'.cell? ⟨gb155, 0, none⟩ = some (.int .i64 a0_0) ∧ w'.cell? ⟨gb155, 1, none⟩ = some (.int .i64 a0_1) ∧ w'.cell? ⟨gb156, 0, none⟩ = some (.int .i64 a1_0) ∧ w'.cell? ⟨gb156, 1, none⟩ = some (.int .i64 a1_1)) ∧ (w'.heap[gb155]? = some (.cells #[.int .i64 a0_0, .int .i64 a0_1] 23 (0, 0))) ∧ (w'.heap[gb156]? = some (.cells #[.int .i64 a1_0, .int .i64 a1_1] 23 (0, 0))) ∧ (Below w.heap.size w w')) ?_ ?_
      rotate_left
      ·intro hJ1_3
       refine join_ (σ := Nat) 4 #[true, true, true, false, true, false, false, false] (fun s_ => [(13, .agg #[.int .i64 t157, .int .i64 t158]), (5, .pointer (some ⟨s_, 0, none⟩))]) (fun s_ w' => (w'.cell? ⟨gb155, 0, none⟩ = some (.int .i64 a0_0) ∧ w'.cell? ⟨gb155, 1, none⟩ = some (.int .i64 a0_1) ∧ w'.cell? ⟨gb156, 0, none⟩ = some (.int .i64 a1_0) ∧ w'.cell? ⟨gb156, 1, none⟩ = some (.int .i64 a1_1)) ∧ (w'.heap[gb155]? = some (.cells #[.int .i64 a0_0, .int .i64 a0_1] 23 (0, 0))) ∧ (w'.heap[gb156]? = some (.cells #[.int .i64 a1_0, .int .i64 a1_1] 23 (0, 0))) ∧ (w'.heap[s_]? = some (.cells #[.int .i64 0, .int .i64 0] 23 (0, 0))) ∧ (w.heap.size ≤ s_) ∧ (w.heap.size ≤ s_) ∧ (gb155 ≠ s_) ∧ (s_ ≠ gb155) ∧ (gb156 ≠ s_) ∧ (s_ ≠ gb156) ∧ (Below w.heap.size w w')) ?_ ?_
       rotate_left
       ·intro hJ1_4
        refine join_ (σ := Nat) 4 #[true, true, true, false, false, true, false, false] (fun s_ => [(13, .agg #[.int .i64 t157, .int .i64 t158]), (6, .pointer (some ⟨s_, 0, none⟩))]) (fun s_ w' => (w'.cell? ⟨gb155, 0, none⟩ = some (.int .i64 a0_0) ∧ w'.cell? ⟨gb155, 1, none⟩ = some (.int .i64 a0_1) ∧ w'.cell? ⟨gb156, 0, none⟩ = some (.int .i64 a1_0) ∧ w'.cell? ⟨gb156, 1, none⟩ = some (.int .i64 a1_1)) ∧ (w'.heap[gb155]? = some (.cells #[.int .i64 a0_0, .int .i64 a0_1] 23 (0, 0))) ∧ (w'.heap[gb156]? = some (.cells #[.int .i64 a1_0, .int .i64 a1_1] 23 (0, 0))) ∧ (w'.heap[s_]? = some (.cells #[.int .i64 0, .int .i64 0] 23 (0, 0))) ∧ (w.heap.size ≤ s_) ∧ (w.heap.size ≤ s_) ∧ (gb155 ≠ s_) ∧ (s_ ≠ gb155) ∧ (gb156 ≠ s_) ∧ (s_ ≠ gb156) ∧ (Below w.heap.size w w')) ?_ ?_
        rotate_left
        ·intro hJ1_5
         refine join_ (σ := Nat × Nat) 4 #[true, false, true, false, true, true, false, false] (fun s_ => [(5, .pointer (some ⟨s_.1, 0, none⟩)), (6, .pointer (some ⟨s_.2, 0, none⟩))]) (fun s_ w' => (w'.cell? ⟨gb155, 0, none⟩ = some (.int .i64 a0_0) ∧ w'.cell? ⟨gb155, 1, none⟩ = some (.int .i64 a0_1) ∧ w'.cell? ⟨gb156, 0, none⟩ = some (.int .i64 a1_0) ∧ w'.cell? ⟨gb156, 1, none⟩ = some (.int .i64 a1_1)) ∧ (w'.heap[gb155]? = some (.cells #[.int .i64 a0_0, .int .i64 a0_1] 23 (0, 0))) ∧ (w'.heap[gb156]? = some (.cells #[.int .i64 a1_0, .int .i64 a1_1] 23 (0, 0))) ∧ (w'.heap[s_.1]? = some (.cells #[.int .i64 0, .int .i64 0] 23 (0, 0))) ∧ (w'.heap[s_.2]? = some (.cells #[.int .i64 0, .int .i64 0] 23 (0, 0))) ∧ (w.heap.size ≤ s_.1) ∧ (w.heap.size ≤ s_.1) ∧ (gb155 ≠ s_.1) ∧ (s_.1 ≠ gb155) ∧ (gb156 ≠ s_.1) ∧ (s_.1 ≠ gb156) ∧ (s_.2 ≠ s_.1) ∧ (s_.1 ≠ s_.2) ∧ (w.heap.size ≤ s_.2) ∧ (w.heap.size ≤ s_.2) ∧ (gb155 ≠ s_.2) ∧ (s_.2 ≠ gb155) ∧ (gb156 ≠ s_.2) ∧ (s_.2 ≠ gb156) ∧ (Below w.heap.size w w')) ?_ ?_
         rotate_left
         ·intro hJ4_5
          refine join_ (σ := Unit) 5 #[true, true, true, false, false, false, false, false] (fun s_ => [(13, .agg #[.int .i64 t157, .int .i64 t158])]) (fun s_ w' => (w'.cell? ⟨gb155, 0, none⟩ = some (.int .i64 a0_0) ∧ w'.cell? ⟨gb155, 1, none⟩ = some (.int .i64 a0_1) ∧ w'.cell? ⟨gb156, 0, none⟩ = some (.int .i64 a1_0) ∧ w'.cell? ⟨gb156, 1, none⟩ = some (.int .i64 a1_1)) ∧ (w'.heap[gb155]? = some (.cells #[.int .i64 a0_0, .int .i64 a0_1] 23 (0, 0))) ∧ (w'.heap[gb156]? = some (.cells #[.int .i64 a1_0, .int .i64 a1_1] 23 (0, 0))) ∧ (Below w.heap.size w w')) ?_ ?_
          rotate_left
          ·intro hJ1
           refine join_ (σ := Nat) 5 #[true, false, true, false, true, false, false, false] (fun s_ => [(5, .pointer (some ⟨s_, 0, none⟩))]) (fun s_ w' => (w'.cell? ⟨gb155, 0, none⟩ = some (.int .i64 a0_0) ∧ w'.cell? ⟨gb155, 1, none⟩ = some (.int .i64 a0_1) ∧ w'.cell? ⟨gb156, 0, none⟩ = some (.int .i64 a1_0) ∧ w'.cell? ⟨gb156, 1, none⟩ = some (.int .i64 a1_1)) ∧ (w'.heap[gb155]? = some (.cells #[.int .i64 a0_0, .int .i64 a0_1] 23 (0, 0))) ∧ (w'.heap[gb156]? = some (.cells #[.int .i64 a1_0, .int .i64 a1_1] 23 (0, 0))) ∧ (w'.heap[s_]? = some (.cells #[.int .i64 0, .int .i64 0] 23 (0, 0))) ∧ (w.heap.size ≤ s_) ∧ (w.heap.size ≤ s_) ∧ (gb155 ≠ s_) ∧ (s_ ≠ gb155) ∧ (gb156 ≠ s_) ∧ (s_ ≠ gb156) ∧ (Below w.heap.size w w')) ?_ ?_
           rotate_left
           ·intro hJ4
            refine join_ (σ := Nat) 5 #[true, false, true, false, false, true, false, false] (fun s_ => [(6, .pointer (some ⟨s_, 0, none⟩))]) (fun s_ w' => (w'.cell? ⟨gb155, 0, none⟩ = some (.int .i64 a0_0) ∧ w'.cell? ⟨gb155, 1, none⟩ = some (.int .i64 a0_1) ∧ w'.cell? ⟨gb156, 0, none⟩ = some (.int .i64 a1_0) ∧ w'.cell? ⟨gb156, 1, none⟩ = some (.int .i64 a1_1)) ∧ (w'.heap[gb155]? = some (.cells #[.int .i64 a0_0, .int .i64 a0_1] 23 (0, 0))) ∧ (w'.heap[gb156]? = some (.cells #[.int .i64 a1_0, .int .i64 a1_1] 23 (0, 0))) ∧ (w'.heap[s_]? = some (.cells #[.int .i64 0, .int .i64 0] 23 (0, 0))) ∧ (w.heap.size ≤ s_) ∧ (w.heap.size ≤ s_) ∧ (gb155 ≠ s_) ∧ (s_ ≠ gb155) ∧ (gb156 ≠ s_) ∧ (s_ ≠ gb156) ∧ (Below w.heap.size w w')) ?_ ?_
            rotate_left
            ·intro hJ5
             refine three_ (i := 1) (j := 4) (k := 5) (Ni := some 13) (Nj := some 5) (Nk := some 6) #[true, true, true, false, false, false, false, false] #[true, false, true, false, true, false, false, false] #[true, false, true, false, false, true, false, false] rfl rfl rfl rfl rfl rfl (three_of HT_.out (by kernel_rfl)) (by decide) (by decide) (by decide) (fun K hK => ?_) (fun K hK => ?_) (fun K hK => ?_)
             ·skip
              refine goes_ Try.func22 (by kernel_rfl) rfl #[.agg #[.int .i64 a0_0, .int .i64 a0_1]] (by rfl) rfl rfl (by (try simp only [List.map_toArray, List.map_cons, List.map_nil]); first | done | rfl | (simp only [List.length_drop, List.length_take]; rfl)) ?_
              with_reducible refine (scriptoriumlaw05_bring.calls a0_0 a0_1 t157 t158 _ A3.out).mono ?_
              rintro e w12 ⟨rfl, hb⟩
              refine ⟨_, rfl, ?_⟩
              have n0_ := Aside0.mk (blk_below (g := gb155) (o := .cells #[.int .i64 a0_0, .int .i64 a0_1] 23 (0, 0)) (by (with_reducible repeat first | apply blk_drewN | apply blk_drew | apply blk_alloc); exact BK155.out) hb)
              have n1_ := Aside0.mk (blk_below (g := gb156) (o := .cells #[.int .i64 a1_0, .int .i64 a1_1] 23 (0, 0)) (by (with_reducible repeat first | apply blk_drewN | apply blk_drew | apply blk_alloc); exact BK156.out) hb)
              have n2_ := Aside0.mk (below_step (by repeat (first | (with_reducible first | exact HB.out | apply below_alloc | apply pw_below_drewN | apply below_drew1 | refine below_set ?_ GE155.out | refine below_set ?_ GE156.out) | exact HB.out)) hb)
              clear BK155
              clear BK156
              clear HB
              have BK155 := n0_
              have BK156 := n1_
              have HB := n2_
              clear n0_ n1_ n2_
              (try clear hb)
              (try clear hb2)
              (try clear hk)
              (try clear hi)
              refine hK.out _ _ ⟨(blk_cell BK155.out 0).trans rfl, (blk_cell BK155.out 1).trans rfl, (blk_cell BK156.out 0).trans rfl, (blk_cell BK156.out 1).trans rfl⟩ (fun hHeld => ?_)
              clear hK K
              refine norm_ (a' := ?_) ?_ ?_
              rotate_left
              ·show Act.put _ (some 13) _ = _
               simp only [Act.put, List.setIfInBounds_toArray, List.set_cons_zero, List.set_cons_succ, i64_w, i32_w]
               rfl
              exact norm_ (by first | (simp only [putAll, Act.put, List.setIfInBounds_toArray, List.set_cons_zero, List.set_cons_succ]; done) | (simp only [putAll, Act.put, List.setIfInBounds_toArray, List.set_cons_zero, List.set_cons_succ]; rfl)) (hJ1 () _ ⟨hHeld, (by (with_reducible repeat first | apply blk_drewN | apply blk_drew | apply blk_alloc); exact BK155.out), (by (with_reducible repeat first | apply blk_drewN | apply blk_drew | apply blk_alloc); exact BK156.out), (by repeat (first | (with_reducible first | exact HB.out | apply below_alloc | apply pw_below_drewN | apply below_drew1 | refine below_set ?_ GE155.out | refine below_set ?_ GE156.out) | exact HB.out))⟩)
             ·skip
              refine box_step ?hg (N := 5) ?hd (cs := #[.int .i64 0, .int .i64 0]) (t := 23) ?hr ?_; (case hd => rfl); (case hg => rfl); (case hr => first | (go_simp; done) | (go_simp; rfl))
              intro gb161 hg w12 hbox hb
              have n0_ := Aside0.mk (blk_below (g := gb155) (o := .cells #[.int .i64 a0_0, .int .i64 a0_1] 23 (0, 0)) (by (with_reducible repeat first | apply blk_drewN | apply blk_drew | apply blk_alloc); exact BK155.out) hb)
              have n1_ := Aside0.mk (blk_below (g := gb156) (o := .cells #[.int .i64 a1_0, .int .i64 a1_1] 23 (0, 0)) (by (with_reducible repeat first | apply blk_drewN | apply blk_drew | apply blk_alloc); exact BK156.out) hb)
              have n2_ := Aside0.mk (below_step (by repeat (first | (with_reducible first | exact HB.out | apply below_alloc | apply pw_below_drewN | apply below_drew1 | refine below_set ?_ GE155.out | refine below_set ?_ GE156.out) | exact HB.out)) hb)
              have n3_ := Aside0.mk (hbox)
              have n4_ := Aside0.mk ((by rw [hg]; exact (below_size (by repeat (first | (with_reducible first | exact HB.out | apply below_alloc | apply pw_below_drewN | apply below_drew1 | refine below_set ?_ GE155.out | refine below_set ?_ GE156.out) | exact HB.out))) : w.heap.size ≤ gb161))
              have n5_ := Aside0.mk ((by rw [hg]; exact (below_size (by repeat (first | (with_reducible first | exact HB.out | apply below_alloc | apply pw_below_drewN | apply below_drew1 | refine below_set ?_ GE155.out | refine below_set ?_ GE156.out) | exact HB.out))) : w.heap.size ≤ gb161))
              have n6_ := Aside0.mk ((by rw [hg]; exact Nat.ne_of_lt (blk_lt (by (with_reducible repeat first | apply blk_drewN | apply blk_drew | apply blk_alloc); exact BK155.out)) : gb155 ≠ gb161))
              have n7_ := Aside0.mk ((by rw [hg]; exact Nat.ne_of_gt (blk_lt (by (with_reducible repeat first | apply blk_drewN | apply blk_drew | apply blk_alloc); exact BK155.out)) : gb161 ≠ gb155))
              have n8_ := Aside0.mk ((by rw [hg]; exact Nat.ne_of_lt (blk_lt (by (with_reducible repeat first | apply blk_drewN | apply blk_drew | apply blk_alloc); exact BK156.out)) : gb156 ≠ gb161))
              have n9_ := Aside0.mk ((by rw [hg]; exact Nat.ne_of_gt (blk_lt (by (with_reducible repeat first | apply blk_drewN | apply blk_drew | apply blk_alloc); exact BK156.out)) : gb161 ≠ gb156))
              clear BK155
              clear BK156
              clear HB
              have BK155 := n0_
              have BK156 := n1_
              have HB := n2_
              have BK161 := n3_
              have GW161 := n4_
              have GE161 := n5_
              have NB155_161 := n6_
              have NB161_155 := n7_
              have NB156_161 := n8_
              have NB161_156 := n9_
              clear n0_ n1_ n2_ n3_ n4_ n5_ n6_ n7_ n8_ n9_
              clear hb hbox hg
              refine hK.out _ _ ⟨(blk_cell BK155.out 0).trans rfl, (blk_cell BK155.out 1).trans rfl, (blk_cell BK156.out 0).trans rfl, (blk_cell BK156.out 1).trans rfl⟩ (fun hHeld => ?_)
              clear hK K
              refine norm_ (a' := ?_) ?_ ?_
              rotate_left
              ·show Act.put _ (some 5) _ = _
               simp only [Act.put, List.setIfInBounds_toArray, List.set_cons_zero, List.set_cons_succ, i64_w, i32_w]
               rfl
              exact norm_ (by first | (simp only [putAll, Act.put, List.setIfInBounds_toArray, List.set_cons_zero, List.set_cons_succ]; done) | (simp only [putAll, Act.put, List.setIfInBounds_toArray, List.set_cons_zero, List.set_cons_succ]; rfl)) (hJ4 (gb161) _ ⟨hHeld, (by (with_reducible repeat first | apply blk_drewN | apply blk_drew | apply blk_alloc); exact BK155.out), (by (with_reducible repeat first | apply blk_drewN | apply blk_drew | apply blk_alloc); exact BK156.out), (by (with_reducible repeat first | apply blk_drewN | apply blk_drew | apply blk_alloc); exact BK161.out), GW161.out, GE161.out, NB155_161.out, NB161_155.out, NB156_161.out, NB161_156.out, (by repeat (first | (with_reducible first | exact HB.out | apply below_alloc | apply pw_below_drewN | apply below_drew1 | refine below_set ?_ GE155.out | refine below_set ?_ GE156.out | refine below_set ?_ GE161.out) | exact HB.out))⟩)
             ·skip
              refine box_step ?hg (N := 6) ?hd (cs := #[.int .i64 0, .int .i64 0]) (t := 23) ?hr ?_; (case hd => rfl); (case hg => rfl); (case hr => first | (go_simp; done) | (go_simp; rfl))
              intro gb162 hg w12 hbox hb
              have n0_ := Aside0.mk (blk_below (g := gb155) (o := .cells #[.int .i64 a0_0, .int .i64 a0_1] 23 (0, 0)) (by (with_reducible repeat first | apply blk_drewN | apply blk_drew | apply blk_alloc); exact BK155.out) hb)
              have n1_ := Aside0.mk (blk_below (g := gb156) (o := .cells #[.int .i64 a1_0, .int .i64 a1_1] 23 (0, 0)) (by (with_reducible repeat first | apply blk_drewN | apply blk_drew | apply blk_alloc); exact BK156.out) hb)
              have n2_ := Aside0.mk (below_step (by repeat (first | (with_reducible first | exact HB.out | apply below_alloc | apply pw_below_drewN | apply below_drew1 | refine below_set ?_ GE155.out | refine below_set ?_ GE156.out) | exact HB.out)) hb)
              have n3_ := Aside0.mk (hbox)
              have n4_ := Aside0.mk ((by rw [hg]; exact (below_size (by repeat (first | (with_reducible first | exact HB.out | apply below_alloc | apply pw_below_drewN | apply below_drew1 | refine below_set ?_ GE155.out | refine below_set ?_ GE156.out) | exact HB.out))) : w.heap.size ≤ gb162))
              have n5_ := Aside0.mk ((by rw [hg]; exact (below_size (by repeat (first | (with_reducible first | exact HB.out | apply below_alloc | apply pw_below_drewN | apply below_drew1 | refine below_set ?_ GE155.out | refine below_set ?_ GE156.out) | exact HB.out))) : w.heap.size ≤ gb162))
              have n6_ := Aside0.mk ((by rw [hg]; exact Nat.ne_of_lt (blk_lt (by (with_reducible repeat first | apply blk_drewN | apply blk_drew | apply blk_alloc); exact BK155.out)) : gb155 ≠ gb162))
              have n7_ := Aside0.mk ((by rw [hg]; exact Nat.ne_of_gt (blk_lt (by (with_reducible repeat first | apply blk_drewN | apply blk_drew | apply blk_alloc); exact BK155.out)) : gb162 ≠ gb155))
              have n8_ := Aside0.mk ((by rw [hg]; exact Nat.ne_of_lt (blk_lt (by (with_reducible repeat first | apply blk_drewN | apply blk_drew | apply blk_alloc); exact BK156.out)) : gb156 ≠ gb162))
              have n9_ := Aside0.mk ((by rw [hg]; exact Nat.ne_of_gt (blk_lt (by (with_reducible repeat first | apply blk_drewN | apply blk_drew | apply blk_alloc); exact BK156.out)) : gb162 ≠ gb156))
              clear BK155
              clear BK156
              clear HB
              have BK155 := n0_
              have BK156 := n1_
              have HB := n2_
              have BK162 := n3_
              have GW162 := n4_
              have GE162 := n5_
              have NB155_162 := n6_
              have NB162_155 := n7_
              have NB156_162 := n8_
              have NB162_156 := n9_
              clear n0_ n1_ n2_ n3_ n4_ n5_ n6_ n7_ n8_ n9_
              clear hb hbox hg
              refine hK.out _ _ ⟨(blk_cell BK155.out 0).trans rfl, (blk_cell BK155.out 1).trans rfl, (blk_cell BK156.out 0).trans rfl, (blk_cell BK156.out 1).trans rfl⟩ (fun hHeld => ?_)
              clear hK K
              refine norm_ (a' := ?_) ?_ ?_
              rotate_left
              ·show Act.put _ (some 6) _ = _
               simp only [Act.put, List.setIfInBounds_toArray, List.set_cons_zero, List.set_cons_succ, i64_w, i32_w]
               rfl
              exact norm_ (by first | (simp only [putAll, Act.put, List.setIfInBounds_toArray, List.set_cons_zero, List.set_cons_succ]; done) | (simp only [putAll, Act.put, List.setIfInBounds_toArray, List.set_cons_zero, List.set_cons_succ]; rfl)) (hJ5 (gb162) _ ⟨hHeld, (by (with_reducible repeat first | apply blk_drewN | apply blk_drew | apply blk_alloc); exact BK155.out), (by (with_reducible repeat first | apply blk_drewN | apply blk_drew | apply blk_alloc); exact BK156.out), (by (with_reducible repeat first | apply blk_drewN | apply blk_drew | apply blk_alloc); exact BK162.out), GW162.out, GE162.out, NB155_162.out, NB162_155.out, NB156_162.out, NB162_156.out, (by repeat (first | (with_reducible first | exact HB.out | apply below_alloc | apply pw_below_drewN | apply below_drew1 | refine below_set ?_ GE155.out | refine below_set ?_ GE156.out | refine below_set ?_ GE162.out) | exact HB.out))⟩)
            ·skip
             rintro gb162 w13 ⟨hS_, h0_, h1_, h2_, h3_, h4_, h5_, h6_, h7_, h8_, h9_⟩
             have n0_ : Aside0 (w13.heap[gb155]? = some (.cells #[.int .i64 a0_0, .int .i64 a0_1] 23 (0, 0))) := ⟨h0_⟩
             have n1_ : Aside0 (w13.heap[gb156]? = some (.cells #[.int .i64 a1_0, .int .i64 a1_1] 23 (0, 0))) := ⟨h1_⟩
             have n2_ : Aside0 (w13.heap[gb162]? = some (.cells #[.int .i64 0, .int .i64 0] 23 (0, 0))) := ⟨h2_⟩
             have n3_ : Aside0 (w.heap.size ≤ gb162) := ⟨h3_⟩
             have n4_ : Aside0 (w.heap.size ≤ gb162) := ⟨h4_⟩
             have n5_ : Aside0 (gb155 ≠ gb162) := ⟨h5_⟩
             have n6_ : Aside0 (gb162 ≠ gb155) := ⟨h6_⟩
             have n7_ : Aside0 (gb156 ≠ gb162) := ⟨h7_⟩
             have n8_ : Aside0 (gb162 ≠ gb156) := ⟨h8_⟩
             have n9_ : Aside0 (Below w.heap.size w w13) := ⟨h9_⟩
             clear BK155
             clear BK156
             clear HB
             clear h0_ h1_ h2_ h3_ h4_ h5_ h6_ h7_ h8_ h9_
             have BK155 := n0_
             have BK156 := n1_
             have BK162 := n2_
             have GW162 := n3_
             have GE162 := n4_
             have NB155_162 := n5_
             have NB162_155 := n6_
             have NB156_162 := n7_
             have NB162_156 := n8_
             have HB := n9_
             clear n0_ n1_ n2_ n3_ n4_ n5_ n6_ n7_ n8_ n9_
             have hHeld : w13.cell? ⟨gb155, 0, none⟩ = some (.int .i64 a0_0) ∧ w13.cell? ⟨gb155, 1, none⟩ = some (.int .i64 a0_1) ∧ w13.cell? ⟨gb156, 0, none⟩ = some (.int .i64 a1_0) ∧ w13.cell? ⟨gb156, 1, none⟩ = some (.int .i64 a1_1) := hS_
             refine norm_ (a' := ?_) ?_ ?_
             rotate_left
             ·simp only [putAll, Act.put, List.setIfInBounds_toArray, List.set_cons_zero, List.set_cons_succ]
              rfl
             refine two_ (i := 1) (j := 4) (Ni := some 13) (Nj := some 5) #[true, true, true, false, false, true, false, false] #[true, false, true, false, true, true, false, false] rfl rfl rfl rfl (two_of HT_.out (by kernel_rfl)) (by decide) (by decide) (fun K hK => ?_) (fun K hK => ?_)
             ·skip
              refine goes_ Try.func22 (by kernel_rfl) rfl #[.agg #[.int .i64 a0_0, .int .i64 a0_1]] (by rfl) rfl rfl (by (try simp only [List.map_toArray, List.map_cons, List.map_nil]); first | done | rfl | (simp only [List.length_drop, List.length_take]; rfl)) ?_
              with_reducible refine (scriptoriumlaw05_bring.calls a0_0 a0_1 t157 t158 _ A3.out).mono ?_
              rintro e w14 ⟨rfl, hb⟩
              refine ⟨_, rfl, ?_⟩
              have n0_ := Aside0.mk (blk_below (g := gb155) (o := .cells #[.int .i64 a0_0, .int .i64 a0_1] 23 (0, 0)) (by (with_reducible repeat first | apply blk_drewN | apply blk_drew | apply blk_alloc); exact BK155.out) hb)
              have n1_ := Aside0.mk (blk_below (g := gb156) (o := .cells #[.int .i64 a1_0, .int .i64 a1_1] 23 (0, 0)) (by (with_reducible repeat first | apply blk_drewN | apply blk_drew | apply blk_alloc); exact BK156.out) hb)
              have n2_ := Aside0.mk (blk_below (g := gb162) (o := .cells #[.int .i64 0, .int .i64 0] 23 (0, 0)) (by (with_reducible repeat first | apply blk_drewN | apply blk_drew | apply blk_alloc); exact BK162.out) hb)
              have n3_ := Aside0.mk (below_step (by repeat (first | (with_reducible first | exact HB.out | apply below_alloc | apply pw_below_drewN | apply below_drew1 | refine below_set ?_ GE155.out | refine below_set ?_ GE156.out | refine below_set ?_ GE162.out) | exact HB.out)) hb)
              clear BK155
              clear BK156
              clear BK162
              clear HB
              have BK155 := n0_
              have BK156 := n1_
              have BK162 := n2_
              have HB := n3_
              clear n0_ n1_ n2_ n3_
              (try clear hb)
              (try clear hb2)
              (try clear hk)
              (try clear hi)
              refine hK.out _ _ ⟨(blk_cell BK155.out 0).trans rfl, (blk_cell BK155.out 1).trans rfl, (blk_cell BK156.out 0).trans rfl, (blk_cell BK156.out 1).trans rfl⟩ (fun hHeld => ?_)
              clear hK K
              refine norm_ (a' := ?_) ?_ ?_
              rotate_left
              ·show Act.put _ (some 13) _ = _
               simp only [Act.put, List.setIfInBounds_toArray, List.set_cons_zero, List.set_cons_succ, i64_w, i32_w]
               rfl
              exact norm_ (by first | (simp only [putAll, Act.put, List.setIfInBounds_toArray, List.set_cons_zero, List.set_cons_succ]; done) | (simp only [putAll, Act.put, List.setIfInBounds_toArray, List.set_cons_zero, List.set_cons_succ]; rfl)) (hJ1_5 (gb162) _ ⟨hHeld, (by (with_reducible repeat first | apply blk_drewN | apply blk_drew | apply blk_alloc); exact BK155.out), (by (with_reducible repeat first | apply blk_drewN | apply blk_drew | apply blk_alloc); exact BK156.out), (by (with_reducible repeat first | apply blk_drewN | apply blk_drew | apply blk_alloc); exact BK162.out), GW162.out, GE162.out, NB155_162.out, NB162_155.out, NB156_162.out, NB162_156.out, (by repeat (first | (with_reducible first | exact HB.out | apply below_alloc | apply pw_below_drewN | apply below_drew1 | refine below_set ?_ GE155.out | refine below_set ?_ GE156.out | refine below_set ?_ GE162.out) | exact HB.out))⟩)
             ·skip
              refine box_step ?hg (N := 5) ?hd (cs := #[.int .i64 0, .int .i64 0]) (t := 23) ?hr ?_; (case hd => rfl); (case hg => rfl); (case hr => first | (go_simp; done) | (go_simp; rfl))
              intro gb161 hg w14 hbox hb
              have n0_ := Aside0.mk (blk_below (g := gb155) (o := .cells #[.int .i64 a0_0, .int .i64 a0_1] 23 (0, 0)) (by (with_reducible repeat first | apply blk_drewN | apply blk_drew | apply blk_alloc); exact BK155.out) hb)
              have n1_ := Aside0.mk (blk_below (g := gb156) (o := .cells #[.int .i64 a1_0, .int .i64 a1_1] 23 (0, 0)) (by (with_reducible repeat first | apply blk_drewN | apply blk_drew | apply blk_alloc); exact BK156.out) hb)
              have n2_ := Aside0.mk (blk_below (g := gb162) (o := .cells #[.int .i64 0, .int .i64 0] 23 (0, 0)) (by (with_reducible repeat first | apply blk_drewN | apply blk_drew | apply blk_alloc); exact BK162.out) hb)
              have n3_ := Aside0.mk (below_step (by repeat (first | (with_reducible first | exact HB.out | apply below_alloc | apply pw_below_drewN | apply below_drew1 | refine below_set ?_ GE155.out | refine below_set ?_ GE156.out | refine below_set ?_ GE162.out) | exact HB.out)) hb)
              have n4_ := Aside0.mk (hbox)
              have n5_ := Aside0.mk ((by rw [hg]; exact (below_size (by repeat (first | (with_reducible first | exact HB.out | apply below_alloc | apply pw_below_drewN | apply below_drew1 | refine below_set ?_ GE155.out | refine below_set ?_ GE156.out | refine below_set ?_ GE162.out) | exact HB.out))) : w.heap.size ≤ gb161))
              have n6_ := Aside0.mk ((by rw [hg]; exact (below_size (by repeat (first | (with_reducible first | exact HB.out | apply below_alloc | apply pw_below_drewN | apply below_drew1 | refine below_set ?_ GE155.out | refine below_set ?_ GE156.out | refine below_set ?_ GE162.out) | exact HB.out))) : w.heap.size ≤ gb161))
              have n7_ := Aside0.mk ((by rw [hg]; exact Nat.ne_of_lt (blk_lt (by (with_reducible repeat first | apply blk_drewN | apply blk_drew | apply blk_alloc); exact BK155.out)) : gb155 ≠ gb161))
              have n8_ := Aside0.mk ((by rw [hg]; exact Nat.ne_of_gt (blk_lt (by (with_reducible repeat first | apply blk_drewN | apply blk_drew | apply blk_alloc); exact BK155.out)) : gb161 ≠ gb155))
              have n9_ := Aside0.mk ((by rw [hg]; exact Nat.ne_of_lt (blk_lt (by (with_reducible repeat first | apply blk_drewN | apply blk_drew | apply blk_alloc); exact BK156.out)) : gb156 ≠ gb161))
              have n10_ := Aside0.mk ((by rw [hg]; exact Nat.ne_of_gt (blk_lt (by (with_reducible repeat first | apply blk_drewN | apply blk_drew | apply blk_alloc); exact BK156.out)) : gb161 ≠ gb156))
              have n11_ := Aside0.mk ((by rw [hg]; exact Nat.ne_of_lt (blk_lt (by (with_reducible repeat first | apply blk_drewN | apply blk_drew | apply blk_alloc); exact BK162.out)) : gb162 ≠ gb161))
              have n12_ := Aside0.mk ((by rw [hg]; exact Nat.ne_of_gt (blk_lt (by (with_reducible repeat first | apply blk_drewN | apply blk_drew | apply blk_alloc); exact BK162.out)) : gb161 ≠ gb162))
              clear BK155
              clear BK156
              clear BK162
              clear HB
              have BK155 := n0_
              have BK156 := n1_
              have BK162 := n2_
              have HB := n3_
              have BK161 := n4_
              have GW161 := n5_
              have GE161 := n6_
              have NB155_161 := n7_
              have NB161_155 := n8_
              have NB156_161 := n9_
              have NB161_156 := n10_
              have NB162_161 := n11_
              have NB161_162 := n12_
              clear n0_ n1_ n2_ n3_ n4_ n5_ n6_ n7_ n8_ n9_ n10_ n11_ n12_
              clear hb hbox hg
              refine hK.out _ _ ⟨(blk_cell BK155.out 0).trans rfl, (blk_cell BK155.out 1).trans rfl, (blk_cell BK156.out 0).trans rfl, (blk_cell BK156.out 1).trans rfl⟩ (fun hHeld => ?_)
              clear hK K
              refine norm_ (a' := ?_) ?_ ?_
              rotate_left
              ·show Act.put _ (some 5) _ = _
               simp only [Act.put, List.setIfInBounds_toArray, List.set_cons_zero, List.set_cons_succ, i64_w, i32_w]
               rfl
              exact norm_ (by first | (simp only [putAll, Act.put, List.setIfInBounds_toArray, List.set_cons_zero, List.set_cons_succ]; done) | (simp only [putAll, Act.put, List.setIfInBounds_toArray, List.set_cons_zero, List.set_cons_succ]; rfl)) (hJ4_5 (gb161, gb162) _ ⟨hHeld, (by (with_reducible repeat first | apply blk_drewN | apply blk_drew | apply blk_alloc); exact BK155.out), (by (with_reducible repeat first | apply blk_drewN | apply blk_drew | apply blk_alloc); exact BK156.out), (by (with_reducible repeat first | apply blk_drewN | apply blk_drew | apply blk_alloc); exact BK161.out), (by (with_reducible repeat first | apply blk_drewN | apply blk_drew | apply blk_alloc); exact BK162.out), GW161.out, GE161.out, NB155_161.out, NB161_155.out, NB156_161.out, NB161_156.out, NB162_161.out, NB161_162.out, GW162.out, GE162.out, NB155_162.out, NB162_155.out, NB156_162.out, NB162_156.out, (by repeat (first | (with_reducible first | exact HB.out | apply below_alloc | apply pw_below_drewN | apply below_drew1 | refine below_set ?_ GE155.out | refine below_set ?_ GE156.out | refine below_set ?_ GE162.out | refine below_set ?_ GE161.out) | exact HB.out))⟩)
           ·skip
            rintro gb161 w13 ⟨hS_, h0_, h1_, h2_, h3_, h4_, h5_, h6_, h7_, h8_, h9_⟩
            have n0_ : Aside0 (w13.heap[gb155]? = some (.cells #[.int .i64 a0_0, .int .i64 a0_1] 23 (0, 0))) := ⟨h0_⟩
            have n1_ : Aside0 (w13.heap[gb156]? = some (.cells #[.int .i64 a1_0, .int .i64 a1_1] 23 (0, 0))) := ⟨h1_⟩
            have n2_ : Aside0 (w13.heap[gb161]? = some (.cells #[.int .i64 0, .int .i64 0] 23 (0, 0))) := ⟨h2_⟩
            have n3_ : Aside0 (w.heap.size ≤ gb161) := ⟨h3_⟩
            have n4_ : Aside0 (w.heap.size ≤ gb161) := ⟨h4_⟩
            have n5_ : Aside0 (gb155 ≠ gb161) := ⟨h5_⟩
            have n6_ : Aside0 (gb161 ≠ gb155) := ⟨h6_⟩
            have n7_ : Aside0 (gb156 ≠ gb161) := ⟨h7_⟩
            have n8_ : Aside0 (gb161 ≠ gb156) := ⟨h8_⟩
            have n9_ : Aside0 (Below w.heap.size w w13) := ⟨h9_⟩
            clear BK155
            clear BK156
            clear HB
            clear h0_ h1_ h2_ h3_ h4_ h5_ h6_ h7_ h8_ h9_
            have BK155 := n0_
            have BK156 := n1_
            have BK161 := n2_
            have GW161 := n3_
            have GE161 := n4_
            have NB155_161 := n5_
            have NB161_155 := n6_
            have NB156_161 := n7_
            have NB161_156 := n8_
            have HB := n9_
            clear n0_ n1_ n2_ n3_ n4_ n5_ n6_ n7_ n8_ n9_
            have hHeld : w13.cell? ⟨gb155, 0, none⟩ = some (.int .i64 a0_0) ∧ w13.cell? ⟨gb155, 1, none⟩ = some (.int .i64 a0_1) ∧ w13.cell? ⟨gb156, 0, none⟩ = some (.int .i64 a1_0) ∧ w13.cell? ⟨gb156, 1, none⟩ = some (.int .i64 a1_1) := hS_
            refine norm_ (a' := ?_) ?_ ?_
            rotate_left
            ·simp only [putAll, Act.put, List.setIfInBounds_toArray, List.set_cons_zero, List.set_cons_succ]
             rfl
            refine two_ (i := 1) (j := 5) (Ni := some 13) (Nj := some 6) #[true, true, true, false, true, false, false, false] #[true, false, true, false, true, true, false, false] rfl rfl rfl rfl (two_of HT_.out (by kernel_rfl)) (by decide) (by decide) (fun K hK => ?_) (fun K hK => ?_)
            ·skip
             refine goes_ Try.func22 (by kernel_rfl) rfl #[.agg #[.int .i64 a0_0, .int .i64 a0_1]] (by rfl) rfl rfl (by (try simp only [List.map_toArray, List.map_cons, List.map_nil]); first | done | rfl | (simp only [List.length_drop, List.length_take]; rfl)) ?_
             with_reducible refine (scriptoriumlaw05_bring.calls a0_0 a0_1 t157 t158 _ A3.out).mono ?_
             rintro e w14 ⟨rfl, hb⟩
             refine ⟨_, rfl, ?_⟩
             have n0_ := Aside0.mk (blk_below (g := gb155) (o := .cells #[.int .i64 a0_0, .int .i64 a0_1] 23 (0, 0)) (by (with_reducible repeat first | apply blk_drewN | apply blk_drew | apply blk_alloc); exact BK155.out) hb)
             have n1_ := Aside0.mk (blk_below (g := gb156) (o := .cells #[.int .i64 a1_0, .int .i64 a1_1] 23 (0, 0)) (by (with_reducible repeat first | apply blk_drewN | apply blk_drew | apply blk_alloc); exact BK156.out) hb)
             have n2_ := Aside0.mk (blk_below (g := gb161) (o := .cells #[.int .i64 0, .int .i64 0] 23 (0, 0)) (by (with_reducible repeat first | apply blk_drewN | apply blk_drew | apply blk_alloc); exact BK161.out) hb)
             have n3_ := Aside0.mk (below_step (by repeat (first | (with_reducible first | exact HB.out | apply below_alloc | apply pw_below_drewN | apply below_drew1 | refine below_set ?_ GE155.out | refine below_set ?_ GE156.out | refine below_set ?_ GE161.out) | exact HB.out)) hb)
             clear BK155
             clear BK156
             clear BK161
             clear HB
             have BK155 := n0_
             have BK156 := n1_
             have BK161 := n2_
             have HB := n3_
             clear n0_ n1_ n2_ n3_
             (try clear hb)
             (try clear hb2)
             (try clear hk)
             (try clear hi)
             refine hK.out _ _ ⟨(blk_cell BK155.out 0).trans rfl, (blk_cell BK155.out 1).trans rfl, (blk_cell BK156.out 0).trans rfl, (blk_cell BK156.out 1).trans rfl⟩ (fun hHeld => ?_)
             clear hK K
             refine norm_ (a' := ?_) ?_ ?_
             rotate_left
             ·show Act.put _ (some 13) _ = _
              simp only [Act.put, List.setIfInBounds_toArray, List.set_cons_zero, List.set_cons_succ, i64_w, i32_w]
              rfl
             exact norm_ (by first | (simp only [putAll, Act.put, List.setIfInBounds_toArray, List.set_cons_zero, List.set_cons_succ]; done) | (simp only [putAll, Act.put, List.setIfInBounds_toArray, List.set_cons_zero, List.set_cons_succ]; rfl)) (hJ1_4 (gb161) _ ⟨hHeld, (by (with_reducible repeat first | apply blk_drewN | apply blk_drew | apply blk_alloc); exact BK155.out), (by (with_reducible repeat first | apply blk_drewN | apply blk_drew | apply blk_alloc); exact BK156.out), (by (with_reducible repeat first | apply blk_drewN | apply blk_drew | apply blk_alloc); exact BK161.out), GW161.out, GE161.out, NB155_161.out, NB161_155.out, NB156_161.out, NB161_156.out, (by repeat (first | (with_reducible first | exact HB.out | apply below_alloc | apply pw_below_drewN | apply below_drew1 | refine below_set ?_ GE155.out | refine below_set ?_ GE156.out | refine below_set ?_ GE161.out) | exact HB.out))⟩)
            ·skip
             refine box_step ?hg (N := 6) ?hd (cs := #[.int .i64 0, .int .i64 0]) (t := 23) ?hr ?_; (case hd => rfl); (case hg => rfl); (case hr => first | (go_simp; done) | (go_simp; rfl))
             intro gb162 hg w14 hbox hb
             have n0_ := Aside0.mk (blk_below (g := gb155) (o := .cells #[.int .i64 a0_0, .int .i64 a0_1] 23 (0, 0)) (by (with_reducible repeat first | apply blk_drewN | apply blk_drew | apply blk_alloc); exact BK155.out) hb)
             have n1_ := Aside0.mk (blk_below (g := gb156) (o := .cells #[.int .i64 a1_0, .int .i64 a1_1] 23 (0, 0)) (by (with_reducible repeat first | apply blk_drewN | apply blk_drew | apply blk_alloc); exact BK156.out) hb)
             have n2_ := Aside0.mk (blk_below (g := gb161) (o := .cells #[.int .i64 0, .int .i64 0] 23 (0, 0)) (by (with_reducible repeat first | apply blk_drewN | apply blk_drew | apply blk_alloc); exact BK161.out) hb)
             have n3_ := Aside0.mk (below_step (by repeat (first | (with_reducible first | exact HB.out | apply below_alloc | apply pw_below_drewN | apply below_drew1 | refine below_set ?_ GE155.out | refine below_set ?_ GE156.out | refine below_set ?_ GE161.out) | exact HB.out)) hb)
             have n4_ := Aside0.mk (hbox)
             have n5_ := Aside0.mk ((by rw [hg]; exact (below_size (by repeat (first | (with_reducible first | exact HB.out | apply below_alloc | apply pw_below_drewN | apply below_drew1 | refine below_set ?_ GE155.out | refine below_set ?_ GE156.out | refine below_set ?_ GE161.out) | exact HB.out))) : w.heap.size ≤ gb162))
             have n6_ := Aside0.mk ((by rw [hg]; exact (below_size (by repeat (first | (with_reducible first | exact HB.out | apply below_alloc | apply pw_below_drewN | apply below_drew1 | refine below_set ?_ GE155.out | refine below_set ?_ GE156.out | refine below_set ?_ GE161.out) | exact HB.out))) : w.heap.size ≤ gb162))
             have n7_ := Aside0.mk ((by rw [hg]; exact Nat.ne_of_lt (blk_lt (by (with_reducible repeat first | apply blk_drewN | apply blk_drew | apply blk_alloc); exact BK155.out)) : gb155 ≠ gb162))
             have n8_ := Aside0.mk ((by rw [hg]; exact Nat.ne_of_gt (blk_lt (by (with_reducible repeat first | apply blk_drewN | apply blk_drew | apply blk_alloc); exact BK155.out)) : gb162 ≠ gb155))
             have n9_ := Aside0.mk ((by rw [hg]; exact Nat.ne_of_lt (blk_lt (by (with_reducible repeat first | apply blk_drewN | apply blk_drew | apply blk_alloc); exact BK156.out)) : gb156 ≠ gb162))
             have n10_ := Aside0.mk ((by rw [hg]; exact Nat.ne_of_gt (blk_lt (by (with_reducible repeat first | apply blk_drewN | apply blk_drew | apply blk_alloc); exact BK156.out)) : gb162 ≠ gb156))
             have n11_ := Aside0.mk ((by rw [hg]; exact Nat.ne_of_lt (blk_lt (by (with_reducible repeat first | apply blk_drewN | apply blk_drew | apply blk_alloc); exact BK161.out)) : gb161 ≠ gb162))
             have n12_ := Aside0.mk ((by rw [hg]; exact Nat.ne_of_gt (blk_lt (by (with_reducible repeat first | apply blk_drewN | apply blk_drew | apply blk_alloc); exact BK161.out)) : gb162 ≠ gb161))
             clear BK155
             clear BK156
             clear BK161
             clear HB
             have BK155 := n0_
             have BK156 := n1_
             have BK161 := n2_
             have HB := n3_
             have BK162 := n4_
             have GW162 := n5_
             have GE162 := n6_
             have NB155_162 := n7_
             have NB162_155 := n8_
             have NB156_162 := n9_
             have NB162_156 := n10_
             have NB161_162 := n11_
             have NB162_161 := n12_
             clear n0_ n1_ n2_ n3_ n4_ n5_ n6_ n7_ n8_ n9_ n10_ n11_ n12_
             clear hb hbox hg
             refine hK.out _ _ ⟨(blk_cell BK155.out 0).trans rfl, (blk_cell BK155.out 1).trans rfl, (blk_cell BK156.out 0).trans rfl, (blk_cell BK156.out 1).trans rfl⟩ (fun hHeld => ?_)
             clear hK K
             refine norm_ (a' := ?_) ?_ ?_
             rotate_left
             ·show Act.put _ (some 6) _ = _
              simp only [Act.put, List.setIfInBounds_toArray, List.set_cons_zero, List.set_cons_succ, i64_w, i32_w]
              rfl
             exact norm_ (by first | (simp only [putAll, Act.put, List.setIfInBounds_toArray, List.set_cons_zero, List.set_cons_succ]; done) | (simp only [putAll, Act.put, List.setIfInBounds_toArray, List.set_cons_zero, List.set_cons_succ]; rfl)) (hJ4_5 (gb161, gb162) _ ⟨hHeld, (by (with_reducible repeat first | apply blk_drewN | apply blk_drew | apply blk_alloc); exact BK155.out), (by (with_reducible repeat first | apply blk_drewN | apply blk_drew | apply blk_alloc); exact BK156.out), (by (with_reducible repeat first | apply blk_drewN | apply blk_drew | apply blk_alloc); exact BK161.out), (by (with_reducible repeat first | apply blk_drewN | apply blk_drew | apply blk_alloc); exact BK162.out), GW161.out, GE161.out, NB155_161.out, NB161_155.out, NB156_161.out, NB161_156.out, NB162_161.out, NB161_162.out, GW162.out, GE162.out, NB155_162.out, NB162_155.out, NB156_162.out, NB162_156.out, (by repeat (first | (with_reducible first | exact HB.out | apply below_alloc | apply pw_below_drewN | apply below_drew1 | refine below_set ?_ GE155.out | refine below_set ?_ GE156.out | refine below_set ?_ GE161.out | refine below_set ?_ GE162.out) | exact HB.out))⟩)
          ·skip
           rintro _ w13 ⟨hS_, h0_, h1_, h2_⟩
           have n0_ : Aside0 (w13.heap[gb155]? = some (.cells #[.int .i64 a0_0, .int .i64 a0_1] 23 (0, 0))) := ⟨h0_⟩
           have n1_ : Aside0 (w13.heap[gb156]? = some (.cells #[.int .i64 a1_0, .int .i64 a1_1] 23 (0, 0))) := ⟨h1_⟩
           have n2_ : Aside0 (Below w.heap.size w w13) := ⟨h2_⟩
           clear BK155
           clear BK156
           clear HB
           clear h0_ h1_ h2_
           have BK155 := n0_
           have BK156 := n1_
           have HB := n2_
           clear n0_ n1_ n2_
           have hHeld : w13.cell? ⟨gb155, 0, none⟩ = some (.int .i64 a0_0) ∧ w13.cell? ⟨gb155, 1, none⟩ = some (.int .i64 a0_1) ∧ w13.cell? ⟨gb156, 0, none⟩ = some (.int .i64 a1_0) ∧ w13.cell? ⟨gb156, 1, none⟩ = some (.int .i64 a1_1) := hS_
           refine norm_ (a' := ?_) ?_ ?_
           rotate_left
           ·simp only [putAll, Act.put, List.setIfInBounds_toArray, List.set_cons_zero, List.set_cons_succ]
            rfl
           refine three_ (i := 3) (j := 4) (k := 5) (Ni := some 15) (Nj := some 5) (Nk := some 6) #[true, true, true, true, false, false, false, false] #[true, true, true, false, true, false, false, false] #[true, true, true, false, false, true, false, false] rfl rfl rfl rfl rfl rfl (three_of HT_.out (by kernel_rfl)) (by decide) (by decide) (by decide) (fun K hK => ?_) (fun K hK => ?_) (fun K hK => ?_)
           ·skip
            refine goes_ Try.func22 (by kernel_rfl) rfl #[.agg #[.int .i64 a1_0, .int .i64 a1_1]] (by rfl) rfl rfl (by (try simp only [List.map_toArray, List.map_cons, List.map_nil]); first | done | rfl | (simp only [List.length_drop, List.length_take]; rfl)) ?_
            with_reducible refine (scriptoriumlaw05_bring.calls a1_0 a1_1 t159 t160 _ A4.out).mono ?_
            rintro e w14 ⟨rfl, hb⟩
            refine ⟨_, rfl, ?_⟩
            have n0_ := Aside0.mk (blk_below (g := gb155) (o := .cells #[.int .i64 a0_0, .int .i64 a0_1] 23 (0, 0)) (by (with_reducible repeat first | apply blk_drewN | apply blk_drew | apply blk_alloc); exact BK155.out) hb)
            have n1_ := Aside0.mk (blk_below (g := gb156) (o := .cells #[.int .i64 a1_0, .int .i64 a1_1] 23 (0, 0)) (by (with_reducible repeat first | apply blk_drewN | apply blk_drew | apply blk_alloc); exact BK156.out) hb)
            have n2_ := Aside0.mk (below_step (by repeat (first | (with_reducible first | exact HB.out | apply below_alloc | apply pw_below_drewN | apply below_drew1 | refine below_set ?_ GE155.out | refine below_set ?_ GE156.out) | exact HB.out)) hb)
            clear BK155
            clear BK156
            clear HB
            have BK155 := n0_
            have BK156 := n1_
            have HB := n2_
            clear n0_ n1_ n2_
            (try clear hb)
            (try clear hb2)
            (try clear hk)
            (try clear hi)
            refine hK.out _ _ ⟨(blk_cell BK155.out 0).trans rfl, (blk_cell BK155.out 1).trans rfl, (blk_cell BK156.out 0).trans rfl, (blk_cell BK156.out 1).trans rfl⟩ (fun hHeld => ?_)
            clear hK K
            refine norm_ (a' := ?_) ?_ ?_
            rotate_left
            ·show Act.put _ (some 15) _ = _
             simp only [Act.put, List.setIfInBounds_toArray, List.set_cons_zero, List.set_cons_succ, i64_w, i32_w]
             rfl
            exact norm_ (by first | (simp only [putAll, Act.put, List.setIfInBounds_toArray, List.set_cons_zero, List.set_cons_succ]; done) | (simp only [putAll, Act.put, List.setIfInBounds_toArray, List.set_cons_zero, List.set_cons_succ]; rfl)) (hJ1_3 () _ ⟨hHeld, (by (with_reducible repeat first | apply blk_drewN | apply blk_drew | apply blk_alloc); exact BK155.out), (by (with_reducible repeat first | apply blk_drewN | apply blk_drew | apply blk_alloc); exact BK156.out), (by repeat (first | (with_reducible first | exact HB.out | apply below_alloc | apply pw_below_drewN | apply below_drew1 | refine below_set ?_ GE155.out | refine below_set ?_ GE156.out) | exact HB.out))⟩)
           ·skip
            refine box_step ?hg (N := 5) ?hd (cs := #[.int .i64 0, .int .i64 0]) (t := 23) ?hr ?_; (case hd => rfl); (case hg => rfl); (case hr => first | (go_simp; done) | (go_simp; rfl))
            intro gb161 hg w14 hbox hb
            have n0_ := Aside0.mk (blk_below (g := gb155) (o := .cells #[.int .i64 a0_0, .int .i64 a0_1] 23 (0, 0)) (by (with_reducible repeat first | apply blk_drewN | apply blk_drew | apply blk_alloc); exact BK155.out) hb)
            have n1_ := Aside0.mk (blk_below (g := gb156) (o := .cells #[.int .i64 a1_0, .int .i64 a1_1] 23 (0, 0)) (by (with_reducible repeat first | apply blk_drewN | apply blk_drew | apply blk_alloc); exact BK156.out) hb)
            have n2_ := Aside0.mk (below_step (by repeat (first | (with_reducible first | exact HB.out | apply below_alloc | apply pw_below_drewN | apply below_drew1 | refine below_set ?_ GE155.out | refine below_set ?_ GE156.out) | exact HB.out)) hb)
            have n3_ := Aside0.mk (hbox)
            have n4_ := Aside0.mk ((by rw [hg]; exact (below_size (by repeat (first | (with_reducible first | exact HB.out | apply below_alloc | apply pw_below_drewN | apply below_drew1 | refine below_set ?_ GE155.out | refine below_set ?_ GE156.out) | exact HB.out))) : w.heap.size ≤ gb161))
            have n5_ := Aside0.mk ((by rw [hg]; exact (below_size (by repeat (first | (with_reducible first | exact HB.out | apply below_alloc | apply pw_below_drewN | apply below_drew1 | refine below_set ?_ GE155.out | refine below_set ?_ GE156.out) | exact HB.out))) : w.heap.size ≤ gb161))
            have n6_ := Aside0.mk ((by rw [hg]; exact Nat.ne_of_lt (blk_lt (by (with_reducible repeat first | apply blk_drewN | apply blk_drew | apply blk_alloc); exact BK155.out)) : gb155 ≠ gb161))
            have n7_ := Aside0.mk ((by rw [hg]; exact Nat.ne_of_gt (blk_lt (by (with_reducible repeat first | apply blk_drewN | apply blk_drew | apply blk_alloc); exact BK155.out)) : gb161 ≠ gb155))
            have n8_ := Aside0.mk ((by rw [hg]; exact Nat.ne_of_lt (blk_lt (by (with_reducible repeat first | apply blk_drewN | apply blk_drew | apply blk_alloc); exact BK156.out)) : gb156 ≠ gb161))
            have n9_ := Aside0.mk ((by rw [hg]; exact Nat.ne_of_gt (blk_lt (by (with_reducible repeat first | apply blk_drewN | apply blk_drew | apply blk_alloc); exact BK156.out)) : gb161 ≠ gb156))
            clear BK155
            clear BK156
            clear HB
            have BK155 := n0_
            have BK156 := n1_
            have HB := n2_
            have BK161 := n3_
            have GW161 := n4_
            have GE161 := n5_
            have NB155_161 := n6_
            have NB161_155 := n7_
            have NB156_161 := n8_
            have NB161_156 := n9_
            clear n0_ n1_ n2_ n3_ n4_ n5_ n6_ n7_ n8_ n9_
            clear hb hbox hg
            refine hK.out _ _ ⟨(blk_cell BK155.out 0).trans rfl, (blk_cell BK155.out 1).trans rfl, (blk_cell BK156.out 0).trans rfl, (blk_cell BK156.out 1).trans rfl⟩ (fun hHeld => ?_)
            clear hK K
            refine norm_ (a' := ?_) ?_ ?_
            rotate_left
            ·show Act.put _ (some 5) _ = _
             simp only [Act.put, List.setIfInBounds_toArray, List.set_cons_zero, List.set_cons_succ, i64_w, i32_w]
             rfl
            exact norm_ (by first | (simp only [putAll, Act.put, List.setIfInBounds_toArray, List.set_cons_zero, List.set_cons_succ]; done) | (simp only [putAll, Act.put, List.setIfInBounds_toArray, List.set_cons_zero, List.set_cons_succ]; rfl)) (hJ1_4 (gb161) _ ⟨hHeld, (by (with_reducible repeat first | apply blk_drewN | apply blk_drew | apply blk_alloc); exact BK155.out), (by (with_reducible repeat first | apply blk_drewN | apply blk_drew | apply blk_alloc); exact BK156.out), (by (with_reducible repeat first | apply blk_drewN | apply blk_drew | apply blk_alloc); exact BK161.out), GW161.out, GE161.out, NB155_161.out, NB161_155.out, NB156_161.out, NB161_156.out, (by repeat (first | (with_reducible first | exact HB.out | apply below_alloc | apply pw_below_drewN | apply below_drew1 | refine below_set ?_ GE155.out | refine below_set ?_ GE156.out | refine below_set ?_ GE161.out) | exact HB.out))⟩)
           ·skip
            refine box_step ?hg (N := 6) ?hd (cs := #[.int .i64 0, .int .i64 0]) (t := 23) ?hr ?_; (case hd => rfl); (case hg => rfl); (case hr => first | (go_simp; done) | (go_simp; rfl))
            intro gb162 hg w14 hbox hb
            have n0_ := Aside0.mk (blk_below (g := gb155) (o := .cells #[.int .i64 a0_0, .int .i64 a0_1] 23 (0, 0)) (by (with_reducible repeat first | apply blk_drewN | apply blk_drew | apply blk_alloc); exact BK155.out) hb)
            have n1_ := Aside0.mk (blk_below (g := gb156) (o := .cells #[.int .i64 a1_0, .int .i64 a1_1] 23 (0, 0)) (by (with_reducible repeat first | apply blk_drewN | apply blk_drew | apply blk_alloc); exact BK156.out) hb)
            have n2_ := Aside0.mk (below_step (by repeat (first | (with_reducible first | exact HB.out | apply below_alloc | apply pw_below_drewN | apply below_drew1 | refine below_set ?_ GE155.out | refine below_set ?_ GE156.out) | exact HB.out)) hb)
            have n3_ := Aside0.mk (hbox)
            have n4_ := Aside0.mk ((by rw [hg]; exact (below_size (by repeat (first | (with_reducible first | exact HB.out | apply below_alloc | apply pw_below_drewN | apply below_drew1 | refine below_set ?_ GE155.out | refine below_set ?_ GE156.out) | exact HB.out))) : w.heap.size ≤ gb162))
            have n5_ := Aside0.mk ((by rw [hg]; exact (below_size (by repeat (first | (with_reducible first | exact HB.out | apply below_alloc | apply pw_below_drewN | apply below_drew1 | refine below_set ?_ GE155.out | refine below_set ?_ GE156.out) | exact HB.out))) : w.heap.size ≤ gb162))
            have n6_ := Aside0.mk ((by rw [hg]; exact Nat.ne_of_lt (blk_lt (by (with_reducible repeat first | apply blk_drewN | apply blk_drew | apply blk_alloc); exact BK155.out)) : gb155 ≠ gb162))
            have n7_ := Aside0.mk ((by rw [hg]; exact Nat.ne_of_gt (blk_lt (by (with_reducible repeat first | apply blk_drewN | apply blk_drew | apply blk_alloc); exact BK155.out)) : gb162 ≠ gb155))
            have n8_ := Aside0.mk ((by rw [hg]; exact Nat.ne_of_lt (blk_lt (by (with_reducible repeat first | apply blk_drewN | apply blk_drew | apply blk_alloc); exact BK156.out)) : gb156 ≠ gb162))
            have n9_ := Aside0.mk ((by rw [hg]; exact Nat.ne_of_gt (blk_lt (by (with_reducible repeat first | apply blk_drewN | apply blk_drew | apply blk_alloc); exact BK156.out)) : gb162 ≠ gb156))
            clear BK155
            clear BK156
            clear HB
            have BK155 := n0_
            have BK156 := n1_
            have HB := n2_
            have BK162 := n3_
            have GW162 := n4_
            have GE162 := n5_
            have NB155_162 := n6_
            have NB162_155 := n7_
            have NB156_162 := n8_
            have NB162_156 := n9_
            clear n0_ n1_ n2_ n3_ n4_ n5_ n6_ n7_ n8_ n9_
            clear hb hbox hg
            refine hK.out _ _ ⟨(blk_cell BK155.out 0).trans rfl, (blk_cell BK155.out 1).trans rfl, (blk_cell BK156.out 0).trans rfl, (blk_cell BK156.out 1).trans rfl⟩ (fun hHeld => ?_)
            clear hK K
            refine norm_ (a' := ?_) ?_ ?_
            rotate_left
            ·show Act.put _ (some 6) _ = _
             simp only [Act.put, List.setIfInBounds_toArray, List.set_cons_zero, List.set_cons_succ, i64_w, i32_w]
             rfl
            exact norm_ (by first | (simp only [putAll, Act.put, List.setIfInBounds_toArray, List.set_cons_zero, List.set_cons_succ]; done) | (simp only [putAll, Act.put, List.setIfInBounds_toArray, List.set_cons_zero, List.set_cons_succ]; rfl)) (hJ1_5 (gb162) _ ⟨hHeld, (by (with_reducible repeat first | apply blk_drewN | apply blk_drew | apply blk_alloc); exact BK155.out), (by (with_reducible repeat first | apply blk_drewN | apply blk_drew | apply blk_alloc); exact BK156.out), (by (with_reducible repeat first | apply blk_drewN | apply blk_drew | apply blk_alloc); exact BK162.out), GW162.out, GE162.out, NB155_162.out, NB162_155.out, NB156_162.out, NB162_156.out, (by repeat (first | (with_reducible first | exact HB.out | apply below_alloc | apply pw_below_drewN | apply below_drew1 | refine below_set ?_ GE155.out | refine below_set ?_ GE156.out | refine below_set ?_ GE162.out) | exact HB.out))⟩)
         ·skip
          rintro ⟨gb161, gb162⟩ w14 ⟨hS_, h0_, h1_, h2_, h3_, h4_, h5_, h6_, h7_, h8_, h9_, h10_, h11_, h12_, h13_, h14_, h15_, h16_, h17_, h18_⟩
          have n0_ : Aside0 (w14.heap[gb155]? = some (.cells #[.int .i64 a0_0, .int .i64 a0_1] 23 (0, 0))) := ⟨h0_⟩
          have n1_ : Aside0 (w14.heap[gb156]? = some (.cells #[.int .i64 a1_0, .int .i64 a1_1] 23 (0, 0))) := ⟨h1_⟩
          have n2_ : Aside0 (w14.heap[gb161]? = some (.cells #[.int .i64 0, .int .i64 0] 23 (0, 0))) := ⟨h2_⟩
          have n3_ : Aside0 (w14.heap[gb162]? = some (.cells #[.int .i64 0, .int .i64 0] 23 (0, 0))) := ⟨h3_⟩
          have n4_ : Aside0 (w.heap.size ≤ gb161) := ⟨h4_⟩
          have n5_ : Aside0 (w.heap.size ≤ gb161) := ⟨h5_⟩
          have n6_ : Aside0 (gb155 ≠ gb161) := ⟨h6_⟩
          have n7_ : Aside0 (gb161 ≠ gb155) := ⟨h7_⟩
          have n8_ : Aside0 (gb156 ≠ gb161) := ⟨h8_⟩
          have n9_ : Aside0 (gb161 ≠ gb156) := ⟨h9_⟩
          have n10_ : Aside0 (gb162 ≠ gb161) := ⟨h10_⟩
          have n11_ : Aside0 (gb161 ≠ gb162) := ⟨h11_⟩
          have n12_ : Aside0 (w.heap.size ≤ gb162) := ⟨h12_⟩
          have n13_ : Aside0 (w.heap.size ≤ gb162) := ⟨h13_⟩
          have n14_ : Aside0 (gb155 ≠ gb162) := ⟨h14_⟩
          have n15_ : Aside0 (gb162 ≠ gb155) := ⟨h15_⟩
          have n16_ : Aside0 (gb156 ≠ gb162) := ⟨h16_⟩
          have n17_ : Aside0 (gb162 ≠ gb156) := ⟨h17_⟩
          have n18_ : Aside0 (Below w.heap.size w w14) := ⟨h18_⟩
          clear BK155
          clear BK156
          clear HB
          clear h0_ h1_ h2_ h3_ h4_ h5_ h6_ h7_ h8_ h9_ h10_ h11_ h12_ h13_ h14_ h15_ h16_ h17_ h18_
          have BK155 := n0_
          have BK156 := n1_
          have BK161 := n2_
          have BK162 := n3_
          have GW161 := n4_
          have GE161 := n5_
          have NB155_161 := n6_
          have NB161_155 := n7_
          have NB156_161 := n8_
          have NB161_156 := n9_
          have NB162_161 := n10_
          have NB161_162 := n11_
          have GW162 := n12_
          have GE162 := n13_
          have NB155_162 := n14_
          have NB162_155 := n15_
          have NB156_162 := n16_
          have NB162_156 := n17_
          have HB := n18_
          clear n0_ n1_ n2_ n3_ n4_ n5_ n6_ n7_ n8_ n9_ n10_ n11_ n12_ n13_ n14_ n15_ n16_ n17_ n18_
          have hHeld : w14.cell? ⟨gb155, 0, none⟩ = some (.int .i64 a0_0) ∧ w14.cell? ⟨gb155, 1, none⟩ = some (.int .i64 a0_1) ∧ w14.cell? ⟨gb156, 0, none⟩ = some (.int .i64 a1_0) ∧ w14.cell? ⟨gb156, 1, none⟩ = some (.int .i64 a1_1) := hS_
          refine norm_ (a' := ?_) ?_ ?_
          rotate_left
          ·simp only [putAll, Act.put, List.setIfInBounds_toArray, List.set_cons_zero, List.set_cons_succ]
           rfl
          refine one_ (i := 1) (N := some 13) #[true, true, true, false, true, true, false, false] rfl rfl (one_of HT_.out (by kernel_rfl)) (by decide) (fun K hK => ?_)
          refine goes_ Try.func22 (by kernel_rfl) rfl #[.agg #[.int .i64 a0_0, .int .i64 a0_1]] (by rfl) rfl rfl (by (try simp only [List.map_toArray, List.map_cons, List.map_nil]); first | done | rfl | (simp only [List.length_drop, List.length_take]; rfl)) ?_
          with_reducible refine (scriptoriumlaw05_bring.calls a0_0 a0_1 t157 t158 _ A3.out).mono ?_
          rintro e w15 ⟨rfl, hb⟩
          refine ⟨_, rfl, ?_⟩
          have n0_ := Aside0.mk (blk_below (g := gb155) (o := .cells #[.int .i64 a0_0, .int .i64 a0_1] 23 (0, 0)) (by (with_reducible repeat first | apply blk_drewN | apply blk_drew | apply blk_alloc); exact BK155.out) hb)
          have n1_ := Aside0.mk (blk_below (g := gb156) (o := .cells #[.int .i64 a1_0, .int .i64 a1_1] 23 (0, 0)) (by (with_reducible repeat first | apply blk_drewN | apply blk_drew | apply blk_alloc); exact BK156.out) hb)
          have n2_ := Aside0.mk (blk_below (g := gb161) (o := .cells #[.int .i64 0, .int .i64 0] 23 (0, 0)) (by (with_reducible repeat first | apply blk_drewN | apply blk_drew | apply blk_alloc); exact BK161.out) hb)
          have n3_ := Aside0.mk (blk_below (g := gb162) (o := .cells #[.int .i64 0, .int .i64 0] 23 (0, 0)) (by (with_reducible repeat first | apply blk_drewN | apply blk_drew | apply blk_alloc); exact BK162.out) hb)
          have n4_ := Aside0.mk (below_step (by repeat (first | (with_reducible first | exact HB.out | apply below_alloc | apply pw_below_drewN | apply below_drew1 | refine below_set ?_ GE155.out | refine below_set ?_ GE156.out | refine below_set ?_ GE161.out | refine below_set ?_ GE162.out) | exact HB.out)) hb)
          clear BK155
          clear BK156
          clear BK161
          clear BK162
          clear HB
          have BK155 := n0_
          have BK156 := n1_
          have BK161 := n2_
          have BK162 := n3_
          have HB := n4_
          clear n0_ n1_ n2_ n3_ n4_
          (try clear hb)
          (try clear hb2)
          (try clear hk)
          (try clear hi)
          refine hK.out _ _ ⟨(blk_cell BK155.out 0).trans rfl, (blk_cell BK155.out 1).trans rfl, (blk_cell BK156.out 0).trans rfl, (blk_cell BK156.out 1).trans rfl⟩ (fun hHeld => ?_)
          clear hK K
          refine norm_ (a' := ?_) ?_ ?_
          rotate_left
          ·show Act.put _ (some 13) _ = _
           simp only [Act.put, List.setIfInBounds_toArray, List.set_cons_zero, List.set_cons_succ, i64_w, i32_w]
           rfl
          exact norm_ (by first | (simp only [putAll, Act.put, List.setIfInBounds_toArray, List.set_cons_zero, List.set_cons_succ]; done) | (simp only [putAll, Act.put, List.setIfInBounds_toArray, List.set_cons_zero, List.set_cons_succ]; rfl)) (hJ1_4_5 (gb161, gb162) _ ⟨hHeld, (by (with_reducible repeat first | apply blk_drewN | apply blk_drew | apply blk_alloc); exact BK155.out), (by (with_reducible repeat first | apply blk_drewN | apply blk_drew | apply blk_alloc); exact BK156.out), (by (with_reducible repeat first | apply blk_drewN | apply blk_drew | apply blk_alloc); exact BK161.out), (by (with_reducible repeat first | apply blk_drewN | apply blk_drew | apply blk_alloc); exact BK162.out), GW161.out, GE161.out, NB155_161.out, NB161_155.out, NB156_161.out, NB161_156.out, NB162_161.out, NB161_162.out, GW162.out, GE162.out, NB155_162.out, NB162_155.out, NB156_162.out, NB162_156.out, (by repeat (first | (with_reducible first | exact HB.out | apply below_alloc | apply pw_below_drewN | apply below_drew1 | refine below_set ?_ GE155.out | refine below_set ?_ GE156.out | refine below_set ?_ GE161.out | refine below_set ?_ GE162.out) | exact HB.out))⟩)
        ·skip
         rintro gb162 w14 ⟨hS_, h0_, h1_, h2_, h3_, h4_, h5_, h6_, h7_, h8_, h9_⟩
         have n0_ : Aside0 (w14.heap[gb155]? = some (.cells #[.int .i64 a0_0, .int .i64 a0_1] 23 (0, 0))) := ⟨h0_⟩
         have n1_ : Aside0 (w14.heap[gb156]? = some (.cells #[.int .i64 a1_0, .int .i64 a1_1] 23 (0, 0))) := ⟨h1_⟩
         have n2_ : Aside0 (w14.heap[gb162]? = some (.cells #[.int .i64 0, .int .i64 0] 23 (0, 0))) := ⟨h2_⟩
         have n3_ : Aside0 (w.heap.size ≤ gb162) := ⟨h3_⟩
         have n4_ : Aside0 (w.heap.size ≤ gb162) := ⟨h4_⟩
         have n5_ : Aside0 (gb155 ≠ gb162) := ⟨h5_⟩
         have n6_ : Aside0 (gb162 ≠ gb155) := ⟨h6_⟩
         have n7_ : Aside0 (gb156 ≠ gb162) := ⟨h7_⟩
         have n8_ : Aside0 (gb162 ≠ gb156) := ⟨h8_⟩
         have n9_ : Aside0 (Below w.heap.size w w14) := ⟨h9_⟩
         clear BK155
         clear BK156
         clear HB
         clear h0_ h1_ h2_ h3_ h4_ h5_ h6_ h7_ h8_ h9_
         have BK155 := n0_
         have BK156 := n1_
         have BK162 := n2_
         have GW162 := n3_
         have GE162 := n4_
         have NB155_162 := n5_
         have NB162_155 := n6_
         have NB156_162 := n7_
         have NB162_156 := n8_
         have HB := n9_
         clear n0_ n1_ n2_ n3_ n4_ n5_ n6_ n7_ n8_ n9_
         have hHeld : w14.cell? ⟨gb155, 0, none⟩ = some (.int .i64 a0_0) ∧ w14.cell? ⟨gb155, 1, none⟩ = some (.int .i64 a0_1) ∧ w14.cell? ⟨gb156, 0, none⟩ = some (.int .i64 a1_0) ∧ w14.cell? ⟨gb156, 1, none⟩ = some (.int .i64 a1_1) := hS_
         refine norm_ (a' := ?_) ?_ ?_
         rotate_left
         ·simp only [putAll, Act.put, List.setIfInBounds_toArray, List.set_cons_zero, List.set_cons_succ]
          rfl
         refine two_ (i := 3) (j := 4) (Ni := some 15) (Nj := some 5) #[true, true, true, true, false, true, false, false] #[true, true, true, false, true, true, false, false] rfl rfl rfl rfl (two_of HT_.out (by kernel_rfl)) (by decide) (by decide) (fun K hK => ?_) (fun K hK => ?_)
         ·skip
          refine goes_ Try.func22 (by kernel_rfl) rfl #[.agg #[.int .i64 a1_0, .int .i64 a1_1]] (by rfl) rfl rfl (by (try simp only [List.map_toArray, List.map_cons, List.map_nil]); first | done | rfl | (simp only [List.length_drop, List.length_take]; rfl)) ?_
          with_reducible refine (scriptoriumlaw05_bring.calls a1_0 a1_1 t159 t160 _ A4.out).mono ?_
          rintro e w15 ⟨rfl, hb⟩
          refine ⟨_, rfl, ?_⟩
          have n0_ := Aside0.mk (blk_below (g := gb155) (o := .cells #[.int .i64 a0_0, .int .i64 a0_1] 23 (0, 0)) (by (with_reducible repeat first | apply blk_drewN | apply blk_drew | apply blk_alloc); exact BK155.out) hb)
          have n1_ := Aside0.mk (blk_below (g := gb156) (o := .cells #[.int .i64 a1_0, .int .i64 a1_1] 23 (0, 0)) (by (with_reducible repeat first | apply blk_drewN | apply blk_drew | apply blk_alloc); exact BK156.out) hb)
          have n2_ := Aside0.mk (blk_below (g := gb162) (o := .cells #[.int .i64 0, .int .i64 0] 23 (0, 0)) (by (with_reducible repeat first | apply blk_drewN | apply blk_drew | apply blk_alloc); exact BK162.out) hb)
          have n3_ := Aside0.mk (below_step (by repeat (first | (with_reducible first | exact HB.out | apply below_alloc | apply pw_below_drewN | apply below_drew1 | refine below_set ?_ GE155.out | refine below_set ?_ GE156.out | refine below_set ?_ GE162.out) | exact HB.out)) hb)
          clear BK155
          clear BK156
          clear BK162
          clear HB
          have BK155 := n0_
          have BK156 := n1_
          have BK162 := n2_
          have HB := n3_
          clear n0_ n1_ n2_ n3_
          (try clear hb)
          (try clear hb2)
          (try clear hk)
          (try clear hi)
          refine hK.out _ _ ⟨(blk_cell BK155.out 0).trans rfl, (blk_cell BK155.out 1).trans rfl, (blk_cell BK156.out 0).trans rfl, (blk_cell BK156.out 1).trans rfl⟩ (fun hHeld => ?_)
          clear hK K
          refine norm_ (a' := ?_) ?_ ?_
          rotate_left
          ·show Act.put _ (some 15) _ = _
           simp only [Act.put, List.setIfInBounds_toArray, List.set_cons_zero, List.set_cons_succ, i64_w, i32_w]
           rfl
          exact norm_ (by first | (simp only [putAll, Act.put, List.setIfInBounds_toArray, List.set_cons_zero, List.set_cons_succ]; done) | (simp only [putAll, Act.put, List.setIfInBounds_toArray, List.set_cons_zero, List.set_cons_succ]; rfl)) (hJ1_3_5 (gb162) _ ⟨hHeld, (by (with_reducible repeat first | apply blk_drewN | apply blk_drew | apply blk_alloc); exact BK155.out), (by (with_reducible repeat first | apply blk_drewN | apply blk_drew | apply blk_alloc); exact BK156.out), (by (with_reducible repeat first | apply blk_drewN | apply blk_drew | apply blk_alloc); exact BK162.out), GW162.out, GE162.out, NB155_162.out, NB162_155.out, NB156_162.out, NB162_156.out, (by repeat (first | (with_reducible first | exact HB.out | apply below_alloc | apply pw_below_drewN | apply below_drew1 | refine below_set ?_ GE155.out | refine below_set ?_ GE156.out | refine below_set ?_ GE162.out) | exact HB.out))⟩)
         ·skip
          refine box_step ?hg (N := 5) ?hd (cs := #[.int .i64 0, .int .i64 0]) (t := 23) ?hr ?_; (case hd => rfl); (case hg => rfl); (case hr => first | (go_simp; done) | (go_simp; rfl))
          intro gb161 hg w15 hbox hb
          have n0_ := Aside0.mk (blk_below (g := gb155) (o := .cells #[.int .i64 a0_0, .int .i64 a0_1] 23 (0, 0)) (by (with_reducible repeat first | apply blk_drewN | apply blk_drew | apply blk_alloc); exact BK155.out) hb)
          have n1_ := Aside0.mk (blk_below (g := gb156) (o := .cells #[.int .i64 a1_0, .int .i64 a1_1] 23 (0, 0)) (by (with_reducible repeat first | apply blk_drewN | apply blk_drew | apply blk_alloc); exact BK156.out) hb)
          have n2_ := Aside0.mk (blk_below (g := gb162) (o := .cells #[.int .i64 0, .int .i64 0] 23 (0, 0)) (by (with_reducible repeat first | apply blk_drewN | apply blk_drew | apply blk_alloc); exact BK162.out) hb)
          have n3_ := Aside0.mk (below_step (by repeat (first | (with_reducible first | exact HB.out | apply below_alloc | apply pw_below_drewN | apply below_drew1 | refine below_set ?_ GE155.out | refine below_set ?_ GE156.out | refine below_set ?_ GE162.out) | exact HB.out)) hb)
          have n4_ := Aside0.mk (hbox)
          have n5_ := Aside0.mk ((by rw [hg]; exact (below_size (by repeat (first | (with_reducible first | exact HB.out | apply below_alloc | apply pw_below_drewN | apply below_drew1 | refine below_set ?_ GE155.out | refine below_set ?_ GE156.out | refine below_set ?_ GE162.out) | exact HB.out))) : w.heap.size ≤ gb161))
          have n6_ := Aside0.mk ((by rw [hg]; exact (below_size (by repeat (first | (with_reducible first | exact HB.out | apply below_alloc | apply pw_below_drewN | apply below_drew1 | refine below_set ?_ GE155.out | refine below_set ?_ GE156.out | refine below_set ?_ GE162.out) | exact HB.out))) : w.heap.size ≤ gb161))
          have n7_ := Aside0.mk ((by rw [hg]; exact Nat.ne_of_lt (blk_lt (by (with_reducible repeat first | apply blk_drewN | apply blk_drew | apply blk_alloc); exact BK155.out)) : gb155 ≠ gb161))
          have n8_ := Aside0.mk ((by rw [hg]; exact Nat.ne_of_gt (blk_lt (by (with_reducible repeat first | apply blk_drewN | apply blk_drew | apply blk_alloc); exact BK155.out)) : gb161 ≠ gb155))
          have n9_ := Aside0.mk ((by rw [hg]; exact Nat.ne_of_lt (blk_lt (by (with_reducible repeat first | apply blk_drewN | apply blk_drew | apply blk_alloc); exact BK156.out)) : gb156 ≠ gb161))
          have n10_ := Aside0.mk ((by rw [hg]; exact Nat.ne_of_gt (blk_lt (by (with_reducible repeat first | apply blk_drewN | apply blk_drew | apply blk_alloc); exact BK156.out)) : gb161 ≠ gb156))
          have n11_ := Aside0.mk ((by rw [hg]; exact Nat.ne_of_lt (blk_lt (by (with_reducible repeat first | apply blk_drewN | apply blk_drew | apply blk_alloc); exact BK162.out)) : gb162 ≠ gb161))
          have n12_ := Aside0.mk ((by rw [hg]; exact Nat.ne_of_gt (blk_lt (by (with_reducible repeat first | apply blk_drewN | apply blk_drew | apply blk_alloc); exact BK162.out)) : gb161 ≠ gb162))
          clear BK155
          clear BK156
          clear BK162
          clear HB
          have BK155 := n0_
          have BK156 := n1_
          have BK162 := n2_
          have HB := n3_
          have BK161 := n4_
          have GW161 := n5_
          have GE161 := n6_
          have NB155_161 := n7_
          have NB161_155 := n8_
          have NB156_161 := n9_
          have NB161_156 := n10_
          have NB162_161 := n11_
          have NB161_162 := n12_
          clear n0_ n1_ n2_ n3_ n4_ n5_ n6_ n7_ n8_ n9_ n10_ n11_ n12_
          clear hb hbox hg
          refine hK.out _ _ ⟨(blk_cell BK155.out 0).trans rfl, (blk_cell BK155.out 1).trans rfl, (blk_cell BK156.out 0).trans rfl, (blk_cell BK156.out 1).trans rfl⟩ (fun hHeld => ?_)
          clear hK K
          refine norm_ (a' := ?_) ?_ ?_
          rotate_left
          ·show Act.put _ (some 5) _ = _
           simp only [Act.put, List.setIfInBounds_toArray, List.set_cons_zero, List.set_cons_succ, i64_w, i32_w]
           rfl
          exact norm_ (by first | (simp only [putAll, Act.put, List.setIfInBounds_toArray, List.set_cons_zero, List.set_cons_succ]; done) | (simp only [putAll, Act.put, List.setIfInBounds_toArray, List.set_cons_zero, List.set_cons_succ]; rfl)) (hJ1_4_5 (gb161, gb162) _ ⟨hHeld, (by (with_reducible repeat first | apply blk_drewN | apply blk_drew | apply blk_alloc); exact BK155.out), (by (with_reducible repeat first | apply blk_drewN | apply blk_drew | apply blk_alloc); exact BK156.out), (by (with_reducible repeat first | apply blk_drewN | apply blk_drew | apply blk_alloc); exact BK161.out), (by (with_reducible repeat first | apply blk_drewN | apply blk_drew | apply blk_alloc); exact BK162.out), GW161.out, GE161.out, NB155_161.out, NB161_155.out, NB156_161.out, NB161_156.out, NB162_161.out, NB161_162.out, GW162.out, GE162.out, NB155_162.out, NB162_155.out, NB156_162.out, NB162_156.out, (by repeat (first | (with_reducible first | exact HB.out | apply below_alloc | apply pw_below_drewN | apply below_drew1 | refine below_set ?_ GE155.out | refine below_set ?_ GE156.out | refine below_set ?_ GE162.out | refine below_set ?_ GE161.out) | exact HB.out))⟩)
       ·skip
        rintro gb161 w14 ⟨hS_, h0_, h1_, h2_, h3_, h4_, h5_, h6_, h7_, h8_, h9_⟩
        have n0_ : Aside0 (w14.heap[gb155]? = some (.cells #[.int .i64 a0_0, .int .i64 a0_1] 23 (0, 0))) := ⟨h0_⟩
        have n1_ : Aside0 (w14.heap[gb156]? = some (.cells #[.int .i64 a1_0, .int .i64 a1_1] 23 (0, 0))) := ⟨h1_⟩
        have n2_ : Aside0 (w14.heap[gb161]? = some (.cells #[.int .i64 0, .int .i64 0] 23 (0, 0))) := ⟨h2_⟩
        have n3_ : Aside0 (w.heap.size ≤ gb161) := ⟨h3_⟩
        have n4_ : Aside0 (w.heap.size ≤ gb161) := ⟨h4_⟩
        have n5_ : Aside0 (gb155 ≠ gb161) := ⟨h5_⟩
        have n6_ : Aside0 (gb161 ≠ gb155) := ⟨h6_⟩
        have n7_ : Aside0 (gb156 ≠ gb161) := ⟨h7_⟩
        have n8_ : Aside0 (gb161 ≠ gb156) := ⟨h8_⟩
        have n9_ : Aside0 (Below w.heap.size w w14) := ⟨h9_⟩
        clear BK155
        clear BK156
        clear HB
        clear h0_ h1_ h2_ h3_ h4_ h5_ h6_ h7_ h8_ h9_
        have BK155 := n0_
        have BK156 := n1_
        have BK161 := n2_
        have GW161 := n3_
        have GE161 := n4_
        have NB155_161 := n5_
        have NB161_155 := n6_
        have NB156_161 := n7_
        have NB161_156 := n8_
        have HB := n9_
        clear n0_ n1_ n2_ n3_ n4_ n5_ n6_ n7_ n8_ n9_
        have hHeld : w14.cell? ⟨gb155, 0, none⟩ = some (.int .i64 a0_0) ∧ w14.cell? ⟨gb155, 1, none⟩ = some (.int .i64 a0_1) ∧ w14.cell? ⟨gb156, 0, none⟩ = some (.int .i64 a1_0) ∧ w14.cell? ⟨gb156, 1, none⟩ = some (.int .i64 a1_1) := hS_
        refine norm_ (a' := ?_) ?_ ?_
        rotate_left
        ·simp only [putAll, Act.put, List.setIfInBounds_toArray, List.set_cons_zero, List.set_cons_succ]
         rfl
        refine two_ (i := 3) (j := 5) (Ni := some 15) (Nj := some 6) #[true, true, true, true, true, false, false, false] #[true, true, true, false, true, true, false, false] rfl rfl rfl rfl (two_of HT_.out (by kernel_rfl)) (by decide) (by decide) (fun K hK => ?_) (fun K hK => ?_)
        ·skip
         refine goes_ Try.func22 (by kernel_rfl) rfl #[.agg #[.int .i64 a1_0, .int .i64 a1_1]] (by rfl) rfl rfl (by (try simp only [List.map_toArray, List.map_cons, List.map_nil]); first | done | rfl | (simp only [List.length_drop, List.length_take]; rfl)) ?_
         with_reducible refine (scriptoriumlaw05_bring.calls a1_0 a1_1 t159 t160 _ A4.out).mono ?_
         rintro e w15 ⟨rfl, hb⟩
         refine ⟨_, rfl, ?_⟩
         have n0_ := Aside0.mk (blk_below (g := gb155) (o := .cells #[.int .i64 a0_0, .int .i64 a0_1] 23 (0, 0)) (by (with_reducible repeat first | apply blk_drewN | apply blk_drew | apply blk_alloc); exact BK155.out) hb)
         have n1_ := Aside0.mk (blk_below (g := gb156) (o := .cells #[.int .i64 a1_0, .int .i64 a1_1] 23 (0, 0)) (by (with_reducible repeat first | apply blk_drewN | apply blk_drew | apply blk_alloc); exact BK156.out) hb)
         have n2_ := Aside0.mk (blk_below (g := gb161) (o := .cells #[.int .i64 0, .int .i64 0] 23 (0, 0)) (by (with_reducible repeat first | apply blk_drewN | apply blk_drew | apply blk_alloc); exact BK161.out) hb)
         have n3_ := Aside0.mk (below_step (by repeat (first | (with_reducible first | exact HB.out | apply below_alloc | apply pw_below_drewN | apply below_drew1 | refine below_set ?_ GE155.out | refine below_set ?_ GE156.out | refine below_set ?_ GE161.out) | exact HB.out)) hb)
         clear BK155
         clear BK156
         clear BK161
         clear HB
         have BK155 := n0_
         have BK156 := n1_
         have BK161 := n2_
         have HB := n3_
         clear n0_ n1_ n2_ n3_
         (try clear hb)
         (try clear hb2)
         (try clear hk)
         (try clear hi)
         refine hK.out _ _ ⟨(blk_cell BK155.out 0).trans rfl, (blk_cell BK155.out 1).trans rfl, (blk_cell BK156.out 0).trans rfl, (blk_cell BK156.out 1).trans rfl⟩ (fun hHeld => ?_)
         clear hK K
         refine norm_ (a' := ?_) ?_ ?_
         rotate_left
         ·show Act.put _ (some 15) _ = _
          simp only [Act.put, List.setIfInBounds_toArray, List.set_cons_zero, List.set_cons_succ, i64_w, i32_w]
          rfl
         exact norm_ (by first | (simp only [putAll, Act.put, List.setIfInBounds_toArray, List.set_cons_zero, List.set_cons_succ]; done) | (simp only [putAll, Act.put, List.setIfInBounds_toArray, List.set_cons_zero, List.set_cons_succ]; rfl)) (hJ1_3_4 (gb161) _ ⟨hHeld, (by (with_reducible repeat first | apply blk_drewN | apply blk_drew | apply blk_alloc); exact BK155.out), (by (with_reducible repeat first | apply blk_drewN | apply blk_drew | apply blk_alloc); exact BK156.out), (by (with_reducible repeat first | apply blk_drewN | apply blk_drew | apply blk_alloc); exact BK161.out), GW161.out, GE161.out, NB155_161.out, NB161_155.out, NB156_161.out, NB161_156.out, (by repeat (first | (with_reducible first | exact HB.out | apply below_alloc | apply pw_below_drewN | apply below_drew1 | refine below_set ?_ GE155.out | refine below_set ?_ GE156.out | refine below_set ?_ GE161.out) | exact HB.out))⟩)
        ·skip
         refine box_step ?hg (N := 6) ?hd (cs := #[.int .i64 0, .int .i64 0]) (t := 23) ?hr ?_; (case hd => rfl); (case hg => rfl); (case hr => first | (go_simp; done) | (go_simp; rfl))
         intro gb162 hg w15 hbox hb
         have n0_ := Aside0.mk (blk_below (g := gb155) (o := .cells #[.int .i64 a0_0, .int .i64 a0_1] 23 (0, 0)) (by (with_reducible repeat first | apply blk_drewN | apply blk_drew | apply blk_alloc); exact BK155.out) hb)
         have n1_ := Aside0.mk (blk_below (g := gb156) (o := .cells #[.int .i64 a1_0, .int .i64 a1_1] 23 (0, 0)) (by (with_reducible repeat first | apply blk_drewN | apply blk_drew | apply blk_alloc); exact BK156.out) hb)
         have n2_ := Aside0.mk (blk_below (g := gb161) (o := .cells #[.int .i64 0, .int .i64 0] 23 (0, 0)) (by (with_reducible repeat first | apply blk_drewN | apply blk_drew | apply blk_alloc); exact BK161.out) hb)
         have n3_ := Aside0.mk (below_step (by repeat (first | (with_reducible first | exact HB.out | apply below_alloc | apply pw_below_drewN | apply below_drew1 | refine below_set ?_ GE155.out | refine below_set ?_ GE156.out | refine below_set ?_ GE161.out) | exact HB.out)) hb)
         have n4_ := Aside0.mk (hbox)
         have n5_ := Aside0.mk ((by rw [hg]; exact (below_size (by repeat (first | (with_reducible first | exact HB.out | apply below_alloc | apply pw_below_drewN | apply below_drew1 | refine below_set ?_ GE155.out | refine below_set ?_ GE156.out | refine below_set ?_ GE161.out) | exact HB.out))) : w.heap.size ≤ gb162))
         have n6_ := Aside0.mk ((by rw [hg]; exact (below_size (by repeat (first | (with_reducible first | exact HB.out | apply below_alloc | apply pw_below_drewN | apply below_drew1 | refine below_set ?_ GE155.out | refine below_set ?_ GE156.out | refine below_set ?_ GE161.out) | exact HB.out))) : w.heap.size ≤ gb162))
         have n7_ := Aside0.mk ((by rw [hg]; exact Nat.ne_of_lt (blk_lt (by (with_reducible repeat first | apply blk_drewN | apply blk_drew | apply blk_alloc); exact BK155.out)) : gb155 ≠ gb162))
         have n8_ := Aside0.mk ((by rw [hg]; exact Nat.ne_of_gt (blk_lt (by (with_reducible repeat first | apply blk_drewN | apply blk_drew | apply blk_alloc); exact BK155.out)) : gb162 ≠ gb155))
         have n9_ := Aside0.mk ((by rw [hg]; exact Nat.ne_of_lt (blk_lt (by (with_reducible repeat first | apply blk_drewN | apply blk_drew | apply blk_alloc); exact BK156.out)) : gb156 ≠ gb162))
         have n10_ := Aside0.mk ((by rw [hg]; exact Nat.ne_of_gt (blk_lt (by (with_reducible repeat first | apply blk_drewN | apply blk_drew | apply blk_alloc); exact BK156.out)) : gb162 ≠ gb156))
         have n11_ := Aside0.mk ((by rw [hg]; exact Nat.ne_of_lt (blk_lt (by (with_reducible repeat first | apply blk_drewN | apply blk_drew | apply blk_alloc); exact BK161.out)) : gb161 ≠ gb162))
         have n12_ := Aside0.mk ((by rw [hg]; exact Nat.ne_of_gt (blk_lt (by (with_reducible repeat first | apply blk_drewN | apply blk_drew | apply blk_alloc); exact BK161.out)) : gb162 ≠ gb161))
         clear BK155
         clear BK156
         clear BK161
         clear HB
         have BK155 := n0_
         have BK156 := n1_
         have BK161 := n2_
         have HB := n3_
         have BK162 := n4_
         have GW162 := n5_
         have GE162 := n6_
         have NB155_162 := n7_
         have NB162_155 := n8_
         have NB156_162 := n9_
         have NB162_156 := n10_
         have NB161_162 := n11_
         have NB162_161 := n12_
         clear n0_ n1_ n2_ n3_ n4_ n5_ n6_ n7_ n8_ n9_ n10_ n11_ n12_
         clear hb hbox hg
         refine hK.out _ _ ⟨(blk_cell BK155.out 0).trans rfl, (blk_cell BK155.out 1).trans rfl, (blk_cell BK156.out 0).trans rfl, (blk_cell BK156.out 1).trans rfl⟩ (fun hHeld => ?_)
         clear hK K
         refine norm_ (a' := ?_) ?_ ?_
         rotate_left
         ·show Act.put _ (some 6) _ = _
          simp only [Act.put, List.setIfInBounds_toArray, List.set_cons_zero, List.set_cons_succ, i64_w, i32_w]
          rfl
         exact norm_ (by first | (simp only [putAll, Act.put, List.setIfInBounds_toArray, List.set_cons_zero, List.set_cons_succ]; done) | (simp only [putAll, Act.put, List.setIfInBounds_toArray, List.set_cons_zero, List.set_cons_succ]; rfl)) (hJ1_4_5 (gb161, gb162) _ ⟨hHeld, (by (with_reducible repeat first | apply blk_drewN | apply blk_drew | apply blk_alloc); exact BK155.out), (by (with_reducible repeat first | apply blk_drewN | apply blk_drew | apply blk_alloc); exact BK156.out), (by (with_reducible repeat first | apply blk_drewN | apply blk_drew | apply blk_alloc); exact BK161.out), (by (with_reducible repeat first | apply blk_drewN | apply blk_drew | apply blk_alloc); exact BK162.out), GW161.out, GE161.out, NB155_161.out, NB161_155.out, NB156_161.out, NB161_156.out, NB162_161.out, NB161_162.out, GW162.out, GE162.out, NB155_162.out, NB162_155.out, NB156_162.out, NB162_156.out, (by repeat (first | (with_reducible first | exact HB.out | apply below_alloc | apply pw_below_drewN | apply below_drew1 | refine below_set ?_ GE155.out | refine below_set ?_ GE156.out | refine below_set ?_ GE161.out | refine below_set ?_ GE162.out) | exact HB.out))⟩)
      ·skip
       rintro _ w14 ⟨hS_, h0_, h1_, h2_⟩
       have n0_ : Aside0 (w14.heap[gb155]? = some (.cells #[.int .i64 a0_0, .int .i64 a0_1] 23 (0, 0))) := ⟨h0_⟩
       have n1_ : Aside0 (w14.heap[gb156]? = some (.cells #[.int .i64 a1_0, .int .i64 a1_1] 23 (0, 0))) := ⟨h1_⟩
       have n2_ : Aside0 (Below w.heap.size w w14) := ⟨h2_⟩
       clear BK155
       clear BK156
       clear HB
       clear h0_ h1_ h2_
       have BK155 := n0_
       have BK156 := n1_
       have HB := n2_
       clear n0_ n1_ n2_
       have hHeld : w14.cell? ⟨gb155, 0, none⟩ = some (.int .i64 a0_0) ∧ w14.cell? ⟨gb155, 1, none⟩ = some (.int .i64 a0_1) ∧ w14.cell? ⟨gb156, 0, none⟩ = some (.int .i64 a1_0) ∧ w14.cell? ⟨gb156, 1, none⟩ = some (.int .i64 a1_1) := hS_
       refine norm_ (a' := ?_) ?_ ?_
       rotate_left
       ·simp only [putAll, Act.put, List.setIfInBounds_toArray, List.set_cons_zero, List.set_cons_succ]
        rfl
       refine two_ (i := 4) (j := 5) (Ni := some 5) (Nj := some 6) #[true, true, true, true, true, false, false, false] #[true, true, true, true, false, true, false, false] rfl rfl rfl rfl (two_of HT_.out (by kernel_rfl)) (by decide) (by decide) (fun K hK => ?_) (fun K hK => ?_)
       ·skip
        refine box_step ?hg (N := 5) ?hd (cs := #[.int .i64 0, .int .i64 0]) (t := 23) ?hr ?_; (case hd => rfl); (case hg => rfl); (case hr => first | (go_simp; done) | (go_simp; rfl))
        intro gb161 hg w15 hbox hb
        have n0_ := Aside0.mk (blk_below (g := gb155) (o := .cells #[.int .i64 a0_0, .int .i64 a0_1] 23 (0, 0)) (by (with_reducible repeat first | apply blk_drewN | apply blk_drew | apply blk_alloc); exact BK155.out) hb)
        have n1_ := Aside0.mk (blk_below (g := gb156) (o := .cells #[.int .i64 a1_0, .int .i64 a1_1] 23 (0, 0)) (by (with_reducible repeat first | apply blk_drewN | apply blk_drew | apply blk_alloc); exact BK156.out) hb)
        have n2_ := Aside0.mk (below_step (by repeat (first | (with_reducible first | exact HB.out | apply below_alloc | apply pw_below_drewN | apply below_drew1 | refine below_set ?_ GE155.out | refine below_set ?_ GE156.out) | exact HB.out)) hb)
        have n3_ := Aside0.mk (hbox)
        have n4_ := Aside0.mk ((by rw [hg]; exact (below_size (by repeat (first | (with_reducible first | exact HB.out | apply below_alloc | apply pw_below_drewN | apply below_drew1 | refine below_set ?_ GE155.out | refine below_set ?_ GE156.out) | exact HB.out))) : w.heap.size ≤ gb161))
        have n5_ := Aside0.mk ((by rw [hg]; exact (below_size (by repeat (first | (with_reducible first | exact HB.out | apply below_alloc | apply pw_below_drewN | apply below_drew1 | refine below_set ?_ GE155.out | refine below_set ?_ GE156.out) | exact HB.out))) : w.heap.size ≤ gb161))
        have n6_ := Aside0.mk ((by rw [hg]; exact Nat.ne_of_lt (blk_lt (by (with_reducible repeat first | apply blk_drewN | apply blk_drew | apply blk_alloc); exact BK155.out)) : gb155 ≠ gb161))
        have n7_ := Aside0.mk ((by rw [hg]; exact Nat.ne_of_gt (blk_lt (by (with_reducible repeat first | apply blk_drewN | apply blk_drew | apply blk_alloc); exact BK155.out)) : gb161 ≠ gb155))
        have n8_ := Aside0.mk ((by rw [hg]; exact Nat.ne_of_lt (blk_lt (by (with_reducible repeat first | apply blk_drewN | apply blk_drew | apply blk_alloc); exact BK156.out)) : gb156 ≠ gb161))
        have n9_ := Aside0.mk ((by rw [hg]; exact Nat.ne_of_gt (blk_lt (by (with_reducible repeat first | apply blk_drewN | apply blk_drew | apply blk_alloc); exact BK156.out)) : gb161 ≠ gb156))
        clear BK155
        clear BK156
        clear HB
        have BK155 := n0_
        have BK156 := n1_
        have HB := n2_
        have BK161 := n3_
        have GW161 := n4_
        have GE161 := n5_
        have NB155_161 := n6_
        have NB161_155 := n7_
        have NB156_161 := n8_
        have NB161_156 := n9_
        clear n0_ n1_ n2_ n3_ n4_ n5_ n6_ n7_ n8_ n9_
        clear hb hbox hg
        refine hK.out _ _ ⟨(blk_cell BK155.out 0).trans rfl, (blk_cell BK155.out 1).trans rfl, (blk_cell BK156.out 0).trans rfl, (blk_cell BK156.out 1).trans rfl⟩ (fun hHeld => ?_)
        clear hK K
        refine norm_ (a' := ?_) ?_ ?_
        rotate_left
        ·show Act.put _ (some 5) _ = _
         simp only [Act.put, List.setIfInBounds_toArray, List.set_cons_zero, List.set_cons_succ, i64_w, i32_w]
         rfl
        exact norm_ (by first | (simp only [putAll, Act.put, List.setIfInBounds_toArray, List.set_cons_zero, List.set_cons_succ]; done) | (simp only [putAll, Act.put, List.setIfInBounds_toArray, List.set_cons_zero, List.set_cons_succ]; rfl)) (hJ1_3_4 (gb161) _ ⟨hHeld, (by (with_reducible repeat first | apply blk_drewN | apply blk_drew | apply blk_alloc); exact BK155.out), (by (with_reducible repeat first | apply blk_drewN | apply blk_drew | apply blk_alloc); exact BK156.out), (by (with_reducible repeat first | apply blk_drewN | apply blk_drew | apply blk_alloc); exact BK161.out), GW161.out, GE161.out, NB155_161.out, NB161_155.out, NB156_161.out, NB161_156.out, (by repeat (first | (with_reducible first | exact HB.out | apply below_alloc | apply pw_below_drewN | apply below_drew1 | refine below_set ?_ GE155.out | refine below_set ?_ GE156.out | refine below_set ?_ GE161.out) | exact HB.out))⟩)
       ·skip
        refine box_step ?hg (N := 6) ?hd (cs := #[.int .i64 0, .int .i64 0]) (t := 23) ?hr ?_; (case hd => rfl); (case hg => rfl); (case hr => first | (go_simp; done) | (go_simp; rfl))
        intro gb162 hg w15 hbox hb
        have n0_ := Aside0.mk (blk_below (g := gb155) (o := .cells #[.int .i64 a0_0, .int .i64 a0_1] 23 (0, 0)) (by (with_reducible repeat first | apply blk_drewN | apply blk_drew | apply blk_alloc); exact BK155.out) hb)
        have n1_ := Aside0.mk (blk_below (g := gb156) (o := .cells #[.int .i64 a1_0, .int .i64 a1_1] 23 (0, 0)) (by (with_reducible repeat first | apply blk_drewN | apply blk_drew | apply blk_alloc); exact BK156.out) hb)
        have n2_ := Aside0.mk (below_step (by repeat (first | (with_reducible first | exact HB.out | apply below_alloc | apply pw_below_drewN | apply below_drew1 | refine below_set ?_ GE155.out | refine below_set ?_ GE156.out) | exact HB.out)) hb)
        have n3_ := Aside0.mk (hbox)
        have n4_ := Aside0.mk ((by rw [hg]; exact (below_size (by repeat (first | (with_reducible first | exact HB.out | apply below_alloc | apply pw_below_drewN | apply below_drew1 | refine below_set ?_ GE155.out | refine below_set ?_ GE156.out) | exact HB.out))) : w.heap.size ≤ gb162))
        have n5_ := Aside0.mk ((by rw [hg]; exact (below_size (by repeat (first | (with_reducible first | exact HB.out | apply below_alloc | apply pw_below_drewN | apply below_drew1 | refine below_set ?_ GE155.out | refine below_set ?_ GE156.out) | exact HB.out))) : w.heap.size ≤ gb162))
        have n6_ := Aside0.mk ((by rw [hg]; exact Nat.ne_of_lt (blk_lt (by (with_reducible repeat first | apply blk_drewN | apply blk_drew | apply blk_alloc); exact BK155.out)) : gb155 ≠ gb162))
        have n7_ := Aside0.mk ((by rw [hg]; exact Nat.ne_of_gt (blk_lt (by (with_reducible repeat first | apply blk_drewN | apply blk_drew | apply blk_alloc); exact BK155.out)) : gb162 ≠ gb155))
        have n8_ := Aside0.mk ((by rw [hg]; exact Nat.ne_of_lt (blk_lt (by (with_reducible repeat first | apply blk_drewN | apply blk_drew | apply blk_alloc); exact BK156.out)) : gb156 ≠ gb162))
        have n9_ := Aside0.mk ((by rw [hg]; exact Nat.ne_of_gt (blk_lt (by (with_reducible repeat first | apply blk_drewN | apply blk_drew | apply blk_alloc); exact BK156.out)) : gb162 ≠ gb156))
        clear BK155
        clear BK156
        clear HB
        have BK155 := n0_
        have BK156 := n1_
        have HB := n2_
        have BK162 := n3_
        have GW162 := n4_
        have GE162 := n5_
        have NB155_162 := n6_
        have NB162_155 := n7_
        have NB156_162 := n8_
        have NB162_156 := n9_
        clear n0_ n1_ n2_ n3_ n4_ n5_ n6_ n7_ n8_ n9_
        clear hb hbox hg
        refine hK.out _ _ ⟨(blk_cell BK155.out 0).trans rfl, (blk_cell BK155.out 1).trans rfl, (blk_cell BK156.out 0).trans rfl, (blk_cell BK156.out 1).trans rfl⟩ (fun hHeld => ?_)
        clear hK K
        refine norm_ (a' := ?_) ?_ ?_
        rotate_left
        ·show Act.put _ (some 6) _ = _
         simp only [Act.put, List.setIfInBounds_toArray, List.set_cons_zero, List.set_cons_succ, i64_w, i32_w]
         rfl
        exact norm_ (by first | (simp only [putAll, Act.put, List.setIfInBounds_toArray, List.set_cons_zero, List.set_cons_succ]; done) | (simp only [putAll, Act.put, List.setIfInBounds_toArray, List.set_cons_zero, List.set_cons_succ]; rfl)) (hJ1_3_5 (gb162) _ ⟨hHeld, (by (with_reducible repeat first | apply blk_drewN | apply blk_drew | apply blk_alloc); exact BK155.out), (by (with_reducible repeat first | apply blk_drewN | apply blk_drew | apply blk_alloc); exact BK156.out), (by (with_reducible repeat first | apply blk_drewN | apply blk_drew | apply blk_alloc); exact BK162.out), GW162.out, GE162.out, NB155_162.out, NB162_155.out, NB156_162.out, NB162_156.out, (by repeat (first | (with_reducible first | exact HB.out | apply below_alloc | apply pw_below_drewN | apply below_drew1 | refine below_set ?_ GE155.out | refine below_set ?_ GE156.out | refine below_set ?_ GE162.out) | exact HB.out))⟩)
     ·skip
      rintro ⟨gb161, gb162⟩ w15 ⟨hS_, h0_, h1_, h2_, h3_, h4_, h5_, h6_, h7_, h8_, h9_, h10_, h11_, h12_, h13_, h14_, h15_, h16_, h17_, h18_⟩
      have n0_ : Aside0 (w15.heap[gb155]? = some (.cells #[.int .i64 a0_0, .int .i64 a0_1] 23 (0, 0))) := ⟨h0_⟩
      have n1_ : Aside0 (w15.heap[gb156]? = some (.cells #[.int .i64 a1_0, .int .i64 a1_1] 23 (0, 0))) := ⟨h1_⟩
      have n2_ : Aside0 (w15.heap[gb161]? = some (.cells #[.int .i64 0, .int .i64 0] 23 (0, 0))) := ⟨h2_⟩
      have n3_ : Aside0 (w15.heap[gb162]? = some (.cells #[.int .i64 0, .int .i64 0] 23 (0, 0))) := ⟨h3_⟩
      have n4_ : Aside0 (w.heap.size ≤ gb161) := ⟨h4_⟩
      have n5_ : Aside0 (w.heap.size ≤ gb161) := ⟨h5_⟩
      have n6_ : Aside0 (gb155 ≠ gb161) := ⟨h6_⟩
      have n7_ : Aside0 (gb161 ≠ gb155) := ⟨h7_⟩
      have n8_ : Aside0 (gb156 ≠ gb161) := ⟨h8_⟩
      have n9_ : Aside0 (gb161 ≠ gb156) := ⟨h9_⟩
      have n10_ : Aside0 (gb162 ≠ gb161) := ⟨h10_⟩
      have n11_ : Aside0 (gb161 ≠ gb162) := ⟨h11_⟩
      have n12_ : Aside0 (w.heap.size ≤ gb162) := ⟨h12_⟩
      have n13_ : Aside0 (w.heap.size ≤ gb162) := ⟨h13_⟩
      have n14_ : Aside0 (gb155 ≠ gb162) := ⟨h14_⟩
      have n15_ : Aside0 (gb162 ≠ gb155) := ⟨h15_⟩
      have n16_ : Aside0 (gb156 ≠ gb162) := ⟨h16_⟩
      have n17_ : Aside0 (gb162 ≠ gb156) := ⟨h17_⟩
      have n18_ : Aside0 (Below w.heap.size w w15) := ⟨h18_⟩
      clear BK155
      clear BK156
      clear HB
      clear h0_ h1_ h2_ h3_ h4_ h5_ h6_ h7_ h8_ h9_ h10_ h11_ h12_ h13_ h14_ h15_ h16_ h17_ h18_
      have BK155 := n0_
      have BK156 := n1_
      have BK161 := n2_
      have BK162 := n3_
      have GW161 := n4_
      have GE161 := n5_
      have NB155_161 := n6_
      have NB161_155 := n7_
      have NB156_161 := n8_
      have NB161_156 := n9_
      have NB162_161 := n10_
      have NB161_162 := n11_
      have GW162 := n12_
      have GE162 := n13_
      have NB155_162 := n14_
      have NB162_155 := n15_
      have NB156_162 := n16_
      have NB162_156 := n17_
      have HB := n18_
      clear n0_ n1_ n2_ n3_ n4_ n5_ n6_ n7_ n8_ n9_ n10_ n11_ n12_ n13_ n14_ n15_ n16_ n17_ n18_
      have hHeld : w15.cell? ⟨gb155, 0, none⟩ = some (.int .i64 a0_0) ∧ w15.cell? ⟨gb155, 1, none⟩ = some (.int .i64 a0_1) ∧ w15.cell? ⟨gb156, 0, none⟩ = some (.int .i64 a1_0) ∧ w15.cell? ⟨gb156, 1, none⟩ = some (.int .i64 a1_1) := hS_
      refine norm_ (a' := ?_) ?_ ?_
      rotate_left
      ·simp only [putAll, Act.put, List.setIfInBounds_toArray, List.set_cons_zero, List.set_cons_succ]
       rfl
      refine one_ (i := 3) (N := some 15) #[true, true, true, true, true, true, false, false] rfl rfl (one_of HT_.out (by kernel_rfl)) (by decide) (fun K hK => ?_)
      refine goes_ Try.func22 (by kernel_rfl) rfl #[.agg #[.int .i64 a1_0, .int .i64 a1_1]] (by rfl) rfl rfl (by (try simp only [List.map_toArray, List.map_cons, List.map_nil]); first | done | rfl | (simp only [List.length_drop, List.length_take]; rfl)) ?_
      with_reducible refine (scriptoriumlaw05_bring.calls a1_0 a1_1 t159 t160 _ A4.out).mono ?_
      rintro e w16 ⟨rfl, hb⟩
      refine ⟨_, rfl, ?_⟩
      have n0_ := Aside0.mk (blk_below (g := gb155) (o := .cells #[.int .i64 a0_0, .int .i64 a0_1] 23 (0, 0)) (by (with_reducible repeat first | apply blk_drewN | apply blk_drew | apply blk_alloc); exact BK155.out) hb)
      have n1_ := Aside0.mk (blk_below (g := gb156) (o := .cells #[.int .i64 a1_0, .int .i64 a1_1] 23 (0, 0)) (by (with_reducible repeat first | apply blk_drewN | apply blk_drew | apply blk_alloc); exact BK156.out) hb)
      have n2_ := Aside0.mk (blk_below (g := gb161) (o := .cells #[.int .i64 0, .int .i64 0] 23 (0, 0)) (by (with_reducible repeat first | apply blk_drewN | apply blk_drew | apply blk_alloc); exact BK161.out) hb)
      have n3_ := Aside0.mk (blk_below (g := gb162) (o := .cells #[.int .i64 0, .int .i64 0] 23 (0, 0)) (by (with_reducible repeat first | apply blk_drewN | apply blk_drew | apply blk_alloc); exact BK162.out) hb)
      have n4_ := Aside0.mk (below_step (by repeat (first | (with_reducible first | exact HB.out | apply below_alloc | apply pw_below_drewN | apply below_drew1 | refine below_set ?_ GE155.out | refine below_set ?_ GE156.out | refine below_set ?_ GE161.out | refine below_set ?_ GE162.out) | exact HB.out)) hb)
      clear BK155
      clear BK156
      clear BK161
      clear BK162
      clear HB
      have BK155 := n0_
      have BK156 := n1_
      have BK161 := n2_
      have BK162 := n3_
      have HB := n4_
      clear n0_ n1_ n2_ n3_ n4_
      (try clear hb)
      (try clear hb2)
      (try clear hk)
      (try clear hi)
      refine hK.out _ _ ⟨(blk_cell BK155.out 0).trans rfl, (blk_cell BK155.out 1).trans rfl, (blk_cell BK156.out 0).trans rfl, (blk_cell BK156.out 1).trans rfl⟩ (fun hHeld => ?_)
      clear hK K
      refine norm_ (a' := ?_) ?_ ?_
      rotate_left
      ·show Act.put _ (some 15) _ = _
       simp only [Act.put, List.setIfInBounds_toArray, List.set_cons_zero, List.set_cons_succ, i64_w, i32_w]
       rfl
      exact norm_ (by first | (simp only [putAll, Act.put, List.setIfInBounds_toArray, List.set_cons_zero, List.set_cons_succ]; done) | (simp only [putAll, Act.put, List.setIfInBounds_toArray, List.set_cons_zero, List.set_cons_succ]; rfl)) (hJ1_3_4_5 (gb161, gb162) _ ⟨hHeld, (by (with_reducible repeat first | apply blk_drewN | apply blk_drew | apply blk_alloc); exact BK155.out), (by (with_reducible repeat first | apply blk_drewN | apply blk_drew | apply blk_alloc); exact BK156.out), (by (with_reducible repeat first | apply blk_drewN | apply blk_drew | apply blk_alloc); exact BK161.out), (by (with_reducible repeat first | apply blk_drewN | apply blk_drew | apply blk_alloc); exact BK162.out), GW161.out, GE161.out, NB155_161.out, NB161_155.out, NB156_161.out, NB161_156.out, NB162_161.out, NB161_162.out, GW162.out, GE162.out, NB155_162.out, NB162_155.out, NB156_162.out, NB162_156.out, (by repeat (first | (with_reducible first | exact HB.out | apply below_alloc | apply pw_below_drewN | apply below_drew1 | refine below_set ?_ GE155.out | refine below_set ?_ GE156.out | refine below_set ?_ GE161.out | refine below_set ?_ GE162.out) | exact HB.out))⟩)
    ·skip
     rintro gb162 w15 ⟨hS_, h0_, h1_, h2_, h3_, h4_, h5_, h6_, h7_, h8_, h9_⟩
     have n0_ : Aside0 (w15.heap[gb155]? = some (.cells #[.int .i64 a0_0, .int .i64 a0_1] 23 (0, 0))) := ⟨h0_⟩
     have n1_ : Aside0 (w15.heap[gb156]? = some (.cells #[.int .i64 a1_0, .int .i64 a1_1] 23 (0, 0))) := ⟨h1_⟩
     have n2_ : Aside0 (w15.heap[gb162]? = some (.cells #[.int .i64 0, .int .i64 0] 23 (0, 0))) := ⟨h2_⟩
     have n3_ : Aside0 (w.heap.size ≤ gb162) := ⟨h3_⟩
     have n4_ : Aside0 (w.heap.size ≤ gb162) := ⟨h4_⟩
     have n5_ : Aside0 (gb155 ≠ gb162) := ⟨h5_⟩
     have n6_ : Aside0 (gb162 ≠ gb155) := ⟨h6_⟩
     have n7_ : Aside0 (gb156 ≠ gb162) := ⟨h7_⟩
     have n8_ : Aside0 (gb162 ≠ gb156) := ⟨h8_⟩
     have n9_ : Aside0 (Below w.heap.size w w15) := ⟨h9_⟩
     clear BK155
     clear BK156
     clear HB
     clear h0_ h1_ h2_ h3_ h4_ h5_ h6_ h7_ h8_ h9_
     have BK155 := n0_
     have BK156 := n1_
     have BK162 := n2_
     have GW162 := n3_
     have GE162 := n4_
     have NB155_162 := n5_
     have NB162_155 := n6_
     have NB156_162 := n7_
     have NB162_156 := n8_
     have HB := n9_
     clear n0_ n1_ n2_ n3_ n4_ n5_ n6_ n7_ n8_ n9_
     have hHeld : w15.cell? ⟨gb155, 0, none⟩ = some (.int .i64 a0_0) ∧ w15.cell? ⟨gb155, 1, none⟩ = some (.int .i64 a0_1) ∧ w15.cell? ⟨gb156, 0, none⟩ = some (.int .i64 a1_0) ∧ w15.cell? ⟨gb156, 1, none⟩ = some (.int .i64 a1_1) := hS_
     refine norm_ (a' := ?_) ?_ ?_
     rotate_left
     ·simp only [putAll, Act.put, List.setIfInBounds_toArray, List.set_cons_zero, List.set_cons_succ]
      rfl
     refine one_ (i := 4) (N := some 5) #[true, true, true, true, true, true, false, false] rfl rfl (one_of HT_.out (by kernel_rfl)) (by decide) (fun K hK => ?_)
     refine box_step ?hg (N := 5) ?hd (cs := #[.int .i64 0, .int .i64 0]) (t := 23) ?hr ?_; (case hd => rfl); (case hg => rfl); (case hr => first | (go_simp; done) | (go_simp; rfl))
     intro gb161 hg w16 hbox hb
     have n0_ := Aside0.mk (blk_below (g := gb155) (o := .cells #[.int .i64 a0_0, .int .i64 a0_1] 23 (0, 0)) (by (with_reducible repeat first | apply blk_drewN | apply blk_drew | apply blk_alloc); exact BK155.out) hb)
     have n1_ := Aside0.mk (blk_below (g := gb156) (o := .cells #[.int .i64 a1_0, .int .i64 a1_1] 23 (0, 0)) (by (with_reducible repeat first | apply blk_drewN | apply blk_drew | apply blk_alloc); exact BK156.out) hb)
     have n2_ := Aside0.mk (blk_below (g := gb162) (o := .cells #[.int .i64 0, .int .i64 0] 23 (0, 0)) (by (with_reducible repeat first | apply blk_drewN | apply blk_drew | apply blk_alloc); exact BK162.out) hb)
     have n3_ := Aside0.mk (below_step (by repeat (first | (with_reducible first | exact HB.out | apply below_alloc | apply pw_below_drewN | apply below_drew1 | refine below_set ?_ GE155.out | refine below_set ?_ GE156.out | refine below_set ?_ GE162.out) | exact HB.out)) hb)
     have n4_ := Aside0.mk (hbox)
     have n5_ := Aside0.mk ((by rw [hg]; exact (below_size (by repeat (first | (with_reducible first | exact HB.out | apply below_alloc | apply pw_below_drewN | apply below_drew1 | refine below_set ?_ GE155.out | refine below_set ?_ GE156.out | refine below_set ?_ GE162.out) | exact HB.out))) : w.heap.size ≤ gb161))
     have n6_ := Aside0.mk ((by rw [hg]; exact (below_size (by repeat (first | (with_reducible first | exact HB.out | apply below_alloc | apply pw_below_drewN | apply below_drew1 | refine below_set ?_ GE155.out | refine below_set ?_ GE156.out | refine below_set ?_ GE162.out) | exact HB.out))) : w.heap.size ≤ gb161))
     have n7_ := Aside0.mk ((by rw [hg]; exact Nat.ne_of_lt (blk_lt (by (with_reducible repeat first | apply blk_drewN | apply blk_drew | apply blk_alloc); exact BK155.out)) : gb155 ≠ gb161))
     have n8_ := Aside0.mk ((by rw [hg]; exact Nat.ne_of_gt (blk_lt (by (with_reducible repeat first | apply blk_drewN | apply blk_drew | apply blk_alloc); exact BK155.out)) : gb161 ≠ gb155))
     have n9_ := Aside0.mk ((by rw [hg]; exact Nat.ne_of_lt (blk_lt (by (with_reducible repeat first | apply blk_drewN | apply blk_drew | apply blk_alloc); exact BK156.out)) : gb156 ≠ gb161))
     have n10_ := Aside0.mk ((by rw [hg]; exact Nat.ne_of_gt (blk_lt (by (with_reducible repeat first | apply blk_drewN | apply blk_drew | apply blk_alloc); exact BK156.out)) : gb161 ≠ gb156))
     have n11_ := Aside0.mk ((by rw [hg]; exact Nat.ne_of_lt (blk_lt (by (with_reducible repeat first | apply blk_drewN | apply blk_drew | apply blk_alloc); exact BK162.out)) : gb162 ≠ gb161))
     have n12_ := Aside0.mk ((by rw [hg]; exact Nat.ne_of_gt (blk_lt (by (with_reducible repeat first | apply blk_drewN | apply blk_drew | apply blk_alloc); exact BK162.out)) : gb161 ≠ gb162))
     clear BK155
     clear BK156
     clear BK162
     clear HB
     have BK155 := n0_
     have BK156 := n1_
     have BK162 := n2_
     have HB := n3_
     have BK161 := n4_
     have GW161 := n5_
     have GE161 := n6_
     have NB155_161 := n7_
     have NB161_155 := n8_
     have NB156_161 := n9_
     have NB161_156 := n10_
     have NB162_161 := n11_
     have NB161_162 := n12_
     clear n0_ n1_ n2_ n3_ n4_ n5_ n6_ n7_ n8_ n9_ n10_ n11_ n12_
     clear hb hbox hg
     refine hK.out _ _ ⟨(blk_cell BK155.out 0).trans rfl, (blk_cell BK155.out 1).trans rfl, (blk_cell BK156.out 0).trans rfl, (blk_cell BK156.out 1).trans rfl⟩ (fun hHeld => ?_)
     clear hK K
     refine norm_ (a' := ?_) ?_ ?_
     rotate_left
     ·show Act.put _ (some 5) _ = _
      simp only [Act.put, List.setIfInBounds_toArray, List.set_cons_zero, List.set_cons_succ, i64_w, i32_w]
      rfl
     exact norm_ (by first | (simp only [putAll, Act.put, List.setIfInBounds_toArray, List.set_cons_zero, List.set_cons_succ]; done) | (simp only [putAll, Act.put, List.setIfInBounds_toArray, List.set_cons_zero, List.set_cons_succ]; rfl)) (hJ1_3_4_5 (gb161, gb162) _ ⟨hHeld, (by (with_reducible repeat first | apply blk_drewN | apply blk_drew | apply blk_alloc); exact BK155.out), (by (with_reducible repeat first | apply blk_drewN | apply blk_drew | apply blk_alloc); exact BK156.out), (by (with_reducible repeat first | apply blk_drewN | apply blk_drew | apply blk_alloc); exact BK161.out), (by (with_reducible repeat first | apply blk_drewN | apply blk_drew | apply blk_alloc); exact BK162.out), GW161.out, GE161.out, NB155_161.out, NB161_155.out, NB156_161.out, NB161_156.out, NB162_161.out, NB161_162.out, GW162.out, GE162.out, NB155_162.out, NB162_155.out, NB156_162.out, NB162_156.out, (by repeat (first | (with_reducible first | exact HB.out | apply below_alloc | apply pw_below_drewN | apply below_drew1 | refine below_set ?_ GE155.out | refine below_set ?_ GE156.out | refine below_set ?_ GE162.out | refine below_set ?_ GE161.out) | exact HB.out))⟩)
   ·skip
    rintro gb161 w15 ⟨hS_, h0_, h1_, h2_, h3_, h4_, h5_, h6_, h7_, h8_, h9_⟩
    have n0_ : Aside0 (w15.heap[gb155]? = some (.cells #[.int .i64 a0_0, .int .i64 a0_1] 23 (0, 0))) := ⟨h0_⟩
    have n1_ : Aside0 (w15.heap[gb156]? = some (.cells #[.int .i64 a1_0, .int .i64 a1_1] 23 (0, 0))) := ⟨h1_⟩
    have n2_ : Aside0 (w15.heap[gb161]? = some (.cells #[.int .i64 0, .int .i64 0] 23 (0, 0))) := ⟨h2_⟩
    have n3_ : Aside0 (w.heap.size ≤ gb161) := ⟨h3_⟩
    have n4_ : Aside0 (w.heap.size ≤ gb161) := ⟨h4_⟩
    have n5_ : Aside0 (gb155 ≠ gb161) := ⟨h5_⟩
    have n6_ : Aside0 (gb161 ≠ gb155) := ⟨h6_⟩
    have n7_ : Aside0 (gb156 ≠ gb161) := ⟨h7_⟩
    have n8_ : Aside0 (gb161 ≠ gb156) := ⟨h8_⟩
    have n9_ : Aside0 (Below w.heap.size w w15) := ⟨h9_⟩
    clear BK155
    clear BK156
    clear HB
    clear h0_ h1_ h2_ h3_ h4_ h5_ h6_ h7_ h8_ h9_
    have BK155 := n0_
    have BK156 := n1_
    have BK161 := n2_
    have GW161 := n3_
    have GE161 := n4_
    have NB155_161 := n5_
    have NB161_155 := n6_
    have NB156_161 := n7_
    have NB161_156 := n8_
    have HB := n9_
    clear n0_ n1_ n2_ n3_ n4_ n5_ n6_ n7_ n8_ n9_
    have hHeld : w15.cell? ⟨gb155, 0, none⟩ = some (.int .i64 a0_0) ∧ w15.cell? ⟨gb155, 1, none⟩ = some (.int .i64 a0_1) ∧ w15.cell? ⟨gb156, 0, none⟩ = some (.int .i64 a1_0) ∧ w15.cell? ⟨gb156, 1, none⟩ = some (.int .i64 a1_1) := hS_
    refine norm_ (a' := ?_) ?_ ?_
    rotate_left
    ·simp only [putAll, Act.put, List.setIfInBounds_toArray, List.set_cons_zero, List.set_cons_succ]
     rfl
    refine one_ (i := 5) (N := some 6) #[true, true, true, true, true, true, false, false] rfl rfl (one_of HT_.out (by kernel_rfl)) (by decide) (fun K hK => ?_)
    refine box_step ?hg (N := 6) ?hd (cs := #[.int .i64 0, .int .i64 0]) (t := 23) ?hr ?_; (case hd => rfl); (case hg => rfl); (case hr => first | (go_simp; done) | (go_simp; rfl))
    intro gb162 hg w16 hbox hb
    have n0_ := Aside0.mk (blk_below (g := gb155) (o := .cells #[.int .i64 a0_0, .int .i64 a0_1] 23 (0, 0)) (by (with_reducible repeat first | apply blk_drewN | apply blk_drew | apply blk_alloc); exact BK155.out) hb)
    have n1_ := Aside0.mk (blk_below (g := gb156) (o := .cells #[.int .i64 a1_0, .int .i64 a1_1] 23 (0, 0)) (by (with_reducible repeat first | apply blk_drewN | apply blk_drew | apply blk_alloc); exact BK156.out) hb)
    have n2_ := Aside0.mk (blk_below (g := gb161) (o := .cells #[.int .i64 0, .int .i64 0] 23 (0, 0)) (by (with_reducible repeat first | apply blk_drewN | apply blk_drew | apply blk_alloc); exact BK161.out) hb)
    have n3_ := Aside0.mk (below_step (by repeat (first | (with_reducible first | exact HB.out | apply below_alloc | apply pw_below_drewN | apply below_drew1 | refine below_set ?_ GE155.out | refine below_set ?_ GE156.out | refine below_set ?_ GE161.out) | exact HB.out)) hb)
    have n4_ := Aside0.mk (hbox)
    have n5_ := Aside0.mk ((by rw [hg]; exact (below_size (by repeat (first | (with_reducible first | exact HB.out | apply below_alloc | apply pw_below_drewN | apply below_drew1 | refine below_set ?_ GE155.out | refine below_set ?_ GE156.out | refine below_set ?_ GE161.out) | exact HB.out))) : w.heap.size ≤ gb162))
    have n6_ := Aside0.mk ((by rw [hg]; exact (below_size (by repeat (first | (with_reducible first | exact HB.out | apply below_alloc | apply pw_below_drewN | apply below_drew1 | refine below_set ?_ GE155.out | refine below_set ?_ GE156.out | refine below_set ?_ GE161.out) | exact HB.out))) : w.heap.size ≤ gb162))
    have n7_ := Aside0.mk ((by rw [hg]; exact Nat.ne_of_lt (blk_lt (by (with_reducible repeat first | apply blk_drewN | apply blk_drew | apply blk_alloc); exact BK155.out)) : gb155 ≠ gb162))
    have n8_ := Aside0.mk ((by rw [hg]; exact Nat.ne_of_gt (blk_lt (by (with_reducible repeat first | apply blk_drewN | apply blk_drew | apply blk_alloc); exact BK155.out)) : gb162 ≠ gb155))
    have n9_ := Aside0.mk ((by rw [hg]; exact Nat.ne_of_lt (blk_lt (by (with_reducible repeat first | apply blk_drewN | apply blk_drew | apply blk_alloc); exact BK156.out)) : gb156 ≠ gb162))
    have n10_ := Aside0.mk ((by rw [hg]; exact Nat.ne_of_gt (blk_lt (by (with_reducible repeat first | apply blk_drewN | apply blk_drew | apply blk_alloc); exact BK156.out)) : gb162 ≠ gb156))
    have n11_ := Aside0.mk ((by rw [hg]; exact Nat.ne_of_lt (blk_lt (by (with_reducible repeat first | apply blk_drewN | apply blk_drew | apply blk_alloc); exact BK161.out)) : gb161 ≠ gb162))
    have n12_ := Aside0.mk ((by rw [hg]; exact Nat.ne_of_gt (blk_lt (by (with_reducible repeat first | apply blk_drewN | apply blk_drew | apply blk_alloc); exact BK161.out)) : gb162 ≠ gb161))
    clear BK155
    clear BK156
    clear BK161
    clear HB
    have BK155 := n0_
    have BK156 := n1_
    have BK161 := n2_
    have HB := n3_
    have BK162 := n4_
    have GW162 := n5_
    have GE162 := n6_
    have NB155_162 := n7_
    have NB162_155 := n8_
    have NB156_162 := n9_
    have NB162_156 := n10_
    have NB161_162 := n11_
    have NB162_161 := n12_
    clear n0_ n1_ n2_ n3_ n4_ n5_ n6_ n7_ n8_ n9_ n10_ n11_ n12_
    clear hb hbox hg
    refine hK.out _ _ ⟨(blk_cell BK155.out 0).trans rfl, (blk_cell BK155.out 1).trans rfl, (blk_cell BK156.out 0).trans rfl, (blk_cell BK156.out 1).trans rfl⟩ (fun hHeld => ?_)
    clear hK K
    refine norm_ (a' := ?_) ?_ ?_
    rotate_left
    ·show Act.put _ (some 6) _ = _
     simp only [Act.put, List.setIfInBounds_toArray, List.set_cons_zero, List.set_cons_succ, i64_w, i32_w]
     rfl
    exact norm_ (by first | (simp only [putAll, Act.put, List.setIfInBounds_toArray, List.set_cons_zero, List.set_cons_succ]; done) | (simp only [putAll, Act.put, List.setIfInBounds_toArray, List.set_cons_zero, List.set_cons_succ]; rfl)) (hJ1_3_4_5 (gb161, gb162) _ ⟨hHeld, (by (with_reducible repeat first | apply blk_drewN | apply blk_drew | apply blk_alloc); exact BK155.out), (by (with_reducible repeat first | apply blk_drewN | apply blk_drew | apply blk_alloc); exact BK156.out), (by (with_reducible repeat first | apply blk_drewN | apply blk_drew | apply blk_alloc); exact BK161.out), (by (with_reducible repeat first | apply blk_drewN | apply blk_drew | apply blk_alloc); exact BK162.out), GW161.out, GE161.out, NB155_161.out, NB161_155.out, NB156_161.out, NB161_156.out, NB162_161.out, NB161_162.out, GW162.out, GE162.out, NB155_162.out, NB162_155.out, NB156_162.out, NB162_156.out, (by repeat (first | (with_reducible first | exact HB.out | apply below_alloc | apply pw_below_drewN | apply below_drew1 | refine below_set ?_ GE155.out | refine below_set ?_ GE156.out | refine below_set ?_ GE161.out | refine below_set ?_ GE162.out) | exact HB.out))⟩)
  rintro ⟨gb161, gb162⟩ w16 ⟨hS_, h0_, h1_, h2_, h3_, h4_, h5_, h6_, h7_, h8_, h9_, h10_, h11_, h12_, h13_, h14_, h15_, h16_, h17_, h18_⟩
  have n0_ : Aside0 (w16.heap[gb155]? = some (.cells #[.int .i64 a0_0, .int .i64 a0_1] 23 (0, 0))) := ⟨h0_⟩
  have n1_ : Aside0 (w16.heap[gb156]? = some (.cells #[.int .i64 a1_0, .int .i64 a1_1] 23 (0, 0))) := ⟨h1_⟩
  have n2_ : Aside0 (w16.heap[gb161]? = some (.cells #[.int .i64 0, .int .i64 0] 23 (0, 0))) := ⟨h2_⟩
  have n3_ : Aside0 (w16.heap[gb162]? = some (.cells #[.int .i64 0, .int .i64 0] 23 (0, 0))) := ⟨h3_⟩
  have n4_ : Aside0 (w.heap.size ≤ gb161) := ⟨h4_⟩
  have n5_ : Aside0 (w.heap.size ≤ gb161) := ⟨h5_⟩
  have n6_ : Aside0 (gb155 ≠ gb161) := ⟨h6_⟩
  have n7_ : Aside0 (gb161 ≠ gb155) := ⟨h7_⟩
  have n8_ : Aside0 (gb156 ≠ gb161) := ⟨h8_⟩
  have n9_ : Aside0 (gb161 ≠ gb156) := ⟨h9_⟩
  have n10_ : Aside0 (gb162 ≠ gb161) := ⟨h10_⟩
  have n11_ : Aside0 (gb161 ≠ gb162) := ⟨h11_⟩
  have n12_ : Aside0 (w.heap.size ≤ gb162) := ⟨h12_⟩
  have n13_ : Aside0 (w.heap.size ≤ gb162) := ⟨h13_⟩
  have n14_ : Aside0 (gb155 ≠ gb162) := ⟨h14_⟩
  have n15_ : Aside0 (gb162 ≠ gb155) := ⟨h15_⟩
  have n16_ : Aside0 (gb156 ≠ gb162) := ⟨h16_⟩
  have n17_ : Aside0 (gb162 ≠ gb156) := ⟨h17_⟩
  have n18_ : Aside0 (Below w.heap.size w w16) := ⟨h18_⟩
  clear BK155
  clear BK156
  clear HB
  clear h0_ h1_ h2_ h3_ h4_ h5_ h6_ h7_ h8_ h9_ h10_ h11_ h12_ h13_ h14_ h15_ h16_ h17_ h18_
  have BK155 := n0_
  have BK156 := n1_
  have BK161 := n2_
  have BK162 := n3_
  have GW161 := n4_
  have GE161 := n5_
  have NB155_161 := n6_
  have NB161_155 := n7_
  have NB156_161 := n8_
  have NB161_156 := n9_
  have NB162_161 := n10_
  have NB161_162 := n11_
  have GW162 := n12_
  have GE162 := n13_
  have NB155_162 := n14_
  have NB162_155 := n15_
  have NB156_162 := n16_
  have NB162_156 := n17_
  have HB := n18_
  clear n0_ n1_ n2_ n3_ n4_ n5_ n6_ n7_ n8_ n9_ n10_ n11_ n12_ n13_ n14_ n15_ n16_ n17_ n18_
  have hHeld : w16.cell? ⟨gb155, 0, none⟩ = some (.int .i64 a0_0) ∧ w16.cell? ⟨gb155, 1, none⟩ = some (.int .i64 a0_1) ∧ w16.cell? ⟨gb156, 0, none⟩ = some (.int .i64 a1_0) ∧ w16.cell? ⟨gb156, 1, none⟩ = some (.int .i64 a1_1) := hS_
  refine norm_ (a' := ?_) ?_ ?_
  rotate_left
  ·simp only [putAll, Act.put, List.setIfInBounds_toArray, List.set_cons_zero, List.set_cons_succ]
   rfl
  refine one_ (i := 6) (N := none) #[true, true, true, true, true, true, true, false] rfl rfl (one_of HT_.out (by kernel_rfl)) (by decide) (fun K hK => ?_)
  have hs17 : w16.cell? ⟨gb161, 0, none⟩ = some (.int .i64 0) := (blk_cell BK161.out 0).trans rfl
  have hfs17 := blk_frozen BK161.out 0
  have hns17_0 := NB155_161.out
  have hns17_1 := NB156_161.out
  have hns17_3 := NB162_161.out
  have hms17_0 := NB161_155.out
  have hms17_1 := NB161_156.out
  have hms17_3 := NB161_162.out
  have hs18 : w16.cell? ⟨gb161, 1, none⟩ = some (.int .i64 0) := (blk_cell BK161.out 1).trans rfl
  have hfs18 := blk_frozen BK161.out 1
  have hns18_0 := NB155_161.out
  have hns18_1 := NB156_161.out
  have hns18_3 := NB162_161.out
  have hms18_0 := NB161_155.out
  have hms18_1 := NB161_156.out
  have hms18_3 := NB161_162.out
  refine skip_ (w1 := ?_) (by rfl) rfl ?_ ?_
  rotate_left
  ·go_simp
   rfl
  refine hK.out _ _ ⟨((cell_far (p := ⟨gb161, _, none⟩) NB155_161.out _).trans (((cell_far (p := ⟨gb161, _, none⟩) NB155_161.out _).trans (hHeld.1)))), ((cell_far (p := ⟨gb161, _, none⟩) NB155_161.out _).trans (((cell_far (p := ⟨gb161, _, none⟩) NB155_161.out _).trans (hHeld.2.1)))), ((cell_far (p := ⟨gb161, _, none⟩) NB156_161.out _).trans (((cell_far (p := ⟨gb161, _, none⟩) NB156_161.out _).trans (hHeld.2.2.1)))), ((cell_far (p := ⟨gb161, _, none⟩) NB156_161.out _).trans (((cell_far (p := ⟨gb161, _, none⟩) NB156_161.out _).trans (hHeld.2.2.2))))⟩ (fun hHeld => ?_)
  clear hK K
  refine one_ (i := 7) (N := none) #[true, true, true, true, true, true, true, true] rfl rfl (one_of HT_.out (by kernel_rfl)) (by decide) (fun K hK => ?_)
  have hs19 : w16.cell? ⟨gb162, 0, none⟩ = some (.int .i64 0) := (blk_cell BK162.out 0).trans rfl
  have hfs19 := blk_frozen BK162.out 0
  have hns19_0 := NB155_162.out
  have hns19_1 := NB156_162.out
  have hns19_2 := NB161_162.out
  have hms19_0 := NB162_155.out
  have hms19_1 := NB162_156.out
  have hms19_2 := NB162_161.out
  have hs20 : w16.cell? ⟨gb162, 1, none⟩ = some (.int .i64 0) := (blk_cell BK162.out 1).trans rfl
  have hfs20 := blk_frozen BK162.out 1
  have hns20_0 := NB155_162.out
  have hns20_1 := NB156_162.out
  have hns20_2 := NB161_162.out
  have hms20_0 := NB162_155.out
  have hms20_1 := NB162_156.out
  have hms20_2 := NB162_161.out
  refine skip_ (w1 := ?_) (by rfl) rfl ?_ ?_
  rotate_left
  ·go_simp
   rfl
  refine hK.out _ _ ⟨((cell_far (p := ⟨gb162, _, none⟩) NB155_162.out _).trans (((cell_far (p := ⟨gb162, _, none⟩) NB155_162.out _).trans (hHeld.1)))), ((cell_far (p := ⟨gb162, _, none⟩) NB155_162.out _).trans (((cell_far (p := ⟨gb162, _, none⟩) NB155_162.out _).trans (hHeld.2.1)))), ((cell_far (p := ⟨gb162, _, none⟩) NB156_162.out _).trans (((cell_far (p := ⟨gb162, _, none⟩) NB156_162.out _).trans (hHeld.2.2.1)))), ((cell_far (p := ⟨gb162, _, none⟩) NB156_162.out _).trans (((cell_far (p := ⟨gb162, _, none⟩) NB156_162.out _).trans (hHeld.2.2.2))))⟩ (fun hHeld => ?_)
  clear hK K
  refine done_ (done_of HT_.out (by kernel_rfl)) ?_
  have hnb21 := NB161_155.out
  have hnc21 := NB155_161.out
  have hnb22 := NB161_156.out
  have hnc22 := NB156_161.out
  have hnb23 := NB161_162.out
  have hnc23 := NB162_161.out
  have hcz24_0 : w16.cell? ⟨gb161, 0, none⟩ = some (.int .i64 0) := (blk_cell BK161.out 0).trans rfl
  have hcz24_1 : w16.cell? ⟨gb161, 1, none⟩ = some (.int .i64 0) := (blk_cell BK161.out 1).trans rfl
  have hfz24_0 := blk_frozen BK161.out 0
  have hfz24_1 := blk_frozen BK161.out 1
  go_upto_region 6 with (first | ((with_reducible refine gate_callee (f := 16) rfl ?_); refine goesL_ (some 18) rfl rfl Try.func16 (by kernel_rfl) rfl #[.agg #[.int .i64 t157, .int .i64 t158]] rfl (by (try simp only [List.map_toArray, List.map_cons, List.map_nil]); first | done | rfl | (simp only [List.length_drop, List.length_take]; rfl)) ?_; (with_reducible refine (stamp_Next.calls t157 t158 t163 t164 t165 _ A5.out).mono ?_); rintro e w25 ⟨rfl, hb⟩; refine ⟨_, rfl, ?_⟩; have n0_ := Aside0.mk (blk_below (g := gb155) (o := .cells #[.int .i64 a0_0, .int .i64 a0_1] 23 (0, 0)) (by (with_reducible repeat first | apply blk_drewN | apply blk_drew | apply blk_alloc); refine blk_far ?_ NB155_162.out _; (with_reducible repeat first | apply blk_drewN | apply blk_drew | apply blk_alloc); refine blk_far ?_ NB155_162.out _; (with_reducible repeat first | apply blk_drewN | apply blk_drew | apply blk_alloc); refine blk_far ?_ NB155_161.out _; (with_reducible repeat first | apply blk_drewN | apply blk_drew | apply blk_alloc); refine blk_far ?_ NB155_161.out _; (with_reducible repeat first | apply blk_drewN | apply blk_drew | apply blk_alloc); exact BK155.out) hb); have n1_ := Aside0.mk (blk_below (g := gb156) (o := .cells #[.int .i64 a1_0, .int .i64 a1_1] 23 (0, 0)) (by (with_reducible repeat first | apply blk_drewN | apply blk_drew | apply blk_alloc); refine blk_far ?_ NB156_162.out _; (with_reducible repeat first | apply blk_drewN | apply blk_drew | apply blk_alloc); refine blk_far ?_ NB156_162.out _; (with_reducible repeat first | apply blk_drewN | apply blk_drew | apply blk_alloc); refine blk_far ?_ NB156_161.out _; (with_reducible repeat first | apply blk_drewN | apply blk_drew | apply blk_alloc); refine blk_far ?_ NB156_161.out _; (with_reducible repeat first | apply blk_drewN | apply blk_drew | apply blk_alloc); exact BK156.out) hb); have n2_ := Aside0.mk (blk_below (g := gb161) (o := .cells #[.int .i64 t157, .int .i64 t158] 23 (0, 0)) (by (with_reducible repeat first | apply blk_drewN | apply blk_drew | apply blk_alloc); refine blk_far ?_ NB161_162.out _; (with_reducible repeat first | apply blk_drewN | apply blk_drew | apply blk_alloc); refine blk_far ?_ NB161_162.out _; (with_reducible repeat first | apply blk_drewN | apply blk_drew | apply blk_alloc); refine blk_put (cs := #[.int .i64 t157, .int .i64 0]) ?_ 1 _ rfl; (with_reducible repeat first | apply blk_drewN | apply blk_drew | apply blk_alloc); refine blk_put (cs := #[.int .i64 0, .int .i64 0]) ?_ 0 _ rfl; (with_reducible repeat first | apply blk_drewN | apply blk_drew | apply blk_alloc); exact BK161.out) hb); have n3_ := Aside0.mk (blk_below (g := gb162) (o := .cells #[.int .i64 t159, .int .i64 t160] 23 (0, 0)) (by (with_reducible repeat first | apply blk_drewN | apply blk_drew | apply blk_alloc); refine blk_put (cs := #[.int .i64 t159, .int .i64 0]) ?_ 1 _ rfl; (with_reducible repeat first | apply blk_drewN | apply blk_drew | apply blk_alloc); refine blk_put (cs := #[.int .i64 0, .int .i64 0]) ?_ 0 _ rfl; (with_reducible repeat first | apply blk_drewN | apply blk_drew | apply blk_alloc); refine blk_far ?_ NB162_161.out _; (with_reducible repeat first | apply blk_drewN | apply blk_drew | apply blk_alloc); refine blk_far ?_ NB162_161.out _; (with_reducible repeat first | apply blk_drewN | apply blk_drew | apply blk_alloc); exact BK162.out) hb); have n4_ := Aside0.mk (below_step (by repeat (first | (with_reducible first | exact HB.out | apply below_alloc | apply pw_below_drewN | apply below_drew1 | refine below_set ?_ GE155.out | refine below_set ?_ GE156.out | refine below_set ?_ GE161.out | refine below_set ?_ GE162.out) | exact HB.out)) hb); clear BK155; clear BK156; clear BK161; clear BK162; clear HB; have BK155 := n0_; have BK156 := n1_; have BK161 := n2_; have BK162 := n3_; have HB := n4_; clear n0_ n1_ n2_ n3_ n4_; (try clear hb); (try clear hb2); (try clear hk); (try clear hi)) | ((with_reducible refine gate_dst (N := 7) rfl ?_); refine box_event ?hg (N := 7) ?hd (cs := #[.int .i64 0, .int .i64 0]) (t := 23) ?hr ?_; (case hd => rfl); (case hg => rfl); (case hr => first | (go_simp; done) | (go_simp; rfl)); intro gb166 hg w26 hbox hb; have n0_ := Aside0.mk (blk_below (g := gb155) (o := .cells #[.int .i64 a0_0, .int .i64 a0_1] 23 (0, 0)) (by (with_reducible repeat first | apply blk_drewN | apply blk_drew | apply blk_alloc); exact BK155.out) hb); have n1_ := Aside0.mk (blk_below (g := gb156) (o := .cells #[.int .i64 a1_0, .int .i64 a1_1] 23 (0, 0)) (by (with_reducible repeat first | apply blk_drewN | apply blk_drew | apply blk_alloc); exact BK156.out) hb); have n2_ := Aside0.mk (blk_below (g := gb161) (o := .cells #[.int .i64 t157, .int .i64 t158] 23 (0, 0)) (by (with_reducible repeat first | apply blk_drewN | apply blk_drew | apply blk_alloc); exact BK161.out) hb); have n3_ := Aside0.mk (blk_below (g := gb162) (o := .cells #[.int .i64 t159, .int .i64 t160] 23 (0, 0)) (by (with_reducible repeat first | apply blk_drewN | apply blk_drew | apply blk_alloc); exact BK162.out) hb); have n4_ := Aside0.mk (below_step (by repeat (first | (with_reducible first | exact HB.out | apply below_alloc | apply pw_below_drewN | apply below_drew1 | refine below_set ?_ GE155.out | refine below_set ?_ GE156.out | refine below_set ?_ GE161.out | refine below_set ?_ GE162.out) | exact HB.out)) hb); have n5_ := Aside0.mk (hbox); have n6_ := Aside0.mk ((by rw [hg]; exact (below_size (by repeat (first | (with_reducible first | exact HB.out | apply below_alloc | apply pw_below_drewN | apply below_drew1 | refine below_set ?_ GE155.out | refine below_set ?_ GE156.out | refine below_set ?_ GE161.out | refine below_set ?_ GE162.out) | exact HB.out))) : w.heap.size ≤ gb166)); have n7_ := Aside0.mk ((by rw [hg]; exact (below_size (by repeat (first | (with_reducible first | exact HB.out | apply below_alloc | apply pw_below_drewN | apply below_drew1 | refine below_set ?_ GE155.out | refine below_set ?_ GE156.out | refine below_set ?_ GE161.out | refine below_set ?_ GE162.out) | exact HB.out))) : w.heap.size ≤ gb166)); have n8_ := Aside0.mk ((by rw [hg]; exact Nat.ne_of_lt (blk_lt (by (with_reducible repeat first | apply blk_drewN | apply blk_drew | apply blk_alloc); exact BK155.out)) : gb155 ≠ gb166)); have n9_ := Aside0.mk ((by rw [hg]; exact Nat.ne_of_gt (blk_lt (by (with_reducible repeat first | apply blk_drewN | apply blk_drew | apply blk_alloc); exact BK155.out)) : gb166 ≠ gb155)); have n10_ := Aside0.mk ((by rw [hg]; exact Nat.ne_of_lt (blk_lt (by (with_reducible repeat first | apply blk_drewN | apply blk_drew | apply blk_alloc); exact BK156.out)) : gb156 ≠ gb166)); have n11_ := Aside0.mk ((by rw [hg]; exact Nat.ne_of_gt (blk_lt (by (with_reducible repeat first | apply blk_drewN | apply blk_drew | apply blk_alloc); exact BK156.out)) : gb166 ≠ gb156)); have n12_ := Aside0.mk ((by rw [hg]; exact Nat.ne_of_lt (blk_lt (by (with_reducible repeat first | apply blk_drewN | apply blk_drew | apply blk_alloc); exact BK161.out)) : gb161 ≠ gb166)); have n13_ := Aside0.mk ((by rw [hg]; exact Nat.ne_of_gt (blk_lt (by (with_reducible repeat first | apply blk_drewN | apply blk_drew | apply blk_alloc); exact BK161.out)) : gb166 ≠ gb161)); have n14_ := Aside0.mk ((by rw [hg]; exact Nat.ne_of_lt (blk_lt (by (with_reducible repeat first | apply blk_drewN | apply blk_drew | apply blk_alloc); exact BK162.out)) : gb162 ≠ gb166)); have n15_ := Aside0.mk ((by rw [hg]; exact Nat.ne_of_gt (blk_lt (by (with_reducible repeat first | apply blk_drewN | apply blk_drew | apply blk_alloc); exact BK162.out)) : gb166 ≠ gb162)); clear BK155; clear BK156; clear BK161; clear BK162; clear HB; have BK155 := n0_; have BK156 := n1_; have BK161 := n2_; have BK162 := n3_; have HB := n4_; have BK166 := n5_; have GW166 := n6_; have GE166 := n7_; have NB155_166 := n8_; have NB166_155 := n9_; have NB156_166 := n10_; have NB166_156 := n11_; have NB161_166 := n12_; have NB166_161 := n13_; have NB162_166 := n14_; have NB166_162 := n15_; clear n0_ n1_ n2_ n3_ n4_ n5_ n6_ n7_ n8_ n9_ n10_ n11_ n12_ n13_ n14_ n15_; clear hb hbox hg; have hnb27 := NB166_155.out; have hnc27 := NB155_166.out; have hnb28 := NB166_156.out; have hnc28 := NB156_166.out; have hnb29 := NB166_161.out; have hnc29 := NB161_166.out; have hnb30 := NB166_162.out; have hnc30 := NB162_166.out; have hcz31_0 : w26.cell? ⟨gb166, 0, none⟩ = some (.int .i64 0) := (blk_cell BK166.out 0).trans rfl; have hcz31_1 : w26.cell? ⟨gb166, 1, none⟩ = some (.int .i64 0) := (blk_cell BK166.out 1).trans rfl; have hfz31_0 := blk_frozen BK166.out 0; have hfz31_1 := blk_frozen BK166.out 1) | ((with_reducible refine gate_callee (f := 18) rfl ?_); refine goesL_ (some 41) rfl rfl Try.func18 (by kernel_rfl) rfl #[.agg #[.int .i64 t163, .int .i64 t164]] rfl (by (try simp only [List.map_toArray, List.map_cons, List.map_nil]); first | done | rfl | (simp only [List.length_drop, List.length_take]; rfl)) ?_; (with_reducible refine (stamp_Prev.calls t163 t164 t169 t170 t171 _ A7.out).mono ?_); rintro e w32 ⟨rfl, hb⟩; refine ⟨_, rfl, ?_⟩; have n0_ := Aside0.mk (blk_below (g := gb155) (o := .cells #[.int .i64 a0_0, .int .i64 a0_1] 23 (0, 0)) (by (with_reducible repeat first | apply blk_drewN | apply blk_drew | apply blk_alloc); refine blk_far ?_ NB155_166.out _; (with_reducible repeat first | apply blk_drewN | apply blk_drew | apply blk_alloc); refine blk_far ?_ NB155_166.out _; (with_reducible repeat first | apply blk_drewN | apply blk_drew | apply blk_alloc); exact BK155.out) hb); have n1_ := Aside0.mk (blk_below (g := gb156) (o := .cells #[.int .i64 a1_0, .int .i64 a1_1] 23 (0, 0)) (by (with_reducible repeat first | apply blk_drewN | apply blk_drew | apply blk_alloc); refine blk_far ?_ NB156_166.out _; (with_reducible repeat first | apply blk_drewN | apply blk_drew | apply blk_alloc); refine blk_far ?_ NB156_166.out _; (with_reducible repeat first | apply blk_drewN | apply blk_drew | apply blk_alloc); exact BK156.out) hb); have n2_ := Aside0.mk (blk_below (g := gb161) (o := .cells #[.int .i64 t157, .int .i64 t158] 23 (0, 0)) (by (with_reducible repeat first | apply blk_drewN | apply blk_drew | apply blk_alloc); refine blk_far ?_ NB161_166.out _; (with_reducible repeat first | apply blk_drewN | apply blk_drew | apply blk_alloc); refine blk_far ?_ NB161_166.out _; (with_reducible repeat first | apply blk_drewN | apply blk_drew | apply blk_alloc); exact BK161.out) hb); have n3_ := Aside0.mk (blk_below (g := gb162) (o := .cells #[.int .i64 t159, .int .i64 t160] 23 (0, 0)) (by (with_reducible repeat first | apply blk_drewN | apply blk_drew | apply blk_alloc); refine blk_far ?_ NB162_166.out _; (with_reducible repeat first | apply blk_drewN | apply blk_drew | apply blk_alloc); refine blk_far ?_ NB162_166.out _; (with_reducible repeat first | apply blk_drewN | apply blk_drew | apply blk_alloc); exact BK162.out) hb); have n4_ := Aside0.mk (blk_below (g := gb166) (o := .cells #[.int .i64 t163, .int .i64 t164] 23 (0, 0)) (by (with_reducible repeat first | apply blk_drewN | apply blk_drew | apply blk_alloc); refine blk_put (cs := #[.int .i64 t163, .int .i64 0]) ?_ 1 _ rfl; (with_reducible repeat first | apply blk_drewN | apply blk_drew | apply blk_alloc); refine blk_put (cs := #[.int .i64 0, .int .i64 0]) ?_ 0 _ rfl; (with_reducible repeat first | apply blk_drewN | apply blk_drew | apply blk_alloc); exact BK166.out) hb); have n5_ := Aside0.mk (below_step (by repeat (first | (with_reducible first | exact HB.out | apply below_alloc | apply pw_below_drewN | apply below_drew1 | refine below_set ?_ GE155.out | refine below_set ?_ GE156.out | refine below_set ?_ GE161.out | refine below_set ?_ GE162.out | refine below_set ?_ GE166.out) | exact HB.out)) hb); clear BK155; clear BK156; clear BK161; clear BK162; clear BK166; clear HB; have BK155 := n0_; have BK156 := n1_; have BK161 := n2_; have BK162 := n3_; have BK166 := n4_; have HB := n5_; clear n0_ n1_ n2_ n3_ n4_ n5_; (try clear hb); (try clear hb2); (try clear hk); (try clear hi)) | ((with_reducible refine gate_dst (N := 9) rfl ?_); refine box_event ?hg (N := 9) ?hd (cs := #[.int .i64 0, .int .i64 0]) (t := 23) ?hr ?_; (case hd => rfl); (case hg => rfl); (case hr => first | (go_simp; done) | (go_simp; rfl)); intro gb172 hg w33 hbox hb; have n0_ := Aside0.mk (blk_below (g := gb155) (o := .cells #[.int .i64 a0_0, .int .i64 a0_1] 23 (0, 0)) (by (with_reducible repeat first | apply blk_drewN | apply blk_drew | apply blk_alloc); exact BK155.out) hb); have n1_ := Aside0.mk (blk_below (g := gb156) (o := .cells #[.int .i64 a1_0, .int .i64 a1_1] 23 (0, 0)) (by (with_reducible repeat first | apply blk_drewN | apply blk_drew | apply blk_alloc); exact BK156.out) hb); have n2_ := Aside0.mk (blk_below (g := gb161) (o := .cells #[.int .i64 t157, .int .i64 t158] 23 (0, 0)) (by (with_reducible repeat first | apply blk_drewN | apply blk_drew | apply blk_alloc); exact BK161.out) hb); have n3_ := Aside0.mk (blk_below (g := gb162) (o := .cells #[.int .i64 t159, .int .i64 t160] 23 (0, 0)) (by (with_reducible repeat first | apply blk_drewN | apply blk_drew | apply blk_alloc); exact BK162.out) hb); have n4_ := Aside0.mk (blk_below (g := gb166) (o := .cells #[.int .i64 t163, .int .i64 t164] 23 (0, 0)) (by (with_reducible repeat first | apply blk_drewN | apply blk_drew | apply blk_alloc); exact BK166.out) hb); have n5_ := Aside0.mk (below_step (by repeat (first | (with_reducible first | exact HB.out | apply below_alloc | apply pw_below_drewN | apply below_drew1 | refine below_set ?_ GE155.out | refine below_set ?_ GE156.out | refine below_set ?_ GE161.out | refine below_set ?_ GE162.out | refine below_set ?_ GE166.out) | exact HB.out)) hb); have n6_ := Aside0.mk (hbox); have n7_ := Aside0.mk ((by rw [hg]; exact (below_size (by repeat (first | (with_reducible first | exact HB.out | apply below_alloc | apply pw_below_drewN | apply below_drew1 | refine below_set ?_ GE155.out | refine below_set ?_ GE156.out | refine below_set ?_ GE161.out | refine below_set ?_ GE162.out | refine below_set ?_ GE166.out) | exact HB.out))) : w.heap.size ≤ gb172)); have n8_ := Aside0.mk ((by rw [hg]; exact (below_size (by repeat (first | (with_reducible first | exact HB.out | apply below_alloc | apply pw_below_drewN | apply below_drew1 | refine below_set ?_ GE155.out | refine below_set ?_ GE156.out | refine below_set ?_ GE161.out | refine below_set ?_ GE162.out | refine below_set ?_ GE166.out) | exact HB.out))) : w.heap.size ≤ gb172)); have n9_ := Aside0.mk ((by rw [hg]; exact Nat.ne_of_lt (blk_lt (by (with_reducible repeat first | apply blk_drewN | apply blk_drew | apply blk_alloc); exact BK155.out)) : gb155 ≠ gb172)); have n10_ := Aside0.mk ((by rw [hg]; exact Nat.ne_of_gt (blk_lt (by (with_reducible repeat first | apply blk_drewN | apply blk_drew | apply blk_alloc); exact BK155.out)) : gb172 ≠ gb155)); have n11_ := Aside0.mk ((by rw [hg]; exact Nat.ne_of_lt (blk_lt (by (with_reducible repeat first | apply blk_drewN | apply blk_drew | apply blk_alloc); exact BK156.out)) : gb156 ≠ gb172)); have n12_ := Aside0.mk ((by rw [hg]; exact Nat.ne_of_gt (blk_lt (by (with_reducible repeat first | apply blk_drewN | apply blk_drew | apply blk_alloc); exact BK156.out)) : gb172 ≠ gb156)); have n13_ := Aside0.mk ((by rw [hg]; exact Nat.ne_of_lt (blk_lt (by (with_reducible repeat first | apply blk_drewN | apply blk_drew | apply blk_alloc); exact BK161.out)) : gb161 ≠ gb172)); have n14_ := Aside0.mk ((by rw [hg]; exact Nat.ne_of_gt (blk_lt (by (with_reducible repeat first | apply blk_drewN | apply blk_drew | apply blk_alloc); exact BK161.out)) : gb172 ≠ gb161)); have n15_ := Aside0.mk ((by rw [hg]; exact Nat.ne_of_lt (blk_lt (by (with_reducible repeat first | apply blk_drewN | apply blk_drew | apply blk_alloc); exact BK162.out)) : gb162 ≠ gb172)); have n16_ := Aside0.mk ((by rw [hg]; exact Nat.ne_of_gt (blk_lt (by (with_reducible repeat first | apply blk_drewN | apply blk_drew | apply blk_alloc); exact BK162.out)) : gb172 ≠ gb162)); have n17_ := Aside0.mk ((by rw [hg]; exact Nat.ne_of_lt (blk_lt (by (with_reducible repeat first | apply blk_drewN | apply blk_drew | apply blk_alloc); exact BK166.out)) : gb166 ≠ gb172)); have n18_ := Aside0.mk ((by rw [hg]; exact Nat.ne_of_gt (blk_lt (by (with_reducible repeat first | apply blk_drewN | apply blk_drew | apply blk_alloc); exact BK166.out)) : gb172 ≠ gb166)); clear BK155; clear BK156; clear BK161; clear BK162; clear BK166; clear HB; have BK155 := n0_; have BK156 := n1_; have BK161 := n2_; have BK162 := n3_; have BK166 := n4_; have HB := n5_; have BK172 := n6_; have GW172 := n7_; have GE172 := n8_; have NB155_172 := n9_; have NB172_155 := n10_; have NB156_172 := n11_; have NB172_156 := n12_; have NB161_172 := n13_; have NB172_161 := n14_; have NB162_172 := n15_; have NB172_162 := n16_; have NB166_172 := n17_; have NB172_166 := n18_; clear n0_ n1_ n2_ n3_ n4_ n5_ n6_ n7_ n8_ n9_ n10_ n11_ n12_ n13_ n14_ n15_ n16_ n17_ n18_; clear hb hbox hg; have hnb34 := NB172_155.out; have hnc34 := NB155_172.out; have hnb35 := NB172_156.out; have hnc35 := NB156_172.out; have hnb36 := NB172_161.out; have hnc36 := NB161_172.out; have hnb37 := NB172_162.out; have hnc37 := NB162_172.out; have hnb38 := NB172_166.out; have hnc38 := NB166_172.out; have hcz39_0 : w33.cell? ⟨gb172, 0, none⟩ = some (.int .i64 0) := (blk_cell BK172.out 0).trans rfl; have hcz39_1 : w33.cell? ⟨gb172, 1, none⟩ = some (.int .i64 0) := (blk_cell BK172.out 1).trans rfl; have hfz39_0 := blk_frozen BK172.out 0; have hfz39_1 := blk_frozen BK172.out 1))
  (try simp only [Act.put, List.setIfInBounds_toArray, List.set_cons_zero, List.set_cons_succ])
  go_cut [11] (fun v11 wc => ∃ (kq : Nat) (x11_7 : Bool), v11 = .bool x11_7 ∧ Aside0 (scriptoriumlaw05_StampNear.j0 kq t171 x11_7 t157 t158 t159 t160 t163 t164 t169 t170 = some r) ∧ Aside0 (kq ≤ k) ∧ Aside0 (wc.heap[gb155]? = some (.cells #[.int .i64 a0_0, .int .i64 a0_1] 23 (0, 0))) ∧ Aside0 (wc.heap[gb156]? = some (.cells #[.int .i64 a1_0, .int .i64 a1_1] 23 (0, 0))) ∧ Aside0 (wc.heap[gb161]? = some (.cells #[.int .i64 t157, .int .i64 t158] 23 (0, 0))) ∧ Aside0 (wc.heap[gb162]? = some (.cells #[.int .i64 t159, .int .i64 t160] 23 (0, 0))) ∧ Aside0 (wc.heap[gb166]? = some (.cells #[.int .i64 t163, .int .i64 t164] 23 (0, 0))) ∧ Aside0 (wc.heap[gb172]? = some (.cells #[.int .i64 t169, .int .i64 t170] 23 (0, 0))) ∧ Aside0 (Below w.heap.size w wc))
  case first =>
   have H := HC8.out
   clear HC8
   replace H := Option.bind_eq_some_iff.mp H
   obtain ⟨t173, A400, H⟩ := H
   replace H : (if t173 = true then ((stamp_Less.f k t159 t160 t163 t164).bind fun t174 => (scriptoriumlaw05_StampNear.j0 k t171 t174 t157 t158 t159 t160 t163 t164 t169 t170)) else (scriptoriumlaw05_StampNear.j0 k t171 false t157 t158 t159 t160 t163 t164 t169 t170)) = some r := H
   have A40 := Aside0.mk A400
   clear A400
   by_cases c41 : t173 = true
   ·subst c41
    have H1 : ((stamp_Less.f k t159 t160 t163 t164).bind fun t174 => (scriptoriumlaw05_StampNear.j0 k t171 t174 t157 t158 t159 t160 t163 t164 t169 t170)) = some r := by rw [if_pos rfl] at H; exact H
    clear H
    have H := H1
    clear H1
    replace H := Option.bind_eq_some_iff.mp H
    obtain ⟨t174, A420, H⟩ := H
    replace H : (scriptoriumlaw05_StampNear.j0 k t171 t174 t157 t158 t159 t160 t163 t164 t169 t170) = some r := H
    have A42 := Aside0.mk A420
    clear A420
    have H' := Aside0.mk H
    clear H
    have hnb43 := NB161_155.out
    have hnc43 := NB155_161.out
    have hnb44 := NB161_156.out
    have hnc44 := NB156_161.out
    have hnb45 := NB161_162.out
    have hnc45 := NB162_161.out
    have hnb46 := NB161_166.out
    have hnc46 := NB166_161.out
    have hnb47 := NB161_172.out
    have hnc47 := NB172_161.out
    have hcz48_0 : w33.cell? ⟨gb161, 0, none⟩ = some (.int .i64 t157) := (blk_cell BK161.out 0).trans rfl
    have hcz48_1 : w33.cell? ⟨gb161, 1, none⟩ = some (.int .i64 t158) := (blk_cell BK161.out 1).trans rfl
    have hfz48_0 := blk_frozen BK161.out 0
    have hfz48_1 := blk_frozen BK161.out 1
    have hnb49 := NB162_155.out
    have hnc49 := NB155_162.out
    have hnb50 := NB162_156.out
    have hnc50 := NB156_162.out
    have hnb51 := NB162_166.out
    have hnc51 := NB166_162.out
    have hnb52 := NB162_172.out
    have hnc52 := NB172_162.out
    have hcz53_0 : w33.cell? ⟨gb162, 0, none⟩ = some (.int .i64 t159) := (blk_cell BK162.out 0).trans rfl
    have hcz53_1 : w33.cell? ⟨gb162, 1, none⟩ = some (.int .i64 t160) := (blk_cell BK162.out 1).trans rfl
    have hfz53_0 := blk_frozen BK162.out 0
    have hfz53_1 := blk_frozen BK162.out 1
    go_wp2_with (first | ((with_reducible refine gate_callee (f := 13) rfl ?_); refine goesL_ (some 46) rfl rfl Try.func13 (by kernel_rfl) rfl #[.agg #[.int .i64 t157, .int .i64 t158], .agg #[.int .i64 t159, .int .i64 t160]] rfl (by (try simp only [List.map_toArray, List.map_cons, List.map_nil]); first | done | rfl | (simp only [List.length_drop, List.length_take]; rfl)) ?_; (with_reducible refine (stamp_Less.calls k t157 t158 t159 t160 true _ A40.out).mono ?_); rintro e w54 ⟨rfl, hb⟩; refine ⟨_, rfl, ?_⟩; have n0_ := Aside0.mk (blk_below (g := gb155) (o := .cells #[.int .i64 a0_0, .int .i64 a0_1] 23 (0, 0)) (by (with_reducible repeat first | apply blk_drewN | apply blk_drew | apply blk_alloc); refine blk_far ?_ NB155_172.out _; (with_reducible repeat first | apply blk_drewN | apply blk_drew | apply blk_alloc); refine blk_far ?_ NB155_172.out _; (with_reducible repeat first | apply blk_drewN | apply blk_drew | apply blk_alloc); exact BK155.out) hb); have n1_ := Aside0.mk (blk_below (g := gb156) (o := .cells #[.int .i64 a1_0, .int .i64 a1_1] 23 (0, 0)) (by (with_reducible repeat first | apply blk_drewN | apply blk_drew | apply blk_alloc); refine blk_far ?_ NB156_172.out _; (with_reducible repeat first | apply blk_drewN | apply blk_drew | apply blk_alloc); refine blk_far ?_ NB156_172.out _; (with_reducible repeat first | apply blk_drewN | apply blk_drew | apply blk_alloc); exact BK156.out) hb); have n2_ := Aside0.mk (blk_below (g := gb161) (o := .cells #[.int .i64 t157, .int .i64 t158] 23 (0, 0)) (by (with_reducible repeat first | apply blk_drewN | apply blk_drew | apply blk_alloc); refine blk_far ?_ NB161_172.out _; (with_reducible repeat first | apply blk_drewN | apply blk_drew | apply blk_alloc); refine blk_far ?_ NB161_172.out _; (with_reducible repeat first | apply blk_drewN | apply blk_drew | apply blk_alloc); exact BK161.out) hb); have n3_ := Aside0.mk (blk_below (g := gb162) (o := .cells #[.int .i64 t159, .int .i64 t160] 23 (0, 0)) (by (with_reducible repeat first | apply blk_drewN | apply blk_drew | apply blk_alloc); refine blk_far ?_ NB162_172.out _; (with_reducible repeat first | apply blk_drewN | apply blk_drew | apply blk_alloc); refine blk_far ?_ NB162_172.out _; (with_reducible repeat first | apply blk_drewN | apply blk_drew | apply blk_alloc); exact BK162.out) hb); have n4_ := Aside0.mk (blk_below (g := gb166) (o := .cells #[.int .i64 t163, .int .i64 t164] 23 (0, 0)) (by (with_reducible repeat first | apply blk_drewN | apply blk_drew | apply blk_alloc); refine blk_far ?_ NB166_172.out _; (with_reducible repeat first | apply blk_drewN | apply blk_drew | apply blk_alloc); refine blk_far ?_ NB166_172.out _; (with_reducible repeat first | apply blk_drewN | apply blk_drew | apply blk_alloc); exact BK166.out) hb); have n5_ := Aside0.mk (blk_below (g := gb172) (o := .cells #[.int .i64 t169, .int .i64 t170] 23 (0, 0)) (by (with_reducible repeat first | apply blk_drewN | apply blk_drew | apply blk_alloc); refine blk_put (cs := #[.int .i64 t169, .int .i64 0]) ?_ 1 _ rfl; (with_reducible repeat first | apply blk_drewN | apply blk_drew | apply blk_alloc); refine blk_put (cs := #[.int .i64 0, .int .i64 0]) ?_ 0 _ rfl; (with_reducible repeat first | apply blk_drewN | apply blk_drew | apply blk_alloc); exact BK172.out) hb); have n6_ := Aside0.mk (below_step (by repeat (first | (with_reducible first | exact HB.out | apply below_alloc | apply pw_below_drewN | apply below_drew1 | refine below_set ?_ GE155.out | refine below_set ?_ GE156.out | refine below_set ?_ GE161.out | refine below_set ?_ GE162.out | refine below_set ?_ GE166.out | refine below_set ?_ GE172.out) | exact HB.out)) hb); clear BK155; clear BK156; clear BK161; clear BK162; clear BK166; clear BK172; clear HB; have BK155 := n0_; have BK156 := n1_; have BK161 := n2_; have BK162 := n3_; have BK166 := n4_; have BK172 := n5_; have HB := n6_; clear n0_ n1_ n2_ n3_ n4_ n5_ n6_; (try clear hb); (try clear hb2); (try clear hk); (try clear hi); have hcz55_0 : w54.cell? ⟨gb162, 0, none⟩ = some (.int .i64 t159) := (blk_cell BK162.out 0).trans rfl; have hcz55_1 : w54.cell? ⟨gb162, 1, none⟩ = some (.int .i64 t160) := (blk_cell BK162.out 1).trans rfl; have hfz55_0 := blk_frozen BK162.out 0; have hfz55_1 := blk_frozen BK162.out 1; have hnb56 := NB166_155.out; have hnc56 := NB155_166.out; have hnb57 := NB166_156.out; have hnc57 := NB156_166.out; have hnb58 := NB166_172.out; have hnc58 := NB172_166.out; have hcz59_0 : w54.cell? ⟨gb166, 0, none⟩ = some (.int .i64 t163) := (blk_cell BK166.out 0).trans rfl; have hcz59_1 : w54.cell? ⟨gb166, 1, none⟩ = some (.int .i64 t164) := (blk_cell BK166.out 1).trans rfl; have hfz59_0 := blk_frozen BK166.out 0; have hfz59_1 := blk_frozen BK166.out 1) | (go_at_call 13; (with_reducible refine (stamp_Less.calls k t159 t160 t163 t164 t174 _ A42.out).mono ?_); rintro e w60 ⟨rfl, hb⟩; have n0_ := Aside0.mk (blk_below (g := gb155) (o := .cells #[.int .i64 a0_0, .int .i64 a0_1] 23 (0, 0)) (by (with_reducible repeat first | apply blk_drewN | apply blk_drew | apply blk_alloc); exact BK155.out) hb); have n1_ := Aside0.mk (blk_below (g := gb156) (o := .cells #[.int .i64 a1_0, .int .i64 a1_1] 23 (0, 0)) (by (with_reducible repeat first | apply blk_drewN | apply blk_drew | apply blk_alloc); exact BK156.out) hb); have n2_ := Aside0.mk (blk_below (g := gb161) (o := .cells #[.int .i64 t157, .int .i64 t158] 23 (0, 0)) (by (with_reducible repeat first | apply blk_drewN | apply blk_drew | apply blk_alloc); exact BK161.out) hb); have n3_ := Aside0.mk (blk_below (g := gb162) (o := .cells #[.int .i64 t159, .int .i64 t160] 23 (0, 0)) (by (with_reducible repeat first | apply blk_drewN | apply blk_drew | apply blk_alloc); exact BK162.out) hb); have n4_ := Aside0.mk (blk_below (g := gb166) (o := .cells #[.int .i64 t163, .int .i64 t164] 23 (0, 0)) (by (with_reducible repeat first | apply blk_drewN | apply blk_drew | apply blk_alloc); exact BK166.out) hb); have n5_ := Aside0.mk (blk_below (g := gb172) (o := .cells #[.int .i64 t169, .int .i64 t170] 23 (0, 0)) (by (with_reducible repeat first | apply blk_drewN | apply blk_drew | apply blk_alloc); exact BK172.out) hb); have n6_ := Aside0.mk (below_step (by repeat (first | (with_reducible first | exact HB.out | apply below_alloc | apply pw_below_drewN | apply below_drew1 | refine below_set ?_ GE155.out | refine below_set ?_ GE156.out | refine below_set ?_ GE161.out | refine below_set ?_ GE162.out | refine below_set ?_ GE166.out | refine below_set ?_ GE172.out) | exact HB.out)) hb); clear BK155; clear BK156; clear BK161; clear BK162; clear BK166; clear BK172; clear HB; have BK155 := n0_; have BK156 := n1_; have BK161 := n2_; have BK162 := n3_; have BK166 := n4_; have BK172 := n5_; have HB := n6_; clear n0_ n1_ n2_ n3_ n4_ n5_ n6_; (try clear hb); (try clear hb2); (try clear hk); (try clear hi)))
    go_meet
    case rel => exact ⟨_, (t174), (by first | rfl | (simp; done) | (simp [*]; done)), H', ⟨by first | omega | exact Nat.le_refl _⟩, ⟨by (with_reducible repeat first | apply blk_drewN | apply blk_drew | apply blk_alloc); exact BK155.out⟩, ⟨by (with_reducible repeat first | apply blk_drewN | apply blk_drew | apply blk_alloc); exact BK156.out⟩, ⟨by (with_reducible repeat first | apply blk_drewN | apply blk_drew | apply blk_alloc); exact BK161.out⟩, ⟨by (with_reducible repeat first | apply blk_drewN | apply blk_drew | apply blk_alloc); exact BK162.out⟩, ⟨by (with_reducible repeat first | apply blk_drewN | apply blk_drew | apply blk_alloc); exact BK166.out⟩, ⟨by (with_reducible repeat first | apply blk_drewN | apply blk_drew | apply blk_alloc); exact BK172.out⟩, ⟨by repeat (first | (with_reducible first | exact HB.out | apply below_alloc | apply pw_below_drewN | apply below_drew1 | refine below_set ?_ GE155.out | refine below_set ?_ GE156.out | refine below_set ?_ GE161.out | refine below_set ?_ GE162.out | refine below_set ?_ GE166.out | refine below_set ?_ GE172.out) | exact HB.out)⟩⟩
   ·replace c41 := Bool.eq_false_iff.mpr c41
    subst c41
    have H1 : (scriptoriumlaw05_StampNear.j0 k t171 false t157 t158 t159 t160 t163 t164 t169 t170) = some r := by rw [if_neg (show ¬ (false = true) by decide)] at H; exact H
    clear H
    have H := H1
    clear H1
    have H' := Aside0.mk H
    clear H
    have hnb61 := NB161_155.out
    have hnc61 := NB155_161.out
    have hnb62 := NB161_156.out
    have hnc62 := NB156_161.out
    have hnb63 := NB161_162.out
    have hnc63 := NB162_161.out
    have hnb64 := NB161_166.out
    have hnc64 := NB166_161.out
    have hnb65 := NB161_172.out
    have hnc65 := NB172_161.out
    have hcz66_0 : w33.cell? ⟨gb161, 0, none⟩ = some (.int .i64 t157) := (blk_cell BK161.out 0).trans rfl
    have hcz66_1 : w33.cell? ⟨gb161, 1, none⟩ = some (.int .i64 t158) := (blk_cell BK161.out 1).trans rfl
    have hfz66_0 := blk_frozen BK161.out 0
    have hfz66_1 := blk_frozen BK161.out 1
    have hnb67 := NB162_155.out
    have hnc67 := NB155_162.out
    have hnb68 := NB162_156.out
    have hnc68 := NB156_162.out
    have hnb69 := NB162_166.out
    have hnc69 := NB166_162.out
    have hnb70 := NB162_172.out
    have hnc70 := NB172_162.out
    have hcz71_0 : w33.cell? ⟨gb162, 0, none⟩ = some (.int .i64 t159) := (blk_cell BK162.out 0).trans rfl
    have hcz71_1 : w33.cell? ⟨gb162, 1, none⟩ = some (.int .i64 t160) := (blk_cell BK162.out 1).trans rfl
    have hfz71_0 := blk_frozen BK162.out 0
    have hfz71_1 := blk_frozen BK162.out 1
    go_wp2_with (first | ((with_reducible refine gate_callee (f := 13) rfl ?_); refine goesL_ (some 46) rfl rfl Try.func13 (by kernel_rfl) rfl #[.agg #[.int .i64 t157, .int .i64 t158], .agg #[.int .i64 t159, .int .i64 t160]] rfl (by (try simp only [List.map_toArray, List.map_cons, List.map_nil]); first | done | rfl | (simp only [List.length_drop, List.length_take]; rfl)) ?_; (with_reducible refine (stamp_Less.calls k t157 t158 t159 t160 false _ A40.out).mono ?_); rintro e w72 ⟨rfl, hb⟩; refine ⟨_, rfl, ?_⟩; have n0_ := Aside0.mk (blk_below (g := gb155) (o := .cells #[.int .i64 a0_0, .int .i64 a0_1] 23 (0, 0)) (by (with_reducible repeat first | apply blk_drewN | apply blk_drew | apply blk_alloc); refine blk_far ?_ NB155_172.out _; (with_reducible repeat first | apply blk_drewN | apply blk_drew | apply blk_alloc); refine blk_far ?_ NB155_172.out _; (with_reducible repeat first | apply blk_drewN | apply blk_drew | apply blk_alloc); exact BK155.out) hb); have n1_ := Aside0.mk (blk_below (g := gb156) (o := .cells #[.int .i64 a1_0, .int .i64 a1_1] 23 (0, 0)) (by (with_reducible repeat first | apply blk_drewN | apply blk_drew | apply blk_alloc); refine blk_far ?_ NB156_172.out _; (with_reducible repeat first | apply blk_drewN | apply blk_drew | apply blk_alloc); refine blk_far ?_ NB156_172.out _; (with_reducible repeat first | apply blk_drewN | apply blk_drew | apply blk_alloc); exact BK156.out) hb); have n2_ := Aside0.mk (blk_below (g := gb161) (o := .cells #[.int .i64 t157, .int .i64 t158] 23 (0, 0)) (by (with_reducible repeat first | apply blk_drewN | apply blk_drew | apply blk_alloc); refine blk_far ?_ NB161_172.out _; (with_reducible repeat first | apply blk_drewN | apply blk_drew | apply blk_alloc); refine blk_far ?_ NB161_172.out _; (with_reducible repeat first | apply blk_drewN | apply blk_drew | apply blk_alloc); exact BK161.out) hb); have n3_ := Aside0.mk (blk_below (g := gb162) (o := .cells #[.int .i64 t159, .int .i64 t160] 23 (0, 0)) (by (with_reducible repeat first | apply blk_drewN | apply blk_drew | apply blk_alloc); refine blk_far ?_ NB162_172.out _; (with_reducible repeat first | apply blk_drewN | apply blk_drew | apply blk_alloc); refine blk_far ?_ NB162_172.out _; (with_reducible repeat first | apply blk_drewN | apply blk_drew | apply blk_alloc); exact BK162.out) hb); have n4_ := Aside0.mk (blk_below (g := gb166) (o := .cells #[.int .i64 t163, .int .i64 t164] 23 (0, 0)) (by (with_reducible repeat first | apply blk_drewN | apply blk_drew | apply blk_alloc); refine blk_far ?_ NB166_172.out _; (with_reducible repeat first | apply blk_drewN | apply blk_drew | apply blk_alloc); refine blk_far ?_ NB166_172.out _; (with_reducible repeat first | apply blk_drewN | apply blk_drew | apply blk_alloc); exact BK166.out) hb); have n5_ := Aside0.mk (blk_below (g := gb172) (o := .cells #[.int .i64 t169, .int .i64 t170] 23 (0, 0)) (by (with_reducible repeat first | apply blk_drewN | apply blk_drew | apply blk_alloc); refine blk_put (cs := #[.int .i64 t169, .int .i64 0]) ?_ 1 _ rfl; (with_reducible repeat first | apply blk_drewN | apply blk_drew | apply blk_alloc); refine blk_put (cs := #[.int .i64 0, .int .i64 0]) ?_ 0 _ rfl; (with_reducible repeat first | apply blk_drewN | apply blk_drew | apply blk_alloc); exact BK172.out) hb); have n6_ := Aside0.mk (below_step (by repeat (first | (with_reducible first | exact HB.out | apply below_alloc | apply pw_below_drewN | apply below_drew1 | refine below_set ?_ GE155.out | refine below_set ?_ GE156.out | refine below_set ?_ GE161.out | refine below_set ?_ GE162.out | refine below_set ?_ GE166.out | refine below_set ?_ GE172.out) | exact HB.out)) hb); clear BK155; clear BK156; clear BK161; clear BK162; clear BK166; clear BK172; clear HB; have BK155 := n0_; have BK156 := n1_; have BK161 := n2_; have BK162 := n3_; have BK166 := n4_; have BK172 := n5_; have HB := n6_; clear n0_ n1_ n2_ n3_ n4_ n5_ n6_; (try clear hb); (try clear hb2); (try clear hk); (try clear hi)))
    go_meet
    case rel => exact ⟨_, (false), (by first | rfl | (simp; done) | (simp [*]; done)), H', ⟨by first | omega | exact Nat.le_refl _⟩, ⟨by (with_reducible repeat first | apply blk_drewN | apply blk_drew | apply blk_alloc); exact BK155.out⟩, ⟨by (with_reducible repeat first | apply blk_drewN | apply blk_drew | apply blk_alloc); exact BK156.out⟩, ⟨by (with_reducible repeat first | apply blk_drewN | apply blk_drew | apply blk_alloc); exact BK161.out⟩, ⟨by (with_reducible repeat first | apply blk_drewN | apply blk_drew | apply blk_alloc); exact BK162.out⟩, ⟨by (with_reducible repeat first | apply blk_drewN | apply blk_drew | apply blk_alloc); exact BK166.out⟩, ⟨by (with_reducible repeat first | apply blk_drewN | apply blk_drew | apply blk_alloc); exact BK172.out⟩, ⟨by repeat (first | (with_reducible first | exact HB.out | apply below_alloc | apply pw_below_drewN | apply below_drew1 | refine below_set ?_ GE155.out | refine below_set ?_ GE156.out | refine below_set ?_ GE161.out | refine below_set ?_ GE162.out | refine below_set ?_ GE166.out | refine below_set ?_ GE172.out) | exact HB.out)⟩⟩
  case rest =>
   clear HC8
   try clear c1
   try clear c2
   try clear p2
   try clear c3
   try clear c4
   try clear c5
   try clear c6
   try clear c7
   try clear c13
   try clear c16
   try clear c18
   try clear c21
   try clear c22
   try clear c23
   try clear c27
   try clear c28
   try clear c29
   try clear c30
   try clear c34
   try clear c35
   try clear c36
   try clear c37
   try clear c38
   try clear c41
   try clear c43
   try clear c44
   try clear c45
   try clear c46
   try clear c47
   try clear c49
   try clear c50
   try clear c51
   try clear c52
   try clear c56
   try clear c57
   try clear c58
   try clear c61
   try clear c62
   try clear c63
   try clear c64
   try clear c65
   try clear c67
   try clear c68
   try clear c69
   try clear c70
   try clear hcz24_0
   try clear hcz24_1
   try clear hcz31_0
   try clear hcz31_1
   try clear hcz39_0
   try clear hcz39_1
   try clear hcz48_0
   try clear hcz48_1
   try clear hcz53_0
   try clear hcz53_1
   try clear hcz55_0
   try clear hcz55_1
   try clear hcz59_0
   try clear hcz59_1
   try clear hcz66_0
   try clear hcz66_1
   try clear hcz71_0
   try clear hcz71_1
   try clear hfz24_0
   try clear hfz24_1
   try clear hfz31_0
   try clear hfz31_1
   try clear hfz39_0
   try clear hfz39_1
   try clear hfz48_0
   try clear hfz48_1
   try clear hfz53_0
   try clear hfz53_1
   try clear hfz55_0
   try clear hfz55_1
   try clear hfz59_0
   try clear hfz59_1
   try clear hfz66_0
   try clear hfz66_1
   try clear hfz71_0
   try clear hfz71_1
   obtain ⟨kq, x11_7, rfl, HA, HJ7, BK155, BK156, BK161, BK162, BK166, BK172, HB⟩ := hcut
   cases kq with
   | zero => exact absurd HA.out (by simp [scriptoriumlaw05_StampNear.j0])
   | succ kj7 =>
    have H := HA.out
    clear HA
    simp only [scriptoriumlaw05_StampNear.j0] at H
    replace H := Option.bind_eq_some_iff.mp H
    obtain ⟨t175, A730, H⟩ := H
    replace H : (if t175 = 0 then ((stamp_Less.f kj7 t157 t158 t163 t164).bind fun t176 => (if t176 = true then (if t171 = 0 then (if (t169 == t157 && (t170 == t158)) = true then (if x11_7 = true then (some false) else ((stamp_Less.f kj7 t157 t158 t159 t160).bind fun t177 => (if t177 = true then ((scriptoriumlaw05_awake.f kj7).bind fun t178 => (some t178)) else ((stamp_Less.f kj7 t157 t158 t159 t160).bind fun t179 => (if t179 = true then (some false) else ((stamp_Less.f kj7 t159 t160 t163 t164).bind fun t180 => (if t180 = true then ((scriptoriumlaw05_awake.f kj7).bind fun t181 => (some t181)) else (some false)))))))) else (some false)) else (some false)) else (some false))) else (some false)) = some r := H
    have A73 := Aside0.mk A730
    clear A730
    by_cases c74 : t175 = 0
    ·rw [if_pos c74] at H
     have c74b0 : (t175 == 0) = true := beq_iff_eq.mpr c74
     have c74b1 : (t175 != 0) = false := bne_eq_false_iff_eq.mpr c74
     clear c74
     replace H := Option.bind_eq_some_iff.mp H
     obtain ⟨t176, A750, H⟩ := H
     replace H : (if t176 = true then (if t171 = 0 then (if (t169 == t157 && (t170 == t158)) = true then (if x11_7 = true then (some false) else ((stamp_Less.f kj7 t157 t158 t159 t160).bind fun t177 => (if t177 = true then ((scriptoriumlaw05_awake.f kj7).bind fun t178 => (some t178)) else ((stamp_Less.f kj7 t157 t158 t159 t160).bind fun t179 => (if t179 = true then (some false) else ((stamp_Less.f kj7 t159 t160 t163 t164).bind fun t180 => (if t180 = true then ((scriptoriumlaw05_awake.f kj7).bind fun t181 => (some t181)) else (some false)))))))) else (some false)) else (some false)) else (some false)) = some r := H
     have A75 := Aside0.mk A750
     clear A750
     by_cases c76 : t176 = true
     ·subst c76
      have H1 : (if t171 = 0 then (if (t169 == t157 && (t170 == t158)) = true then (if x11_7 = true then (some false) else ((stamp_Less.f kj7 t157 t158 t159 t160).bind fun t177 => (if t177 = true then ((scriptoriumlaw05_awake.f kj7).bind fun t178 => (some t178)) else ((stamp_Less.f kj7 t157 t158 t159 t160).bind fun t179 => (if t179 = true then (some false) else ((stamp_Less.f kj7 t159 t160 t163 t164).bind fun t180 => (if t180 = true then ((scriptoriumlaw05_awake.f kj7).bind fun t181 => (some t181)) else (some false)))))))) else (some false)) else (some false)) = some r := by rw [if_pos rfl] at H; exact H
      clear H
      have H := H1
      clear H1
      by_cases c77 : t171 = 0
      ·rw [if_pos c77] at H
       have c77b0 : (t171 == 0) = true := beq_iff_eq.mpr c77
       have c77b1 : (t171 != 0) = false := bne_eq_false_iff_eq.mpr c77
       clear c77
       by_cases c78 : (t169 == t157 && (t170 == t158)) = true
       ·rw [if_pos c78] at H
        have c78b0 : (t169 == t157 && (t170 == t158)) = true := c78
        (try (have c78b1 : decide (t169 = t157 && (t170 == t158)) = true := by simpa using c78))
        (try (have c78b2 : (t169 == t157 && (t170 == t158)) = true := by simpa using c78))
        clear c78
        by_cases c79 : x11_7 = true
        ·subst c79
         have H1 : (some false) = some r := by rw [if_pos rfl] at H; exact H
         clear H
         have H := H1
         clear H1
         exact absurd (Option.some.inj (H.trans (congrArg some hrt))) (by decide)
        ·replace c79 := Bool.eq_false_iff.mpr c79
         subst c79
         have H1 : ((stamp_Less.f kj7 t157 t158 t159 t160).bind fun t177 => (if t177 = true then ((scriptoriumlaw05_awake.f kj7).bind fun t178 => (some t178)) else ((stamp_Less.f kj7 t157 t158 t159 t160).bind fun t179 => (if t179 = true then (some false) else ((stamp_Less.f kj7 t159 t160 t163 t164).bind fun t180 => (if t180 = true then ((scriptoriumlaw05_awake.f kj7).bind fun t181 => (some t181)) else (some false))))))) = some r := by rw [if_neg (show ¬ (false = true) by decide)] at H; exact H
         clear H
         have H := H1
         clear H1
         replace H := Option.bind_eq_some_iff.mp H
         obtain ⟨t177, A800, H⟩ := H
         replace H : (if t177 = true then ((scriptoriumlaw05_awake.f kj7).bind fun t178 => (some t178)) else ((stamp_Less.f kj7 t157 t158 t159 t160).bind fun t179 => (if t179 = true then (some false) else ((stamp_Less.f kj7 t159 t160 t163 t164).bind fun t180 => (if t180 = true then ((scriptoriumlaw05_awake.f kj7).bind fun t181 => (some t181)) else (some false)))))) = some r := H
         have A80 := Aside0.mk A800
         clear A800
         by_cases c81 : t177 = true
         ·subst c81
          have H1 : ((scriptoriumlaw05_awake.f kj7).bind fun t178 => (some t178)) = some r := by rw [if_pos rfl] at H; exact H
          clear H
          have H := H1
          clear H1
          replace H := Option.bind_eq_some_iff.mp H
          obtain ⟨t178, A820, H⟩ := H
          replace H : (some t178) = some r := H
          have A82 := Aside0.mk A820
          clear A820
          obtain rfl := Option.some.inj H
          have hnb83 := NB166_155.out
          have hnc83 := NB155_166.out
          have hnb84 := NB166_156.out
          have hnc84 := NB156_166.out
          have hnb85 := NB166_161.out
          have hnc85 := NB161_166.out
          have hnb86 := NB166_162.out
          have hnc86 := NB162_166.out
          have hnb87 := NB166_172.out
          have hnc87 := NB172_166.out
          have hcz88_0 : wc.cell? ⟨gb166, 0, none⟩ = some (.int .i64 t163) := (blk_cell BK166.out 0).trans rfl
          have hcz88_1 : wc.cell? ⟨gb166, 1, none⟩ = some (.int .i64 t164) := (blk_cell BK166.out 1).trans rfl
          have hfz88_0 := blk_frozen BK166.out 0
          have hfz88_1 := blk_frozen BK166.out 1
          go_wp2_with (first | ((with_reducible refine gate_callee (f := 11) rfl ?_); refine goesL_ (some 53) rfl rfl Try.func11 (by kernel_rfl) rfl #[.agg #[.int .i64 t163, .int .i64 t164]] rfl (by (try simp only [List.map_toArray, List.map_cons, List.map_nil]); first | done | rfl | (simp only [List.length_drop, List.length_take]; rfl)) ?_; (with_reducible refine (stamp_Check.calls t163 t164 t175 _ A73.out).mono ?_); rintro e w89 ⟨rfl, hb⟩; refine ⟨_, rfl, ?_⟩; have n0_ := Aside0.mk (blk_below (g := gb155) (o := .cells #[.int .i64 a0_0, .int .i64 a0_1] 23 (0, 0)) (by (with_reducible repeat first | apply blk_drewN | apply blk_drew | apply blk_alloc); exact BK155.out) hb); have n1_ := Aside0.mk (blk_below (g := gb156) (o := .cells #[.int .i64 a1_0, .int .i64 a1_1] 23 (0, 0)) (by (with_reducible repeat first | apply blk_drewN | apply blk_drew | apply blk_alloc); exact BK156.out) hb); have n2_ := Aside0.mk (blk_below (g := gb161) (o := .cells #[.int .i64 t157, .int .i64 t158] 23 (0, 0)) (by (with_reducible repeat first | apply blk_drewN | apply blk_drew | apply blk_alloc); exact BK161.out) hb); have n3_ := Aside0.mk (blk_below (g := gb162) (o := .cells #[.int .i64 t159, .int .i64 t160] 23 (0, 0)) (by (with_reducible repeat first | apply blk_drewN | apply blk_drew | apply blk_alloc); exact BK162.out) hb); have n4_ := Aside0.mk (blk_below (g := gb166) (o := .cells #[.int .i64 t163, .int .i64 t164] 23 (0, 0)) (by (with_reducible repeat first | apply blk_drewN | apply blk_drew | apply blk_alloc); exact BK166.out) hb); have n5_ := Aside0.mk (blk_below (g := gb172) (o := .cells #[.int .i64 t169, .int .i64 t170] 23 (0, 0)) (by (with_reducible repeat first | apply blk_drewN | apply blk_drew | apply blk_alloc); exact BK172.out) hb); have n6_ := Aside0.mk (below_step (by repeat (first | (with_reducible first | exact HB.out | apply below_alloc | apply pw_below_drewN | apply below_drew1 | refine below_set ?_ GE155.out | refine below_set ?_ GE156.out | refine below_set ?_ GE161.out | refine below_set ?_ GE162.out | refine below_set ?_ GE166.out | refine below_set ?_ GE172.out) | exact HB.out)) hb); clear BK155; clear BK156; clear BK161; clear BK162; clear BK166; clear BK172; clear HB; have BK155 := n0_; have BK156 := n1_; have BK161 := n2_; have BK162 := n3_; have BK166 := n4_; have BK172 := n5_; have HB := n6_; clear n0_ n1_ n2_ n3_ n4_ n5_ n6_; (try clear hb); (try clear hb2); (try clear hk); (try clear hi); have hnb90 := NB161_155.out; have hnc90 := NB155_161.out; have hnb91 := NB161_156.out; have hnc91 := NB156_161.out; have hnb92 := NB161_162.out; have hnc92 := NB162_161.out; have hnb93 := NB161_172.out; have hnc93 := NB172_161.out; have hcz94_0 : w89.cell? ⟨gb161, 0, none⟩ = some (.int .i64 t157) := (blk_cell BK161.out 0).trans rfl; have hcz94_1 : w89.cell? ⟨gb161, 1, none⟩ = some (.int .i64 t158) := (blk_cell BK161.out 1).trans rfl; have hfz94_0 := blk_frozen BK161.out 0; have hfz94_1 := blk_frozen BK161.out 1; have hcz95_0 : w89.cell? ⟨gb166, 0, none⟩ = some (.int .i64 t163) := (blk_cell BK166.out 0).trans rfl; have hcz95_1 : w89.cell? ⟨gb166, 1, none⟩ = some (.int .i64 t164) := (blk_cell BK166.out 1).trans rfl; have hfz95_0 := blk_frozen BK166.out 0; have hfz95_1 := blk_frozen BK166.out 1) | (go_at_call 13; (with_reducible refine (stamp_Less.calls kj7 t157 t158 t163 t164 true _ A75.out).mono ?_); rintro e w96 ⟨rfl, hb⟩; have n0_ := Aside0.mk (blk_below (g := gb155) (o := .cells #[.int .i64 a0_0, .int .i64 a0_1] 23 (0, 0)) (by (with_reducible repeat first | apply blk_drewN | apply blk_drew | apply blk_alloc); exact BK155.out) hb); have n1_ := Aside0.mk (blk_below (g := gb156) (o := .cells #[.int .i64 a1_0, .int .i64 a1_1] 23 (0, 0)) (by (with_reducible repeat first | apply blk_drewN | apply blk_drew | apply blk_alloc); exact BK156.out) hb); have n2_ := Aside0.mk (blk_below (g := gb161) (o := .cells #[.int .i64 t157, .int .i64 t158] 23 (0, 0)) (by (with_reducible repeat first | apply blk_drewN | apply blk_drew | apply blk_alloc); exact BK161.out) hb); have n3_ := Aside0.mk (blk_below (g := gb162) (o := .cells #[.int .i64 t159, .int .i64 t160] 23 (0, 0)) (by (with_reducible repeat first | apply blk_drewN | apply blk_drew | apply blk_alloc); exact BK162.out) hb); have n4_ := Aside0.mk (blk_below (g := gb166) (o := .cells #[.int .i64 t163, .int .i64 t164] 23 (0, 0)) (by (with_reducible repeat first | apply blk_drewN | apply blk_drew | apply blk_alloc); exact BK166.out) hb); have n5_ := Aside0.mk (blk_below (g := gb172) (o := .cells #[.int .i64 t169, .int .i64 t170] 23 (0, 0)) (by (with_reducible repeat first | apply blk_drewN | apply blk_drew | apply blk_alloc); exact BK172.out) hb); have n6_ := Aside0.mk (below_step (by repeat (first | (with_reducible first | exact HB.out | apply below_alloc | apply pw_below_drewN | apply below_drew1 | refine below_set ?_ GE155.out | refine below_set ?_ GE156.out | refine below_set ?_ GE161.out | refine below_set ?_ GE162.out | refine below_set ?_ GE166.out | refine below_set ?_ GE172.out) | exact HB.out)) hb); clear BK155; clear BK156; clear BK161; clear BK162; clear BK166; clear BK172; clear HB; have BK155 := n0_; have BK156 := n1_; have BK161 := n2_; have BK162 := n3_; have BK166 := n4_; have BK172 := n5_; have HB := n6_; clear n0_ n1_ n2_ n3_ n4_ n5_ n6_; (try clear hb); (try clear hb2); (try clear hk); (try clear hi); have hnb97 := NB172_155.out; have hnc97 := NB155_172.out; have hnb98 := NB172_156.out; have hnc98 := NB156_172.out; have hnb99 := NB172_162.out; have hnc99 := NB162_172.out; have hcz100_0 : w96.cell? ⟨gb172, 0, none⟩ = some (.int .i64 t169) := (blk_cell BK172.out 0).trans rfl; have hcz100_1 : w96.cell? ⟨gb172, 1, none⟩ = some (.int .i64 t170) := (blk_cell BK172.out 1).trans rfl; have hfz100_0 := blk_frozen BK172.out 0; have hfz100_1 := blk_frozen BK172.out 1; have hcz101_0 : w96.cell? ⟨gb161, 0, none⟩ = some (.int .i64 t157) := (blk_cell BK161.out 0).trans rfl; have hcz101_1 : w96.cell? ⟨gb161, 1, none⟩ = some (.int .i64 t158) := (blk_cell BK161.out 1).trans rfl; have hfz101_0 := blk_frozen BK161.out 0; have hfz101_1 := blk_frozen BK161.out 1; have hnb102 := NB162_155.out; have hnc102 := NB155_162.out; have hnb103 := NB162_156.out; have hnc103 := NB156_162.out; have hcz104_0 : w96.cell? ⟨gb162, 0, none⟩ = some (.int .i64 t159) := (blk_cell BK162.out 0).trans rfl; have hcz104_1 : w96.cell? ⟨gb162, 1, none⟩ = some (.int .i64 t160) := (blk_cell BK162.out 1).trans rfl; have hfz104_0 := blk_frozen BK162.out 0; have hfz104_1 := blk_frozen BK162.out 1) | (go_at_call 13; (with_reducible refine (stamp_Less.calls kj7 t157 t158 t159 t160 true _ A80.out).mono ?_); rintro e w105 ⟨rfl, hb⟩; have n0_ := Aside0.mk (blk_below (g := gb155) (o := .cells #[.int .i64 a0_0, .int .i64 a0_1] 23 (0, 0)) (by (with_reducible repeat first | apply blk_drewN | apply blk_drew | apply blk_alloc); exact BK155.out) hb); have n1_ := Aside0.mk (blk_below (g := gb156) (o := .cells #[.int .i64 a1_0, .int .i64 a1_1] 23 (0, 0)) (by (with_reducible repeat first | apply blk_drewN | apply blk_drew | apply blk_alloc); exact BK156.out) hb); have n2_ := Aside0.mk (blk_below (g := gb161) (o := .cells #[.int .i64 t157, .int .i64 t158] 23 (0, 0)) (by (with_reducible repeat first | apply blk_drewN | apply blk_drew | apply blk_alloc); exact BK161.out) hb); have n3_ := Aside0.mk (blk_below (g := gb162) (o := .cells #[.int .i64 t159, .int .i64 t160] 23 (0, 0)) (by (with_reducible repeat first | apply blk_drewN | apply blk_drew | apply blk_alloc); exact BK162.out) hb); have n4_ := Aside0.mk (blk_below (g := gb166) (o := .cells #[.int .i64 t163, .int .i64 t164] 23 (0, 0)) (by (with_reducible repeat first | apply blk_drewN | apply blk_drew | apply blk_alloc); exact BK166.out) hb); have n5_ := Aside0.mk (blk_below (g := gb172) (o := .cells #[.int .i64 t169, .int .i64 t170] 23 (0, 0)) (by (with_reducible repeat first | apply blk_drewN | apply blk_drew | apply blk_alloc); exact BK172.out) hb); have n6_ := Aside0.mk (below_step (by repeat (first | (with_reducible first | exact HB.out | apply below_alloc | apply pw_below_drewN | apply below_drew1 | refine below_set ?_ GE155.out | refine below_set ?_ GE156.out | refine below_set ?_ GE161.out | refine below_set ?_ GE162.out | refine below_set ?_ GE166.out | refine below_set ?_ GE172.out) | exact HB.out)) hb); clear BK155; clear BK156; clear BK161; clear BK162; clear BK166; clear BK172; clear HB; have BK155 := n0_; have BK156 := n1_; have BK161 := n2_; have BK162 := n3_; have BK166 := n4_; have BK172 := n5_; have HB := n6_; clear n0_ n1_ n2_ n3_ n4_ n5_ n6_; (try clear hb); (try clear hb2); (try clear hk); (try clear hi)) | (go_at_call 15; (with_reducible refine (scriptoriumlaw05_awake.calls kj7  t178 _ A82.out).mono ?_); rintro e w106 ⟨rfl, hb⟩; have n0_ := Aside0.mk (blk_below (g := gb155) (o := .cells #[.int .i64 a0_0, .int .i64 a0_1] 23 (0, 0)) (by (with_reducible repeat first | apply blk_drewN | apply blk_drew | apply blk_alloc); exact BK155.out) hb); have n1_ := Aside0.mk (blk_below (g := gb156) (o := .cells #[.int .i64 a1_0, .int .i64 a1_1] 23 (0, 0)) (by (with_reducible repeat first | apply blk_drewN | apply blk_drew | apply blk_alloc); exact BK156.out) hb); have n2_ := Aside0.mk (blk_below (g := gb161) (o := .cells #[.int .i64 t157, .int .i64 t158] 23 (0, 0)) (by (with_reducible repeat first | apply blk_drewN | apply blk_drew | apply blk_alloc); exact BK161.out) hb); have n3_ := Aside0.mk (blk_below (g := gb162) (o := .cells #[.int .i64 t159, .int .i64 t160] 23 (0, 0)) (by (with_reducible repeat first | apply blk_drewN | apply blk_drew | apply blk_alloc); exact BK162.out) hb); have n4_ := Aside0.mk (blk_below (g := gb166) (o := .cells #[.int .i64 t163, .int .i64 t164] 23 (0, 0)) (by (with_reducible repeat first | apply blk_drewN | apply blk_drew | apply blk_alloc); exact BK166.out) hb); have n5_ := Aside0.mk (blk_below (g := gb172) (o := .cells #[.int .i64 t169, .int .i64 t170] 23 (0, 0)) (by (with_reducible repeat first | apply blk_drewN | apply blk_drew | apply blk_alloc); exact BK172.out) hb); have n6_ := Aside0.mk (below_step (by repeat (first | (with_reducible first | exact HB.out | apply below_alloc | apply pw_below_drewN | apply below_drew1 | refine below_set ?_ GE155.out | refine below_set ?_ GE156.out | refine below_set ?_ GE161.out | refine below_set ?_ GE162.out | refine below_set ?_ GE166.out | refine below_set ?_ GE172.out) | exact HB.out)) hb); clear BK155; clear BK156; clear BK161; clear BK162; clear BK166; clear BK172; clear HB; have BK155 := n0_; have BK156 := n1_; have BK161 := n2_; have BK162 := n3_; have BK166 := n4_; have BK172 := n5_; have HB := n6_; clear n0_ n1_ n2_ n3_ n4_ n5_ n6_; (try clear hb); (try clear hb2); (try clear hk); (try clear hi)))
          go_ret
          exact ⟨by first | rfl | (simp [errW_none, errW_some] <;> rfl) | (simp [*, errW_none, errW_some] <;> rfl), by repeat (first | (with_reducible first | exact HB.out | apply below_alloc | apply pw_below_drewN | apply below_drew1 | refine below_set ?_ GE155.out | refine below_set ?_ GE156.out | refine below_set ?_ GE161.out | refine below_set ?_ GE162.out | refine below_set ?_ GE166.out | refine below_set ?_ GE172.out) | exact HB.out)⟩
         ·replace c81 := Bool.eq_false_iff.mpr c81
          subst c81
          have H1 : ((stamp_Less.f kj7 t157 t158 t159 t160).bind fun t179 => (if t179 = true then (some false) else ((stamp_Less.f kj7 t159 t160 t163 t164).bind fun t180 => (if t180 = true then ((scriptoriumlaw05_awake.f kj7).bind fun t181 => (some t181)) else (some false))))) = some r := by rw [if_neg (show ¬ (false = true) by decide)] at H; exact H
          clear H
          have H := H1
          clear H1
          replace H := Option.bind_eq_some_iff.mp H
          obtain ⟨t179, A1070, H⟩ := H
          replace H : (if t179 = true then (some false) else ((stamp_Less.f kj7 t159 t160 t163 t164).bind fun t180 => (if t180 = true then ((scriptoriumlaw05_awake.f kj7).bind fun t181 => (some t181)) else (some false)))) = some r := H
          have A107 := Aside0.mk A1070
          clear A1070
          by_cases c108 : t179 = true
          ·subst c108
           have H1 : (some false) = some r := by rw [if_pos rfl] at H; exact H
           clear H
           have H := H1
           clear H1
           exact absurd (Option.some.inj (H.trans (congrArg some hrt))) (by decide)
          ·replace c108 := Bool.eq_false_iff.mpr c108
           subst c108
           have H1 : ((stamp_Less.f kj7 t159 t160 t163 t164).bind fun t180 => (if t180 = true then ((scriptoriumlaw05_awake.f kj7).bind fun t181 => (some t181)) else (some false))) = some r := by rw [if_neg (show ¬ (false = true) by decide)] at H; exact H
           clear H
           have H := H1
           clear H1
           replace H := Option.bind_eq_some_iff.mp H
           obtain ⟨t180, A1090, H⟩ := H
           replace H : (if t180 = true then ((scriptoriumlaw05_awake.f kj7).bind fun t181 => (some t181)) else (some false)) = some r := H
           have A109 := Aside0.mk A1090
           clear A1090
           by_cases c110 : t180 = true
           ·subst c110
            have H1 : ((scriptoriumlaw05_awake.f kj7).bind fun t181 => (some t181)) = some r := by rw [if_pos rfl] at H; exact H
            clear H
            have H := H1
            clear H1
            replace H := Option.bind_eq_some_iff.mp H
            obtain ⟨t181, A1110, H⟩ := H
            replace H : (some t181) = some r := H
            have A111 := Aside0.mk A1110
            clear A1110
            obtain rfl := Option.some.inj H
            have hnb112 := NB166_155.out
            have hnc112 := NB155_166.out
            have hnb113 := NB166_156.out
            have hnc113 := NB156_166.out
            have hnb114 := NB166_161.out
            have hnc114 := NB161_166.out
            have hnb115 := NB166_162.out
            have hnc115 := NB162_166.out
            have hnb116 := NB166_172.out
            have hnc116 := NB172_166.out
            have hcz117_0 : wc.cell? ⟨gb166, 0, none⟩ = some (.int .i64 t163) := (blk_cell BK166.out 0).trans rfl
            have hcz117_1 : wc.cell? ⟨gb166, 1, none⟩ = some (.int .i64 t164) := (blk_cell BK166.out 1).trans rfl
            have hfz117_0 := blk_frozen BK166.out 0
            have hfz117_1 := blk_frozen BK166.out 1
            go_wp2_with (first | ((with_reducible refine gate_callee (f := 11) rfl ?_); refine goesL_ (some 53) rfl rfl Try.func11 (by kernel_rfl) rfl #[.agg #[.int .i64 t163, .int .i64 t164]] rfl (by (try simp only [List.map_toArray, List.map_cons, List.map_nil]); first | done | rfl | (simp only [List.length_drop, List.length_take]; rfl)) ?_; (with_reducible refine (stamp_Check.calls t163 t164 t175 _ A73.out).mono ?_); rintro e w118 ⟨rfl, hb⟩; refine ⟨_, rfl, ?_⟩; have n0_ := Aside0.mk (blk_below (g := gb155) (o := .cells #[.int .i64 a0_0, .int .i64 a0_1] 23 (0, 0)) (by (with_reducible repeat first | apply blk_drewN | apply blk_drew | apply blk_alloc); exact BK155.out) hb); have n1_ := Aside0.mk (blk_below (g := gb156) (o := .cells #[.int .i64 a1_0, .int .i64 a1_1] 23 (0, 0)) (by (with_reducible repeat first | apply blk_drewN | apply blk_drew | apply blk_alloc); exact BK156.out) hb); have n2_ := Aside0.mk (blk_below (g := gb161) (o := .cells #[.int .i64 t157, .int .i64 t158] 23 (0, 0)) (by (with_reducible repeat first | apply blk_drewN | apply blk_drew | apply blk_alloc); exact BK161.out) hb); have n3_ := Aside0.mk (blk_below (g := gb162) (o := .cells #[.int .i64 t159, .int .i64 t160] 23 (0, 0)) (by (with_reducible repeat first | apply blk_drewN | apply blk_drew | apply blk_alloc); exact BK162.out) hb); have n4_ := Aside0.mk (blk_below (g := gb166) (o := .cells #[.int .i64 t163, .int .i64 t164] 23 (0, 0)) (by (with_reducible repeat first | apply blk_drewN | apply blk_drew | apply blk_alloc); exact BK166.out) hb); have n5_ := Aside0.mk (blk_below (g := gb172) (o := .cells #[.int .i64 t169, .int .i64 t170] 23 (0, 0)) (by (with_reducible repeat first | apply blk_drewN | apply blk_drew | apply blk_alloc); exact BK172.out) hb); have n6_ := Aside0.mk (below_step (by repeat (first | (with_reducible first | exact HB.out | apply below_alloc | apply pw_below_drewN | apply below_drew1 | refine below_set ?_ GE155.out | refine below_set ?_ GE156.out | refine below_set ?_ GE161.out | refine below_set ?_ GE162.out | refine below_set ?_ GE166.out | refine below_set ?_ GE172.out) | exact HB.out)) hb); clear BK155; clear BK156; clear BK161; clear BK162; clear BK166; clear BK172; clear HB; have BK155 := n0_; have BK156 := n1_; have BK161 := n2_; have BK162 := n3_; have BK166 := n4_; have BK172 := n5_; have HB := n6_; clear n0_ n1_ n2_ n3_ n4_ n5_ n6_; (try clear hb); (try clear hb2); (try clear hk); (try clear hi); have hnb119 := NB161_155.out; have hnc119 := NB155_161.out; have hnb120 := NB161_156.out; have hnc120 := NB156_161.out; have hnb121 := NB161_162.out; have hnc121 := NB162_161.out; have hnb122 := NB161_172.out; have hnc122 := NB172_161.out; have hcz123_0 : w118.cell? ⟨gb161, 0, none⟩ = some (.int .i64 t157) := (blk_cell BK161.out 0).trans rfl; have hcz123_1 : w118.cell? ⟨gb161, 1, none⟩ = some (.int .i64 t158) := (blk_cell BK161.out 1).trans rfl; have hfz123_0 := blk_frozen BK161.out 0; have hfz123_1 := blk_frozen BK161.out 1; have hcz124_0 : w118.cell? ⟨gb166, 0, none⟩ = some (.int .i64 t163) := (blk_cell BK166.out 0).trans rfl; have hcz124_1 : w118.cell? ⟨gb166, 1, none⟩ = some (.int .i64 t164) := (blk_cell BK166.out 1).trans rfl; have hfz124_0 := blk_frozen BK166.out 0; have hfz124_1 := blk_frozen BK166.out 1) | (go_at_call 13; (with_reducible refine (stamp_Less.calls kj7 t157 t158 t163 t164 true _ A75.out).mono ?_); rintro e w125 ⟨rfl, hb⟩; have n0_ := Aside0.mk (blk_below (g := gb155) (o := .cells #[.int .i64 a0_0, .int .i64 a0_1] 23 (0, 0)) (by (with_reducible repeat first | apply blk_drewN | apply blk_drew | apply blk_alloc); exact BK155.out) hb); have n1_ := Aside0.mk (blk_below (g := gb156) (o := .cells #[.int .i64 a1_0, .int .i64 a1_1] 23 (0, 0)) (by (with_reducible repeat first | apply blk_drewN | apply blk_drew | apply blk_alloc); exact BK156.out) hb); have n2_ := Aside0.mk (blk_below (g := gb161) (o := .cells #[.int .i64 t157, .int .i64 t158] 23 (0, 0)) (by (with_reducible repeat first | apply blk_drewN | apply blk_drew | apply blk_alloc); exact BK161.out) hb); have n3_ := Aside0.mk (blk_below (g := gb162) (o := .cells #[.int .i64 t159, .int .i64 t160] 23 (0, 0)) (by (with_reducible repeat first | apply blk_drewN | apply blk_drew | apply blk_alloc); exact BK162.out) hb); have n4_ := Aside0.mk (blk_below (g := gb166) (o := .cells #[.int .i64 t163, .int .i64 t164] 23 (0, 0)) (by (with_reducible repeat first | apply blk_drewN | apply blk_drew | apply blk_alloc); exact BK166.out) hb); have n5_ := Aside0.mk (blk_below (g := gb172) (o := .cells #[.int .i64 t169, .int .i64 t170] 23 (0, 0)) (by (with_reducible repeat first | apply blk_drewN | apply blk_drew | apply blk_alloc); exact BK172.out) hb); have n6_ := Aside0.mk (below_step (by repeat (first | (with_reducible first | exact HB.out | apply below_alloc | apply pw_below_drewN | apply below_drew1 | refine below_set ?_ GE155.out | refine below_set ?_ GE156.out | refine below_set ?_ GE161.out | refine below_set ?_ GE162.out | refine below_set ?_ GE166.out | refine below_set ?_ GE172.out) | exact HB.out)) hb); clear BK155; clear BK156; clear BK161; clear BK162; clear BK166; clear BK172; clear HB; have BK155 := n0_; have BK156 := n1_; have BK161 := n2_; have BK162 := n3_; have BK166 := n4_; have BK172 := n5_; have HB := n6_; clear n0_ n1_ n2_ n3_ n4_ n5_ n6_; (try clear hb); (try clear hb2); (try clear hk); (try clear hi); have hnb126 := NB172_155.out; have hnc126 := NB155_172.out; have hnb127 := NB172_156.out; have hnc127 := NB156_172.out; have hnb128 := NB172_162.out; have hnc128 := NB162_172.out; have hcz129_0 : w125.cell? ⟨gb172, 0, none⟩ = some (.int .i64 t169) := (blk_cell BK172.out 0).trans rfl; have hcz129_1 : w125.cell? ⟨gb172, 1, none⟩ = some (.int .i64 t170) := (blk_cell BK172.out 1).trans rfl; have hfz129_0 := blk_frozen BK172.out 0; have hfz129_1 := blk_frozen BK172.out 1; have hcz130_0 : w125.cell? ⟨gb161, 0, none⟩ = some (.int .i64 t157) := (blk_cell BK161.out 0).trans rfl; have hcz130_1 : w125.cell? ⟨gb161, 1, none⟩ = some (.int .i64 t158) := (blk_cell BK161.out 1).trans rfl; have hfz130_0 := blk_frozen BK161.out 0; have hfz130_1 := blk_frozen BK161.out 1; have hnb131 := NB162_155.out; have hnc131 := NB155_162.out; have hnb132 := NB162_156.out; have hnc132 := NB156_162.out; have hcz133_0 : w125.cell? ⟨gb162, 0, none⟩ = some (.int .i64 t159) := (blk_cell BK162.out 0).trans rfl; have hcz133_1 : w125.cell? ⟨gb162, 1, none⟩ = some (.int .i64 t160) := (blk_cell BK162.out 1).trans rfl; have hfz133_0 := blk_frozen BK162.out 0; have hfz133_1 := blk_frozen BK162.out 1) | (go_at_call 13; (with_reducible refine (stamp_Less.calls kj7 t157 t158 t159 t160 false _ A80.out).mono ?_); rintro e w134 ⟨rfl, hb⟩; (try clear A80); have n0_ := Aside0.mk (blk_below (g := gb155) (o := .cells #[.int .i64 a0_0, .int .i64 a0_1] 23 (0, 0)) (by (with_reducible repeat first | apply blk_drewN | apply blk_drew | apply blk_alloc); exact BK155.out) hb); have n1_ := Aside0.mk (blk_below (g := gb156) (o := .cells #[.int .i64 a1_0, .int .i64 a1_1] 23 (0, 0)) (by (with_reducible repeat first | apply blk_drewN | apply blk_drew | apply blk_alloc); exact BK156.out) hb); have n2_ := Aside0.mk (blk_below (g := gb161) (o := .cells #[.int .i64 t157, .int .i64 t158] 23 (0, 0)) (by (with_reducible repeat first | apply blk_drewN | apply blk_drew | apply blk_alloc); exact BK161.out) hb); have n3_ := Aside0.mk (blk_below (g := gb162) (o := .cells #[.int .i64 t159, .int .i64 t160] 23 (0, 0)) (by (with_reducible repeat first | apply blk_drewN | apply blk_drew | apply blk_alloc); exact BK162.out) hb); have n4_ := Aside0.mk (blk_below (g := gb166) (o := .cells #[.int .i64 t163, .int .i64 t164] 23 (0, 0)) (by (with_reducible repeat first | apply blk_drewN | apply blk_drew | apply blk_alloc); exact BK166.out) hb); have n5_ := Aside0.mk (blk_below (g := gb172) (o := .cells #[.int .i64 t169, .int .i64 t170] 23 (0, 0)) (by (with_reducible repeat first | apply blk_drewN | apply blk_drew | apply blk_alloc); exact BK172.out) hb); have n6_ := Aside0.mk (below_step (by repeat (first | (with_reducible first | exact HB.out | apply below_alloc | apply pw_below_drewN | apply below_drew1 | refine below_set ?_ GE155.out | refine below_set ?_ GE156.out | refine below_set ?_ GE161.out | refine below_set ?_ GE162.out | refine below_set ?_ GE166.out | refine below_set ?_ GE172.out) | exact HB.out)) hb); clear BK155; clear BK156; clear BK161; clear BK162; clear BK166; clear BK172; clear HB; have BK155 := n0_; have BK156 := n1_; have BK161 := n2_; have BK162 := n3_; have BK166 := n4_; have BK172 := n5_; have HB := n6_; clear n0_ n1_ n2_ n3_ n4_ n5_ n6_; (try clear hb); (try clear hb2); (try clear hk); (try clear hi); have hcz135_0 : w134.cell? ⟨gb161, 0, none⟩ = some (.int .i64 t157) := (blk_cell BK161.out 0).trans rfl; have hcz135_1 : w134.cell? ⟨gb161, 1, none⟩ = some (.int .i64 t158) := (blk_cell BK161.out 1).trans rfl; have hfz135_0 := blk_frozen BK161.out 0; have hfz135_1 := blk_frozen BK161.out 1; have hcz136_0 : w134.cell? ⟨gb162, 0, none⟩ = some (.int .i64 t159) := (blk_cell BK162.out 0).trans rfl; have hcz136_1 : w134.cell? ⟨gb162, 1, none⟩ = some (.int .i64 t160) := (blk_cell BK162.out 1).trans rfl; have hfz136_0 := blk_frozen BK162.out 0; have hfz136_1 := blk_frozen BK162.out 1) | (go_at_call 13; (with_reducible refine (stamp_Less.calls kj7 t157 t158 t159 t160 false _ A107.out).mono ?_); rintro e w137 ⟨rfl, hb⟩; have n0_ := Aside0.mk (blk_below (g := gb155) (o := .cells #[.int .i64 a0_0, .int .i64 a0_1] 23 (0, 0)) (by (with_reducible repeat first | apply blk_drewN | apply blk_drew | apply blk_alloc); exact BK155.out) hb); have n1_ := Aside0.mk (blk_below (g := gb156) (o := .cells #[.int .i64 a1_0, .int .i64 a1_1] 23 (0, 0)) (by (with_reducible repeat first | apply blk_drewN | apply blk_drew | apply blk_alloc); exact BK156.out) hb); have n2_ := Aside0.mk (blk_below (g := gb161) (o := .cells #[.int .i64 t157, .int .i64 t158] 23 (0, 0)) (by (with_reducible repeat first | apply blk_drewN | apply blk_drew | apply blk_alloc); exact BK161.out) hb); have n3_ := Aside0.mk (blk_below (g := gb162) (o := .cells #[.int .i64 t159, .int .i64 t160] 23 (0, 0)) (by (with_reducible repeat first | apply blk_drewN | apply blk_drew | apply blk_alloc); exact BK162.out) hb); have n4_ := Aside0.mk (blk_below (g := gb166) (o := .cells #[.int .i64 t163, .int .i64 t164] 23 (0, 0)) (by (with_reducible repeat first | apply blk_drewN | apply blk_drew | apply blk_alloc); exact BK166.out) hb); have n5_ := Aside0.mk (blk_below (g := gb172) (o := .cells #[.int .i64 t169, .int .i64 t170] 23 (0, 0)) (by (with_reducible repeat first | apply blk_drewN | apply blk_drew | apply blk_alloc); exact BK172.out) hb); have n6_ := Aside0.mk (below_step (by repeat (first | (with_reducible first | exact HB.out | apply below_alloc | apply pw_below_drewN | apply below_drew1 | refine below_set ?_ GE155.out | refine below_set ?_ GE156.out | refine below_set ?_ GE161.out | refine below_set ?_ GE162.out | refine below_set ?_ GE166.out | refine below_set ?_ GE172.out) | exact HB.out)) hb); clear BK155; clear BK156; clear BK161; clear BK162; clear BK166; clear BK172; clear HB; have BK155 := n0_; have BK156 := n1_; have BK161 := n2_; have BK162 := n3_; have BK166 := n4_; have BK172 := n5_; have HB := n6_; clear n0_ n1_ n2_ n3_ n4_ n5_ n6_; (try clear hb); (try clear hb2); (try clear hk); (try clear hi); have hcz138_0 : w137.cell? ⟨gb162, 0, none⟩ = some (.int .i64 t159) := (blk_cell BK162.out 0).trans rfl; have hcz138_1 : w137.cell? ⟨gb162, 1, none⟩ = some (.int .i64 t160) := (blk_cell BK162.out 1).trans rfl; have hfz138_0 := blk_frozen BK162.out 0; have hfz138_1 := blk_frozen BK162.out 1; have hcz139_0 : w137.cell? ⟨gb166, 0, none⟩ = some (.int .i64 t163) := (blk_cell BK166.out 0).trans rfl; have hcz139_1 : w137.cell? ⟨gb166, 1, none⟩ = some (.int .i64 t164) := (blk_cell BK166.out 1).trans rfl; have hfz139_0 := blk_frozen BK166.out 0; have hfz139_1 := blk_frozen BK166.out 1) | (go_at_call 13; (with_reducible refine (stamp_Less.calls kj7 t159 t160 t163 t164 true _ A109.out).mono ?_); rintro e w140 ⟨rfl, hb⟩; have n0_ := Aside0.mk (blk_below (g := gb155) (o := .cells #[.int .i64 a0_0, .int .i64 a0_1] 23 (0, 0)) (by (with_reducible repeat first | apply blk_drewN | apply blk_drew | apply blk_alloc); exact BK155.out) hb); have n1_ := Aside0.mk (blk_below (g := gb156) (o := .cells #[.int .i64 a1_0, .int .i64 a1_1] 23 (0, 0)) (by (with_reducible repeat first | apply blk_drewN | apply blk_drew | apply blk_alloc); exact BK156.out) hb); have n2_ := Aside0.mk (blk_below (g := gb161) (o := .cells #[.int .i64 t157, .int .i64 t158] 23 (0, 0)) (by (with_reducible repeat first | apply blk_drewN | apply blk_drew | apply blk_alloc); exact BK161.out) hb); have n3_ := Aside0.mk (blk_below (g := gb162) (o := .cells #[.int .i64 t159, .int .i64 t160] 23 (0, 0)) (by (with_reducible repeat first | apply blk_drewN | apply blk_drew | apply blk_alloc); exact BK162.out) hb); have n4_ := Aside0.mk (blk_below (g := gb166) (o := .cells #[.int .i64 t163, .int .i64 t164] 23 (0, 0)) (by (with_reducible repeat first | apply blk_drewN | apply blk_drew | apply blk_alloc); exact BK166.out) hb); have n5_ := Aside0.mk (blk_below (g := gb172) (o := .cells #[.int .i64 t169, .int .i64 t170] 23 (0, 0)) (by (with_reducible repeat first | apply blk_drewN | apply blk_drew | apply blk_alloc); exact BK172.out) hb); have n6_ := Aside0.mk (below_step (by repeat (first | (with_reducible first | exact HB.out | apply below_alloc | apply pw_below_drewN | apply below_drew1 | refine below_set ?_ GE155.out | refine below_set ?_ GE156.out | refine below_set ?_ GE161.out | refine below_set ?_ GE162.out | refine below_set ?_ GE166.out | refine below_set ?_ GE172.out) | exact HB.out)) hb); clear BK155; clear BK156; clear BK161; clear BK162; clear BK166; clear BK172; clear HB; have BK155 := n0_; have BK156 := n1_; have BK161 := n2_; have BK162 := n3_; have BK166 := n4_; have BK172 := n5_; have HB := n6_; clear n0_ n1_ n2_ n3_ n4_ n5_ n6_; (try clear hb); (try clear hb2); (try clear hk); (try clear hi)) | (go_at_call 15; (with_reducible refine (scriptoriumlaw05_awake.calls kj7  t181 _ A111.out).mono ?_); rintro e w141 ⟨rfl, hb⟩; have n0_ := Aside0.mk (blk_below (g := gb155) (o := .cells #[.int .i64 a0_0, .int .i64 a0_1] 23 (0, 0)) (by (with_reducible repeat first | apply blk_drewN | apply blk_drew | apply blk_alloc); exact BK155.out) hb); have n1_ := Aside0.mk (blk_below (g := gb156) (o := .cells #[.int .i64 a1_0, .int .i64 a1_1] 23 (0, 0)) (by (with_reducible repeat first | apply blk_drewN | apply blk_drew | apply blk_alloc); exact BK156.out) hb); have n2_ := Aside0.mk (blk_below (g := gb161) (o := .cells #[.int .i64 t157, .int .i64 t158] 23 (0, 0)) (by (with_reducible repeat first | apply blk_drewN | apply blk_drew | apply blk_alloc); exact BK161.out) hb); have n3_ := Aside0.mk (blk_below (g := gb162) (o := .cells #[.int .i64 t159, .int .i64 t160] 23 (0, 0)) (by (with_reducible repeat first | apply blk_drewN | apply blk_drew | apply blk_alloc); exact BK162.out) hb); have n4_ := Aside0.mk (blk_below (g := gb166) (o := .cells #[.int .i64 t163, .int .i64 t164] 23 (0, 0)) (by (with_reducible repeat first | apply blk_drewN | apply blk_drew | apply blk_alloc); exact BK166.out) hb); have n5_ := Aside0.mk (blk_below (g := gb172) (o := .cells #[.int .i64 t169, .int .i64 t170] 23 (0, 0)) (by (with_reducible repeat first | apply blk_drewN | apply blk_drew | apply blk_alloc); exact BK172.out) hb); have n6_ := Aside0.mk (below_step (by repeat (first | (with_reducible first | exact HB.out | apply below_alloc | apply pw_below_drewN | apply below_drew1 | refine below_set ?_ GE155.out | refine below_set ?_ GE156.out | refine below_set ?_ GE161.out | refine below_set ?_ GE162.out | refine below_set ?_ GE166.out | refine below_set ?_ GE172.out) | exact HB.out)) hb); clear BK155; clear BK156; clear BK161; clear BK162; clear BK166; clear BK172; clear HB; have BK155 := n0_; have BK156 := n1_; have BK161 := n2_; have BK162 := n3_; have BK166 := n4_; have BK172 := n5_; have HB := n6_; clear n0_ n1_ n2_ n3_ n4_ n5_ n6_; (try clear hb); (try clear hb2); (try clear hk); (try clear hi)))
            go_ret
            exact ⟨by first | rfl | (simp [errW_none, errW_some] <;> rfl) | (simp [*, errW_none, errW_some] <;> rfl), by repeat (first | (with_reducible first | exact HB.out | apply below_alloc | apply pw_below_drewN | apply below_drew1 | refine below_set ?_ GE155.out | refine below_set ?_ GE156.out | refine below_set ?_ GE161.out | refine below_set ?_ GE162.out | refine below_set ?_ GE166.out | refine below_set ?_ GE172.out) | exact HB.out)⟩
           ·replace c110 := Bool.eq_false_iff.mpr c110
            subst c110
            have H1 : (some false) = some r := by rw [if_neg (show ¬ (false = true) by decide)] at H; exact H
            clear H
            have H := H1
            clear H1
            exact absurd (Option.some.inj (H.trans (congrArg some hrt))) (by decide)
       ·rw [if_neg c78] at H
        have c78b0 : (t169 == t157 && (t170 == t158)) = false := by simpa using c78
        (try (have c78b1 : decide (t169 = t157 && (t170 == t158)) = false := by simpa using c78))
        (try (have c78b2 : (t169 == t157 && (t170 == t158)) = false := by simpa using c78))
        (try (have c78b3 : ¬ (t169 = t157 && (t170 == t158)) := by simpa using c78))
        clear c78
        exact absurd (Option.some.inj (H.trans (congrArg some hrt))) (by decide)
      ·rw [if_neg c77] at H
       have c77b0 : (t171 == 0) = false := beq_eq_false_iff_ne.mpr c77
       have c77b1 : (t171 != 0) = true := bne_iff_ne.mpr c77
       exact absurd (Option.some.inj (H.trans (congrArg some hrt))) (by decide)
     ·replace c76 := Bool.eq_false_iff.mpr c76
      subst c76
      have H1 : (some false) = some r := by rw [if_neg (show ¬ (false = true) by decide)] at H; exact H
      clear H
      have H := H1
      clear H1
      exact absurd (Option.some.inj (H.trans (congrArg some hrt))) (by decide)
    ·rw [if_neg c74] at H
     have c74b0 : (t175 == 0) = false := beq_eq_false_iff_ne.mpr c74
     have c74b1 : (t175 != 0) = true := bne_iff_ne.mpr c74
     exact absurd (Option.some.inj (H.trans (congrArg some hrt))) (by decide)
end Go.Proofs.Ytnohoknhhlcefaa.PStampNear
