/- TideHolds: behind an Add of a read, whatever is done then, Max of each span that meets it, for each other owner, is at its stamp, or above: the walk (typed by hand). -/
import Derived.Test.YtaccfbpfennjkaaTd8
namespace Go.Proofs.Ytaccfbpfennjkaa.PTideDoes
open Go.RowKit Go.Proofs.YtaccfbpfennjkaaW.PrintWords Go.Proofs.YtaccfbpfennjkaaW.PrintLast Go.Proofs.YtaccfbpfennjkaaW.PrintMore
attribute [local go_sem] max2_int min2_int max_two min_two max_three min_three max_four min_four   -- for this text's walks alone
set_option linter.unusedVariables false
set_option linter.unusedSimpArgs false
theorem wf_i64 {x : Int} (h : (Lit.int .i64 x).wf = true) : -9223372036854775808 ≤ x ∧ x < 9223372036854775808 := by
  simp only [Lit.wf, Bool.and_eq_true, decide_eq_true_eq] at h
  have hmin : IntKind.i64.min = -9223372036854775808 := rfl
  have hmax : IntKind.i64.max = 9223372036854775807 := rfl
  omega
theorem done_grows (t : Td S24) (hk : t.ok) (d : S33) : Td.Grows t (doneF t d).1 ∧ (doneF t d).1.ok := by
  unfold doneF
  split
  · split
    · exact Td.raise_grows t _
    · exact ⟨Td.Grows.refl t, hk⟩
  · split
    · exact ⟨(Td.add_grows t hk _ _ _).1, (Td.add_grows t hk _ _ _).2.2⟩
    · exact ⟨Td.Grows.refl t, hk⟩
theorem done_len (t : Td S24) (h : t.l.length ≤ 64) (d : S33) : (doneF t d).1.l.length ≤ 64 := by
  unfold doneF
  split
  · split
    · exact raise_len t h _
    · exact h
  · split
    · exact add_len t h _ _ _
    · exact h
theorem asks_alike (s : S24) (o : Int) (r r' : Rd S24) (h1 : r.s = r'.s) (h2 : r.o = r'.o) : asks s o r = asks s o r' := by
  unfold asks
  rw [h1, h2]
/-- What is wrong with a question; 0: nothing. -/
def qErr (s : S24) (o : Int) : Int := if spErr s ≠ 0 then spErr s else if own o = true then 0 else 2
theorem maxF_ok {t : Td S24} {s : S24} {o : Int} (h : qErr s o = 0) : t.maxF s o = (Td.max (asks s o) t.low t.l, 0) := by
  unfold qErr at h
  unfold Td.maxF
  by_cases hs : spErr s ≠ 0
  · rw [if_pos hs] at h; exact absurd h hs
  · rw [if_neg hs] at h ⊢
    by_cases ho : own o = true
    · rw [if_pos ho]
    · rw [if_neg ho] at h; exact absurd h (by decide)
theorem maxF_bad {t : Td S24} {s : S24} {o : Int} (h : qErr s o ≠ 0) : t.maxF s o = ((0, 0), qErr s o) := by
  unfold qErr at h ⊢
  unfold Td.maxF
  by_cases hs : spErr s ≠ 0
  · rw [if_pos hs, if_pos hs]
  · rw [if_neg hs] at h ⊢
    rw [if_neg hs]
    by_cases ho : own o = true
    · rw [if_pos ho] at h; exact absurd rfl h
    · rw [if_neg ho, if_neg ho]
set_option maxHeartbeats 16000000 in
set_option maxRecDepth 100000 in
theorem kh_walk (l0 : List S33) (s : S24) (o : Int) (A0 : Option Addr) (c0 : Nat) (w : World) (hwf : (l0.length ≤ maxLen ∧ l0.length * 64 ≤ 140737488351232 ∧ ∀ y0 ∈ l0, ((Lit.int .i64 y0.f0).wf = true ∧ (y0.f1.f0.size ≤ 140737488351232 ∧ y0.f1.f1.size ≤ 140737488351232) ∧ ((Lit.int .i64 y0.f2.f0).wf = true ∧ (Lit.int .i64 y0.f2.f1).wf = true) ∧ (Lit.int .i64 y0.f3).wf = true))) (hr0 : Kd.C k33 w A0 l0.length l0) :
    Calls Try.prog 3 #[.slice A0 l0.length c0, .agg #[.string s.f0, .string s.f1], .int .i64 o] w fun e w' => e = .returned (.bool true) ∧ Below w.heap.size w w' := by
  have HR0 := Aside0.mk hr0
  have HWF := Aside0.mk (fun d (hd : d ∈ l0) => bring4_f d.f0 (wf_i64 (hwf.2.2 d hd).1).1 (by have := (wf_i64 (hwf.2.2 d hd).1).2; omega))
  have HLM := Aside0.mk hwf.2.1
  clear hr0 hwf
  go_enter Try.func3, Try.ntmps3
  go_upto_region 1 with fail
  generalize hw1 : World.alloc w _ = w1
  have HB := Aside0.mk (show Below w.heap.size w w1 from by rw [← hw1]; exact td_alloc w _)
  have HX := Aside0.mk (show w1.heap[w.heap.size]? = some (.cells #[.string s.f0, .string s.f1] 24 (0, 0)) from by rw [← hw1]; exact blk_new w _)
  clear hw1
  obtain ⟨n, hn⟩ : ∃ n, w.heap.size = n := ⟨_, rfl⟩
  have HNW := Aside0.mk hn
  rw [hn] at HX ⊢
  clear hn
  go_wp2_with fail
  refine (td_works _).mono ?_
  rintro e w2 ⟨rfl, hb⟩
  have HX_ := Aside0.mk (td_kept HX.out hb)
  clear HX
  have HX := Aside0.mk HX_.out
  clear HX_
  have HB_ := Aside0.mk (below_step HB.out hb)
  clear HB
  have HB := Aside0.mk HB_.out
  clear HB_
  clear hb
  go_wp2_with fail
  refine (td_new (0, 0) _ (by kernel_rfl)).mono ?_
  rintro e w3 ⟨g, rfl, hT⟩
  have HW2 := Aside0.mk HB.out
  have HX_ := Aside0.mk (td_kept HX.out hT.below)
  have HNG := Aside0.mk (show some n ≠ some g from by intro e; injection e with e; have h1 := blk_lt HX.out; have h2 := hT.own; omega)
  clear HX HB
  have HX := Aside0.mk HX_.out
  have HT := Aside0.mk hT
  clear HX_ hT
  by_cases hl : l0.length = 0
  case pos =>
    have e0 : ((l0.length : Int) == 0) = true := beq_iff_eq.mpr (by omega)
    have e0n : (l0.length == 0) = true := beq_iff_eq.mpr hl
    clear hl
    go_wp2_with fail
    go_ret
    exact ⟨rfl, below_step HW2.out HT.out.below⟩
  have e0 : ((l0.length : Int) == 0) = false := beq_eq_false_iff_ne.mpr (by omega)
  have e0n : (l0.length == 0) = false := beq_eq_false_iff_ne.mpr hl
  have HLP := Aside0.mk (show 0 < l0.length from by omega)
  obtain ⟨ad, ea, r, hr, hld⟩ := ld_T33 HR0.out 0 HLP.out
  cases ea
  have hld3 := hld w3 (below_step HW2.out HT.out.below)
  rw [show ad.add (0 * 6) = ad from by simp [Addr.add]] at hld3
  have HLD := Aside0.mk hld3
  have p9 := eq_true (show (0 : Int) < (l0.length : Int) by omega)
  have p9n := eq_true HLP.out
  clear hld hld3 hl hr
  go_upto_region 9 with (first | (refine wpList_load_at rfl 33 _ rfl _ (by rfl) _ _ HLD.out Try.underlying33 rfl (by kernel_rfl) ?_) | (refine wpList_store_row rfl 33 _ _ rfl w3.heap.size _ (by rfl) (by rfl) _ _ (blk_new _ _) (by kernel_rfl) (by rfl) (by kernel_rfl) ?_))
  clear e0 e0n p9 p9n HLD
  generalize hw : World.setRow _ _ _ = w4
  have HR := Aside0.mk (show w4.heap[w3.heap.size]? = some (.cells #[.int .i64 r.f0, .string r.f1.f0, .string r.f1.f1, .int .i64 r.f2.f0, .int .i64 r.f2.f1, .int .i64 r.f3] 33 (0, 0)) from by rw [← hw]; exact setRow_heap _ _ _ _ _ _ (blk_new _ _))
  have hb : Below w3.heap.size w3 w4 := by rw [← hw]; exact td_row (td_alloc _ _) (Nat.le_refl _) _
  clear hw
  have HRG := Aside0.mk (show some w3.heap.size ≠ some g from by intro e; injection e with e; have h1 := HT.out.lt; omega)
  have HX_ := Aside0.mk (td_kept HX.out hb)
  clear HX
  have HX := Aside0.mk HX_.out
  clear HX_
  have HT_ := Aside0.mk (HT.out.step hb)
  clear HT
  have HT := Aside0.mk HT_.out
  clear HT_
  clear hb
  generalize w3.heap.size = gr at HR HRG ⊢
  have y1 : w4.cell? ⟨gr, 1, none⟩ = some (.string r.f1.f0) := (blk_cell HR.out 1).trans rfl
  have y2 : w4.cell? ⟨gr, 2, none⟩ = some (.string r.f1.f1) := (blk_cell HR.out 2).trans rfl
  have y3 : w4.cell? ⟨gr, 3, none⟩ = some (.int .i64 r.f2.f0) := (blk_cell HR.out 3).trans rfl
  have y4 : w4.cell? ⟨gr, 4, none⟩ = some (.int .i64 r.f2.f1) := (blk_cell HR.out 4).trans rfl
  have y5 : w4.cell? ⟨gr, 5, none⟩ = some (.int .i64 r.f3) := (blk_cell HR.out 5).trans rfl
  go_wp2_with fail
  refine (td_add w2 w4 g ⟨(0, 0), []⟩ r.f1 (r.f2.f0, r.f2.f1) r.f3 HT.out (Nat.zero_le _)).mono ?_
  rintro e w5 ⟨rfl, hT, hN⟩
  clear y1 y2 y3 y4 y5
  have HX_ := Aside0.mk (hN.blk HX.out HNG.out (by decide))
  clear HX
  have HX := Aside0.mk HX_.out
  clear HX_
  have HR_ := Aside0.mk (hN.blk HR.out HRG.out (by decide))
  clear HR
  have HR := Aside0.mk HR_.out
  clear HR_
  clear HT
  have HT := Aside0.mk hT
  clear hT hN
  by_cases he : addErr r.f1 (r.f2.f0, r.f2.f1) r.f3 = 0
  case neg =>
    have hq := HT.out
    rw [if_neg he] at hq
    clear HT
    have HT := Aside0.mk hq
    have e1 : (addErr r.f1 (r.f2.f0, r.f2.f1) r.f3 != 0) = true := bne_iff_ne.mpr he
    have e2 : (addErr r.f1 (r.f2.f0, r.f2.f1) r.f3 == 0) = false := beq_eq_false_iff_ne.mpr he
    clear he hq
    go_wp2_with fail
    refine (td_len w2 w5 g _ HT.out).mono ?_
    rintro e w6 ⟨rfl, hb⟩
    rw [show (({ low := (0, 0), l := [] } : Td S24).l.length : Int) = 0 from rfl]
    have HB6 := Aside0.mk (below_step HW2.out (HT.out.step hb).below)
    clear hb
    go_wp2_with fail
    go_ret
    exact ⟨rfl, HB6.out⟩
  have hq := HT.out
  rw [if_pos he] at hq
  clear HT
  have HT := Aside0.mk hq
  have hg := Td.add_grows (⟨(0, 0), []⟩ : Td S24) (fun r hr => absurd hr (by simp)) r.f1 (r.f2.f0, r.f2.f1) r.f3
  have HI := Aside0.mk (And.intro hg.2.2 (And.intro (add_len (⟨(0, 0), []⟩ : Td S24) (Nat.zero_le _) r.f1 (r.f2.f0, r.f2.f1) r.f3) hg.2.1))
  rw [he]
  clear hg hq he
  generalize Td.add ({ low := (0, 0), l := [] } : Td S24) r.f1 (r.f2.f0, r.f2.f1) r.f3 = t at HT HI
  go_wp2_with fail
  go_loopg [10] 101 (fun kq v wr => ∃ (i : Nat) (t : Td S24), v = .int .i64 (i : Int) ∧ Aside0 (i + kq = 102) ∧ Aside0 (t.ok ∧ t.l.length ≤ 64 ∧ t.has r.f1 r.f3 (r.f2.f0, r.f2.f1)) ∧ Aside0 (TdAt w2 wr g t) ∧ Aside0 (wr.heap[n]? = some (.cells #[.string s.f0, .string s.f1] 24 (0, 0))) ∧ Aside0 (wr.heap[gr]? = some (.cells #[.int .i64 r.f0, .string r.f1.f0, .string r.f1.f1, .int .i64 r.f2.f0, .int .i64 r.f2.f1, .int .i64 r.f3] 33 (0, 0))))
  case atStart => exact ⟨1, t, rfl, ⟨rfl⟩, HI, HT, HX, HR⟩
  case round =>
    clear HI HT HX HR
    obtain ⟨i, t, rfl, HK, HI, HT, HX, HR⟩ := hrel
    by_cases hgo : i < l0.length ∧ i < 100
    case pos =>
      obtain ⟨h1, h2⟩ := hgo
      have d1 : decide ((i : Int) < (l0.length : Int)) = true := decide_eq_true (by omega)
      have d1n : decide (i < l0.length) = true := decide_eq_true (by omega)
      have d2 : decide ((i : Int) < 100) = true := decide_eq_true (by omega)
      have d2n : decide (i < 100) = true := decide_eq_true (by omega)
      obtain ⟨ad2, ea, d, hd, hld⟩ := ld_T33 HR0.out i h1
      cases ea
      have hmem : d ∈ l0 := by
        rw [← hd, List.getD_eq_getElem?_getD, List.getElem?_eq_getElem h1]
        exact List.getElem_mem h1
      have HBR := Aside0.mk (HWF.out d hmem)
      have HLD := Aside0.mk (hld wr (below_step HW2.out HT.out.below))
      have HH := Aside0.mk (And.intro h1 h2)
      have p0 := eq_true (show (0 : Int) ≤ (i : Int) by omega)
      have q0 := eq_true (show (i : Int) < (l0.length : Int) by omega)
      have hwi : Go.RowKit.wrap64 ((i : Int) + 1) = ((i + 1 : Nat) : Int) := by
        unfold Go.RowKit.wrap64
        omega
      have HWI := Aside0.mk hwi
      have HWI2 := Aside0.mk ((i64_w ((i : Int) + 1)).trans hwi)
      clear hwi h1 h2 hd hld hmem
      go_wp2_with (refine wpList_load_at rfl 33 _ rfl _ (by rfl) _ _ HLD.out Try.underlying33 rfl (by kernel_rfl) ?_)
      refine (td_done w2 wr g t d HT.out HI.out.2.1 HBR.out).mono ?_
      rintro e w7 ⟨rfl, hT, hN⟩
      have HX_ := Aside0.mk (hN.blk HX.out HNG.out (by decide))
      clear HX
      have HX := Aside0.mk HX_.out
      clear HX_
      have HR_ := Aside0.mk (hN.blk HR.out HRG.out (by decide))
      clear HR
      have HR := Aside0.mk HR_.out
      clear HR_
      clear HT
      have HT := Aside0.mk hT
      clear hT hN
      have hg := done_grows t HI.out.1 d
      have HI2 := Aside0.mk (And.intro hg.2 (And.intro (done_len t HI.out.2.1 d) (hg.1.has _ _ _ HI.out.2.2)))
      clear hg HLD
      generalize doneF t d = td at HT HI2 ⊢
      go_wp2_with fail
      go_roundg (101 - i)
      case measure => have h1 := HK.out; have h2 := HH.out.2; omega
      case rel => exact ⟨i + 1, td.1, congrArg (Value.int .i64) (by first | exact HWI.out | exact HWI2.out | rfl | omega), ⟨by have h1 := HK.out; have h2 := HH.out.2; omega⟩, HI2, HT, HX, HR⟩
    case neg =>
      have x0 : wr.cell? ⟨n, 0, none⟩ = some (.string s.f0) := (blk_cell HX.out 0).trans rfl
      have x1 : wr.cell? ⟨n, 1, none⟩ = some (.string s.f1) := (blk_cell HX.out 1).trans rfl
      by_cases h1 : i < l0.length
      case' pos =>
        have h2 : ¬ i < 100 := fun h => hgo ⟨h1, h⟩
        have d1 : decide ((i : Int) < (l0.length : Int)) = true := decide_eq_true (by omega)
        have d1n : decide (i < l0.length) = true := decide_eq_true (by omega)
        have d2 : decide ((i : Int) < 100) = false := decide_eq_false (by omega)
        have d2n : decide (i < 100) = false := decide_eq_false (by omega)
        clear h1 h2 hgo
      case' neg =>
        have d1 : decide ((i : Int) < (l0.length : Int)) = false := decide_eq_false (by omega)
        have d1n : decide (i < l0.length) = false := decide_eq_false (by omega)
        clear h1 hgo
      all_goals
        go_wp2_with fail
        refine (td_max w2 wr g t s o HT.out).mono ?_
        rintro e w7 ⟨rfl, hb⟩
        clear x0 x1
        have HX_ := Aside0.mk (td_kept HX.out hb)
        clear HX
        have HX := Aside0.mk HX_.out
        clear HX_
        have HR_ := Aside0.mk (td_kept HR.out hb)
        clear HR
        have HR := Aside0.mk HR_.out
        clear HR_
        have HT_ := Aside0.mk (HT.out.step hb)
        clear HT
        have HT := Aside0.mk HT_.out
        clear HT_
        clear hb
        by_cases hq : qErr s o = 0
        case neg =>
          rw [maxF_bad hq]
          have e1 : (qErr s o != 0) = true := bne_iff_ne.mpr hq
          have e2 : (qErr s o == 0) = false := beq_eq_false_iff_ne.mpr hq
          clear hq
          go_upto_region 17 with fail
          generalize hw8 : World.alloc w7 _ = w8
          have HF := Aside0.mk (show w8.heap[w7.heap.size]? = some (.cells #[.int .i64 0, .int .i64 0] 31 (0, 0)) from by rw [← hw8]; exact blk_new _ _)
          have HB8 := Aside0.mk (show Below w.heap.size w w8 from by rw [← hw8]; exact below_alloc (below_step HW2.out HT.out.below) _)
          clear hw8
          have r0 : w8.cell? ⟨w7.heap.size, 0, none⟩ = some (.int .i64 0) := (blk_cell HF.out 0).trans rfl
          have r1 : w8.cell? ⟨w7.heap.size, 1, none⟩ = some (.int .i64 0) := (blk_cell HF.out 1).trans rfl
          go_wp2_with fail
          go_ret
          exact ⟨rfl, HB8.out⟩
        case pos =>
          rw [maxF_ok hq]
          clear hq
          obtain ⟨m, hm⟩ : ∃ m, Td.max (asks s o) t.low t.l = m := ⟨_, rfl⟩
          have HMM := Aside0.mk hm
          rw [hm]
          clear hm
          go_upto_region 18 with fail
          generalize hw8 : World.alloc w7 _ = w8
          have HF := Aside0.mk (show w8.heap[w7.heap.size]? = some (.cells #[.int .i64 m.1, .int .i64 m.2] 31 (0, 0)) from by rw [← hw8]; exact blk_new _ _)
          have hb : Below w7.heap.size w7 w8 := by rw [← hw8]; exact td_alloc _ _
          clear hw8
          have HX_ := Aside0.mk (td_kept HX.out hb)
          clear HX
          have HX := Aside0.mk HX_.out
          clear HX_
          have HR_ := Aside0.mk (td_kept HR.out hb)
          clear HR
          have HR := Aside0.mk HR_.out
          clear HR_
          have HT_ := Aside0.mk (HT.out.step hb)
          clear HT
          have HT := Aside0.mk HT_.out
          clear HT_
          clear hb
          generalize w7.heap.size = gf at HF ⊢
          have x0 : w8.cell? ⟨n, 0, none⟩ = some (.string s.f0) := (blk_cell HX.out 0).trans rfl
          have x1 : w8.cell? ⟨n, 1, none⟩ = some (.string s.f1) := (blk_cell HX.out 1).trans rfl
          have y1 : w8.cell? ⟨gr, 1, none⟩ = some (.string r.f1.f0) := (blk_cell HR.out 1).trans rfl
          have y2 : w8.cell? ⟨gr, 2, none⟩ = some (.string r.f1.f1) := (blk_cell HR.out 2).trans rfl
          go_wp2_with fail
          refine (spans_Meets.calls r.f1 s _).mono ?_
          rintro e w9 ⟨rfl, hb⟩
          clear x0 x1 y1 y2
          have HX_ := Aside0.mk (td_kept HX.out hb)
          clear HX
          have HX := Aside0.mk HX_.out
          clear HX_
          have HR_ := Aside0.mk (td_kept HR.out hb)
          clear HR
          have HR := Aside0.mk HR_.out
          clear HR_
          have HT_ := Aside0.mk (HT.out.step hb)
          clear HT
          have HT := Aside0.mk HT_.out
          clear HT_
          have HF_ := Aside0.mk (td_kept HF.out hb)
          clear HF
          have HF := Aside0.mk HF_.out
          clear HF_
          clear hb
          have y5 : w9.cell? ⟨gr, 5, none⟩ = some (.int .i64 r.f3) := (blk_cell HR.out 5).trans rfl
          obtain ⟨b, hbm⟩ : ∃ b, meets r.f1 s = b := ⟨_, rfl⟩
          rw [hbm]
          have HMB := Aside0.mk hbm
          clear hbm
          cases b
          case false =>
            go_wp2_with fail
            go_ret
            exact ⟨rfl, below_step HW2.out HT.out.below⟩
          case true =>
            by_cases ho : o = 0
            case' pos =>
              have e0 : (o != 0) = false := by rw [ho]; rfl
              have e1 : (o == 0) = true := beq_iff_eq.mpr ho
              have HAS := Aside0.mk (show asks s o ⟨r.f1, (r.f2.f0, r.f2.f1), r.f3⟩ = true from by unfold asks; rw [HMB.out, e1]; rfl)
              clear ho
            case' neg =>
              have e0 : (o != 0) = true := bne_iff_ne.mpr ho
              have e1 : (o == 0) = false := beq_eq_false_iff_ne.mpr ho
              by_cases ho2 : o = r.f3
              case pos =>
                have e2 : (o == r.f3) = true := beq_iff_eq.mpr ho2
                clear ho ho2
                go_wp2_with fail
                go_ret
                exact ⟨rfl, below_step HW2.out HT.out.below⟩
              have e2 : (o == r.f3) = false := beq_eq_false_iff_ne.mpr ho2
              have HAS := Aside0.mk (show asks s o ⟨r.f1, (r.f2.f0, r.f2.f1), r.f3⟩ = true from by unfold asks; rw [HMB.out, e1, bne_iff_ne.mpr (show (⟨r.f1, (r.f2.f0, r.f2.f1), r.f3⟩ : Rd S24).o ≠ o from fun h => ho2 h.symm)]; rfl)
              clear ho ho2
            all_goals
              go_upto_region 20 with fail
              clear y5
              have y3 : w9.cell? ⟨gr, 3, none⟩ = some (.int .i64 r.f2.f0) := (blk_cell HR.out 3).trans rfl
              have y4 : w9.cell? ⟨gr, 4, none⟩ = some (.int .i64 r.f2.f1) := (blk_cell HR.out 4).trans rfl
              have z0 : w9.cell? ⟨gf, 0, none⟩ = some (.int .i64 m.1) := (blk_cell HF.out 0).trans rfl
              have z1 : w9.cell? ⟨gf, 1, none⟩ = some (.int .i64 m.2) := (blk_cell HF.out 1).trans rfl
              go_wp2_with fail
              refine (td_notBelow m (r.f2.f0, r.f2.f1) _).mono ?_
              rintro e wz ⟨rfl, hb⟩
              have HBZ := Aside0.mk (below_step HW2.out (HT.out.step hb).below)
              have HFIN := Aside0.mk (show decide (tlt m (r.f2.f0, r.f2.f1)) = false from decide_eq_false (by
                rw [← HMM.out]
                exact Td.has_max HI.out.2.2 (asks s o) (fun x h1 h2 => (asks_alike s o x ⟨r.f1, (r.f2.f0, r.f2.f1), r.f3⟩ h1 h2).trans HAS.out)))
              clear hb y3 y4 z0 z1
              rw [HFIN.out]
              go_wp2_with fail
              go_ret
              exact ⟨rfl, HBZ.out⟩
end Go.Proofs.Ytaccfbpfennjkaa.PTideDoes

