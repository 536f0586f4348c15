/- The tide (typed by hand): Max. -/
import Derived.Test.YtaccfbpfennjkaaTd4
namespace Go.Proofs.Ytaccfbpfennjkaa.PTideDoes
open Go.RowKit Go.Proofs.YtaccfbpfennjkaaW.PrintWords Go.Proofs.YtaccfbpfennjkaaW.PrintLast Go.Proofs.YtaccfbpfennjkaaW.PrintMore
attribute [local go_sem] max2_int min2_int max_two min_two max_three min_three max_four min_four   -- for this text's walks alone
set_option linter.unusedVariables false
set_option linter.unusedSimpArgs false
/-- A tide in its block, its slice's address and room told. -/
structure TdA (W0 W : World) (g : Nat) (t : Td S24) (A : Option Addr) (c : Nat) : Prop where
  below : Below W0.heap.size W0 W
  own : W0.heap.size ≤ g
  box : W.heap[g]? = some (.cells (t.cells A c) 58 (0, 0))
  row : Kd.R k63 63 W W0.heap.size (fun _ => True) (.slice A t.l.length c) t.l
theorem TdA.step {W0 W W' : World} {g : Nat} {t : Td S24} {A : Option Addr} {c : Nat} (h : TdA W0 W g t A c) (hb : Below W.heap.size W W') : TdA W0 W' g t A c := ⟨below_step h.below hb, h.own, td_kept h.box hb, Kd.R_below h.row hb⟩
theorem TdA.at_ {W0 W : World} {g : Nat} {t : Td S24} {A : Option Addr} {c : Nat} (h : TdA W0 W g t A c) : TdAt W0 W g t := ⟨h.below, h.own, A, c, h.box, h.row⟩
theorem TdA.lt {W0 W : World} {g : Nat} {t : Td S24} {A : Option Addr} {c : Nat} (h : TdA W0 W g t A c) : g < W.heap.size := blk_lt h.box
/-- A store into a block of the call's own that is no row and not the tide's. -/
theorem TdA.far {W0 W : World} {g : Nat} {t : Td S24} {A : Option Addr} {c : Nat} (h : TdA W0 W g t A c) {b i : Nat} {cs : Array Value} {ty : TypeId} (hb : W.heap[b]? = some (.cells cs ty (0, 0))) (ht : ty ≠ 63) (h0 : W0.heap.size ≤ b) (hg : g ≠ b) (v : Value) : TdA W0 (W.setCell ⟨b, i, none⟩ v) g t A c :=
  ⟨h.below.setCell (p := ⟨b, i, none⟩) h0 _, h.own, blk_far h.box hg _, Kd.R_set h.row hb (fun q hq => k63_ne hq ht) i v⟩
theorem Tn.far {B b i : Nat} {g : Option Nat} {ty : Nat} {W W' : World} (h : Tn B g ty W W') (hb : W.heap.size ≤ b) (v : Value) : Tn B g ty W (W'.setCell ⟨b, i, none⟩ v) :=
  ⟨h.os, h.tape, h.output, by simp only [World.setCell, Array.size_modify]; exact h.size, fun k hk hc => (Below.heap_setCell W' _ v k (by show k ≠ b; omega)).trans (h.keep k hk hc)⟩
theorem two_C {W : World} {g : Nat} {a b : Int × Int} (h : W.heap[g]? = some (.cells #[.int .i64 a.1, .int .i64 a.2, .int .i64 b.1, .int .i64 b.2] 31 (0, 0))) : Kd.C k31 W (some ⟨g, 0, none⟩) 2 ([⟨a.1, a.2⟩, ⟨b.1, b.2⟩] : List S31) := by
  have hc := fun i => blk_cell h i
  refine ⟨rfl, by omega, fun _ => ⟨_, rfl, fun j p hj => ?_⟩⟩
  match j, hj with
  | 0, hj =>
    cases hj
    refine ⟨[.int .i64 a.1, .int .i64 a.2], rfl, k31_mk _ ⟨a.1, a.2⟩, fun i u hu => ?_⟩
    match i, hu with
    | 0, hu => cases hu; exact (hc 0).trans rfl
    | 1, hu => cases hu; exact (hc 1).trans rfl
  | 1, hj =>
    cases hj
    refine ⟨[.int .i64 b.1, .int .i64 b.2], rfl, k31_mk _ ⟨b.1, b.2⟩, fun i u hu => ?_⟩
    match i, hu with
    | 0, hu => cases hu; exact (hc 2).trans rfl
    | 1, hu => cases hu; exact (hc 3).trans rfl
/-- Of which reads Max is asked. -/
def asks (s : S24) (o : Int) (x : Rd S24) : Bool := meets x.s s && ((o == 0) || (x.o != o))
/-- Max's answer. -/
def Td.maxF (t : Td S24) (s : S24) (o : Int) : (Int × Int) × Int := if spErr s ≠ 0 then ((0, 0), spErr s) else if own o = true then (Td.max (asks s o) t.low t.l, 0) else ((0, 0), 2)
theorem max_drop {p : Rd S24 → Bool} {l : List (Rd S24)} {m : Int × Int} {i : Nat} (hi : i < l.length) : Td.max p m (l.drop i) = Td.max p (if p (l.getD i z63) = true then tmx m (l.getD i z63).at_ else m) (l.drop (i + 1)) := by
  rw [List.drop_eq_getElem_cons hi, List.getD_eq_getElem?_getD, List.getElem?_eq_getElem hi]
  rfl
def MaxPost (W0 W : World) (g : Nat) (t : Td S24) (A : Option Addr) (c : Nat) (r : (Int × Int) × Int) (e : Ending) (w' : World) : Prop := e = .returned (.tuple #[.agg #[.int .i64 r.1.1, .int .i64 r.1.2], .int .i64 r.2]) ∧ Below W.heap.size W w'
set_option maxHeartbeats 16000000 in
set_option maxRecDepth 100000 in
theorem td_max_bad1 (W0 W : World) (g : Nat) (t : Td S24) (A : Option Addr) (c : Nat) (s : S24) (o : Int) (h : TdA W0 W g t A c) (hs : spErr s ≠ 0) : Calls Try.prog 14 #[.pointer (some ⟨g, 0, none⟩), .agg #[.string s.f0, .string s.f1], .int .i64 o] W (MaxPost W0 W g t A c ((0, 0), spErr s)) := by
  have HT := Aside0.mk h
  have e1 : (spErr s != 0) = true := bne_iff_ne.mpr hs
  have e2 : (spErr s == 0) = false := beq_eq_false_iff_ne.mpr hs
  clear h hs
  go_enter Try.func14, Try.ntmps14
  go_upto_region 1 with fail
  generalize hw1 : World.alloc (World.alloc W _) _ = w1
  have HB := Aside0.mk (show Below W.heap.size W w1 from by rw [← hw1]; exact below_alloc (td_alloc W _) _)
  have HX := Aside0.mk (show w1.heap[W.heap.size]? = some (.cells #[.string s.f0, .string s.f1] 24 (0, 0)) from by rw [← hw1]; exact td_kept (blk_new W _) (td_alloc _ _))
  have HZ := Aside0.mk (show w1.heap[W.heap.size + 1]? = some (.cells #[.int .i64 0, .int .i64 0] 31 (0, 0)) from by
    have h := blk_new (W.alloc (.cells #[.string s.f0, .string s.f1] 24)) (.cells #[.int .i64 0, .int .i64 0] 31)
    rw [show (W.alloc (.cells #[.string s.f0, .string s.f1] 24)).heap.size = W.heap.size + 1 from Array.size_push _, hw1] at h
    exact h)
  have HT1 := Aside0.mk (HT.out.step HB.out)
  clear hw1
  obtain ⟨n, hn⟩ : ∃ n, W.heap.size = n := ⟨_, rfl⟩
  have HN := Aside0.mk hn
  rw [hn] at HX HZ ⊢
  clear hn
  go_wp2_with fail
  refine (td_none W0 w1 g t HT1.out.at_).mono ?_
  rintro e w2 ⟨rfl, hb⟩
  have hx_ := td_kept HX.out hb
  have hz_ := td_kept HZ.out hb
  have hb_ := below_step HB.out hb
  have HT2 := Aside0.mk (HT1.out.step hb)
  clear HX HZ HB HT1
  have HX := Aside0.mk hx_
  have HZ := Aside0.mk hz_
  have HB := Aside0.mk hb_
  clear hx_ hz_ hb_ hb
  have x0 : w2.cell? ⟨n, 0, none⟩ = some (.string s.f0) := (blk_cell HX.out 0).trans rfl
  have x1 : w2.cell? ⟨n, 1, none⟩ = some (.string s.f1) := (blk_cell HX.out 1).trans rfl
  go_wp2_with fail
  refine (td_sp s _).mono ?_
  rintro e w3 ⟨rfl, hb⟩
  clear x0 x1
  have hx_ := td_kept HX.out hb
  have hz_ := td_kept HZ.out hb
  have hb_ := below_step HB.out hb
  have HT3 := Aside0.mk (HT2.out.step hb)
  clear HX HZ HB HT2
  have HX := Aside0.mk hx_
  have HZ := Aside0.mk hz_
  have HB := Aside0.mk hb_
  clear hx_ hz_ hb_ hb
  have z0 : w3.cell? ⟨n + 1, 0, none⟩ = some (.int .i64 0) := (blk_cell HZ.out 0).trans rfl
  have z1 : w3.cell? ⟨n + 1, 1, none⟩ = some (.int .i64 0) := (blk_cell HZ.out 1).trans rfl
  have f0 := blk_frozen HZ.out 0
  have f1 := blk_frozen HZ.out 1
  go_wp2_with fail
  have HGE := Aside0.mk (show W.heap.size ≤ n + 1 from by have := HN.out; omega)
  refine bodyPost_ret (results_ct rfl _ _ (n + 1) 31 #[.int .i64 0, .int .i64 0] (0, 0) _ rfl (blk_put (cs := #[.int .i64 0, .int .i64 0]) (blk_put (cs := #[.int .i64 0, .int .i64 0]) HZ.out 0 _ rfl) 1 _ rfl) Try.underlying31 rfl (by kernel_rfl)) rfl ?_
  exact ⟨rfl, Below.setCell (Below.setCell HB.out (p := ⟨n + 1, 0, none⟩) HGE.out _) (p := ⟨n + 1, 1, none⟩) HGE.out _⟩
set_option maxHeartbeats 16000000 in
set_option maxRecDepth 100000 in
theorem td_max_bad2 (W0 W : World) (g : Nat) (t : Td S24) (A : Option Addr) (c : Nat) (s : S24) (o : Int) (h : TdA W0 W g t A c) (hs : spErr s = 0) (ho : own o = false) : Calls Try.prog 14 #[.pointer (some ⟨g, 0, none⟩), .agg #[.string s.f0, .string s.f1], .int .i64 o] W (MaxPost W0 W g t A c ((0, 0), 2)) := by
  have HT := Aside0.mk h
  have HS := Aside0.mk hs
  have HO := Aside0.mk ho
  clear h hs ho
  go_enter Try.func14, Try.ntmps14
  go_upto_region 1 with fail
  generalize hw1 : World.alloc (World.alloc W _) _ = w1
  have HB := Aside0.mk (show Below W.heap.size W w1 from by rw [← hw1]; exact below_alloc (td_alloc W _) _)
  have HX := Aside0.mk (show w1.heap[W.heap.size]? = some (.cells #[.string s.f0, .string s.f1] 24 (0, 0)) from by rw [← hw1]; exact td_kept (blk_new W _) (td_alloc _ _))
  have HZ := Aside0.mk (show w1.heap[W.heap.size + 1]? = some (.cells #[.int .i64 0, .int .i64 0] 31 (0, 0)) from by
    have h := blk_new (W.alloc (.cells #[.string s.f0, .string s.f1] 24)) (.cells #[.int .i64 0, .int .i64 0] 31)
    rw [show (W.alloc (.cells #[.string s.f0, .string s.f1] 24)).heap.size = W.heap.size + 1 from Array.size_push _, hw1] at h
    exact h)
  have HT1 := Aside0.mk (HT.out.step HB.out)
  clear hw1
  obtain ⟨n, hn⟩ : ∃ n, W.heap.size = n := ⟨_, rfl⟩
  have HN := Aside0.mk hn
  rw [hn] at HX HZ ⊢
  clear hn
  go_wp2_with fail
  refine (td_none W0 w1 g t HT1.out.at_).mono ?_
  rintro e w2 ⟨rfl, hb⟩
  have hx_ := td_kept HX.out hb
  have hz_ := td_kept HZ.out hb
  have hb_ := below_step HB.out hb
  have HT2 := Aside0.mk (HT1.out.step hb)
  clear HX HZ HB HT1
  have HX := Aside0.mk hx_
  have HZ := Aside0.mk hz_
  have HB := Aside0.mk hb_
  clear hx_ hz_ hb_ hb
  have x0 : w2.cell? ⟨n, 0, none⟩ = some (.string s.f0) := (blk_cell HX.out 0).trans rfl
  have x1 : w2.cell? ⟨n, 1, none⟩ = some (.string s.f1) := (blk_cell HX.out 1).trans rfl
  go_wp2_with fail
  refine (td_sp s _).mono ?_
  rintro e w3 ⟨rfl, hb⟩
  clear x0 x1
  have hx_ := td_kept HX.out hb
  have hz_ := td_kept HZ.out hb
  have hb_ := below_step HB.out hb
  have HT3 := Aside0.mk (HT2.out.step hb)
  clear HX HZ HB HT2
  have HX := Aside0.mk hx_
  have HZ := Aside0.mk hz_
  have HB := Aside0.mk hb_
  clear hx_ hz_ hb_ hb
  rw [HS.out]
  go_wp2_with fail
  refine (td_own o _).mono ?_
  rintro e w4 ⟨rfl, hb⟩
  rw [HO.out]
  have hx_ := td_kept HX.out hb
  have hz_ := td_kept HZ.out hb
  have hb_ := below_step HB.out hb
  have HT4 := Aside0.mk (HT3.out.step hb)
  clear HX HZ HB HT3
  have HX := Aside0.mk hx_
  have HZ := Aside0.mk hz_
  have HB := Aside0.mk hb_
  clear hx_ hz_ hb_ hb
  have z0 : w4.cell? ⟨n + 1, 0, none⟩ = some (.int .i64 0) := (blk_cell HZ.out 0).trans rfl
  have z1 : w4.cell? ⟨n + 1, 1, none⟩ = some (.int .i64 0) := (blk_cell HZ.out 1).trans rfl
  have f0 := blk_frozen HZ.out 0
  have f1 := blk_frozen HZ.out 1
  go_wp2_with fail
  have HGE := Aside0.mk (show W.heap.size ≤ n + 1 from by have := HN.out; omega)
  refine bodyPost_ret (results_ct rfl _ _ (n + 1) 31 #[.int .i64 0, .int .i64 0] (0, 0) _ rfl (blk_put (cs := #[.int .i64 0, .int .i64 0]) (blk_put (cs := #[.int .i64 0, .int .i64 0]) HZ.out 0 _ rfl) 1 _ rfl) Try.underlying31 rfl (by kernel_rfl)) rfl ?_
  exact ⟨rfl, Below.setCell (Below.setCell HB.out (p := ⟨n + 1, 0, none⟩) HGE.out _) (p := ⟨n + 1, 1, none⟩) HGE.out _⟩
set_option maxHeartbeats 16000000 in
set_option maxRecDepth 100000 in
theorem td_max_ok (W0 W : World) (g : Nat) (t : Td S24) (A : Option Addr) (c : Nat) (s : S24) (o : Int) (h : TdA W0 W g t A c) (hs : spErr s = 0) (ho : own o = true) : Calls Try.prog 14 #[.pointer (some ⟨g, 0, none⟩), .agg #[.string s.f0, .string s.f1], .int .i64 o] W (MaxPost W0 W g t A c (Td.max (asks s o) t.low t.l, 0)) := by
  have HT := Aside0.mk h
  have HS := Aside0.mk hs
  have HO := Aside0.mk ho
  clear h hs ho
  go_enter Try.func14, Try.ntmps14
  go_upto_region 1 with fail
  generalize hw1 : World.alloc (World.alloc W _) _ = w1
  have HB := Aside0.mk (show Below W.heap.size W w1 from by rw [← hw1]; exact below_alloc (td_alloc W _) _)
  have HX := Aside0.mk (show w1.heap[W.heap.size]? = some (.cells #[.string s.f0, .string s.f1] 24 (0, 0)) from by rw [← hw1]; exact td_kept (blk_new W _) (td_alloc _ _))
  have HZ := Aside0.mk (show w1.heap[W.heap.size + 1]? = some (.cells #[.int .i64 0, .int .i64 0] 31 (0, 0)) from by
    have h := blk_new (W.alloc (.cells #[.string s.f0, .string s.f1] 24)) (.cells #[.int .i64 0, .int .i64 0] 31)
    rw [show (W.alloc (.cells #[.string s.f0, .string s.f1] 24)).heap.size = W.heap.size + 1 from Array.size_push _, hw1] at h
    exact h)
  have HT1 := Aside0.mk (HT.out.step HB.out)
  clear hw1
  obtain ⟨n, hn⟩ : ∃ n, W.heap.size = n := ⟨_, rfl⟩
  have HN := Aside0.mk hn
  rw [hn] at HX HZ ⊢
  clear hn
  go_wp2_with fail
  refine (td_none W0 w1 g t HT1.out.at_).mono ?_
  rintro e w2 ⟨rfl, hb⟩
  have hx_ := td_kept HX.out hb
  have hz_ := td_kept HZ.out hb
  have hb_ := below_step HB.out hb
  have HT2 := Aside0.mk (HT1.out.step hb)
  clear HX HZ HB HT1
  have HX := Aside0.mk hx_
  have HZ := Aside0.mk hz_
  have HB := Aside0.mk hb_
  clear hx_ hz_ hb_ hb
  have x0 : w2.cell? ⟨n, 0, none⟩ = some (.string s.f0) := (blk_cell HX.out 0).trans rfl
  have x1 : w2.cell? ⟨n, 1, none⟩ = some (.string s.f1) := (blk_cell HX.out 1).trans rfl
  go_wp2_with fail
  refine (td_sp s _).mono ?_
  rintro e w3 ⟨rfl, hb⟩
  clear x0 x1
  have hx_ := td_kept HX.out hb
  have hz_ := td_kept HZ.out hb
  have hb_ := below_step HB.out hb
  have HT3 := Aside0.mk (HT2.out.step hb)
  clear HX HZ HB HT2
  have HX := Aside0.mk hx_
  have HZ := Aside0.mk hz_
  have HB := Aside0.mk hb_
  clear hx_ hz_ hb_ hb
  rw [HS.out]
  go_wp2_with fail
  refine (td_own o _).mono ?_
  rintro e w4 ⟨rfl, hb⟩
  rw [HO.out]
  have hx_ := td_kept HX.out hb
  have hz_ := td_kept HZ.out hb
  have hb_ := below_step HB.out hb
  have HT4 := Aside0.mk (HT3.out.step hb)
  clear HX HZ HB HT3
  have HX := Aside0.mk hx_
  have HZ := Aside0.mk hz_
  have HB := Aside0.mk hb_
  clear hx_ hz_ hb_ hb
  have q1 : w4.cell? ⟨g, 1, none⟩ = some (.int .i64 t.low.1) := (blk_cell HT4.out.box 1).trans rfl
  have q2 : w4.cell? ⟨g, 2, none⟩ = some (.int .i64 t.low.2) := (blk_cell HT4.out.box 2).trans rfl
  go_upto_region 9 with fail
  clear q1 q2
  generalize hw5 : World.alloc w4 _ = w5
  have hb : Below w4.heap.size w4 w5 := by rw [← hw5]; exact td_alloc w4 _
  have HOUT := Aside0.mk (show w5.heap[w4.heap.size]? = some (.cells #[.int .i64 t.low.1, .int .i64 t.low.2] 31 (0, 0)) from by rw [← hw5]; exact blk_new w4 _)
  have HNO := Aside0.mk (show W.heap.size ≤ w4.heap.size from HB.out.size)
  have HNG := Aside0.mk (show g ≠ w4.heap.size from Nat.ne_of_lt HT4.out.lt)
  have HNZ := Aside0.mk (show n + 1 ≠ w4.heap.size from Nat.ne_of_lt (blk_lt HZ.out))
  have HNX := Aside0.mk (show n ≠ w4.heap.size from Nat.ne_of_lt (blk_lt HX.out))
  have hx_ := td_kept HX.out hb
  have hz_ := td_kept HZ.out hb
  have hb_ := below_step HB.out hb
  have HT5 := Aside0.mk (HT4.out.step hb)
  clear HX HZ HB HT4
  have HX := Aside0.mk hx_
  have HZ := Aside0.mk hz_
  have HB := Aside0.mk hb_
  clear hx_ hz_ hb_ hb
  clear hw5
  generalize w4.heap.size = m4 at HOUT HNO HNG HNZ HNX ⊢
  have HW0 := Aside0.mk (show W0.heap.size ≤ m4 from Nat.le_trans HT.out.below.size HNO.out)
  have q3 : w5.cell? ⟨g, 3, none⟩ = some (.slice A t.l.length c) := (blk_cell HT5.out.box 3).trans rfl
  have HLM := Aside0.mk (Kd.C_max (Kd.R_reads' HT5.out.row).2.2)
  go_wp2_with fail
  clear q3
  go_loopg [34] (t.l.length + 1) (fun gg s34 wr => ∃ (i : Nat) (m : Int × Int), s34 = .int .i64 (i : Int) ∧ Aside0 (i + gg = t.l.length + 1) ∧ Aside0 (i ≤ t.l.length) ∧ Aside0 (Td.max (asks s o) m (t.l.drop i) = Td.max (asks s o) t.low t.l) ∧ Aside0 (TdA W0 wr g t A c) ∧ Aside0 (Below W.heap.size W wr) ∧ Aside0 (wr.heap[n]? = some (.cells #[.string s.f0, .string s.f1] 24 (0, 0))) ∧ Aside0 (wr.heap[n + 1]? = some (.cells #[.int .i64 0, .int .i64 0] 31 (0, 0))) ∧ Aside0 (wr.heap[m4]? = some (.cells #[.int .i64 m.1, .int .i64 m.2] 31 (0, 0))))
  case atStart => exact ⟨0, t.low, rfl, ⟨by omega⟩, ⟨Nat.zero_le _⟩, ⟨rfl⟩, HT5, HB, HX, HZ, HOUT⟩
  case round =>
    clear HT5 HB HX HZ HOUT
    obtain ⟨i, m, rfl, HI, HIL, HM, HT, HB, HX, HZ, HO⟩ := hrel
    by_cases hlt : i < t.l.length
    case neg =>
      have d1 : decide ((i : Int) < (t.l.length : Int)) = false := decide_eq_false (by omega)
      have d1n : decide (i < t.l.length) = false := decide_eq_false hlt
      have ei : i = t.l.length := by have := HIL.out; omega
      have hm := HM.out
      rw [ei, List.drop_length] at hm
      have HMM := Aside0.mk (show m = Td.max (asks s o) t.low t.l from hm)
      clear hm ei hlt
      have z0 : wr.cell? ⟨n + 1, 0, none⟩ = some (.int .i64 0) := (blk_cell HZ.out 0).trans rfl
      have z1 : wr.cell? ⟨n + 1, 1, none⟩ = some (.int .i64 0) := (blk_cell HZ.out 1).trans rfl
      have f0 := blk_frozen HZ.out 0
      have f1 := blk_frozen HZ.out 1
      have o0 : wr.cell? ⟨m4, 0, none⟩ = some (.int .i64 m.1) := (blk_cell HO.out 0).trans rfl
      have o1 : wr.cell? ⟨m4, 1, none⟩ = some (.int .i64 m.2) := (blk_cell HO.out 1).trans rfl
      go_wp2_with fail
      have HGE := Aside0.mk (show W.heap.size ≤ n + 1 from by have := HN.out; omega)
      refine bodyPost_ret (results_ct rfl _ _ (n + 1) 31 #[.int .i64 m.1, .int .i64 m.2] (0, 0) _ rfl (blk_put (cs := #[.int .i64 m.1, .int .i64 0]) (blk_put (cs := #[.int .i64 0, .int .i64 0]) HZ.out 0 _ rfl) 1 _ rfl) Try.underlying31 rfl (by kernel_rfl)) rfl ?_
      exact ⟨by rw [← HMM.out]; rfl, Below.setCell (Below.setCell HB.out (p := ⟨n + 1, 0, none⟩) HGE.out _) (p := ⟨n + 1, 1, none⟩) HGE.out _⟩
    case pos =>
      have d1 : decide ((i : Int) < (t.l.length : Int)) = true := decide_eq_true (by omega)
      have d1n : decide (i < t.l.length) = true := decide_eq_true hlt
      have hmd := max_drop (p := asks s o) (m := m) hlt
      obtain ⟨ad, e0, y, hy, hld⟩ := ld_T63 (Kd.R_reads' HT.out.row).2.2 i hlt
      rw [hy] at hmd
      have HMD := Aside0.mk hmd
      have HLD := Aside0.mk hld
      have HLT := Aside0.mk hlt
      have p0 := eq_true (show (0 : Int) ≤ (i : Int) by omega)
      have q0 := eq_true (show (i : Int) < (t.l.length : Int) by omega)
      have hwi : Go.RowKit.wrap64 ((i : Int) + 1) = ((i + 1 : Nat) : Int) := by
        have := HLM.out
        unfold Go.RowKit.wrap64
        omega
      have HWI := Aside0.mk hwi
      have HWI2 := Aside0.mk ((i64_w ((i : Int) + 1)).trans hwi)
      clear hy hmd hld hlt hwi
      cases e0
      go_upto_region 12 with (first | (refine wpList_load_at rfl 63 _ rfl _ (by rfl) _ _ HLD.out Try.underlying63 rfl (by kernel_rfl) ?_) | (refine wpList_store_row rfl 63 _ _ rfl wr.heap.size _ (by rfl) (by rfl) _ _ (blk_new _ _) (by kernel_rfl) (by rfl) (by kernel_rfl) ?_))
      generalize hw : World.setRow _ _ _ = w6
      have HE := Aside0.mk (show w6.heap[wr.heap.size]? = some (.cells #[.string y.s.f0, .string y.s.f1, .int .i64 y.at_.1, .int .i64 y.at_.2, .int .i64 y.o] 63 (0, 0)) from by rw [← hw]; exact setRow_heap _ _ _ _ _ _ (blk_new _ _))
      have hb : Below wr.heap.size wr w6 := by rw [← hw]; exact td_row (td_alloc _ _) (Nat.le_refl _) _
      clear hw HLD
      have HX_ := Aside0.mk (td_kept HX.out hb)
      clear HX
      have HX := Aside0.mk HX_.out
      clear HX_
      have HZ_ := Aside0.mk (td_kept HZ.out hb)
      clear HZ
      have HZ := Aside0.mk HZ_.out
      clear HZ_
      have HO_ := Aside0.mk (td_kept HO.out hb)
      clear HO
      have HO := Aside0.mk HO_.out
      clear HO_
      have HT_ := Aside0.mk (HT.out.step hb)
      clear HT
      have HT := Aside0.mk HT_.out
      clear HT_
      have HB_ := Aside0.mk (below_step HB.out hb)
      clear HB
      have HB := Aside0.mk HB_.out
      clear HB_
      clear hb
      generalize wr.heap.size = gv at HE ⊢
      have v0 : w6.cell? ⟨gv, 0, none⟩ = some (.string y.s.f0) := (blk_cell HE.out 0).trans rfl
      have v1 : w6.cell? ⟨gv, 1, none⟩ = some (.string y.s.f1) := (blk_cell HE.out 1).trans rfl
      have x0 : w6.cell? ⟨n, 0, none⟩ = some (.string s.f0) := (blk_cell HX.out 0).trans rfl
      have x1 : w6.cell? ⟨n, 1, none⟩ = some (.string s.f1) := (blk_cell HX.out 1).trans rfl
      go_wp2_with fail
      refine (spans_Meets.calls y.s s _).mono ?_
      rintro e w7 ⟨rfl, hb⟩
      clear v0 v1 x0 x1
      have HX_ := Aside0.mk (td_kept HX.out hb)
      clear HX
      have HX := Aside0.mk HX_.out
      clear HX_
      have HZ_ := Aside0.mk (td_kept HZ.out hb)
      clear HZ
      have HZ := Aside0.mk HZ_.out
      clear HZ_
      have HO_ := Aside0.mk (td_kept HO.out hb)
      clear HO
      have HO := Aside0.mk HO_.out
      clear HO_
      have HT_ := Aside0.mk (HT.out.step hb)
      clear HT
      have HT := Aside0.mk HT_.out
      clear HT_
      have HB_ := Aside0.mk (below_step HB.out hb)
      clear HB
      have HB := Aside0.mk HB_.out
      clear HB_
      have HE_ := Aside0.mk (td_kept HE.out hb)
      clear HE
      have HE := Aside0.mk HE_.out
      clear HE_
      clear hb
      obtain ⟨b, hb⟩ : ∃ b, meets y.s s = b := ⟨_, rfl⟩
      rw [hb]
      have HMB := Aside0.mk hb
      clear hb
      have v4 : w7.cell? ⟨gv, 4, none⟩ = some (.int .i64 y.o) := (blk_cell HE.out 4).trans rfl
      cases b
      case false =>
        have HAS := Aside0.mk (show asks s o y = false from by unfold asks; rw [HMB.out]; rfl)
        clear v4
        go_wp2_with fail
        go_roundg (t.l.length - i)
        case measure => have h1 := HI.out; have h2 := HLT.out; omega
        case rel => exact ⟨i + 1, m, congrArg (Value.int .i64) (by first | exact HWI.out | exact HWI2.out | rfl | omega), ⟨by have h1 := HI.out; have h2 := HLT.out; omega⟩, ⟨HLT.out⟩, ⟨by have h1 := HMD.out; rw [if_neg (by rw [HAS.out]; exact Bool.false_ne_true)] at h1; exact h1.symm.trans HM.out⟩, HT, HB, HX, HZ, HO⟩
      case true =>
        by_cases ho : o = 0
        case pos =>
          have e0 : (o == 0) = true := beq_iff_eq.mpr ho
          have HAS := Aside0.mk (show asks s o y = true from by unfold asks; rw [HMB.out, e0]; rfl)
          clear ho
          have o0 : w7.cell? ⟨m4, 0, none⟩ = some (.int .i64 m.1) := (blk_cell HO.out 0).trans rfl
          have o1 : w7.cell? ⟨m4, 1, none⟩ = some (.int .i64 m.2) := (blk_cell HO.out 1).trans rfl
          have v2 : w7.cell? ⟨gv, 2, none⟩ = some (.int .i64 y.at_.1) := (blk_cell HE.out 2).trans rfl
          have v3 : w7.cell? ⟨gv, 3, none⟩ = some (.int .i64 y.at_.2) := (blk_cell HE.out 3).trans rfl
          go_wp2_with fail
          generalize hw8 : World.alloc w7 _ = w8
          have hb : Below w7.heap.size w7 w8 := by rw [← hw8]; exact td_alloc w7 _
          have HC2 := Aside0.mk (two_C (a := m) (b := y.at_) (show w8.heap[w7.heap.size]? = some (.cells #[.int .i64 m.1, .int .i64 m.2, .int .i64 y.at_.1, .int .i64 y.at_.2] 31 (0, 0)) from by rw [← hw8]; exact blk_new w7 _))
          clear hw8 o0 o1 v2 v3 v4
          have HX_ := Aside0.mk (td_kept HX.out hb)
          clear HX
          have HX := Aside0.mk HX_.out
          clear HX_
          have HZ_ := Aside0.mk (td_kept HZ.out hb)
          clear HZ
          have HZ := Aside0.mk HZ_.out
          clear HZ_
          have HO_ := Aside0.mk (td_kept HO.out hb)
          clear HO
          have HO := Aside0.mk HO_.out
          clear HO_
          have HT_ := Aside0.mk (HT.out.step hb)
          clear HT
          have HT := Aside0.mk HT_.out
          clear HT_
          have HB_ := Aside0.mk (below_step HB.out hb)
          clear HB
          have HB := Aside0.mk HB_.out
          clear HB_
          have HE_ := Aside0.mk (td_kept HE.out hb)
          clear HE
          have HE := Aside0.mk HE_.out
          clear HE_
          clear hb
          refine (td_max2 m y.at_ _ 2 w8 HC2.out (Nat.le_refl _)).mono ?_
          rintro e w9 ⟨rfl, hb⟩
          clear HC2
          have HX_ := Aside0.mk (td_kept HX.out hb)
          clear HX
          have HX := Aside0.mk HX_.out
          clear HX_
          have HZ_ := Aside0.mk (td_kept HZ.out hb)
          clear HZ
          have HZ := Aside0.mk HZ_.out
          clear HZ_
          have HO_ := Aside0.mk (td_kept HO.out hb)
          clear HO
          have HO := Aside0.mk HO_.out
          clear HO_
          have HT_ := Aside0.mk (HT.out.step hb)
          clear HT
          have HT := Aside0.mk HT_.out
          clear HT_
          have HB_ := Aside0.mk (below_step HB.out hb)
          clear HB
          have HB := Aside0.mk HB_.out
          clear HB_
          have HE_ := Aside0.mk (td_kept HE.out hb)
          clear HE
          have HE := Aside0.mk HE_.out
          clear HE_
          clear hb
          have o0 : w9.cell? ⟨m4, 0, none⟩ = some (.int .i64 m.1) := (blk_cell HO.out 0).trans rfl
          have o1 : w9.cell? ⟨m4, 1, none⟩ = some (.int .i64 m.2) := (blk_cell HO.out 1).trans rfl
          have f0 := blk_frozen HO.out 0
          have f1 := blk_frozen HO.out 1
          go_wp2_with fail
          have ho1 := blk_put (cs' := #[.int .i64 (tmx m y.at_).1, .int .i64 m.2]) HO.out 0 (.int .i64 (tmx m y.at_).1) rfl
          have ho2 := blk_put (cs' := #[.int .i64 (tmx m y.at_).1, .int .i64 (tmx m y.at_).2]) ho1 1 (.int .i64 (tmx m y.at_).2) rfl
          have HT_ := Aside0.mk ((HT.out.far HO.out (i := 0) (by decide) HW0.out HNG.out (.int .i64 (tmx m y.at_).1)).far ho1 (i := 1) (by decide) HW0.out HNG.out (.int .i64 (tmx m y.at_).2))
          have HB_ := Aside0.mk (Below.setCell (Below.setCell HB.out (p := ⟨m4, 0, none⟩) HNO.out (.int .i64 (tmx m y.at_).1)) (p := ⟨m4, 1, none⟩) HNO.out (.int .i64 (tmx m y.at_).2))
          have HX_ := Aside0.mk (blk_far (blk_far HX.out (p := ⟨m4, 0, none⟩) HNX.out (.int .i64 (tmx m y.at_).1)) (p := ⟨m4, 1, none⟩) HNX.out (.int .i64 (tmx m y.at_).2))
          have HZ_ := Aside0.mk (blk_far (blk_far HZ.out (p := ⟨m4, 0, none⟩) HNZ.out (.int .i64 (tmx m y.at_).1)) (p := ⟨m4, 1, none⟩) HNZ.out (.int .i64 (tmx m y.at_).2))
          have HO_ := Aside0.mk ho2
          clear ho1 ho2 o0 o1 f0 f1
          go_roundg (t.l.length - i)
          case measure => have h1 := HI.out; have h2 := HLT.out; omega
          case rel => exact ⟨i + 1, tmx m y.at_, congrArg (Value.int .i64) (by first | exact HWI.out | exact HWI2.out | rfl | omega), ⟨by have h1 := HI.out; have h2 := HLT.out; omega⟩, ⟨HLT.out⟩, ⟨by have h1 := HMD.out; rw [if_pos (by exact HAS.out)] at h1; exact h1.symm.trans HM.out⟩, HT_, HB_, HX_, HZ_, HO_⟩
        case neg =>
          have e0 : (o == 0) = false := beq_eq_false_iff_ne.mpr ho
          clear ho
          by_cases hq : y.o = o
          case pos =>
            have e1 : (y.o != o) = false := by rw [hq]; simp
            have e2 : (y.o == o) = true := beq_iff_eq.mpr hq
            have HAS := Aside0.mk (show asks s o y = false from by unfold asks; rw [HMB.out, e0, e1]; rfl)
            clear hq
            go_wp2_with fail
            go_roundg (t.l.length - i)
            case measure => have h1 := HI.out; have h2 := HLT.out; omega
            case rel => exact ⟨i + 1, m, congrArg (Value.int .i64) (by first | exact HWI.out | exact HWI2.out | rfl | omega), ⟨by have h1 := HI.out; have h2 := HLT.out; omega⟩, ⟨HLT.out⟩, ⟨by have h1 := HMD.out; rw [if_neg (by rw [HAS.out]; exact Bool.false_ne_true)] at h1; exact h1.symm.trans HM.out⟩, HT, HB, HX, HZ, HO⟩
          case neg =>
            have e1 : (y.o != o) = true := bne_iff_ne.mpr hq
            have e2 : (y.o == o) = false := beq_eq_false_iff_ne.mpr hq
            have HAS := Aside0.mk (show asks s o y = true from by unfold asks; rw [HMB.out, e0, e1]; rfl)
            clear hq
            have o0 : w7.cell? ⟨m4, 0, none⟩ = some (.int .i64 m.1) := (blk_cell HO.out 0).trans rfl
            have o1 : w7.cell? ⟨m4, 1, none⟩ = some (.int .i64 m.2) := (blk_cell HO.out 1).trans rfl
            have v2 : w7.cell? ⟨gv, 2, none⟩ = some (.int .i64 y.at_.1) := (blk_cell HE.out 2).trans rfl
            have v3 : w7.cell? ⟨gv, 3, none⟩ = some (.int .i64 y.at_.2) := (blk_cell HE.out 3).trans rfl
            go_wp2_with fail
            generalize hw8 : World.alloc w7 _ = w8
            have hb : Below w7.heap.size w7 w8 := by rw [← hw8]; exact td_alloc w7 _
            have HC2 := Aside0.mk (two_C (a := m) (b := y.at_) (show w8.heap[w7.heap.size]? = some (.cells #[.int .i64 m.1, .int .i64 m.2, .int .i64 y.at_.1, .int .i64 y.at_.2] 31 (0, 0)) from by rw [← hw8]; exact blk_new w7 _))
            clear hw8 o0 o1 v2 v3 v4
            have HX_ := Aside0.mk (td_kept HX.out hb)
            clear HX
            have HX := Aside0.mk HX_.out
            clear HX_
            have HZ_ := Aside0.mk (td_kept HZ.out hb)
            clear HZ
            have HZ := Aside0.mk HZ_.out
            clear HZ_
            have HO_ := Aside0.mk (td_kept HO.out hb)
            clear HO
            have HO := Aside0.mk HO_.out
            clear HO_
            have HT_ := Aside0.mk (HT.out.step hb)
            clear HT
            have HT := Aside0.mk HT_.out
            clear HT_
            have HB_ := Aside0.mk (below_step HB.out hb)
            clear HB
            have HB := Aside0.mk HB_.out
            clear HB_
            have HE_ := Aside0.mk (td_kept HE.out hb)
            clear HE
            have HE := Aside0.mk HE_.out
            clear HE_
            clear hb
            refine (td_max2 m y.at_ _ 2 w8 HC2.out (Nat.le_refl _)).mono ?_
            rintro e w9 ⟨rfl, hb⟩
            clear HC2
            have HX_ := Aside0.mk (td_kept HX.out hb)
            clear HX
            have HX := Aside0.mk HX_.out
            clear HX_
            have HZ_ := Aside0.mk (td_kept HZ.out hb)
            clear HZ
            have HZ := Aside0.mk HZ_.out
            clear HZ_
            have HO_ := Aside0.mk (td_kept HO.out hb)
            clear HO
            have HO := Aside0.mk HO_.out
            clear HO_
            have HT_ := Aside0.mk (HT.out.step hb)
            clear HT
            have HT := Aside0.mk HT_.out
            clear HT_
            have HB_ := Aside0.mk (below_step HB.out hb)
            clear HB
            have HB := Aside0.mk HB_.out
            clear HB_
            have HE_ := Aside0.mk (td_kept HE.out hb)
            clear HE
            have HE := Aside0.mk HE_.out
            clear HE_
            clear hb
            have o0 : w9.cell? ⟨m4, 0, none⟩ = some (.int .i64 m.1) := (blk_cell HO.out 0).trans rfl
            have o1 : w9.cell? ⟨m4, 1, none⟩ = some (.int .i64 m.2) := (blk_cell HO.out 1).trans rfl
            have f0 := blk_frozen HO.out 0
            have f1 := blk_frozen HO.out 1
            go_wp2_with fail
            have ho1 := blk_put (cs' := #[.int .i64 (tmx m y.at_).1, .int .i64 m.2]) HO.out 0 (.int .i64 (tmx m y.at_).1) rfl
            have ho2 := blk_put (cs' := #[.int .i64 (tmx m y.at_).1, .int .i64 (tmx m y.at_).2]) ho1 1 (.int .i64 (tmx m y.at_).2) rfl
            have HT_ := Aside0.mk ((HT.out.far HO.out (i := 0) (by decide) HW0.out HNG.out (.int .i64 (tmx m y.at_).1)).far ho1 (i := 1) (by decide) HW0.out HNG.out (.int .i64 (tmx m y.at_).2))
            have HB_ := Aside0.mk (Below.setCell (Below.setCell HB.out (p := ⟨m4, 0, none⟩) HNO.out (.int .i64 (tmx m y.at_).1)) (p := ⟨m4, 1, none⟩) HNO.out (.int .i64 (tmx m y.at_).2))
            have HX_ := Aside0.mk (blk_far (blk_far HX.out (p := ⟨m4, 0, none⟩) HNX.out (.int .i64 (tmx m y.at_).1)) (p := ⟨m4, 1, none⟩) HNX.out (.int .i64 (tmx m y.at_).2))
            have HZ_ := Aside0.mk (blk_far (blk_far HZ.out (p := ⟨m4, 0, none⟩) HNZ.out (.int .i64 (tmx m y.at_).1)) (p := ⟨m4, 1, none⟩) HNZ.out (.int .i64 (tmx m y.at_).2))
            have HO_ := Aside0.mk ho2
            clear ho1 ho2 o0 o1 f0 f1
            go_roundg (t.l.length - i)
            case measure => have h1 := HI.out; have h2 := HLT.out; omega
            case rel => exact ⟨i + 1, tmx m y.at_, congrArg (Value.int .i64) (by first | exact HWI.out | exact HWI2.out | rfl | omega), ⟨by have h1 := HI.out; have h2 := HLT.out; omega⟩, ⟨HLT.out⟩, ⟨by have h1 := HMD.out; rw [if_pos (by exact HAS.out)] at h1; exact h1.symm.trans HM.out⟩, HT_, HB_, HX_, HZ_, HO_⟩
theorem td_max (W0 W : World) (g : Nat) (t : Td S24) (s : S24) (o : Int) (h : TdAt W0 W g t) : Calls Try.prog 14 #[.pointer (some ⟨g, 0, none⟩), .agg #[.string s.f0, .string s.f1], .int .i64 o] W fun e w' => e = .returned (.tuple #[.agg #[.int .i64 (t.maxF s o).1.1, .int .i64 (t.maxF s o).1.2], .int .i64 (t.maxF s o).2]) ∧ Below W.heap.size W w' := by
  obtain ⟨a1, a2, A, c, a3, a4⟩ := h
  unfold Td.maxF
  by_cases hs : spErr s = 0
  · rw [if_neg (by simpa using hs)]
    by_cases ho : own o = true
    · rw [if_pos ho]; exact (td_max_ok W0 W g t A c s o ⟨a1, a2, a3, a4⟩ hs ho).mono (fun _ _ h => h)
    · rw [if_neg ho]; exact (td_max_bad2 W0 W g t A c s o ⟨a1, a2, a3, a4⟩ hs (by simpa using ho)).mono (fun _ _ h => h)
  · rw [if_pos hs]; exact (td_max_bad1 W0 W g t A c s o ⟨a1, a2, a3, a4⟩ hs).mono (fun _ _ h => h)
end Go.Proofs.Ytaccfbpfennjkaa.PTideDoes

