/- The tide (typed by hand): Add. -/
import Derived.Test.YtaccfbpfennjkaaTd5
namespace Go.Proofs.Ytaccfbpfennjkaa.PTideDoes
open Go.RowKit Go.Proofs.YtaccfbpfennjkaaW.PrintWords Go.Proofs.YtaccfbpfennjkaaW.PrintLast Go.Proofs.YtaccfbpfennjkaaW.PrintMore
attribute [local go_sem] max2_int min2_int max_two min_two max_three min_three max_four min_four   -- for this text's walks alone
set_option linter.unusedVariables false
set_option linter.unusedSimpArgs false
theorem toList_loop (b : ByteArray) : ∀ (d i : Nat) (r : List UInt8), b.size - i = d → ByteArray.toList.loop b i r = r.reverse ++ b.data.toList.drop i := by
  intro d
  induction d with
  | zero =>
    intro i r h
    rw [ByteArray.toList.loop.eq_1, if_neg (by omega), List.drop_of_length_le (by show b.data.toList.length ≤ i; rw [Array.length_toList]; show b.size ≤ i; omega), List.append_nil]
  | succ d ih =>
    intro i r h
    have hi : i < b.data.toList.length := by rw [Array.length_toList]; show i < b.size; omega
    rw [ByteArray.toList.loop.eq_1, if_pos (by omega), ih (i + 1) _ (by omega), List.reverse_cons, List.append_assoc, List.drop_eq_getElem_cons hi]
    have h2 : i < b.data.size := by rw [Array.length_toList] at hi; exact hi
    have e : b.get! i = b.data.toList[i] := by
      unfold ByteArray.get!
      show b.data[i]! = _
      rw [getElem!_pos b.data i h2]
      rfl
    rw [e]
    rfl
theorem ba_toList (b : ByteArray) : b.toList = b.data.toList := by
  show ByteArray.toList.loop b 0 [] = _
  rw [toList_loop b _ 0 [] rfl]
  rfl
theorem ba_inj {a b : ByteArray} (h : a.toList = b.toList) : a = b := by
  rw [ba_toList, ba_toList] at h
  cases a; cases b
  congr 1
  exact Array.ext' h
theorem ba_eq (a b : ByteArray) : (a.toList == b.toList) = decide (a = b) := by
  by_cases h : a = b
  · subst h; simp
  · rw [decide_eq_false h, beq_eq_false_iff_ne]
    exact fun e => h (ba_inj e)
theorem same_iff (s : S24) (o : Int) (x : Rd S24) : same s o x = true ↔ x.s = s ∧ x.o = o := by
  unfold same
  rw [ba_eq, ba_eq, Bool.and_eq_true, Bool.and_eq_true, decide_eq_true_iff, decide_eq_true_iff, beq_iff_eq]
  constructor
  · rintro ⟨⟨h1, h2⟩, h3⟩
    exact ⟨by cases hx : x.s; cases s; rw [hx] at h1 h2; cases h1; cases h2; rfl, h3⟩
  · rintro ⟨rfl, h3⟩
    exact ⟨⟨rfl, rfl⟩, h3⟩
theorem up_none {s : S24} {o : Int} (a : Int × Int) : ∀ {l : List (Rd S24)}, (∀ j, j < l.length → same s o (l.getD j z63) = false) → Td.up s o a l = none
  | [], _ => rfl
  | x :: l, h => by
    have h0 := h 0 (by simp)
    have h1 : ¬ (x.s = s ∧ x.o = o) := fun q => by
      have := (same_iff s o x).2 q
      rw [show (x :: l).getD 0 z63 = x from rfl, this] at h0
      cases h0
    unfold Td.up
    rw [if_neg h1, up_none a (fun j hj => by simpa using h (j + 1) (by simpa using hj))]
    rfl
theorem up_at {s : S24} {o : Int} (a : Int × Int) : ∀ {l : List (Rd S24)} {k : Nat}, k < l.length → same s o (l.getD k z63) = true → (∀ j, j < k → same s o (l.getD j z63) = false) → Td.up s o a l = some (l.set k { (l.getD k z63) with at_ := tmx (l.getD k z63).at_ a })
  | [], k, hk, _, _ => absurd hk (by simp)
  | x :: l, 0, hk, h1, _ => by
    unfold Td.up
    rw [if_pos ((same_iff s o x).1 h1)]
    rfl
  | x :: l, k + 1, hk, h1, h2 => by
    have h0 := h2 0 (by omega)
    have hn : ¬ (x.s = s ∧ x.o = o) := fun q => by
      have := (same_iff s o x).2 q
      rw [show (x :: l).getD 0 z63 = x from rfl, this] at h0
      cases h0
    unfold Td.up
    rw [if_neg hn, up_at a (l := l) (k := k) (by simpa using hk) (by simpa using h1) (fun j hj => by simpa using h2 (j + 1) (by omega))]
    rfl
theorem Tn.of_grownR {B : Nat} {g : Option Nat} {W W' : World} {v : Value} {l : List (Rd S24)} (h : W.grownBy W' v.ownBlock) (hr : Kd.R k63 63 W B (fun _ => True) v l) : Tn B g 63 W W' :=
  ⟨h.os, h.tape, h.output, h.size, fun b hb hk => h.block b hb (by
    intro e
    obtain ⟨cells, hc⟩ := Kd.R_typed hr b e.symm
    have hbb := Kd.R_base hr b e.symm
    rcases hk with hk | ⟨_, hk⟩
    · omega
    · exact hk _ _ hc)⟩
theorem add_push {t : Td S24} {s : S24} {a : Int × Int} {o : Int} (h1 : tlt t.low a) (h2 : ∀ j, j < t.l.length → same s o (t.l.getD j z63) = false) : t.add s a o = t.push { s := s, at_ := a, o := o } := by
  unfold Td.add
  rw [if_pos h1, up_none a h2]
theorem add_up {t : Td S24} {s : S24} {a : Int × Int} {o : Int} {k : Nat} (h1 : tlt t.low a) (hk : k < t.l.length) (h2 : same s o (t.l.getD k z63) = true) (h3 : ∀ j, j < k → same s o (t.l.getD j z63) = false) : t.add s a o = { t with l := t.l.set k { (t.l.getD k z63) with at_ := tmx (t.l.getD k z63).at_ a } } := by
  unfold Td.add
  rw [if_pos h1, up_at a hk h2 h3]
theorem least_drop {L : List (Rd S24)} {m : Int × Int} {i : Nat} (hi : i < L.length) : Td.least m (L.drop i) = Td.least (if tlt (L.getD i z63).at_ m then (L.getD i z63).at_ else m) (L.drop (i + 1)) := by
  rw [List.drop_eq_getElem_cons hi, List.getD_eq_getElem?_getD, List.getElem?_eq_getElem hi]
  rfl
/-- What is wrong with a read; 0: nothing. -/
def addErr (s : S24) (a : Int × Int) (o : Int) : Int := if spErr s ≠ 0 then spErr s else if sok a = true ∧ own o = true then 0 else 2
set_option maxHeartbeats 16000000 in
set_option maxRecDepth 100000 in
theorem td_add_bad1 (W0 W : World) (g : Nat) (t : Td S24) (A : Option Addr) (c : Nat) (s : S24) (a : Int × Int) (o : Int) (h : TdA W0 W g t A c) (hs : spErr s ≠ 0) : Calls Try.prog 11 #[.pointer (some ⟨g, 0, none⟩), .agg #[.string s.f0, .string s.f1], .agg #[.int .i64 a.1, .int .i64 a.2], .int .i64 o] W (TdPost W0 W g t (.returned (.int .i64 (spErr s)))) := by
  have HT0 := Aside0.mk h
  have e1 : (spErr s != 0) = true := bne_iff_ne.mpr hs
  have e2 : (spErr s == 0) = false := beq_eq_false_iff_ne.mpr hs
  clear h hs
  go_enter Try.func11, Try.ntmps11
  go_upto_region 1 with fail
  generalize hw1 : World.alloc (World.alloc (World.alloc W _) _) _ = w1
  have hb : Below W.heap.size W w1 := by rw [← hw1]; exact below_alloc (below_alloc (td_alloc W _) _) _
  have e1_ : (W.alloc (.cells #[.string s.f0, .string s.f1] 24)).heap.size = W.heap.size + 1 := Array.size_push _
  have e2_ : ((W.alloc (.cells #[.string s.f0, .string s.f1] 24)).alloc (.cells #[.int .i64 a.1, .int .i64 a.2] 31)).heap.size = W.heap.size + 2 := (Array.size_push _).trans (congrArg (· + 1) e1_)
  have HX := Aside0.mk (show w1.heap[W.heap.size]? = some (.cells #[.string s.f0, .string s.f1] 24 (0, 0)) from by rw [← hw1]; exact td_kept (td_kept (blk_new W _) (td_alloc _ _)) (td_alloc _ _))
  have HA := Aside0.mk (show w1.heap[W.heap.size + 1]? = some (.cells #[.int .i64 a.1, .int .i64 a.2] 31 (0, 0)) from by
    have q := td_kept (blk_new (W.alloc (.cells #[.string s.f0, .string s.f1] 24)) (.cells #[.int .i64 a.1, .int .i64 a.2] 31)) (td_alloc _ (.cells #[.int .i64 o] 3))
    rw [e1_, hw1] at q
    exact q)
  have HO := Aside0.mk (show w1.heap[W.heap.size + 2]? = some (.cells #[.int .i64 o] 3 (0, 0)) from by
    have q := blk_new ((W.alloc (.cells #[.string s.f0, .string s.f1] 24)).alloc (.cells #[.int .i64 a.1, .int .i64 a.2] 31)) (.cells #[.int .i64 o] 3)
    rw [e2_, hw1] at q
    exact q)
  have HNG := Aside0.mk (And.intro (Nat.ne_of_gt HT0.out.lt) (And.intro (show W.heap.size + 1 ≠ g from by have := HT0.out.lt; omega) (show W.heap.size + 2 ≠ g from by have := HT0.out.lt; omega)))
  have HT := Aside0.mk (HT0.out.step hb)
  have HN := Aside0.mk (Tn.of_below (B := W0.heap.size) (g := some g) (ty := 63) hb)
  clear hw1 hb e1_ e2_
  generalize W.heap.size = n at HX HA HO HNG ⊢
  go_wp2_with fail
  refine (td_none W0 w1 g t HT.out.at_).mono ?_
  rintro e w2 ⟨rfl, hb⟩
  have HX_ := Aside0.mk (td_kept HX.out hb)
  clear HX
  have HX := Aside0.mk HX_.out
  clear HX_
  have HA_ := Aside0.mk (td_kept HA.out hb)
  clear HA
  have HA := Aside0.mk HA_.out
  clear HA_
  have HO_ := Aside0.mk (td_kept HO.out hb)
  clear HO
  have HO := Aside0.mk HO_.out
  clear HO_
  have HT_ := Aside0.mk (HT.out.step hb)
  clear HT
  have HT := Aside0.mk HT_.out
  clear HT_
  have HN_ := Aside0.mk (HN.out.trans (Tn.of_below hb))
  clear HN
  have HN := Aside0.mk HN_.out
  clear HN_
  clear hb
  have x0 : w2.cell? ⟨n, 0, none⟩ = some (.string s.f0) := (blk_cell HX.out 0).trans rfl
  have x1 : w2.cell? ⟨n, 1, none⟩ = some (.string s.f1) := (blk_cell HX.out 1).trans rfl
  go_wp2_with fail
  refine (td_sp s _).mono ?_
  rintro e w3 ⟨rfl, hb⟩
  clear x0 x1
  have HX_ := Aside0.mk (td_kept HX.out hb)
  clear HX
  have HX := Aside0.mk HX_.out
  clear HX_
  have HA_ := Aside0.mk (td_kept HA.out hb)
  clear HA
  have HA := Aside0.mk HA_.out
  clear HA_
  have HO_ := Aside0.mk (td_kept HO.out hb)
  clear HO
  have HO := Aside0.mk HO_.out
  clear HO_
  have HT_ := Aside0.mk (HT.out.step hb)
  clear HT
  have HT := Aside0.mk HT_.out
  clear HT_
  have HN_ := Aside0.mk (HN.out.trans (Tn.of_below hb))
  clear HN
  have HN := Aside0.mk HN_.out
  clear HN_
  clear hb
  go_wp2_with fail
  go_ret
  exact ⟨rfl, HT.out.at_, HN.out⟩
set_option maxHeartbeats 16000000 in
set_option maxRecDepth 100000 in
theorem td_add_bad2 (W0 W : World) (g : Nat) (t : Td S24) (A : Option Addr) (c : Nat) (s : S24) (a : Int × Int) (o : Int) (h : TdA W0 W g t A c) (hs : spErr s = 0) (hk : sok a = false) : Calls Try.prog 11 #[.pointer (some ⟨g, 0, none⟩), .agg #[.string s.f0, .string s.f1], .agg #[.int .i64 a.1, .int .i64 a.2], .int .i64 o] W (TdPost W0 W g t (.returned (.int .i64 2))) := by
  have HT0 := Aside0.mk h
  have HS := Aside0.mk hs
  have HK := Aside0.mk hk
  clear h hs hk
  go_enter Try.func11, Try.ntmps11
  go_upto_region 1 with fail
  generalize hw1 : World.alloc (World.alloc (World.alloc W _) _) _ = w1
  have hb : Below W.heap.size W w1 := by rw [← hw1]; exact below_alloc (below_alloc (td_alloc W _) _) _
  have e1_ : (W.alloc (.cells #[.string s.f0, .string s.f1] 24)).heap.size = W.heap.size + 1 := Array.size_push _
  have e2_ : ((W.alloc (.cells #[.string s.f0, .string s.f1] 24)).alloc (.cells #[.int .i64 a.1, .int .i64 a.2] 31)).heap.size = W.heap.size + 2 := (Array.size_push _).trans (congrArg (· + 1) e1_)
  have HX := Aside0.mk (show w1.heap[W.heap.size]? = some (.cells #[.string s.f0, .string s.f1] 24 (0, 0)) from by rw [← hw1]; exact td_kept (td_kept (blk_new W _) (td_alloc _ _)) (td_alloc _ _))
  have HA := Aside0.mk (show w1.heap[W.heap.size + 1]? = some (.cells #[.int .i64 a.1, .int .i64 a.2] 31 (0, 0)) from by
    have q := td_kept (blk_new (W.alloc (.cells #[.string s.f0, .string s.f1] 24)) (.cells #[.int .i64 a.1, .int .i64 a.2] 31)) (td_alloc _ (.cells #[.int .i64 o] 3))
    rw [e1_, hw1] at q
    exact q)
  have HO := Aside0.mk (show w1.heap[W.heap.size + 2]? = some (.cells #[.int .i64 o] 3 (0, 0)) from by
    have q := blk_new ((W.alloc (.cells #[.string s.f0, .string s.f1] 24)).alloc (.cells #[.int .i64 a.1, .int .i64 a.2] 31)) (.cells #[.int .i64 o] 3)
    rw [e2_, hw1] at q
    exact q)
  have HNG := Aside0.mk (And.intro (Nat.ne_of_gt HT0.out.lt) (And.intro (show W.heap.size + 1 ≠ g from by have := HT0.out.lt; omega) (show W.heap.size + 2 ≠ g from by have := HT0.out.lt; omega)))
  have HT := Aside0.mk (HT0.out.step hb)
  have HN := Aside0.mk (Tn.of_below (B := W0.heap.size) (g := some g) (ty := 63) hb)
  clear hw1 hb e1_ e2_
  generalize W.heap.size = n at HX HA HO HNG ⊢
  go_wp2_with fail
  refine (td_none W0 w1 g t HT.out.at_).mono ?_
  rintro e w2 ⟨rfl, hb⟩
  have HX_ := Aside0.mk (td_kept HX.out hb)
  clear HX
  have HX := Aside0.mk HX_.out
  clear HX_
  have HA_ := Aside0.mk (td_kept HA.out hb)
  clear HA
  have HA := Aside0.mk HA_.out
  clear HA_
  have HO_ := Aside0.mk (td_kept HO.out hb)
  clear HO
  have HO := Aside0.mk HO_.out
  clear HO_
  have HT_ := Aside0.mk (HT.out.step hb)
  clear HT
  have HT := Aside0.mk HT_.out
  clear HT_
  have HN_ := Aside0.mk (HN.out.trans (Tn.of_below hb))
  clear HN
  have HN := Aside0.mk HN_.out
  clear HN_
  clear hb
  have x0 : w2.cell? ⟨n, 0, none⟩ = some (.string s.f0) := (blk_cell HX.out 0).trans rfl
  have x1 : w2.cell? ⟨n, 1, none⟩ = some (.string s.f1) := (blk_cell HX.out 1).trans rfl
  go_wp2_with fail
  refine (td_sp s _).mono ?_
  rintro e w3 ⟨rfl, hb⟩
  clear x0 x1
  have HX_ := Aside0.mk (td_kept HX.out hb)
  clear HX
  have HX := Aside0.mk HX_.out
  clear HX_
  have HA_ := Aside0.mk (td_kept HA.out hb)
  clear HA
  have HA := Aside0.mk HA_.out
  clear HA_
  have HO_ := Aside0.mk (td_kept HO.out hb)
  clear HO
  have HO := Aside0.mk HO_.out
  clear HO_
  have HT_ := Aside0.mk (HT.out.step hb)
  clear HT
  have HT := Aside0.mk HT_.out
  clear HT_
  have HN_ := Aside0.mk (HN.out.trans (Tn.of_below hb))
  clear HN
  have HN := Aside0.mk HN_.out
  clear HN_
  clear hb
  rw [HS.out]
  have a0 : w3.cell? ⟨n + 1, 0, none⟩ = some (.int .i64 a.1) := (blk_cell HA.out 0).trans rfl
  have a1 : w3.cell? ⟨n + 1, 1, none⟩ = some (.int .i64 a.2) := (blk_cell HA.out 1).trans rfl
  go_wp2_with fail
  refine (td_chk a _).mono ?_
  rintro e w4 ⟨rfl, hb⟩
  clear a0 a1
  have HX_ := Aside0.mk (td_kept HX.out hb)
  clear HX
  have HX := Aside0.mk HX_.out
  clear HX_
  have HA_ := Aside0.mk (td_kept HA.out hb)
  clear HA
  have HA := Aside0.mk HA_.out
  clear HA_
  have HO_ := Aside0.mk (td_kept HO.out hb)
  clear HO
  have HO := Aside0.mk HO_.out
  clear HO_
  have HT_ := Aside0.mk (HT.out.step hb)
  clear HT
  have HT := Aside0.mk HT_.out
  clear HT_
  have HN_ := Aside0.mk (HN.out.trans (Tn.of_below hb))
  clear HN
  have HN := Aside0.mk HN_.out
  clear HN_
  clear hb
  rw [HK.out]
  go_wp2_with fail
  go_ret
  exact ⟨rfl, HT.out.at_, HN.out⟩
set_option maxHeartbeats 16000000 in
set_option maxRecDepth 100000 in
theorem td_add_bad3 (W0 W : World) (g : Nat) (t : Td S24) (A : Option Addr) (c : Nat) (s : S24) (a : Int × Int) (o : Int) (h : TdA W0 W g t A c) (hs : spErr s = 0) (hk : sok a = true) (ho : own o = false) : Calls Try.prog 11 #[.pointer (some ⟨g, 0, none⟩), .agg #[.string s.f0, .string s.f1], .agg #[.int .i64 a.1, .int .i64 a.2], .int .i64 o] W (TdPost W0 W g t (.returned (.int .i64 2))) := by
  have HT0 := Aside0.mk h
  have HS := Aside0.mk hs
  have HK := Aside0.mk hk
  have HW := Aside0.mk ho
  clear h hs hk ho
  go_enter Try.func11, Try.ntmps11
  go_upto_region 1 with fail
  generalize hw1 : World.alloc (World.alloc (World.alloc W _) _) _ = w1
  have hb : Below W.heap.size W w1 := by rw [← hw1]; exact below_alloc (below_alloc (td_alloc W _) _) _
  have e1_ : (W.alloc (.cells #[.string s.f0, .string s.f1] 24)).heap.size = W.heap.size + 1 := Array.size_push _
  have e2_ : ((W.alloc (.cells #[.string s.f0, .string s.f1] 24)).alloc (.cells #[.int .i64 a.1, .int .i64 a.2] 31)).heap.size = W.heap.size + 2 := (Array.size_push _).trans (congrArg (· + 1) e1_)
  have HX := Aside0.mk (show w1.heap[W.heap.size]? = some (.cells #[.string s.f0, .string s.f1] 24 (0, 0)) from by rw [← hw1]; exact td_kept (td_kept (blk_new W _) (td_alloc _ _)) (td_alloc _ _))
  have HA := Aside0.mk (show w1.heap[W.heap.size + 1]? = some (.cells #[.int .i64 a.1, .int .i64 a.2] 31 (0, 0)) from by
    have q := td_kept (blk_new (W.alloc (.cells #[.string s.f0, .string s.f1] 24)) (.cells #[.int .i64 a.1, .int .i64 a.2] 31)) (td_alloc _ (.cells #[.int .i64 o] 3))
    rw [e1_, hw1] at q
    exact q)
  have HO := Aside0.mk (show w1.heap[W.heap.size + 2]? = some (.cells #[.int .i64 o] 3 (0, 0)) from by
    have q := blk_new ((W.alloc (.cells #[.string s.f0, .string s.f1] 24)).alloc (.cells #[.int .i64 a.1, .int .i64 a.2] 31)) (.cells #[.int .i64 o] 3)
    rw [e2_, hw1] at q
    exact q)
  have HNG := Aside0.mk (And.intro (Nat.ne_of_gt HT0.out.lt) (And.intro (show W.heap.size + 1 ≠ g from by have := HT0.out.lt; omega) (show W.heap.size + 2 ≠ g from by have := HT0.out.lt; omega)))
  have HT := Aside0.mk (HT0.out.step hb)
  have HN := Aside0.mk (Tn.of_below (B := W0.heap.size) (g := some g) (ty := 63) hb)
  clear hw1 hb e1_ e2_
  generalize W.heap.size = n at HX HA HO HNG ⊢
  go_wp2_with fail
  refine (td_none W0 w1 g t HT.out.at_).mono ?_
  rintro e w2 ⟨rfl, hb⟩
  have HX_ := Aside0.mk (td_kept HX.out hb)
  clear HX
  have HX := Aside0.mk HX_.out
  clear HX_
  have HA_ := Aside0.mk (td_kept HA.out hb)
  clear HA
  have HA := Aside0.mk HA_.out
  clear HA_
  have HO_ := Aside0.mk (td_kept HO.out hb)
  clear HO
  have HO := Aside0.mk HO_.out
  clear HO_
  have HT_ := Aside0.mk (HT.out.step hb)
  clear HT
  have HT := Aside0.mk HT_.out
  clear HT_
  have HN_ := Aside0.mk (HN.out.trans (Tn.of_below hb))
  clear HN
  have HN := Aside0.mk HN_.out
  clear HN_
  clear hb
  have x0 : w2.cell? ⟨n, 0, none⟩ = some (.string s.f0) := (blk_cell HX.out 0).trans rfl
  have x1 : w2.cell? ⟨n, 1, none⟩ = some (.string s.f1) := (blk_cell HX.out 1).trans rfl
  go_wp2_with fail
  refine (td_sp s _).mono ?_
  rintro e w3 ⟨rfl, hb⟩
  clear x0 x1
  have HX_ := Aside0.mk (td_kept HX.out hb)
  clear HX
  have HX := Aside0.mk HX_.out
  clear HX_
  have HA_ := Aside0.mk (td_kept HA.out hb)
  clear HA
  have HA := Aside0.mk HA_.out
  clear HA_
  have HO_ := Aside0.mk (td_kept HO.out hb)
  clear HO
  have HO := Aside0.mk HO_.out
  clear HO_
  have HT_ := Aside0.mk (HT.out.step hb)
  clear HT
  have HT := Aside0.mk HT_.out
  clear HT_
  have HN_ := Aside0.mk (HN.out.trans (Tn.of_below hb))
  clear HN
  have HN := Aside0.mk HN_.out
  clear HN_
  clear hb
  rw [HS.out]
  have a0 : w3.cell? ⟨n + 1, 0, none⟩ = some (.int .i64 a.1) := (blk_cell HA.out 0).trans rfl
  have a1 : w3.cell? ⟨n + 1, 1, none⟩ = some (.int .i64 a.2) := (blk_cell HA.out 1).trans rfl
  go_wp2_with fail
  refine (td_chk a _).mono ?_
  rintro e w4 ⟨rfl, hb⟩
  clear a0 a1
  have HX_ := Aside0.mk (td_kept HX.out hb)
  clear HX
  have HX := Aside0.mk HX_.out
  clear HX_
  have HA_ := Aside0.mk (td_kept HA.out hb)
  clear HA
  have HA := Aside0.mk HA_.out
  clear HA_
  have HO_ := Aside0.mk (td_kept HO.out hb)
  clear HO
  have HO := Aside0.mk HO_.out
  clear HO_
  have HT_ := Aside0.mk (HT.out.step hb)
  clear HT
  have HT := Aside0.mk HT_.out
  clear HT_
  have HN_ := Aside0.mk (HN.out.trans (Tn.of_below hb))
  clear HN
  have HN := Aside0.mk HN_.out
  clear HN_
  clear hb
  rw [HK.out]
  have o0 : w4.cell? ⟨n + 2, 0, none⟩ = some (.int .i64 o) := (blk_cell HO.out 0).trans rfl
  go_wp2_with fail
  refine (td_own o _).mono ?_
  rintro e w5 ⟨rfl, hb⟩
  clear o0
  have HX_ := Aside0.mk (td_kept HX.out hb)
  clear HX
  have HX := Aside0.mk HX_.out
  clear HX_
  have HA_ := Aside0.mk (td_kept HA.out hb)
  clear HA
  have HA := Aside0.mk HA_.out
  clear HA_
  have HO_ := Aside0.mk (td_kept HO.out hb)
  clear HO
  have HO := Aside0.mk HO_.out
  clear HO_
  have HT_ := Aside0.mk (HT.out.step hb)
  clear HT
  have HT := Aside0.mk HT_.out
  clear HT_
  have HN_ := Aside0.mk (HN.out.trans (Tn.of_below hb))
  clear HN
  have HN := Aside0.mk HN_.out
  clear HN_
  clear hb
  rw [HW.out]
  go_wp2_with fail
  go_ret
  exact ⟨rfl, HT.out.at_, HN.out⟩
set_option maxHeartbeats 16000000 in
set_option maxRecDepth 100000 in
theorem td_add_low (W0 W : World) (g : Nat) (t : Td S24) (A : Option Addr) (c : Nat) (s : S24) (a : Int × Int) (o : Int) (h : TdA W0 W g t A c) (hs : spErr s = 0) (hk : sok a = true) (ho : own o = true) (hl : decide (tlt t.low a) = false) : Calls Try.prog 11 #[.pointer (some ⟨g, 0, none⟩), .agg #[.string s.f0, .string s.f1], .agg #[.int .i64 a.1, .int .i64 a.2], .int .i64 o] W (TdPost W0 W g t (.returned (.int .i64 0))) := by
  have HT0 := Aside0.mk h
  have HS := Aside0.mk hs
  have HK := Aside0.mk hk
  have HW := Aside0.mk ho
  have HLW := Aside0.mk hl
  clear h hs hk ho hl
  go_enter Try.func11, Try.ntmps11
  go_upto_region 1 with fail
  generalize hw1 : World.alloc (World.alloc (World.alloc W _) _) _ = w1
  have hb : Below W.heap.size W w1 := by rw [← hw1]; exact below_alloc (below_alloc (td_alloc W _) _) _
  have e1_ : (W.alloc (.cells #[.string s.f0, .string s.f1] 24)).heap.size = W.heap.size + 1 := Array.size_push _
  have e2_ : ((W.alloc (.cells #[.string s.f0, .string s.f1] 24)).alloc (.cells #[.int .i64 a.1, .int .i64 a.2] 31)).heap.size = W.heap.size + 2 := (Array.size_push _).trans (congrArg (· + 1) e1_)
  have HX := Aside0.mk (show w1.heap[W.heap.size]? = some (.cells #[.string s.f0, .string s.f1] 24 (0, 0)) from by rw [← hw1]; exact td_kept (td_kept (blk_new W _) (td_alloc _ _)) (td_alloc _ _))
  have HA := Aside0.mk (show w1.heap[W.heap.size + 1]? = some (.cells #[.int .i64 a.1, .int .i64 a.2] 31 (0, 0)) from by
    have q := td_kept (blk_new (W.alloc (.cells #[.string s.f0, .string s.f1] 24)) (.cells #[.int .i64 a.1, .int .i64 a.2] 31)) (td_alloc _ (.cells #[.int .i64 o] 3))
    rw [e1_, hw1] at q
    exact q)
  have HO := Aside0.mk (show w1.heap[W.heap.size + 2]? = some (.cells #[.int .i64 o] 3 (0, 0)) from by
    have q := blk_new ((W.alloc (.cells #[.string s.f0, .string s.f1] 24)).alloc (.cells #[.int .i64 a.1, .int .i64 a.2] 31)) (.cells #[.int .i64 o] 3)
    rw [e2_, hw1] at q
    exact q)
  have HNG := Aside0.mk (And.intro (Nat.ne_of_gt HT0.out.lt) (And.intro (show W.heap.size + 1 ≠ g from by have := HT0.out.lt; omega) (show W.heap.size + 2 ≠ g from by have := HT0.out.lt; omega)))
  have HT := Aside0.mk (HT0.out.step hb)
  have HN := Aside0.mk (Tn.of_below (B := W0.heap.size) (g := some g) (ty := 63) hb)
  clear hw1 hb e1_ e2_
  generalize W.heap.size = n at HX HA HO HNG ⊢
  go_wp2_with fail
  refine (td_none W0 w1 g t HT.out.at_).mono ?_
  rintro e w2 ⟨rfl, hb⟩
  have HX_ := Aside0.mk (td_kept HX.out hb)
  clear HX
  have HX := Aside0.mk HX_.out
  clear HX_
  have HA_ := Aside0.mk (td_kept HA.out hb)
  clear HA
  have HA := Aside0.mk HA_.out
  clear HA_
  have HO_ := Aside0.mk (td_kept HO.out hb)
  clear HO
  have HO := Aside0.mk HO_.out
  clear HO_
  have HT_ := Aside0.mk (HT.out.step hb)
  clear HT
  have HT := Aside0.mk HT_.out
  clear HT_
  have HN_ := Aside0.mk (HN.out.trans (Tn.of_below hb))
  clear HN
  have HN := Aside0.mk HN_.out
  clear HN_
  clear hb
  have x0 : w2.cell? ⟨n, 0, none⟩ = some (.string s.f0) := (blk_cell HX.out 0).trans rfl
  have x1 : w2.cell? ⟨n, 1, none⟩ = some (.string s.f1) := (blk_cell HX.out 1).trans rfl
  go_wp2_with fail
  refine (td_sp s _).mono ?_
  rintro e w3 ⟨rfl, hb⟩
  clear x0 x1
  have HX_ := Aside0.mk (td_kept HX.out hb)
  clear HX
  have HX := Aside0.mk HX_.out
  clear HX_
  have HA_ := Aside0.mk (td_kept HA.out hb)
  clear HA
  have HA := Aside0.mk HA_.out
  clear HA_
  have HO_ := Aside0.mk (td_kept HO.out hb)
  clear HO
  have HO := Aside0.mk HO_.out
  clear HO_
  have HT_ := Aside0.mk (HT.out.step hb)
  clear HT
  have HT := Aside0.mk HT_.out
  clear HT_
  have HN_ := Aside0.mk (HN.out.trans (Tn.of_below hb))
  clear HN
  have HN := Aside0.mk HN_.out
  clear HN_
  clear hb
  rw [HS.out]
  have a0 : w3.cell? ⟨n + 1, 0, none⟩ = some (.int .i64 a.1) := (blk_cell HA.out 0).trans rfl
  have a1 : w3.cell? ⟨n + 1, 1, none⟩ = some (.int .i64 a.2) := (blk_cell HA.out 1).trans rfl
  go_wp2_with fail
  refine (td_chk a _).mono ?_
  rintro e w4 ⟨rfl, hb⟩
  clear a0 a1
  have HX_ := Aside0.mk (td_kept HX.out hb)
  clear HX
  have HX := Aside0.mk HX_.out
  clear HX_
  have HA_ := Aside0.mk (td_kept HA.out hb)
  clear HA
  have HA := Aside0.mk HA_.out
  clear HA_
  have HO_ := Aside0.mk (td_kept HO.out hb)
  clear HO
  have HO := Aside0.mk HO_.out
  clear HO_
  have HT_ := Aside0.mk (HT.out.step hb)
  clear HT
  have HT := Aside0.mk HT_.out
  clear HT_
  have HN_ := Aside0.mk (HN.out.trans (Tn.of_below hb))
  clear HN
  have HN := Aside0.mk HN_.out
  clear HN_
  clear hb
  rw [HK.out]
  have o0 : w4.cell? ⟨n + 2, 0, none⟩ = some (.int .i64 o) := (blk_cell HO.out 0).trans rfl
  go_wp2_with fail
  refine (td_own o _).mono ?_
  rintro e w5 ⟨rfl, hb⟩
  clear o0
  have HX_ := Aside0.mk (td_kept HX.out hb)
  clear HX
  have HX := Aside0.mk HX_.out
  clear HX_
  have HA_ := Aside0.mk (td_kept HA.out hb)
  clear HA
  have HA := Aside0.mk HA_.out
  clear HA_
  have HO_ := Aside0.mk (td_kept HO.out hb)
  clear HO
  have HO := Aside0.mk HO_.out
  clear HO_
  have HT_ := Aside0.mk (HT.out.step hb)
  clear HT
  have HT := Aside0.mk HT_.out
  clear HT_
  have HN_ := Aside0.mk (HN.out.trans (Tn.of_below hb))
  clear HN
  have HN := Aside0.mk HN_.out
  clear HN_
  clear hb
  rw [HW.out]
  go_upto_region 8 with fail
  refine wp_region_noPanic ?_
  refine wp_region_held_drew (S := (fun V => V.cell? ⟨n + 1, 0, none⟩ = some (.int .i64 a.1) ∧ V.cell? ⟨n + 1, 1, none⟩ = some (.int .i64 a.2) ∧ V.cell? ⟨g, 1, none⟩ = some (.int .i64 t.low.1) ∧ V.cell? ⟨g, 2, none⟩ = some (.int .i64 t.low.2))) (by kernel_rfl) ⟨(blk_cell (td_kept HA.out (below_drew1 (Below.refl _ _))) 0).trans rfl, (blk_cell (td_kept HA.out (below_drew1 (Below.refl _ _))) 1).trans rfl, (blk_cell (td_kept HT.out.box (below_drew1 (Below.refl _ _))) 1).trans rfl, (blk_cell (td_kept HT.out.box (below_drew1 (Below.refl _ _))) 2).trans rfl⟩ (fun hHeld => ?_)
  generalize hwd : World.drew _ = wd at hHeld ⊢
  have hb : Below w5.heap.size w5 wd := by rw [← hwd]; exact below_drew1 (Below.refl _ _)
  clear hwd
  have HX_ := Aside0.mk (td_kept HX.out hb)
  clear HX
  have HX := Aside0.mk HX_.out
  clear HX_
  have HA_ := Aside0.mk (td_kept HA.out hb)
  clear HA
  have HA := Aside0.mk HA_.out
  clear HA_
  have HO_ := Aside0.mk (td_kept HO.out hb)
  clear HO
  have HO := Aside0.mk HO_.out
  clear HO_
  have HT_ := Aside0.mk (HT.out.step hb)
  clear HT
  have HT := Aside0.mk HT_.out
  clear HT_
  have HN_ := Aside0.mk (HN.out.trans (Tn.of_below hb))
  clear HN
  have HN := Aside0.mk HN_.out
  clear HN_
  clear hb
  refine wpAnyH_take (i := 0) (oi := ⟨some 28, _, _, _, _, none⟩) (v := ?v0_1) rfl (by kernel_rfl) (by kernel_rfl) (by kernel_rfl) (fun _ _ _ h => h) (Or.inl ⟨by rfl, ?hy0_1⟩) (by with_reducible assumption) ?rest0_1
  case hy0_1 => (intro V_ hSw; (try dsimp only at hSw); go_simp; (try with_reducible rfl))
  case' rest0_1 => skip
  try simp only [Act.put, List.setIfInBounds_toArray, List.set_cons_zero, List.set_cons_succ]
  refine wpAnyH_take (i := 1) (oi := ⟨some 29, _, _, _, _, none⟩) (v := ?v1_2) rfl (by kernel_rfl) (by kernel_rfl) (by kernel_rfl) (fun _ _ _ h => h) (Or.inl ⟨by rfl, ?hy1_2⟩) (by with_reducible assumption) ?rest1_2
  case hy1_2 => (intro V_ hSw; (try dsimp only at hSw); go_simp; (try with_reducible rfl))
  case' rest1_2 => skip
  try simp only [Act.put, List.setIfInBounds_toArray, List.set_cons_zero, List.set_cons_succ]
  refine wpAnyH_take (i := 2) (oi := ⟨some 30, _, _, _, _, none⟩) (v := ?v2_3) rfl (by kernel_rfl) (by kernel_rfl) (by kernel_rfl) (fun _ _ _ h => h) (Or.inl ⟨by rfl, ?hy2_3⟩) (by with_reducible assumption) ?rest2_3
  case hy2_3 => (intro V_ hSw; (try dsimp only at hSw); go_simp; (try with_reducible rfl))
  case' rest2_3 => skip
  try simp only [Act.put, List.setIfInBounds_toArray, List.set_cons_zero, List.set_cons_succ]
  refine wpAnyH_take (i := 3) (oi := ⟨some 31, _, _, _, _, none⟩) (v := ?v3_4) rfl (by kernel_rfl) (by kernel_rfl) (by kernel_rfl) (fun _ _ _ h => h) (Or.inl ⟨by rfl, ?hy3_4⟩) (by with_reducible assumption) ?rest3_4
  case hy3_4 => (intro V_ hSw; (try dsimp only at hSw); go_simp; (try with_reducible rfl))
  case' rest3_4 => skip
  try simp only [Act.put, List.setIfInBounds_toArray, List.set_cons_zero, List.set_cons_succ]
  refine wpAnyH_take (i := 4) (oi := ⟨some 32, _, _, _, _, none⟩) (v := ?v4_5) rfl (by kernel_rfl) (by kernel_rfl) (by kernel_rfl) (fun _ _ _ h => h) (Or.inl ⟨by rfl, ?hy4_5⟩) (by with_reducible assumption) ?rest4_5
  case hy4_5 => (intro V_ hSw; (try dsimp only at hSw); go_simp; (try with_reducible rfl))
  case' rest4_5 => skip
  try simp only [Act.put, List.setIfInBounds_toArray, List.set_cons_zero, List.set_cons_succ]
  refine wpAnyH_ready (rs := [5]) (by kernel_rfl) (by simp) ?_
  refine AllReadyH.cons (o := ⟨some 33, _, _, _, _, none⟩) rfl (fun K hK => ?_) ?_
  · go_simp
    refine (td_less t.low a _).mono ?_
    rintro e w6 ⟨rfl, hb⟩
    have HX_ := Aside0.mk (td_kept HX.out hb)
    clear HX
    have HX := Aside0.mk HX_.out
    clear HX_
    have HA_ := Aside0.mk (td_kept HA.out hb)
    clear HA
    have HA := Aside0.mk HA_.out
    clear HA_
    have HO_ := Aside0.mk (td_kept HO.out hb)
    clear HO
    have HO := Aside0.mk HO_.out
    clear HO_
    have HT_ := Aside0.mk (HT.out.step hb)
    clear HT
    have HT := Aside0.mk HT_.out
    clear HT_
    have HN_ := Aside0.mk (HN.out.trans (Tn.of_below hb))
    clear HN
    have HN := Aside0.mk HN_.out
    clear HN_
    clear hb
    rw [HLW.out]
    refine hK.out _ _ ⟨(blk_cell (td_kept HA.out (Below.refl _ _)) 0).trans rfl, (blk_cell (td_kept HA.out (Below.refl _ _)) 1).trans rfl, (blk_cell (td_kept HT.out.box (Below.refl _ _)) 1).trans rfl, (blk_cell (td_kept HT.out.box (Below.refl _ _)) 2).trans rfl⟩ (fun hHeld => ?_)
    clear hK K
    try simp only [Act.put, List.setIfInBounds_toArray, List.set_cons_zero, List.set_cons_succ]
    refine wpAnyH_take (i := 6) (oi := ⟨some 34, _, _, _, _, none⟩) (v := ?v6_6) rfl (by kernel_rfl) (by kernel_rfl) (by kernel_rfl) (fun _ _ _ h => h) (Or.inl ⟨by rfl, ?hy6_6⟩) (by with_reducible assumption) ?rest6_6
    case hy6_6 => (intro V_ hSw; (try dsimp only at hSw); go_simp; (try with_reducible rfl))
    case' rest6_6 => skip
    try simp only [Act.put, List.setIfInBounds_toArray, List.set_cons_zero, List.set_cons_succ]
    refine wpAnyH_done (by kernel_rfl) ?_ _
    refine NoPanic.normal ?_
    go_wp2_with fail
    go_ret
    exact ⟨rfl, HT.out.at_, HN.out⟩
  exact AllReadyH.nil
set_option maxHeartbeats 16000000 in
set_option maxRecDepth 100000 in
theorem td_add_up (W0 W : World) (g : Nat) (t : Td S24) (A : Option Addr) (c : Nat) (s : S24) (a : Int × Int) (o : Int) (h : TdA W0 W g t A c) (hs : spErr s = 0) (hk : sok a = true) (ho : own o = true) (hl : tlt t.low a) (k : Nat) (hkl : k < t.l.length) (h1 : same s o (t.l.getD k z63) = true) (h2 : ∀ j, j < k → same s o (t.l.getD j z63) = false) : Calls Try.prog 11 #[.pointer (some ⟨g, 0, none⟩), .agg #[.string s.f0, .string s.f1], .agg #[.int .i64 a.1, .int .i64 a.2], .int .i64 o] W (TdPost W0 W g { t with l := t.l.set k { (t.l.getD k z63) with at_ := tmx (t.l.getD k z63).at_ a } } (.returned (.int .i64 0))) := by
  have HT0 := Aside0.mk h
  have HS := Aside0.mk hs
  have HK := Aside0.mk hk
  have HW := Aside0.mk ho
  have HLW := Aside0.mk (decide_eq_true hl)
  obtain ⟨r, c', er, hbr, hlt, cells, hcell⟩ := Kd.R_form HT0.out.row (by omega)
  injection er with er _ ec
  subst er; subst ec
  have HIX := Aside0.mk (show IsIdx (same s o) t.l (k : Int) from .inr ⟨k, hkl, rfl, h1, h2⟩)
  obtain ⟨y, hy⟩ : ∃ y, t.l.getD k z63 = y := ⟨_, rfl⟩
  have HY := Aside0.mk hy
  rw [hy]
  have HKL := Aside0.mk hkl
  have HKM := Aside0.mk (Kd.C_max (Kd.R_reads' HT0.out.row).2.2)
  clear h hs hk ho hl hbr hlt hcell h1 h2 hy hkl
  go_enter Try.func11, Try.ntmps11
  go_upto_region 1 with fail
  generalize hw1 : World.alloc (World.alloc (World.alloc W _) _) _ = w1
  have hb : Below W.heap.size W w1 := by rw [← hw1]; exact below_alloc (below_alloc (td_alloc W _) _) _
  have e1_ : (W.alloc (.cells #[.string s.f0, .string s.f1] 24)).heap.size = W.heap.size + 1 := Array.size_push _
  have e2_ : ((W.alloc (.cells #[.string s.f0, .string s.f1] 24)).alloc (.cells #[.int .i64 a.1, .int .i64 a.2] 31)).heap.size = W.heap.size + 2 := (Array.size_push _).trans (congrArg (· + 1) e1_)
  have HX := Aside0.mk (show w1.heap[W.heap.size]? = some (.cells #[.string s.f0, .string s.f1] 24 (0, 0)) from by rw [← hw1]; exact td_kept (td_kept (blk_new W _) (td_alloc _ _)) (td_alloc _ _))
  have HA := Aside0.mk (show w1.heap[W.heap.size + 1]? = some (.cells #[.int .i64 a.1, .int .i64 a.2] 31 (0, 0)) from by
    have q := td_kept (blk_new (W.alloc (.cells #[.string s.f0, .string s.f1] 24)) (.cells #[.int .i64 a.1, .int .i64 a.2] 31)) (td_alloc _ (.cells #[.int .i64 o] 3))
    rw [e1_, hw1] at q
    exact q)
  have HO := Aside0.mk (show w1.heap[W.heap.size + 2]? = some (.cells #[.int .i64 o] 3 (0, 0)) from by
    have q := blk_new ((W.alloc (.cells #[.string s.f0, .string s.f1] 24)).alloc (.cells #[.int .i64 a.1, .int .i64 a.2] 31)) (.cells #[.int .i64 o] 3)
    rw [e2_, hw1] at q
    exact q)
  have HNG := Aside0.mk (And.intro (Nat.ne_of_gt HT0.out.lt) (And.intro (show W.heap.size + 1 ≠ g from by have := HT0.out.lt; omega) (show W.heap.size + 2 ≠ g from by have := HT0.out.lt; omega)))
  have HT := Aside0.mk (HT0.out.step hb)
  have HN := Aside0.mk (Tn.of_below (B := W0.heap.size) (g := some g) (ty := 63) hb)
  clear hw1 hb e1_ e2_
  generalize W.heap.size = n at HX HA HO HNG ⊢
  go_wp2_with fail
  refine (td_none W0 w1 g t HT.out.at_).mono ?_
  rintro e w2 ⟨rfl, hb⟩
  have HX_ := Aside0.mk (td_kept HX.out hb)
  clear HX
  have HX := Aside0.mk HX_.out
  clear HX_
  have HA_ := Aside0.mk (td_kept HA.out hb)
  clear HA
  have HA := Aside0.mk HA_.out
  clear HA_
  have HO_ := Aside0.mk (td_kept HO.out hb)
  clear HO
  have HO := Aside0.mk HO_.out
  clear HO_
  have HT_ := Aside0.mk (HT.out.step hb)
  clear HT
  have HT := Aside0.mk HT_.out
  clear HT_
  have HN_ := Aside0.mk (HN.out.trans (Tn.of_below hb))
  clear HN
  have HN := Aside0.mk HN_.out
  clear HN_
  clear hb
  have x0 : w2.cell? ⟨n, 0, none⟩ = some (.string s.f0) := (blk_cell HX.out 0).trans rfl
  have x1 : w2.cell? ⟨n, 1, none⟩ = some (.string s.f1) := (blk_cell HX.out 1).trans rfl
  go_wp2_with fail
  refine (td_sp s _).mono ?_
  rintro e w3 ⟨rfl, hb⟩
  clear x0 x1
  have HX_ := Aside0.mk (td_kept HX.out hb)
  clear HX
  have HX := Aside0.mk HX_.out
  clear HX_
  have HA_ := Aside0.mk (td_kept HA.out hb)
  clear HA
  have HA := Aside0.mk HA_.out
  clear HA_
  have HO_ := Aside0.mk (td_kept HO.out hb)
  clear HO
  have HO := Aside0.mk HO_.out
  clear HO_
  have HT_ := Aside0.mk (HT.out.step hb)
  clear HT
  have HT := Aside0.mk HT_.out
  clear HT_
  have HN_ := Aside0.mk (HN.out.trans (Tn.of_below hb))
  clear HN
  have HN := Aside0.mk HN_.out
  clear HN_
  clear hb
  rw [HS.out]
  have a0 : w3.cell? ⟨n + 1, 0, none⟩ = some (.int .i64 a.1) := (blk_cell HA.out 0).trans rfl
  have a1 : w3.cell? ⟨n + 1, 1, none⟩ = some (.int .i64 a.2) := (blk_cell HA.out 1).trans rfl
  go_wp2_with fail
  refine (td_chk a _).mono ?_
  rintro e w4 ⟨rfl, hb⟩
  clear a0 a1
  have HX_ := Aside0.mk (td_kept HX.out hb)
  clear HX
  have HX := Aside0.mk HX_.out
  clear HX_
  have HA_ := Aside0.mk (td_kept HA.out hb)
  clear HA
  have HA := Aside0.mk HA_.out
  clear HA_
  have HO_ := Aside0.mk (td_kept HO.out hb)
  clear HO
  have HO := Aside0.mk HO_.out
  clear HO_
  have HT_ := Aside0.mk (HT.out.step hb)
  clear HT
  have HT := Aside0.mk HT_.out
  clear HT_
  have HN_ := Aside0.mk (HN.out.trans (Tn.of_below hb))
  clear HN
  have HN := Aside0.mk HN_.out
  clear HN_
  clear hb
  rw [HK.out]
  have o0 : w4.cell? ⟨n + 2, 0, none⟩ = some (.int .i64 o) := (blk_cell HO.out 0).trans rfl
  go_wp2_with fail
  refine (td_own o _).mono ?_
  rintro e w5 ⟨rfl, hb⟩
  clear o0
  have HX_ := Aside0.mk (td_kept HX.out hb)
  clear HX
  have HX := Aside0.mk HX_.out
  clear HX_
  have HA_ := Aside0.mk (td_kept HA.out hb)
  clear HA
  have HA := Aside0.mk HA_.out
  clear HA_
  have HO_ := Aside0.mk (td_kept HO.out hb)
  clear HO
  have HO := Aside0.mk HO_.out
  clear HO_
  have HT_ := Aside0.mk (HT.out.step hb)
  clear HT
  have HT := Aside0.mk HT_.out
  clear HT_
  have HN_ := Aside0.mk (HN.out.trans (Tn.of_below hb))
  clear HN
  have HN := Aside0.mk HN_.out
  clear HN_
  clear hb
  rw [HW.out]
  go_upto_region 8 with fail
  refine wp_region_noPanic ?_
  refine wp_region_held_drew (S := (fun V => V.cell? ⟨n + 1, 0, none⟩ = some (.int .i64 a.1) ∧ V.cell? ⟨n + 1, 1, none⟩ = some (.int .i64 a.2) ∧ V.cell? ⟨g, 1, none⟩ = some (.int .i64 t.low.1) ∧ V.cell? ⟨g, 2, none⟩ = some (.int .i64 t.low.2))) (by kernel_rfl) ⟨(blk_cell (td_kept HA.out (below_drew1 (Below.refl _ _))) 0).trans rfl, (blk_cell (td_kept HA.out (below_drew1 (Below.refl _ _))) 1).trans rfl, (blk_cell (td_kept HT.out.box (below_drew1 (Below.refl _ _))) 1).trans rfl, (blk_cell (td_kept HT.out.box (below_drew1 (Below.refl _ _))) 2).trans rfl⟩ (fun hHeld => ?_)
  generalize hwd : World.drew _ = wd at hHeld ⊢
  have hb : Below w5.heap.size w5 wd := by rw [← hwd]; exact below_drew1 (Below.refl _ _)
  clear hwd
  have HX_ := Aside0.mk (td_kept HX.out hb)
  clear HX
  have HX := Aside0.mk HX_.out
  clear HX_
  have HA_ := Aside0.mk (td_kept HA.out hb)
  clear HA
  have HA := Aside0.mk HA_.out
  clear HA_
  have HO_ := Aside0.mk (td_kept HO.out hb)
  clear HO
  have HO := Aside0.mk HO_.out
  clear HO_
  have HT_ := Aside0.mk (HT.out.step hb)
  clear HT
  have HT := Aside0.mk HT_.out
  clear HT_
  have HN_ := Aside0.mk (HN.out.trans (Tn.of_below hb))
  clear HN
  have HN := Aside0.mk HN_.out
  clear HN_
  clear hb
  refine wpAnyH_take (i := 0) (oi := ⟨some 28, _, _, _, _, none⟩) (v := ?v0_22) rfl (by kernel_rfl) (by kernel_rfl) (by kernel_rfl) (fun _ _ _ h => h) (Or.inl ⟨by rfl, ?hy0_22⟩) (by with_reducible assumption) ?rest0_22
  case hy0_22 => (intro V_ hSw; (try dsimp only at hSw); go_simp; (try with_reducible rfl))
  case' rest0_22 => skip
  try simp only [Act.put, List.setIfInBounds_toArray, List.set_cons_zero, List.set_cons_succ]
  refine wpAnyH_take (i := 1) (oi := ⟨some 29, _, _, _, _, none⟩) (v := ?v1_23) rfl (by kernel_rfl) (by kernel_rfl) (by kernel_rfl) (fun _ _ _ h => h) (Or.inl ⟨by rfl, ?hy1_23⟩) (by with_reducible assumption) ?rest1_23
  case hy1_23 => (intro V_ hSw; (try dsimp only at hSw); go_simp; (try with_reducible rfl))
  case' rest1_23 => skip
  try simp only [Act.put, List.setIfInBounds_toArray, List.set_cons_zero, List.set_cons_succ]
  refine wpAnyH_take (i := 2) (oi := ⟨some 30, _, _, _, _, none⟩) (v := ?v2_24) rfl (by kernel_rfl) (by kernel_rfl) (by kernel_rfl) (fun _ _ _ h => h) (Or.inl ⟨by rfl, ?hy2_24⟩) (by with_reducible assumption) ?rest2_24
  case hy2_24 => (intro V_ hSw; (try dsimp only at hSw); go_simp; (try with_reducible rfl))
  case' rest2_24 => skip
  try simp only [Act.put, List.setIfInBounds_toArray, List.set_cons_zero, List.set_cons_succ]
  refine wpAnyH_take (i := 3) (oi := ⟨some 31, _, _, _, _, none⟩) (v := ?v3_25) rfl (by kernel_rfl) (by kernel_rfl) (by kernel_rfl) (fun _ _ _ h => h) (Or.inl ⟨by rfl, ?hy3_25⟩) (by with_reducible assumption) ?rest3_25
  case hy3_25 => (intro V_ hSw; (try dsimp only at hSw); go_simp; (try with_reducible rfl))
  case' rest3_25 => skip
  try simp only [Act.put, List.setIfInBounds_toArray, List.set_cons_zero, List.set_cons_succ]
  refine wpAnyH_take (i := 4) (oi := ⟨some 32, _, _, _, _, none⟩) (v := ?v4_26) rfl (by kernel_rfl) (by kernel_rfl) (by kernel_rfl) (fun _ _ _ h => h) (Or.inl ⟨by rfl, ?hy4_26⟩) (by with_reducible assumption) ?rest4_26
  case hy4_26 => (intro V_ hSw; (try dsimp only at hSw); go_simp; (try with_reducible rfl))
  case' rest4_26 => skip
  try simp only [Act.put, List.setIfInBounds_toArray, List.set_cons_zero, List.set_cons_succ]
  refine wpAnyH_ready (rs := [5]) (by kernel_rfl) (by simp) ?_
  refine AllReadyH.cons (o := ⟨some 33, _, _, _, _, none⟩) rfl (fun K hK => ?_) ?_
  · go_simp
    refine (td_less t.low a _).mono ?_
    rintro e w6 ⟨rfl, hb⟩
    have HX_ := Aside0.mk (td_kept HX.out hb)
    clear HX
    have HX := Aside0.mk HX_.out
    clear HX_
    have HA_ := Aside0.mk (td_kept HA.out hb)
    clear HA
    have HA := Aside0.mk HA_.out
    clear HA_
    have HO_ := Aside0.mk (td_kept HO.out hb)
    clear HO
    have HO := Aside0.mk HO_.out
    clear HO_
    have HT_ := Aside0.mk (HT.out.step hb)
    clear HT
    have HT := Aside0.mk HT_.out
    clear HT_
    have HN_ := Aside0.mk (HN.out.trans (Tn.of_below hb))
    clear HN
    have HN := Aside0.mk HN_.out
    clear HN_
    clear hb
    rw [HLW.out]
    refine hK.out _ _ ⟨(blk_cell (td_kept HA.out (Below.refl _ _)) 0).trans rfl, (blk_cell (td_kept HA.out (Below.refl _ _)) 1).trans rfl, (blk_cell (td_kept HT.out.box (Below.refl _ _)) 1).trans rfl, (blk_cell (td_kept HT.out.box (Below.refl _ _)) 2).trans rfl⟩ (fun hHeld => ?_)
    clear hK K
    try simp only [Act.put, List.setIfInBounds_toArray, List.set_cons_zero, List.set_cons_succ]
    refine wpAnyH_take (i := 6) (oi := ⟨some 34, _, _, _, _, none⟩) (v := ?v6_27) rfl (by kernel_rfl) (by kernel_rfl) (by kernel_rfl) (fun _ _ _ h => h) (Or.inl ⟨by rfl, ?hy6_27⟩) (by with_reducible assumption) ?rest6_27
    case hy6_27 => (intro V_ hSw; (try dsimp only at hSw); go_simp; (try with_reducible rfl))
    case' rest6_27 => skip
    try simp only [Act.put, List.setIfInBounds_toArray, List.set_cons_zero, List.set_cons_succ]
    refine wpAnyH_done (by kernel_rfl) ?_ _
    refine NoPanic.normal ?_
    clear hHeld
    have g3 : w6.cell? ⟨g, 3, none⟩ = some (.slice (some ⟨r, 0, none⟩) t.l.length c) := (blk_cell HT.out.box 3).trans rfl
    go_wp2_with fail
    refine (td_index35 (same s o) n (n + 2) (some ⟨r, 0, none⟩) c t.l (k : Int) HIX.out w6 (Kd.R_reads' HT.out.row).2.2 (fun V x hV => td_same s o x n (n + 2) V (td_kept HX.out hV) (td_kept HO.out hV))).mono ?_
    rintro e w7 ⟨rfl, hb⟩
    clear g3
    have HX_ := Aside0.mk (td_kept HX.out hb)
    clear HX
    have HX := Aside0.mk HX_.out
    clear HX_
    have HA_ := Aside0.mk (td_kept HA.out hb)
    clear HA
    have HA := Aside0.mk HA_.out
    clear HA_
    have HO_ := Aside0.mk (td_kept HO.out hb)
    clear HO
    have HO := Aside0.mk HO_.out
    clear HO_
    have HT_ := Aside0.mk (HT.out.step hb)
    clear HT
    have HT := Aside0.mk HT_.out
    clear HT_
    have HN_ := Aside0.mk (HN.out.trans (Tn.of_below hb))
    clear HN
    have HN := Aside0.mk HN_.out
    clear HN_
    clear hb
    have e9 : decide ((0 : Int) ≤ (k : Int)) = true := decide_eq_true (by omega)
    have p0 := eq_true (show (0 : Int) ≤ (k : Int) by omega)
    have q0 := eq_true (show (k : Int) < (t.l.length : Int) by have := HKL.out; omega)
    go_upto_region 12 with fail
    refine wp_region_noPanic ?_
    refine wp_region_held_drew (S := (fun V => V.cell? ⟨n + 1, 0, none⟩ = some (.int .i64 a.1) ∧ V.cell? ⟨n + 1, 1, none⟩ = some (.int .i64 a.2) ∧ V.cell? ⟨g, 3, none⟩ = some (.slice (some ⟨r, 0, none⟩) t.l.length c))) (by kernel_rfl) ⟨(blk_cell (td_kept HA.out (below_drew1 (Below.refl _ _))) 0).trans rfl, (blk_cell (td_kept HA.out (below_drew1 (Below.refl _ _))) 1).trans rfl, (blk_cell (td_kept HT.out.box (below_drew1 (Below.refl _ _))) 3).trans rfl⟩ (fun hHeld => ?_)
    generalize hwd : World.drew _ = wd at hHeld ⊢
    have hb : Below w7.heap.size w7 wd := by rw [← hwd]; exact below_drew1 (Below.refl _ _)
    clear hwd
    have HX_ := Aside0.mk (td_kept HX.out hb)
    clear HX
    have HX := Aside0.mk HX_.out
    clear HX_
    have HA_ := Aside0.mk (td_kept HA.out hb)
    clear HA
    have HA := Aside0.mk HA_.out
    clear HA_
    have HO_ := Aside0.mk (td_kept HO.out hb)
    clear HO
    have HO := Aside0.mk HO_.out
    clear HO_
    have HT_ := Aside0.mk (HT.out.step hb)
    clear HT
    have HT := Aside0.mk HT_.out
    clear HT_
    have HN_ := Aside0.mk (HN.out.trans (Tn.of_below hb))
    clear HN
    have HN := Aside0.mk HN_.out
    clear HN_
    clear hb
    refine wpAnyH_take (i := 0) (oi := ⟨some 43, _, _, _, _, none⟩) (v := ?v0_7) rfl (by kernel_rfl) (by kernel_rfl) (by kernel_rfl) (fun _ _ _ h => h) (Or.inl ⟨by rfl, ?hy0_7⟩) (by with_reducible assumption) ?rest0_7
    case hy0_7 => (intro V_ hSw; (try dsimp only at hSw); go_simp; (try with_reducible rfl))
    case' rest0_7 => skip
    try simp only [Act.put, List.setIfInBounds_toArray, List.set_cons_zero, List.set_cons_succ]
    refine wpAnyH_take (i := 1) (oi := ⟨some 44, _, _, _, _, none⟩) (v := ?v1_8) rfl (by kernel_rfl) (by kernel_rfl) (by kernel_rfl) (fun _ _ _ h => h) (Or.inl ⟨by rfl, ?hy1_8⟩) (by with_reducible assumption) ?rest1_8
    case hy1_8 => (intro V_ hSw; (try dsimp only at hSw); go_simp; (try with_reducible rfl))
    case' rest1_8 => skip
    try simp only [Act.put, List.setIfInBounds_toArray, List.set_cons_zero, List.set_cons_succ]
    refine wpAnyH_take (i := 2) (oi := ⟨some 45, _, _, _, _, none⟩) (v := ?v2_9) rfl (by kernel_rfl) (by kernel_rfl) (by kernel_rfl) (fun _ _ _ h => h) (Or.inl ⟨by rfl, ?hy2_9⟩) (by with_reducible assumption) ?rest2_9
    case hy2_9 => (intro V_ hSw; (try dsimp only at hSw); go_simp; (try with_reducible rfl))
    case' rest2_9 => skip
    try simp only [Act.put, List.setIfInBounds_toArray, List.set_cons_zero, List.set_cons_succ]
    refine wpAnyH_take (i := 3) (oi := ⟨some 46, _, _, _, _, none⟩) (v := ?v3_10) rfl (by kernel_rfl) (by kernel_rfl) (by kernel_rfl) (fun _ _ _ h => h) (Or.inl ⟨by rfl, ?hy3_10⟩) (by with_reducible assumption) ?rest3_10
    case hy3_10 => (intro V_ hSw; (try dsimp only at hSw); go_simp; (try with_reducible rfl))
    case' rest3_10 => skip
    try simp only [Act.put, List.setIfInBounds_toArray, List.set_cons_zero, List.set_cons_succ]
    refine wpAnyH_take (i := 4) (oi := ⟨some 47, _, _, _, _, none⟩) (v := ?v4_11) rfl (by kernel_rfl) (by kernel_rfl) (by kernel_rfl) (fun _ _ _ h => h) (Or.inl ⟨by rfl, ?hy4_11⟩) (by with_reducible assumption) ?rest4_11
    case hy4_11 => (intro V_ hSw; (try dsimp only at hSw); go_simp; (try with_reducible rfl))
    case' rest4_11 => skip
    try simp only [Act.put, List.setIfInBounds_toArray, List.set_cons_zero, List.set_cons_succ]
    refine wpAnyH_take (i := 5) (oi := ⟨some 48, _, _, _, _, none⟩) (v := ?v5_12) rfl (by kernel_rfl) (by kernel_rfl) (by kernel_rfl) (fun _ _ _ h => h) (Or.inl ⟨by rfl, ?hy5_12⟩) (by with_reducible assumption) ?rest5_12
    case hy5_12 => (intro V_ hSw; (try dsimp only at hSw); go_simp; (try with_reducible rfl))
    case' rest5_12 => skip
    try simp only [Act.put, List.setIfInBounds_toArray, List.set_cons_zero, List.set_cons_succ]
    refine wpAnyH_take (i := 6) (oi := ⟨some 49, _, _, _, _, none⟩) (v := ?v6_13) rfl (by kernel_rfl) (by kernel_rfl) (by kernel_rfl) (fun _ _ _ h => h) (Or.inl ⟨by rfl, ?hy6_13⟩) (by with_reducible assumption) ?rest6_13
    case hy6_13 => (intro V_ hSw; (try dsimp only at hSw); go_simp; (try with_reducible rfl))
    case' rest6_13 => skip
    try simp only [Act.put, List.setIfInBounds_toArray, List.set_cons_zero, List.set_cons_succ]
    refine wpAnyH_take (i := 7) (oi := ⟨some 50, _, _, _, _, none⟩) (v := ?v7_14) rfl (by kernel_rfl) (by kernel_rfl) (by kernel_rfl) (fun _ _ _ h => h) (Or.inl ⟨by rfl, ?hy7_14⟩) (by with_reducible assumption) ?rest7_14
    case hy7_14 => (intro V_ hSw; (try dsimp only at hSw); go_simp; (try with_reducible rfl))
    case' rest7_14 => skip
    try simp only [Act.put, List.setIfInBounds_toArray, List.set_cons_zero, List.set_cons_succ]
    refine wpAnyH_take (i := 8) (oi := ⟨some 51, _, _, _, _, none⟩) (v := ?v8_15) rfl (by kernel_rfl) (by kernel_rfl) (by kernel_rfl) (fun _ _ _ h => h) (Or.inl ⟨by rfl, ?hy8_15⟩) (by with_reducible assumption) ?rest8_15
    case hy8_15 => (intro V_ hSw; (try dsimp only at hSw); go_simp; (try with_reducible rfl))
    case' rest8_15 => skip
    try simp only [Act.put, List.setIfInBounds_toArray, List.set_cons_zero, List.set_cons_succ]
    refine wpAnyH_take (i := 9) (oi := ⟨some 52, _, _, _, _, none⟩) (v := ?v9_16) rfl (by kernel_rfl) (by kernel_rfl) (by kernel_rfl) (fun _ _ _ h => h) (Or.inl ⟨by rfl, ?hy9_16⟩) (by with_reducible assumption) ?rest9_16
    case hy9_16 => (intro V_ hSw; (try dsimp only at hSw); go_simp; (try with_reducible rfl))
    case' rest9_16 => skip
    try simp only [Act.put, List.setIfInBounds_toArray, List.set_cons_zero, List.set_cons_succ]
    refine wpAnyH_take (i := 10) (oi := ⟨some 53, _, _, _, _, none⟩) (v := ?v10_17) rfl (by kernel_rfl) (by kernel_rfl) (by kernel_rfl) (fun _ _ _ h => h) (Or.inl ⟨by rfl, ?hy10_17⟩) (by with_reducible assumption) ?rest10_17
    case hy10_17 => (intro V_ hSw; (try dsimp only at hSw); go_simp; (try with_reducible rfl))
    case' rest10_17 => skip
    try simp only [Act.put, List.setIfInBounds_toArray, List.set_cons_zero, List.set_cons_succ]
    refine wpAnyH_take (i := 11) (oi := ⟨some 54, _, _, _, _, none⟩) (v := ?v11_18) rfl (by kernel_rfl) (by kernel_rfl) (by kernel_rfl) (fun _ _ _ h => h) (Or.inl ⟨by rfl, ?hy11_18⟩) (by with_reducible assumption) ?rest11_18
    case hy11_18 => (intro V_ hSw; (try dsimp only at hSw); go_simp; (try with_reducible rfl))
    case' rest11_18 => skip
    try simp only [Act.put, List.setIfInBounds_toArray, List.set_cons_zero, List.set_cons_succ]
    refine wpAnyH_take (i := 13) (oi := ⟨some 56, _, _, _, _, none⟩) (v := ?v13_19) rfl (by kernel_rfl) (by kernel_rfl) (by kernel_rfl) (fun _ _ _ h => h) (Or.inl ⟨by rfl, ?hy13_19⟩) (by with_reducible assumption) ?rest13_19
    case hy13_19 => (intro V_ hSw; (try dsimp only at hSw); go_simp; (try with_reducible rfl))
    case' rest13_19 => skip
    try simp only [Act.put, List.setIfInBounds_toArray, List.set_cons_zero, List.set_cons_succ]
    refine wpAnyH_ready (rs := [12]) (by kernel_rfl) (by simp) ?_
    refine AllReadyH.cons (o := ⟨some 55, _, _, _, _, none⟩) rfl (fun K hK => ?_) ?_
    · obtain ⟨ad, ea, y_, hy_, hld⟩ := ld_T63 (Kd.R_reads' HT.out.row).2.2 k HKL.out
      cases ea
      rw [add_plain] at hld
      rw [HY.out] at hy_
      subst hy_
      have l2 : wd.cell? ⟨r, k * 5 + 2, none⟩ = some (.int .i64 y.at_.1) := by have := hld 2 _ rfl; rw [add_field _ _ 2 (by omega)] at this; exact this
      have l3 : wd.cell? ⟨r, k * 5 + 3, none⟩ = some (.int .i64 y.at_.2) := by have := hld 3 _ rfl; rw [add_field _ _ 3 (by omega)] at this; exact this
      clear hld
      go_simp
      clear l2 l3
      refine hK.out _ _ hHeld (fun hHeld => ?_)
      clear hK K
      try simp only [Act.put, List.setIfInBounds_toArray, List.set_cons_zero, List.set_cons_succ]
      refine wpAnyH_ready (rs := [14]) (by kernel_rfl) (by simp) ?_
      refine AllReadyH.cons (o := ⟨some 57, _, _, _, _, none⟩) rfl (fun K hK => ?_) ?_
      · refine Kd.R_lit_step k31 (w0 := wd) wd.heap.size 31 ?hg (N := 57) ?hd (xs := ([⟨(y.at_).1, (y.at_).2⟩, ⟨(a).1, (a).2⟩] : List S31)) (inner := [.int .i64 (y.at_).1, .int .i64 (y.at_).2, .int .i64 (a).1, .int .i64 (a).2]) (ok := fun _ => True) (okp := fun _ => True) ?hr ?hp (fun _ hk => hk) trivial (Below.refl _ _) (Nat.le_refl _) (by simp) ?_
        case hg => rfl
        case hd => rfl
        case hr => first | (go_simp; done) | (go_simp; rfl)
        case hp => exact two_rep _ _ _ _ _
        intro vy wl hoy hb hgy hny
        obtain ⟨Ay, cy, ey⟩ := Kd.R_slice hoy
        subst ey
        have HCY := Aside0.mk (Kd.R_reads' hoy).2.2
        have HCL := Aside0.mk (Kd.R_reads' hoy).2.1
        clear hoy hgy hny
        have HX_ := Aside0.mk (td_kept HX.out hb)
        clear HX
        have HX := Aside0.mk HX_.out
        clear HX_
        have HA_ := Aside0.mk (td_kept HA.out hb)
        clear HA
        have HA := Aside0.mk HA_.out
        clear HA_
        have HO_ := Aside0.mk (td_kept HO.out hb)
        clear HO
        have HO := Aside0.mk HO_.out
        clear HO_
        have HT_ := Aside0.mk (HT.out.step hb)
        clear HT
        have HT := Aside0.mk HT_.out
        clear HT_
        have HN_ := Aside0.mk (HN.out.trans (Tn.of_below hb))
        clear HN
        have HN := Aside0.mk HN_.out
        clear HN_
        clear hb
        refine hK.out _ _ ⟨(blk_cell (td_kept HA.out (Below.refl _ _)) 0).trans rfl, (blk_cell (td_kept HA.out (Below.refl _ _)) 1).trans rfl, (blk_cell (td_kept HT.out.box (Below.refl _ _)) 3).trans rfl⟩ (fun hHeld => ?_)
        clear hK K
        try simp only [Act.put, List.setIfInBounds_toArray, List.set_cons_zero, List.set_cons_succ]
        refine wpAnyH_ready (rs := [15]) (by kernel_rfl) (by simp) ?_
        refine AllReadyH.cons (o := ⟨some 58, _, _, _, _, none⟩) rfl (fun K hK => ?_) ?_
        · go_simp
          refine (td_max2 y.at_ a _ _ _ HCY.out HCL.out).mono ?_
          rintro e w8 ⟨rfl, hb⟩
          clear HCY HCL
          have HX_ := Aside0.mk (td_kept HX.out hb)
          clear HX
          have HX := Aside0.mk HX_.out
          clear HX_
          have HA_ := Aside0.mk (td_kept HA.out hb)
          clear HA
          have HA := Aside0.mk HA_.out
          clear HA_
          have HO_ := Aside0.mk (td_kept HO.out hb)
          clear HO
          have HO := Aside0.mk HO_.out
          clear HO_
          have HT_ := Aside0.mk (HT.out.step hb)
          clear HT
          have HT := Aside0.mk HT_.out
          clear HT_
          have HN_ := Aside0.mk (HN.out.trans (Tn.of_below hb))
          clear HN
          have HN := Aside0.mk HN_.out
          clear HN_
          clear hb
          refine hK.out _ _ ⟨(blk_cell (td_kept HA.out (Below.refl _ _)) 0).trans rfl, (blk_cell (td_kept HA.out (Below.refl _ _)) 1).trans rfl, (blk_cell (td_kept HT.out.box (Below.refl _ _)) 3).trans rfl⟩ (fun hHeld => ?_)
          clear hK K
          try simp only [Act.put, List.setIfInBounds_toArray, List.set_cons_zero, List.set_cons_succ]
          refine wpAnyH_take (i := 16) (oi := ⟨some 59, _, _, _, _, none⟩) (v := ?v16_20) rfl (by kernel_rfl) (by kernel_rfl) (by kernel_rfl) (fun _ _ _ h => h) (Or.inl ⟨by rfl, ?hy16_20⟩) (by with_reducible assumption) ?rest16_20
          case hy16_20 => (intro V_ hSw; (try dsimp only at hSw); go_simp; (try with_reducible rfl))
          case' rest16_20 => skip
          try simp only [Act.put, List.setIfInBounds_toArray, List.set_cons_zero, List.set_cons_succ]
          refine wpAnyH_take (i := 17) (oi := ⟨some 60, _, _, _, _, none⟩) (v := ?v17_21) rfl (by kernel_rfl) (by kernel_rfl) (by kernel_rfl) (fun _ _ _ h => h) (Or.inl ⟨by rfl, ?hy17_21⟩) (by with_reducible assumption) ?rest17_21
          case hy17_21 => (intro V_ hSw; (try dsimp only at hSw); go_simp; (try with_reducible rfl))
          case' rest17_21 => skip
          try simp only [Act.put, List.setIfInBounds_toArray, List.set_cons_zero, List.set_cons_succ]
          refine wpAnyH_ready (rs := [18]) (by kernel_rfl) (by simp) ?_
          refine AllReadyH.cons (o := ⟨none, _, _, _, _, none⟩) rfl (fun K hK => ?_) ?_
          · obtain ⟨ad, ea, y_, hy_, hld⟩ := ld_T63 (Kd.R_reads' HT.out.row).2.2 k HKL.out
            cases ea
            rw [add_plain] at hld
            rw [HY.out] at hy_
            subst hy_
            have l2 : w8.cell? ⟨r, k * 5 + 2, none⟩ = some (.int .i64 y.at_.1) := by have := hld 2 _ rfl; rw [add_field _ _ 2 (by omega)] at this; exact this
            have l3 : w8.cell? ⟨r, k * 5 + 3, none⟩ = some (.int .i64 y.at_.2) := by have := hld 3 _ rfl; rw [add_field _ _ 3 (by omega)] at this; exact this
            clear hld
            obtain ⟨cur, hcur, hcs, hcn⟩ := td_block HT.out.row
            have f2 := blk_frozen hcur (k * 5 + 2)
            have f3 := blk_frozen hcur (k * 5 + 3)
            obtain ⟨cc, hcl, hcM, hcc, hcf⟩ := Kd.R_elem HT.out.row z63 (k : Int) (by omega) (by have := HKL.out; omega)
            have ecc := k63_openM hcM
            rw [Int.toNat_natCast, HY.out] at ecc
            have hseg := Kd.R_seg (seg := [.int .i64 (tmx y.at_ a).1, .int .i64 (tmx y.at_ a).2]) (j := 2) (x' := ({ y with at_ := tmx y.at_ a } : Rd S24)) (okp := fun k_ => k_ ≠ r) HT.out.row (k : Int) (by omega) (by have := HKL.out; omega) hcl hcc (show 2 + 2 ≤ 5 by omega) (by rw [ecc]; exact k63_mkM _ _ _ _) (fun k_ h => ⟨trivial, h⟩)
            rw [Int.toNat_natCast] at hseg
            change Kd.R k63 63 (w8.setCells r (k * 5 + 2) _) _ _ _ _ ∧ w8.grownBy (w8.setCells r (k * 5 + 2) _) _ at hseg
            have HSG := Aside0.mk hseg
            have hng : g ≠ r := by
              rintro rfl
              rw [HT.out.box] at hcur
              injection hcur with hcur
              injection hcur with _ hcur
              cases hcur
            have hfar : ∀ {b : Nat} {cs : Array Value} {q : TypeId}, w8.heap[b]? = some (.cells cs q (0, 0)) → q ≠ 63 → (w8.setCells r (k * 5 + 2) [.int .i64 (tmx y.at_ a).1, .int .i64 (tmx y.at_ a).2]).heap[b]? = some (.cells cs q (0, 0)) := fun {b cs q} hb hq => (setCells_far _ _ b (by
              rintro rfl
              rw [hb] at hcur
              injection hcur with hcur
              injection hcur with _ hcur
              exact hq hcur)).trans hb
            have hA' := hfar HA.out (by decide)
            have hG' := hfar HT.out.box (by decide)
            have HT' := Aside0.mk (show TdAt W0 (w8.setCells r (k * 5 + 2) [.int .i64 (tmx y.at_ a).1, .int .i64 (tmx y.at_ a).2]) g { t with l := t.l.set k { y with at_ := tmx y.at_ a } } from ⟨HT.out.below.grown HSG.out.2 HT.out.below.size (fun k_ e => by injection e with e; subst e; exact Kd.R_base HT.out.row r rfl), HT.out.own, some ⟨r, 0, none⟩, c, by rw [hG']; simp only [Td.cells, List.length_set], by have q := HSG.out.1; simp only [List.length_set]; exact q⟩)
            have HN' := Aside0.mk (HN.out.trans (Tn.of_grown (g := some g) HSG.out.2 (Kd.R_base HT.out.row r rfl) hcur))
            have HA' := Aside0.mk hA'
            have HG' := Aside0.mk hG'
            clear hcur hcs hcn hcl hcM hcc hcf ecc hseg HSG hng hfar hA' hG'
            go_simp
            clear l2 l3 f2 f3
            have ew : (w8.setCell ⟨r, k * 5 + 2, none⟩ (.int .i64 (tmx y.at_ a).1)).setCell ⟨r, k * 5 + 3, none⟩ (.int .i64 (tmx y.at_ a).2) = w8.setCells r (k * 5 + 2) [.int .i64 (tmx y.at_ a).1, .int .i64 (tmx y.at_ a).2] := rfl
            rw [ew]
            clear ew
            generalize w8.setCells r (k * 5 + 2) _ = w9 at *
            refine hK.out _ _ ⟨(blk_cell HA'.out 0).trans rfl, (blk_cell HA'.out 1).trans rfl, (blk_cell HG'.out 3).trans rfl⟩ (fun hHeld => ?_)
            clear hK K
            try simp only [Act.put, List.setIfInBounds_toArray, List.set_cons_zero, List.set_cons_succ]
            refine wpAnyH_done (by kernel_rfl) ?_ _
            refine NoPanic.normal ?_
            clear hHeld
            go_wp2_with fail
            go_ret
            exact ⟨rfl, HT'.out, HN'.out⟩
          exact AllReadyH.nil
        exact AllReadyH.nil
      exact AllReadyH.nil
    exact AllReadyH.nil
  exact AllReadyH.nil
end Go.Proofs.Ytaccfbpfennjkaa.PTideDoes

