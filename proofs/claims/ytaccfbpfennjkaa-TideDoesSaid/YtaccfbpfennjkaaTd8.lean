/- The tide (typed by hand): what the laws call. -/
import Derived.Test.YtaccfbpfennjkaaTd7
namespace Go.Proofs.Ytaccfbpfennjkaa.PTideDoes
open Go.RowKit Go.Proofs.YtaccfbpfennjkaaW.PrintWords Go.Proofs.YtaccfbpfennjkaaW.PrintLast Go.Proofs.YtaccfbpfennjkaaW.PrintMore
attribute [local go_sem] max2_int min2_int max_two min_two max_three min_three max_four min_four   -- for this text's walks alone
set_option linter.unusedVariables false
set_option linter.unusedSimpArgs false
/-! #### struct type 33 -/
structure S33 where
  f0 : Int
  f1 : S24
  f2 : S31
  f3 : Int
def z33 : S33 := ⟨(0 : Int), z24, z31, (0 : Int)⟩
def k33 : Kd S33 := Kd.iso (Kd.pair (Kd.int .i64) (Kd.pair k24 (Kd.pair k31 (Kd.int .i64)))) (fun x : S33 => (x.f0, x.f1, x.f2, x.f3))
theorem k33_open {w : World} {x : S33} {cs : List Value} (h : k33.K w x cs) : cs = [.int .i64 x.f0, .string x.f1.f0, .string x.f1.f1, .int .i64 x.f2.f0, .int .i64 x.f2.f1, .int .i64 x.f3] := by
  obtain ⟨_, _, rfl, rfl, ⟨_, _, rfl, s1, ⟨_, _, rfl, s3, rfl⟩⟩⟩ := h
  obtain rfl := k24_open s1
  obtain rfl := k31_open s3
  exact rfl
theorem k33_openM {w : World} {base : Nat} {ok : Nat → Prop} {x : S33} {cs : List Value} (h : k33.M w base ok x cs) : cs = [.int .i64 x.f0, .string x.f1.f0, .string x.f1.f1, .int .i64 x.f2.f0, .int .i64 x.f2.f1, .int .i64 x.f3] := by
  obtain ⟨_, _, rfl, rfl, ⟨_, _, rfl, s1, ⟨_, _, rfl, s3, rfl⟩⟩⟩ := h
  obtain rfl := k24_openM s1
  obtain rfl := k31_openM s3
  exact rfl
theorem k33_mk (w : World) (x : S33)  : k33.K w x [.int .i64 x.f0, .string x.f1.f0, .string x.f1.f1, .int .i64 x.f2.f0, .int .i64 x.f2.f1, .int .i64 x.f3] := ⟨[.int .i64 x.f0], [.string x.f1.f0, .string x.f1.f1, .int .i64 x.f2.f0, .int .i64 x.f2.f1, .int .i64 x.f3], rfl, rfl, ⟨[.string x.f1.f0, .string x.f1.f1], [.int .i64 x.f2.f0, .int .i64 x.f2.f1, .int .i64 x.f3], rfl, (k24_mk w x.f1 ), ⟨[.int .i64 x.f2.f0, .int .i64 x.f2.f1], [.int .i64 x.f3], rfl, (k31_mk w x.f2 ), rfl⟩⟩⟩
theorem k33_mkM (w : World) (base : Nat) (ok : Nat → Prop) (x : S33)  : k33.M w base ok x [.int .i64 x.f0, .string x.f1.f0, .string x.f1.f1, .int .i64 x.f2.f0, .int .i64 x.f2.f1, .int .i64 x.f3] := ⟨[.int .i64 x.f0], [.string x.f1.f0, .string x.f1.f1, .int .i64 x.f2.f0, .int .i64 x.f2.f1, .int .i64 x.f3], rfl, rfl, ⟨[.string x.f1.f0, .string x.f1.f1], [.int .i64 x.f2.f0, .int .i64 x.f2.f1, .int .i64 x.f3], rfl, (k24_mkM w base ok x.f1 ), ⟨[.int .i64 x.f2.f0, .int .i64 x.f2.f1], [.int .i64 x.f3], rfl, (k31_mkM w base ok x.f2 ), rfl⟩⟩⟩
def rd_T33 (xs : List S33) (i : Int) : S33 := xs.getD i.toNat z33
theorem at_T33 {w : World} {A : Option Addr} {n : Nat} {xs : List S33} (h : Kd.C k33 w A n xs) (i : Int) (h0 : 0 ≤ i) (h1 : i < n) : ∃ ad , A = some ad ∧ w.cell? (ad.add (i.toNat * 6)) = some (.int .i64 (rd_T33 xs i).f0) ∧ w.cell? ⟨(ad.add (i.toNat * 6)).block, (ad.add (i.toNat * 6)).off + 1, none⟩ = some (.string (rd_T33 xs i).f1.f0) ∧ w.cell? ⟨(ad.add (i.toNat * 6)).block, (ad.add (i.toNat * 6)).off + 2, none⟩ = some (.string (rd_T33 xs i).f1.f1) ∧ w.cell? ⟨(ad.add (i.toNat * 6)).block, (ad.add (i.toNat * 6)).off + 3, none⟩ = some (.int .i64 (rd_T33 xs i).f2.f0) ∧ w.cell? ⟨(ad.add (i.toNat * 6)).block, (ad.add (i.toNat * 6)).off + 4, none⟩ = some (.int .i64 (rd_T33 xs i).f2.f1) ∧ w.cell? ⟨(ad.add (i.toNat * 6)).block, (ad.add (i.toNat * 6)).off + 5, none⟩ = some (.int .i64 (rd_T33 xs i).f3) := by
  obtain ⟨ad, c, e, _, hK, hc0⟩ := Kd.C_get h z33 i h0 h1
  have hc : ∀ j u, c[j]? = some u → w.cell? (ad.add (i.toNat * 6 + j)) = some u := hc0
  obtain rfl := k33_open hK
  exact ⟨ad, e, hc 0 _ rfl, by rw [← add_field _ _ 1 (by omega)]; exact hc 1 _ rfl, by rw [← add_field _ _ 2 (by omega)]; exact hc 2 _ rfl, by rw [← add_field _ _ 3 (by omega)]; exact hc 3 _ rfl, by rw [← add_field _ _ 4 (by omega)]; exact hc 4 _ rfl, by rw [← add_field _ _ 5 (by omega)]; exact hc 5 _ rfl⟩

def rd_L6 (xs : List (List S33)) (i : Int) : (List S33) := xs.getD i.toNat ([] : List S33)
theorem at_L6 {w : World} {A : Option Addr} {n : Nat} {xs : List (List S33)} (h : Kd.C (Kd.slice 33 k33) w A n xs) (i : Int) (h0 : 0 ≤ i) (h1 : i < n) : ∃ ad A0 c0, A = some ad ∧ w.cell? (ad.add i.toNat) = some (.slice A0 (rd_L6 xs i).length c0) ∧ (rd_L6 xs i).length ≤ c0 ∧ k33.C w A0 (rd_L6 xs i).length (rd_L6 xs i) := by
  obtain ⟨ad, c, e, _, hK, hc0⟩ := Kd.C_get h ([] : List S33) i h0 h1
  have hc : ∀ j u, c[j]? = some u → w.cell? (ad.add (i.toNat * 1 + j)) = some u := hc0
  obtain ⟨A0, c0, rfl, l0, g0⟩ := hK
  exact ⟨ad, A0, c0, e, by have hq := hc 0 _ rfl; rwa [Nat.mul_one, Nat.add_zero] at hq, l0, g0⟩
theorem bring_some (a n : Int) (h : 0 < n) (hn : n ≤ 4611686018427387904) : ∃ r, scriptoriumref00_Bring.f a n = some r ∧ 0 ≤ r ∧ r < n := by
  unfold scriptoriumref00_Bring.f
  have h1 := Int.tmod_lt_of_pos a h
  have h2 : -n < Int.tmod a n := by
    have := Int.lt_tmod_of_pos a h
    omega
  rw [if_neg (by omega), if_neg (by omega)]
  by_cases h3 : Int.tmod a n < 0
  · rw [if_pos h3]
    refine ⟨_, rfl, ?_⟩
    have : RowKit.wrap64 (Int.tmod a n + n) = Int.tmod a n + n := by unfold RowKit.wrap64; omega
    rw [this]
    omega
  · rw [if_neg h3]
    exact ⟨_, rfl, by omega, by omega⟩
theorem ld_T33 {w : World} {A : Option Addr} {n : Nat} {xs : List S33} (h : Kd.C k33 w A n xs) (i : Nat) (h1 : i < n) : ∃ ad, A = some ad ∧ ∃ d, xs.getD i z33 = d ∧ ∀ V : World, Below w.heap.size w V → ∀ (j : Nat) (v : Value), ([.int .i64 d.f0, .string d.f1.f0, .string d.f1.f1, .int .i64 d.f2.f0, .int .i64 d.f2.f1, .int .i64 d.f3] : List Value)[j]? = some v → V.cell? ((ad.add (i * 6)).add j) = some v := by
  obtain ⟨ad, c, e, _, hK, hc0⟩ := Kd.C_get h z33 (i : Int) (by omega) (by omega)
  rw [Int.toNat_natCast] at hK hc0
  refine ⟨ad, e, _, rfl, fun V hb j v hj => ?_⟩
  rw [add_add, ← k33_open hK] at *
  exact (hb.cell (World.block_lt_of_cell? w _ (hc0 j v hj))).trans (hc0 j v hj)
theorem td_add_ok (W0 W : World) (g : Nat) (t : Td S24) (s : S24) (a : Int × Int) (o : Int) (h : TdAt W0 W g t) (hlen : t.l.length ≤ 64) (he : addErr s a o = 0) : Calls Try.prog 11 #[.pointer (some ⟨g, 0, none⟩), .agg #[.string s.f0, .string s.f1], .agg #[.int .i64 a.1, .int .i64 a.2], .int .i64 o] W (TdPost W0 W g (t.add s a o) (.returned (.int .i64 0))) := by
  have q := td_add W0 W g t s a o h hlen
  rw [he, if_pos rfl] at q
  exact q
def tellsF (t : Td S24) (s : S24) (o : Int) (x : Int × Int) : Bool := ((t.maxF s o).2 == 0) && (((t.maxF s o).1.1 == x.1) && ((t.maxF s o).1.2 == x.2))
set_option maxHeartbeats 16000000 in
set_option maxRecDepth 100000 in
theorem td_tells (W0 W : World) (g : Nat) (t : Td S24) (s : S24) (o : Int) (x : Int × Int) (h : TdAt W0 W g t) : Calls Try.prog 29 #[.pointer (some ⟨g, 0, none⟩), .agg #[.string s.f0, .string s.f1], .int .i64 o, .agg #[.int .i64 x.1, .int .i64 x.2]] W fun e w' => e = .returned (.bool (tellsF t s o x)) ∧ Below W.heap.size W w' := by
  have HT0 := Aside0.mk h
  clear h
  unfold tellsF
  obtain ⟨r, hr⟩ : ∃ r, t.maxF s o = r := ⟨_, rfl⟩
  have HMR := Aside0.mk hr
  rw [hr]
  clear hr
  go_enter Try.func29, Try.ntmps29
  go_upto_region 1 with fail
  generalize hw1 : World.alloc (World.alloc W _) _ = w1
  have hb : Below W.heap.size W w1 := by rw [← hw1]; exact below_alloc (td_alloc W _) _
  have e1_ : (W.alloc (.cells #[.string s.f0, .string s.f1] 24)).heap.size = W.heap.size + 1 := Array.size_push _
  have HX := Aside0.mk (show w1.heap[W.heap.size]? = some (.cells #[.string s.f0, .string s.f1] 24 (0, 0)) from by rw [← hw1]; exact td_kept (blk_new W _) (td_alloc _ _))
  have HA := Aside0.mk (show w1.heap[W.heap.size + 1]? = some (.cells #[.int .i64 x.1, .int .i64 x.2] 31 (0, 0)) from by
    have q := blk_new (W.alloc (.cells #[.string s.f0, .string s.f1] 24)) (.cells #[.int .i64 x.1, .int .i64 x.2] 31)
    rw [e1_, hw1] at q
    exact q)
  have HB := Aside0.mk hb
  have HT := Aside0.mk (HT0.out.step hb)
  clear hw1 hb e1_
  obtain ⟨n, hn⟩ : ∃ n, W.heap.size = n := ⟨_, rfl⟩
  rw [hn] at HX HA ⊢
  have x0 : w1.cell? ⟨n, 0, none⟩ = some (.string s.f0) := (blk_cell HX.out 0).trans rfl
  have x1 : w1.cell? ⟨n, 1, none⟩ = some (.string s.f1) := (blk_cell HX.out 1).trans rfl
  have HN := Aside0.mk hn
  clear hn
  go_wp2_with fail
  refine (td_max W0 w1 g t s o HT.out).mono ?_
  rintro e w2 ⟨rfl, hb⟩
  have HA2 := Aside0.mk (td_kept HA.out hb)
  have HB2 := Aside0.mk (below_step HB.out hb)
  clear x0 x1 HX HA hb HT HB
  rw [HMR.out]
  go_upto_region 2 with fail
  generalize hw3 : World.alloc w2 _ = w3
  have HA3 := Aside0.mk (show w3.heap[n + 1]? = some (.cells #[.int .i64 x.1, .int .i64 x.2] 31 (0, 0)) from by rw [← hw3]; exact td_kept HA2.out (td_alloc _ _))
  have HR3 := Aside0.mk (show w3.heap[w2.heap.size]? = some (.cells #[.int .i64 r.1.1, .int .i64 r.1.2] 31 (0, 0)) from by rw [← hw3]; exact blk_new _ _)
  have HB3 := Aside0.mk (show Below W.heap.size W w3 from by rw [← hw3]; exact below_alloc HB2.out _)
  clear hw3 HA2 HB2
  have a0 : w3.cell? ⟨n + 1, 0, none⟩ = some (.int .i64 x.1) := (blk_cell HA3.out 0).trans rfl
  have a1 : w3.cell? ⟨n + 1, 1, none⟩ = some (.int .i64 x.2) := (blk_cell HA3.out 1).trans rfl
  have r0 : w3.cell? ⟨w2.heap.size, 0, none⟩ = some (.int .i64 r.1.1) := (blk_cell HR3.out 0).trans rfl
  have r1 : w3.cell? ⟨w2.heap.size, 1, none⟩ = some (.int .i64 r.1.2) := (blk_cell HR3.out 1).trans rfl
  cases h0 : (r.2 == 0)
  · go_wp2_with fail
    go_ret
    exact ⟨by (first | rfl | (simp_all; done) | (have := HQ1.out; simp_all; done)), HB3.out⟩
  · cases h1 : (r.1.1 == x.1)
    · have q1 : ¬ r.1.1 = x.1 := by simpa using h1
      go_wp2_with fail
      go_ret
      exact ⟨by (first | rfl | (simp_all; done) | (have := HQ1.out; simp_all; done)), HB3.out⟩
    · have q1 : r.1.1 = x.1 := by simpa using h1
      have HQ1 := Aside0.mk q1
      clear h1
      rw [q1] at r0
      clear q1
      cases h2 : (r.1.2 == x.2)
      · have q2 : ¬ r.1.2 = x.2 := by simpa using h2
        go_wp2_with fail
        go_ret
        exact ⟨by (first | rfl | (simp_all; done) | (have := HQ1.out; simp_all; done)), HB3.out⟩
      · have q2 : r.1.2 = x.2 := by simpa using h2
        have HQ2 := Aside0.mk q2
        rw [q2] at r1
        clear q2 h2
        go_wp2_with fail
        go_ret
        exact ⟨by rw [HQ1.out, HQ2.out]; simp [h0], HB3.out⟩
set_option maxHeartbeats 16000000 in
set_option maxRecDepth 100000 in
theorem td_notBelow (a b : Int × Int) (W : World) : Calls Try.prog 16 #[.agg #[.int .i64 a.1, .int .i64 a.2], .agg #[.int .i64 b.1, .int .i64 b.2]] W fun e w' => e = .returned (.bool (!decide (tlt a b))) ∧ Below W.heap.size W w' := by
  go_enter Try.func16, Try.ntmps16
  go_upto_region 1 with fail
  generalize hw1 : World.alloc (World.alloc W _) _ = w1
  have HB := Aside0.mk (show Below W.heap.size W w1 from by rw [← hw1]; exact below_alloc (td_alloc W _) _)
  have e1_ : (W.alloc (.cells #[.int .i64 a.1, .int .i64 a.2] 31)).heap.size = W.heap.size + 1 := Array.size_push _
  have HX : w1.heap[W.heap.size]? = some (.cells #[.int .i64 a.1, .int .i64 a.2] 31 (0, 0)) := by rw [← hw1]; exact td_kept (blk_new W _) (td_alloc _ _)
  have HA : w1.heap[W.heap.size + 1]? = some (.cells #[.int .i64 b.1, .int .i64 b.2] 31 (0, 0)) := by
    have q := blk_new (W.alloc (.cells #[.int .i64 a.1, .int .i64 a.2] 31)) (.cells #[.int .i64 b.1, .int .i64 b.2] 31)
    rw [e1_, hw1] at q
    exact q
  have x0 : w1.cell? ⟨W.heap.size, 0, none⟩ = some (.int .i64 a.1) := (blk_cell HX 0).trans rfl
  have x1 : w1.cell? ⟨W.heap.size, 1, none⟩ = some (.int .i64 a.2) := (blk_cell HX 1).trans rfl
  have y0 : w1.cell? ⟨W.heap.size + 1, 0, none⟩ = some (.int .i64 b.1) := (blk_cell HA 0).trans rfl
  have y1 : w1.cell? ⟨W.heap.size + 1, 1, none⟩ = some (.int .i64 b.2) := (blk_cell HA 1).trans rfl
  clear hw1 HX HA e1_
  go_wp2_with fail
  refine (td_less a b _).mono ?_
  rintro e w2 ⟨rfl, hb⟩
  have HB2 := Aside0.mk (below_step HB.out hb)
  clear x0 x1 y0 y1 hb
  go_wp2_with fail
  go_ret
  exact ⟨rfl, HB2.out⟩
/-- A deed's number. -/
def bring4 (k : Int) : Int := (scriptoriumref00_Bring.f k 4).getD 0
theorem bring4_f (k : Int) (h1 : -9223372036854775808 ≤ k) (h2 : k ≤ 9223372036854775807) : scriptoriumref00_Bring.f k 4 = some (bring4 k) := by
  obtain ⟨t, ht, _⟩ := bring_some k 4 (by omega) (by omega)
  unfold bring4
  rw [ht]
  rfl
/-- What a deed makes of a tide; whether it was not refused. -/
def doneF (t : Td S24) (d : S33) : Td S24 × Bool :=
  if bring4 d.f0 = 3 then (if sok (d.f2.f0, d.f2.f1) = true then (t.raise (d.f2.f0, d.f2.f1), true) else (t, false))
  else if addErr d.f1 (d.f2.f0, d.f2.f1) d.f3 = 0 then (t.add d.f1 (d.f2.f0, d.f2.f1) d.f3, true) else (t, false)
set_option maxHeartbeats 16000000 in
set_option maxRecDepth 100000 in
theorem td_done (W0 W : World) (g : Nat) (t : Td S24) (d : S33) (h : TdAt W0 W g t) (hlen : t.l.length ≤ 64) (hk : scriptoriumref00_Bring.f d.f0 4 = some (bring4 d.f0)) : Calls Try.prog 13 #[.pointer (some ⟨g, 0, none⟩), .agg #[.int .i64 d.f0, .string d.f1.f0, .string d.f1.f1, .int .i64 d.f2.f0, .int .i64 d.f2.f1, .int .i64 d.f3]] W (TdPost W0 W g (doneF t d).1 (.returned (.bool (doneF t d).2))) := by
  have HT0 := Aside0.mk h
  have HLEN := Aside0.mk hlen
  have HK := Aside0.mk hk
  clear h hlen hk
  unfold doneF
  by_cases hk : bring4 d.f0 = 3
  · rw [if_pos hk]
    have e3 : (bring4 d.f0 == 3) = true := beq_iff_eq.mpr hk
    clear hk
    by_cases hs : sok (d.f2.f0, d.f2.f1) = true
    · rw [if_pos hs]
      have HS := Aside0.mk hs
      clear hs
      go_enter Try.func13, Try.ntmps13
      go_upto_region 1 with fail
      generalize hw1 : World.alloc W _ = w1
      have hb : Below W.heap.size W w1 := by rw [← hw1]; exact td_alloc W _
      have HX := Aside0.mk (show w1.heap[W.heap.size]? = some (.cells #[.int .i64 d.f0, .string d.f1.f0, .string d.f1.f1, .int .i64 d.f2.f0, .int .i64 d.f2.f1, .int .i64 d.f3] 33 (0, 0)) from by rw [← hw1]; exact blk_new W _)
      have HT := Aside0.mk (HT0.out.step hb)
      have HN := Aside0.mk (Tn.of_below (B := W0.heap.size) (g := some g) (ty := 63) hb)
      clear hw1 hb HT0
      generalize W.heap.size = n at HX ⊢
      have x0 : w1.cell? ⟨n, 0, none⟩ = some (.int .i64 d.f0) := (blk_cell HX.out 0).trans rfl
      go_wp2_with fail
      refine (scriptoriumref00_Bring.calls d.f0 4 _ _ HK.out).mono ?_
      rintro e w2 ⟨rfl, hb⟩
      have hb := hb.below
      have HX2 := Aside0.mk (td_kept HX.out hb)
      have HT2 := Aside0.mk (HT.out.step hb)
      have HN2 := Aside0.mk (HN.out.trans (Tn.of_below hb))
      clear HX HT HN hb x0
      have x1 : w2.cell? ⟨n, 1, none⟩ = some (.string d.f1.f0) := (blk_cell HX2.out 1).trans rfl
      have x2 : w2.cell? ⟨n, 2, none⟩ = some (.string d.f1.f1) := (blk_cell HX2.out 2).trans rfl
      have x3 : w2.cell? ⟨n, 3, none⟩ = some (.int .i64 d.f2.f0) := (blk_cell HX2.out 3).trans rfl
      have x4 : w2.cell? ⟨n, 4, none⟩ = some (.int .i64 d.f2.f1) := (blk_cell HX2.out 4).trans rfl
      have x5 : w2.cell? ⟨n, 5, none⟩ = some (.int .i64 d.f3) := (blk_cell HX2.out 5).trans rfl
      go_wp2_with fail
      refine (td_raise W0 w2 g t (d.f2.f0, d.f2.f1) HT2.out HS.out).mono ?_
      rintro e w3 ⟨rfl, hT, hN⟩
      have HT3 := Aside0.mk hT
      have HN3 := Aside0.mk (HN2.out.trans hN)
      clear hT hN x1 x2 x3 x4 x5
      go_wp2_with fail
      go_ret
      exact ⟨rfl, HT3.out, HN3.out⟩
    · rw [if_neg hs]
      have HS := Aside0.mk (show sok (d.f2.f0, d.f2.f1) = false from by simpa using hs)
      clear hs
      go_enter Try.func13, Try.ntmps13
      go_upto_region 1 with fail
      generalize hw1 : World.alloc W _ = w1
      have hb : Below W.heap.size W w1 := by rw [← hw1]; exact td_alloc W _
      have HX := Aside0.mk (show w1.heap[W.heap.size]? = some (.cells #[.int .i64 d.f0, .string d.f1.f0, .string d.f1.f1, .int .i64 d.f2.f0, .int .i64 d.f2.f1, .int .i64 d.f3] 33 (0, 0)) from by rw [← hw1]; exact blk_new W _)
      have HT := Aside0.mk (HT0.out.step hb)
      have HN := Aside0.mk (Tn.of_below (B := W0.heap.size) (g := some g) (ty := 63) hb)
      clear hw1 hb HT0
      generalize W.heap.size = n at HX ⊢
      have x0 : w1.cell? ⟨n, 0, none⟩ = some (.int .i64 d.f0) := (blk_cell HX.out 0).trans rfl
      go_wp2_with fail
      refine (scriptoriumref00_Bring.calls d.f0 4 _ _ HK.out).mono ?_
      rintro e w2 ⟨rfl, hb⟩
      have hb := hb.below
      have HX2 := Aside0.mk (td_kept HX.out hb)
      have HT2 := Aside0.mk (HT.out.step hb)
      have HN2 := Aside0.mk (HN.out.trans (Tn.of_below hb))
      clear HX HT HN hb x0
      have x1 : w2.cell? ⟨n, 1, none⟩ = some (.string d.f1.f0) := (blk_cell HX2.out 1).trans rfl
      have x2 : w2.cell? ⟨n, 2, none⟩ = some (.string d.f1.f1) := (blk_cell HX2.out 2).trans rfl
      have x3 : w2.cell? ⟨n, 3, none⟩ = some (.int .i64 d.f2.f0) := (blk_cell HX2.out 3).trans rfl
      have x4 : w2.cell? ⟨n, 4, none⟩ = some (.int .i64 d.f2.f1) := (blk_cell HX2.out 4).trans rfl
      have x5 : w2.cell? ⟨n, 5, none⟩ = some (.int .i64 d.f3) := (blk_cell HX2.out 5).trans rfl
      go_wp2_with fail
      refine (td_raise_bad W0 w2 g t (d.f2.f0, d.f2.f1) HT2.out HS.out).mono ?_
      rintro e w3 ⟨rfl, hT, hN⟩
      have HT3 := Aside0.mk hT
      have HN3 := Aside0.mk (HN2.out.trans hN)
      clear hT hN x1 x2 x3 x4 x5
      go_wp2_with fail
      go_ret
      exact ⟨rfl, HT3.out, HN3.out⟩
  · rw [if_neg hk]
    have e3 : (bring4 d.f0 == 3) = false := beq_eq_false_iff_ne.mpr hk
    clear hk
    by_cases he : addErr d.f1 (d.f2.f0, d.f2.f1) d.f3 = 0
    · rw [if_pos he]
      have e4 : (addErr d.f1 (d.f2.f0, d.f2.f1) d.f3 == 0) = true := beq_iff_eq.mpr he
      have HE := Aside0.mk he
      clear he
      go_enter Try.func13, Try.ntmps13
      go_upto_region 1 with fail
      generalize hw1 : World.alloc W _ = w1
      have hb : Below W.heap.size W w1 := by rw [← hw1]; exact td_alloc W _
      have HX := Aside0.mk (show w1.heap[W.heap.size]? = some (.cells #[.int .i64 d.f0, .string d.f1.f0, .string d.f1.f1, .int .i64 d.f2.f0, .int .i64 d.f2.f1, .int .i64 d.f3] 33 (0, 0)) from by rw [← hw1]; exact blk_new W _)
      have HT := Aside0.mk (HT0.out.step hb)
      have HN := Aside0.mk (Tn.of_below (B := W0.heap.size) (g := some g) (ty := 63) hb)
      clear hw1 hb HT0
      generalize W.heap.size = n at HX ⊢
      have x0 : w1.cell? ⟨n, 0, none⟩ = some (.int .i64 d.f0) := (blk_cell HX.out 0).trans rfl
      go_wp2_with fail
      refine (scriptoriumref00_Bring.calls d.f0 4 _ _ HK.out).mono ?_
      rintro e w2 ⟨rfl, hb⟩
      have hb := hb.below
      have HX2 := Aside0.mk (td_kept HX.out hb)
      have HT2 := Aside0.mk (HT.out.step hb)
      have HN2 := Aside0.mk (HN.out.trans (Tn.of_below hb))
      clear HX HT HN hb x0
      have x1 : w2.cell? ⟨n, 1, none⟩ = some (.string d.f1.f0) := (blk_cell HX2.out 1).trans rfl
      have x2 : w2.cell? ⟨n, 2, none⟩ = some (.string d.f1.f1) := (blk_cell HX2.out 2).trans rfl
      have x3 : w2.cell? ⟨n, 3, none⟩ = some (.int .i64 d.f2.f0) := (blk_cell HX2.out 3).trans rfl
      have x4 : w2.cell? ⟨n, 4, none⟩ = some (.int .i64 d.f2.f1) := (blk_cell HX2.out 4).trans rfl
      have x5 : w2.cell? ⟨n, 5, none⟩ = some (.int .i64 d.f3) := (blk_cell HX2.out 5).trans rfl
      go_wp2_with fail
      refine (td_add W0 w2 g t d.f1 (d.f2.f0, d.f2.f1) d.f3 HT2.out HLEN.out).mono ?_
      rintro e w3 ⟨rfl, hT, hN⟩
      rw [if_pos HE.out] at hT
      have HT3 := Aside0.mk hT
      have HN3 := Aside0.mk (HN2.out.trans hN)
      clear hT hN x1 x2 x3 x4 x5
      go_wp2_with fail
      go_ret
      exact ⟨by simp [e4], HT3.out, HN3.out⟩
    · rw [if_neg he]
      have e4 : (addErr d.f1 (d.f2.f0, d.f2.f1) d.f3 == 0) = false := beq_eq_false_iff_ne.mpr he
      have HE := Aside0.mk he
      clear he
      go_enter Try.func13, Try.ntmps13
      go_upto_region 1 with fail
      generalize hw1 : World.alloc W _ = w1
      have hb : Below W.heap.size W w1 := by rw [← hw1]; exact td_alloc W _
      have HX := Aside0.mk (show w1.heap[W.heap.size]? = some (.cells #[.int .i64 d.f0, .string d.f1.f0, .string d.f1.f1, .int .i64 d.f2.f0, .int .i64 d.f2.f1, .int .i64 d.f3] 33 (0, 0)) from by rw [← hw1]; exact blk_new W _)
      have HT := Aside0.mk (HT0.out.step hb)
      have HN := Aside0.mk (Tn.of_below (B := W0.heap.size) (g := some g) (ty := 63) hb)
      clear hw1 hb HT0
      generalize W.heap.size = n at HX ⊢
      have x0 : w1.cell? ⟨n, 0, none⟩ = some (.int .i64 d.f0) := (blk_cell HX.out 0).trans rfl
      go_wp2_with fail
      refine (scriptoriumref00_Bring.calls d.f0 4 _ _ HK.out).mono ?_
      rintro e w2 ⟨rfl, hb⟩
      have hb := hb.below
      have HX2 := Aside0.mk (td_kept HX.out hb)
      have HT2 := Aside0.mk (HT.out.step hb)
      have HN2 := Aside0.mk (HN.out.trans (Tn.of_below hb))
      clear HX HT HN hb x0
      have x1 : w2.cell? ⟨n, 1, none⟩ = some (.string d.f1.f0) := (blk_cell HX2.out 1).trans rfl
      have x2 : w2.cell? ⟨n, 2, none⟩ = some (.string d.f1.f1) := (blk_cell HX2.out 2).trans rfl
      have x3 : w2.cell? ⟨n, 3, none⟩ = some (.int .i64 d.f2.f0) := (blk_cell HX2.out 3).trans rfl
      have x4 : w2.cell? ⟨n, 4, none⟩ = some (.int .i64 d.f2.f1) := (blk_cell HX2.out 4).trans rfl
      have x5 : w2.cell? ⟨n, 5, none⟩ = some (.int .i64 d.f3) := (blk_cell HX2.out 5).trans rfl
      go_wp2_with fail
      refine (td_add W0 w2 g t d.f1 (d.f2.f0, d.f2.f1) d.f3 HT2.out HLEN.out).mono ?_
      rintro e w3 ⟨rfl, hT, hN⟩
      rw [if_neg HE.out] at hT
      have HT3 := Aside0.mk hT
      have HN3 := Aside0.mk (HN2.out.trans hN)
      clear hT hN x1 x2 x3 x4 x5
      go_wp2_with fail
      go_ret
      exact ⟨by simp [e4], HT3.out, HN3.out⟩
def wT0 : Td S24 := ⟨(5, 0), []⟩
def wT1 : Td S24 := wT0.add (⟨⟨#[97]⟩, ⟨#[99]⟩⟩ : S24) (9, 0) 7
def wT2 : Td S24 := wT1.add (⟨⟨#[97]⟩, ⟨#[99]⟩⟩ : S24) (8, 0) 7
def wT3 : Td S24 := wT2.add (⟨⟨#[97]⟩, ⟨#[99]⟩⟩ : S24) (4, 0) 8
def wT4 : Td S24 := wT3.raise (9, 0)
theorem wf0 : tellsF wT0 (⟨⟨#[97]⟩, ⟨#[122]⟩⟩ : S24) 0 (5, 0) = true := by kernel_rfl
theorem wf1 : addErr (⟨⟨#[97]⟩, ⟨#[99]⟩⟩ : S24) (9, 0) 7 = 0 := by kernel_rfl
theorem wf2 : tellsF wT1 (⟨⟨#[98]⟩, ⟨#[100]⟩⟩ : S24) 0 (9, 0) = true := by kernel_rfl
theorem wf3 : tellsF wT1 (⟨⟨#[99]⟩, ⟨#[100]⟩⟩ : S24) 0 (5, 0) = true := by kernel_rfl
theorem wf4 : tellsF wT1 (⟨⟨#[98]⟩, ⟨#[100]⟩⟩ : S24) 7 (5, 0) = true := by kernel_rfl
theorem wf5 : tellsF wT1 (⟨⟨#[98]⟩, ⟨#[100]⟩⟩ : S24) 8 (9, 0) = true := by kernel_rfl
theorem wf6 : addErr (⟨⟨#[97]⟩, ⟨#[99]⟩⟩ : S24) (8, 0) 7 = 0 := by kernel_rfl
theorem wf7 : addErr (⟨⟨#[97]⟩, ⟨#[99]⟩⟩ : S24) (4, 0) 8 = 0 := by kernel_rfl
theorem wf8 : tellsF wT4 (⟨⟨#[98]⟩, ⟨#[100]⟩⟩ : S24) 7 (9, 0) = true := by kernel_rfl
set_option maxHeartbeats 16000000 in
set_option maxRecDepth 100000 in
theorem td_works (W : World) : Calls Try.prog 9 #[] W fun e w' => e = .returned (.bool true) ∧ Below W.heap.size W w' := by
  go_enter Try.func9, Try.ntmps9
  go_wp2_with fail
  refine (scriptoriumlaw17_at.calls 5 0 5 0 _ rfl).mono ?_
  rintro e wn ⟨rfl, hb⟩
  have HB := Aside0.mk hb
  clear hb
  go_wp2_with fail
  refine (td_new (5, 0) _ (by kernel_rfl)).mono ?_
  rintro e w_ ⟨g, rfl, hT⟩
  have HT := Aside0.mk (show TdAt _ _ g wT0 from hT)
  clear hT
  go_wp2_with fail
  refine (scriptoriumlaw17_sp.calls ⟨#[97]⟩ ⟨#[122]⟩ ⟨#[97]⟩ ⟨#[122]⟩ _ rfl).mono ?_
  rintro e w_ ⟨rfl, hb⟩
  have HT_ := Aside0.mk (HT.out.step hb)
  clear HT hb
  have HT := Aside0.mk HT_.out
  clear HT_
  go_wp2_with fail
  refine (scriptoriumlaw17_at.calls 5 0 5 0 _ rfl).mono ?_
  rintro e w_ ⟨rfl, hb⟩
  have HT_ := Aside0.mk (HT.out.step hb)
  clear HT hb
  have HT := Aside0.mk HT_.out
  clear HT_
  go_wp2_with fail
  refine (td_tells wn _ g wT0 (⟨⟨#[97]⟩, ⟨#[122]⟩⟩ : S24) 0 (5, 0) HT.out).mono ?_
  rintro e w_ ⟨rfl, hb⟩
  rw [wf0]
  have HT_ := Aside0.mk (HT.out.step hb)
  clear HT hb
  have HT := Aside0.mk HT_.out
  clear HT_
  go_wp2_with fail
  refine (scriptoriumlaw17_sp.calls ⟨#[97]⟩ ⟨#[99]⟩ ⟨#[97]⟩ ⟨#[99]⟩ _ rfl).mono ?_
  rintro e w_ ⟨rfl, hb⟩
  have HT_ := Aside0.mk (HT.out.step hb)
  clear HT hb
  have HT := Aside0.mk HT_.out
  clear HT_
  go_wp2_with fail
  refine (scriptoriumlaw17_at.calls 9 0 9 0 _ rfl).mono ?_
  rintro e w_ ⟨rfl, hb⟩
  have HT_ := Aside0.mk (HT.out.step hb)
  clear HT hb
  have HT := Aside0.mk HT_.out
  clear HT_
  go_wp2_with fail
  refine (td_add_ok wn _ g wT0 (⟨⟨#[97]⟩, ⟨#[99]⟩⟩ : S24) (9, 0) 7 HT.out (of_decide_eq_true (by kernel_rfl)) wf1).mono ?_
  rintro e w_ ⟨rfl, hT, _⟩
  clear HT
  have HT := Aside0.mk hT
  clear hT
  go_wp2_with fail
  refine (scriptoriumlaw17_sp.calls ⟨#[98]⟩ ⟨#[100]⟩ ⟨#[98]⟩ ⟨#[100]⟩ _ rfl).mono ?_
  rintro e w_ ⟨rfl, hb⟩
  have HT_ := Aside0.mk (HT.out.step hb)
  clear HT hb
  have HT := Aside0.mk HT_.out
  clear HT_
  go_wp2_with fail
  refine (scriptoriumlaw17_at.calls 9 0 9 0 _ rfl).mono ?_
  rintro e w_ ⟨rfl, hb⟩
  have HT_ := Aside0.mk (HT.out.step hb)
  clear HT hb
  have HT := Aside0.mk HT_.out
  clear HT_
  go_wp2_with fail
  refine (td_tells wn _ g wT1 (⟨⟨#[98]⟩, ⟨#[100]⟩⟩ : S24) 0 (9, 0) HT.out).mono ?_
  rintro e w_ ⟨rfl, hb⟩
  rw [wf2]
  have HT_ := Aside0.mk (HT.out.step hb)
  clear HT hb
  have HT := Aside0.mk HT_.out
  clear HT_
  go_wp2_with fail
  refine (scriptoriumlaw17_sp.calls ⟨#[99]⟩ ⟨#[100]⟩ ⟨#[99]⟩ ⟨#[100]⟩ _ rfl).mono ?_
  rintro e w_ ⟨rfl, hb⟩
  have HT_ := Aside0.mk (HT.out.step hb)
  clear HT hb
  have HT := Aside0.mk HT_.out
  clear HT_
  go_wp2_with fail
  refine (scriptoriumlaw17_at.calls 5 0 5 0 _ rfl).mono ?_
  rintro e w_ ⟨rfl, hb⟩
  have HT_ := Aside0.mk (HT.out.step hb)
  clear HT hb
  have HT := Aside0.mk HT_.out
  clear HT_
  go_wp2_with fail
  refine (td_tells wn _ g wT1 (⟨⟨#[99]⟩, ⟨#[100]⟩⟩ : S24) 0 (5, 0) HT.out).mono ?_
  rintro e w_ ⟨rfl, hb⟩
  rw [wf3]
  have HT_ := Aside0.mk (HT.out.step hb)
  clear HT hb
  have HT := Aside0.mk HT_.out
  clear HT_
  go_wp2_with fail
  refine (scriptoriumlaw17_sp.calls ⟨#[98]⟩ ⟨#[100]⟩ ⟨#[98]⟩ ⟨#[100]⟩ _ rfl).mono ?_
  rintro e w_ ⟨rfl, hb⟩
  have HT_ := Aside0.mk (HT.out.step hb)
  clear HT hb
  have HT := Aside0.mk HT_.out
  clear HT_
  go_wp2_with fail
  refine (scriptoriumlaw17_at.calls 5 0 5 0 _ rfl).mono ?_
  rintro e w_ ⟨rfl, hb⟩
  have HT_ := Aside0.mk (HT.out.step hb)
  clear HT hb
  have HT := Aside0.mk HT_.out
  clear HT_
  go_wp2_with fail
  refine (td_tells wn _ g wT1 (⟨⟨#[98]⟩, ⟨#[100]⟩⟩ : S24) 7 (5, 0) HT.out).mono ?_
  rintro e w_ ⟨rfl, hb⟩
  rw [wf4]
  have HT_ := Aside0.mk (HT.out.step hb)
  clear HT hb
  have HT := Aside0.mk HT_.out
  clear HT_
  go_wp2_with fail
  refine (scriptoriumlaw17_sp.calls ⟨#[98]⟩ ⟨#[100]⟩ ⟨#[98]⟩ ⟨#[100]⟩ _ rfl).mono ?_
  rintro e w_ ⟨rfl, hb⟩
  have HT_ := Aside0.mk (HT.out.step hb)
  clear HT hb
  have HT := Aside0.mk HT_.out
  clear HT_
  go_wp2_with fail
  refine (scriptoriumlaw17_at.calls 9 0 9 0 _ rfl).mono ?_
  rintro e w_ ⟨rfl, hb⟩
  have HT_ := Aside0.mk (HT.out.step hb)
  clear HT hb
  have HT := Aside0.mk HT_.out
  clear HT_
  go_wp2_with fail
  refine (td_tells wn _ g wT1 (⟨⟨#[98]⟩, ⟨#[100]⟩⟩ : S24) 8 (9, 0) HT.out).mono ?_
  rintro e w_ ⟨rfl, hb⟩
  rw [wf5]
  have HT_ := Aside0.mk (HT.out.step hb)
  clear HT hb
  have HT := Aside0.mk HT_.out
  clear HT_
  go_wp2_with fail
  refine (scriptoriumlaw17_sp.calls ⟨#[97]⟩ ⟨#[99]⟩ ⟨#[97]⟩ ⟨#[99]⟩ _ rfl).mono ?_
  rintro e w_ ⟨rfl, hb⟩
  have HT_ := Aside0.mk (HT.out.step hb)
  clear HT hb
  have HT := Aside0.mk HT_.out
  clear HT_
  go_wp2_with fail
  refine (scriptoriumlaw17_at.calls 8 0 8 0 _ rfl).mono ?_
  rintro e w_ ⟨rfl, hb⟩
  have HT_ := Aside0.mk (HT.out.step hb)
  clear HT hb
  have HT := Aside0.mk HT_.out
  clear HT_
  go_wp2_with fail
  refine (td_add_ok wn _ g wT1 (⟨⟨#[97]⟩, ⟨#[99]⟩⟩ : S24) (8, 0) 7 HT.out (of_decide_eq_true (by kernel_rfl)) wf6).mono ?_
  rintro e w_ ⟨rfl, hT, _⟩
  clear HT
  have HT := Aside0.mk hT
  clear hT
  go_wp2_with fail
  refine (scriptoriumlaw17_sp.calls ⟨#[97]⟩ ⟨#[99]⟩ ⟨#[97]⟩ ⟨#[99]⟩ _ rfl).mono ?_
  rintro e w_ ⟨rfl, hb⟩
  have HT_ := Aside0.mk (HT.out.step hb)
  clear HT hb
  have HT := Aside0.mk HT_.out
  clear HT_
  go_wp2_with fail
  refine (scriptoriumlaw17_at.calls 4 0 4 0 _ rfl).mono ?_
  rintro e w_ ⟨rfl, hb⟩
  have HT_ := Aside0.mk (HT.out.step hb)
  clear HT hb
  have HT := Aside0.mk HT_.out
  clear HT_
  go_wp2_with fail
  refine (td_add_ok wn _ g wT2 (⟨⟨#[97]⟩, ⟨#[99]⟩⟩ : S24) (4, 0) 8 HT.out (of_decide_eq_true (by kernel_rfl)) wf7).mono ?_
  rintro e w_ ⟨rfl, hT, _⟩
  clear HT
  have HT := Aside0.mk hT
  clear hT
  go_wp2_with fail
  refine (td_len wn _ g wT3 HT.out).mono ?_
  rintro e w_ ⟨rfl, hb⟩
  rw [show wT3.l.length = 1 from by kernel_rfl]
  have HT_ := Aside0.mk (HT.out.step hb)
  clear HT hb
  have HT := Aside0.mk HT_.out
  clear HT_
  go_wp2_with fail
  refine (scriptoriumlaw17_at.calls 9 0 9 0 _ rfl).mono ?_
  rintro e w_ ⟨rfl, hb⟩
  have HT_ := Aside0.mk (HT.out.step hb)
  clear HT hb
  have HT := Aside0.mk HT_.out
  clear HT_
  go_wp2_with fail
  refine (td_raise wn _ g wT3 (9, 0) HT.out (by kernel_rfl)).mono ?_
  rintro e w_ ⟨rfl, hT, _⟩
  clear HT
  have HT := Aside0.mk hT
  clear hT
  go_wp2_with fail
  refine (scriptoriumlaw17_sp.calls ⟨#[98]⟩ ⟨#[100]⟩ ⟨#[98]⟩ ⟨#[100]⟩ _ rfl).mono ?_
  rintro e w_ ⟨rfl, hb⟩
  have HT_ := Aside0.mk (HT.out.step hb)
  clear HT hb
  have HT := Aside0.mk HT_.out
  clear HT_
  go_wp2_with fail
  refine (scriptoriumlaw17_at.calls 9 0 9 0 _ rfl).mono ?_
  rintro e w_ ⟨rfl, hb⟩
  have HT_ := Aside0.mk (HT.out.step hb)
  clear HT hb
  have HT := Aside0.mk HT_.out
  clear HT_
  go_wp2_with fail
  refine (td_tells wn _ g wT4 (⟨⟨#[98]⟩, ⟨#[100]⟩⟩ : S24) 7 (9, 0) HT.out).mono ?_
  rintro e w_ ⟨rfl, hb⟩
  rw [wf8]
  have HT_ := Aside0.mk (HT.out.step hb)
  clear HT hb
  have HT := Aside0.mk HT_.out
  clear HT_
  go_wp2_with fail
  refine (td_len wn _ g wT4 HT.out).mono ?_
  rintro e w_ ⟨rfl, hb⟩
  rw [show wT4.l.length = 0 from by kernel_rfl]
  have HT_ := Aside0.mk (HT.out.step hb)
  clear HT hb
  have HT := Aside0.mk HT_.out
  clear HT_
  go_wp2_with fail
  go_ret
  exact ⟨rfl, below_step HB.out HT.out.below⟩
end Go.Proofs.Ytaccfbpfennjkaa.PTideDoes

