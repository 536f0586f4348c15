/- The walk of the law ClockTalks (typed by hand, over the walks of ClockRises' texts). -/
import Derived.Test.YthhgoiabkgfdfaaPClockRisesx5
import Derived.Test.YthhgoiabkgfdfaaPClockRisesx0
import Derived.Test.YthhgoiabkgfdfaaPClockRisesx1
import Derived.Test.YthhgoiabkgfdfaaPClockRisesx2
import Derived.Test.YthhgoiabkgfdfaaPClockRisesx3
import Derived.Test.YthhgoiabkgfdfaaPClockRisesx4
namespace Go.Proofs.Ythhgoiabkgfdfaa.PClockRises
open Go.RowKit Go.Proofs.YthhgoiabkgfdfaaW.PrintWords Go.Proofs.YthhgoiabkgfdfaaW.PrintLast Go.Proofs.YthhgoiabkgfdfaaW.PrintMore
attribute [local go_sem] max2_int min2_int max_two min_two max_three min_three max_four min_four   -- for this text's walks alone
attribute [local go_sem] fld_wall fld_logic
set_option linter.unusedVariables false
set_option linter.unusedSimpArgs false

attribute [local go_sem high] eqA33
/-! ### the law ClockTalks -/
structure S30 where
  f0 : Int
  f1 : Int
  f2 : Int
def z30 : S30 := ⟨(0 : Int), (0 : Int), (0 : Int)⟩
def k30 : Kd S30 := Kd.iso (Kd.pair (Kd.int .i64) (Kd.pair (Kd.int .i64) (Kd.int .i64))) (fun x : S30 => (x.f0, x.f1, x.f2))
theorem k30_open {w : World} {x : S30} {cs : List Value} (h : k30.K w x cs) : cs = [.int .i64 x.f0, .int .i64 x.f1, .int .i64 x.f2] := by
  obtain ⟨_, _, rfl, rfl, ⟨_, _, rfl, rfl, rfl⟩⟩ := h
  exact rfl
theorem k30_openM {w : World} {base : Nat} {ok : Nat → Prop} {x : S30} {cs : List Value} (h : k30.M w base ok x cs) : cs = [.int .i64 x.f0, .int .i64 x.f1, .int .i64 x.f2] := by
  obtain ⟨_, _, rfl, rfl, ⟨_, _, rfl, rfl, rfl⟩⟩ := h
  exact rfl
theorem k30_mk (w : World) (x : S30)  : k30.K w x [.int .i64 x.f0, .int .i64 x.f1, .int .i64 x.f2] := ⟨[.int .i64 x.f0], [.int .i64 x.f1, .int .i64 x.f2], rfl, rfl, ⟨[.int .i64 x.f1], [.int .i64 x.f2], rfl, rfl, rfl⟩⟩
theorem k30_mkM (w : World) (base : Nat) (ok : Nat → Prop) (x : S30)  : k30.M w base ok x [.int .i64 x.f0, .int .i64 x.f1, .int .i64 x.f2] := ⟨[.int .i64 x.f0], [.int .i64 x.f1, .int .i64 x.f2], rfl, rfl, ⟨[.int .i64 x.f1], [.int .i64 x.f2], rfl, rfl, rfl⟩⟩
def rd_T30 (xs : List S30) (i : Int) : S30 := xs.getD i.toNat z30
theorem at_T30 {w : World} {A : Option Addr} {n : Nat} {xs : List S30} (h : Kd.C k30 w A n xs) (i : Int) (h0 : 0 ≤ i) (h1 : i < n) : ∃ ad , A = some ad ∧ w.cell? (ad.add (i.toNat * 3)) = some (.int .i64 (rd_T30 xs i).f0) ∧ w.cell? ⟨(ad.add (i.toNat * 3)).block, (ad.add (i.toNat * 3)).off + 1, none⟩ = some (.int .i64 (rd_T30 xs i).f1) ∧ w.cell? ⟨(ad.add (i.toNat * 3)).block, (ad.add (i.toNat * 3)).off + 2, none⟩ = some (.int .i64 (rd_T30 xs i).f2) := by
  obtain ⟨ad, c, e, _, hK, hc0⟩ := Kd.C_get h z30 i h0 h1
  have hc : ∀ j u, c[j]? = some u → w.cell? (ad.add (i.toNat * 3 + j)) = some u := hc0
  obtain rfl := k30_open hK
  exact ⟨ad, e, hc 0 _ rfl, by rw [← add_field _ _ 1 (by omega)]; exact hc 1 _ rfl, by rw [← add_field _ _ 2 (by omega)]; exact hc 2 _ rfl⟩

/-- Boxes (place, cells, type), each made since the call, no two the same. -/
structure Bx (W w : World) (bs : List (Nat × Array Value × TypeId)) : Prop where
  below : Below W.heap.size W w
  box : ∀ b ∈ bs, w.heap[b.1]? = some (.cells b.2.1 b.2.2 (0, 0))
  own : ∀ b ∈ bs, W.heap.size ≤ b.1
  nd : bs.Pairwise (fun a b => a.1 ≠ b.1)
section
variable {W w w' : World} {bs b1 b2 : List (Nat × Array Value × TypeId)} {a0 a1 a2 a3 a4 : Nat × Array Value × TypeId} {g : Nat} {cs cs' : Array Value} {t : TypeId}
theorem Bx.nil (h : Below W.heap.size W w) : Bx W w [] := ⟨h, (fun _ q => absurd q (by simp)), (fun _ q => absurd q (by simp)), List.Pairwise.nil⟩
theorem Bx.step (h : Bx W w bs) (hb : Below w.heap.size w w') : Bx W w' bs := ⟨below_step h.below hb, fun b q => blk_below (h.box b q) hb, h.own, h.nd⟩
theorem Bx.made (h : Bx W w bs) (hb : Below w.heap.size w w') (hl : w'.heap[g]? = some (.cells cs t (0, 0))) (hg : w.heap.size ≤ g) : Bx W w' ((g, cs, t) :: bs) := by
  refine ⟨below_step h.below hb, fun b q => ?_, fun b q => ?_, List.Pairwise.cons (fun b q => (Nat.ne_of_lt (Nat.lt_of_lt_of_le (blk_lt (h.box b q)) hg)).symm) h.nd⟩
  · rcases List.mem_cons.1 q with rfl | q
    · exact hl
    · exact blk_below (h.box b q) hb
  · rcases List.mem_cons.1 q with rfl | q
    · exact Nat.le_trans h.below.size hg
    · exact h.own b q
theorem Bx.alloc (h : Bx W w bs) (cs : Array Value) (t : TypeId) : Bx W (w.alloc (.cells cs t)) ((w.heap.size, cs, t) :: bs) := h.made (below_alloc (Below.refl _ _) _) (blk_new w _) (Nat.le_refl _)
theorem Bx.chg (h : Bx W w (b1 ++ (g, cs, t) :: b2)) (hO : Off g w w') (hn : w'.heap[g]? = some (.cells cs' t (0, 0))) : Bx W w' (b1 ++ (g, cs', t) :: b2) := by
  have hg := h.own (g, cs, t) (by simp)
  have hn2 := h.nd
  rw [List.pairwise_append, List.pairwise_cons] at hn2
  obtain ⟨n1, ⟨n2, n4⟩, n3⟩ := hn2
  have far : ∀ b : Nat × Array Value × TypeId, w.heap[b.1]? = some (.cells b.2.1 b.2.2 (0, 0)) → b.1 ≠ g → w'.heap[b.1]? = some (.cells b.2.1 b.2.2 (0, 0)) := fun b hb hne => (hO.block b.1 (blk_lt hb) hne).trans hb
  refine ⟨h.below.trans (hO.below hg h.below.size), fun b q => ?_, fun b q => ?_, ?_⟩
  · rcases List.mem_append.1 q with q | q
    · exact far b (h.box b (by simp [q])) (n3 b q (g, cs, t) (by simp))
    · rcases List.mem_cons.1 q with rfl | q
      · exact hn
      · exact far b (h.box b (by simp [q])) (n2 b q).symm
  · rcases List.mem_append.1 q with q | q
    · exact h.own b (by simp [q])
    · rcases List.mem_cons.1 q with rfl | q
      · exact hg
      · exact h.own b (by simp [q])
  · rw [List.pairwise_append, List.pairwise_cons]
    refine ⟨n1, ⟨fun b q => n2 b q, n4⟩, fun a qa b qb => ?_⟩
    rcases List.mem_cons.1 qb with rfl | qb
    · exact n3 a qa (g, cs, t) (by simp)
    · exact n3 a qa b (by simp [qb])
theorem Bx.set (h : Bx W w (b1 ++ (g, cs, t) :: b2)) {i : Nat} {v : Value} (e : cs.setIfInBounds i v = cs') : Bx W (w.setCell ⟨g, i, none⟩ v) (b1 ++ (g, cs', t) :: b2) := h.chg (off_setCell (off_refl _ _) _) (blk_put (h.box (g, cs, t) (by simp)) i v e)
theorem Bx.sub (h : Bx W w bs) (hb : b1.Sublist bs) : Bx W w b1 := ⟨h.below, fun b q => h.box b (hb.subset q), fun b q => h.own b (hb.subset q), h.nd.sublist hb⟩
theorem Bx.bx0 (h : Bx W w ((g, cs, t) :: bs)) : w.heap[g]? = some (.cells cs t (0, 0)) := h.box (g, cs, t) (by simp)
theorem Bx.bx1 (h : Bx W w (a0 :: (g, cs, t) :: bs)) : w.heap[g]? = some (.cells cs t (0, 0)) := h.box (g, cs, t) (by simp)
theorem Bx.bx2 (h : Bx W w (a0 :: a1 :: (g, cs, t) :: bs)) : w.heap[g]? = some (.cells cs t (0, 0)) := h.box (g, cs, t) (by simp)
theorem Bx.bx3 (h : Bx W w (a0 :: a1 :: a2 :: (g, cs, t) :: bs)) : w.heap[g]? = some (.cells cs t (0, 0)) := h.box (g, cs, t) (by simp)
theorem Bx.bx4 (h : Bx W w (a0 :: a1 :: a2 :: a3 :: (g, cs, t) :: bs)) : w.heap[g]? = some (.cells cs t (0, 0)) := h.box (g, cs, t) (by simp)
theorem Bx.chg0 (h : Bx W w ((g, cs, t) :: bs)) (hO : Off g w w') (hn : w'.heap[g]? = some (.cells cs' t (0, 0))) : Bx W w' ((g, cs', t) :: bs) := Bx.chg (b1 := []) h hO hn
theorem Bx.chg1 (h : Bx W w (a0 :: (g, cs, t) :: bs)) (hO : Off g w w') (hn : w'.heap[g]? = some (.cells cs' t (0, 0))) : Bx W w' (a0 :: (g, cs', t) :: bs) := Bx.chg (b1 := [a0]) h hO hn
theorem Bx.chg2 (h : Bx W w (a0 :: a1 :: (g, cs, t) :: bs)) (hO : Off g w w') (hn : w'.heap[g]? = some (.cells cs' t (0, 0))) : Bx W w' (a0 :: a1 :: (g, cs', t) :: bs) := Bx.chg (b1 := [a0, a1]) h hO hn
theorem Bx.chg3 (h : Bx W w (a0 :: a1 :: a2 :: (g, cs, t) :: bs)) (hO : Off g w w') (hn : w'.heap[g]? = some (.cells cs' t (0, 0))) : Bx W w' (a0 :: a1 :: a2 :: (g, cs', t) :: bs) := Bx.chg (b1 := [a0, a1, a2]) h hO hn
theorem Bx.set1 (h : Bx W w (a0 :: (g, cs, t) :: bs)) {i : Nat} {v : Value} (e : cs.setIfInBounds i v = cs') : Bx W (w.setCell ⟨g, i, none⟩ v) (a0 :: (g, cs', t) :: bs) := Bx.set (b1 := [a0]) h e
theorem Bx.set2 (h : Bx W w (a0 :: a1 :: (g, cs, t) :: bs)) {i : Nat} {v : Value} (e : cs.setIfInBounds i v = cs') : Bx W (w.setCell ⟨g, i, none⟩ v) (a0 :: a1 :: (g, cs', t) :: bs) := Bx.set (b1 := [a0, a1]) h e
theorem Bx.set3 (h : Bx W w (a0 :: a1 :: a2 :: (g, cs, t) :: bs)) {i : Nat} {v : Value} (e : cs.setIfInBounds i v = cs') : Bx W (w.setCell ⟨g, i, none⟩ v) (a0 :: a1 :: a2 :: (g, cs', t) :: bs) := Bx.set (b1 := [a0, a1, a2]) h e
theorem Bx.drew (h : Bx W w bs) : Bx W w.drew bs := h.step (below_drew1 (Below.refl _ _))
theorem Bx.gen (h : Bx W w bs) (e : w = w') : Bx W w' bs := e ▸ h
end
/-- What is known of the clocks: the readings are R, 5 and 10 on; no stamp is ahead of the greatest one. -/
def K6 (n R j : Int) (c : Ck) : Prop := c.o = 10 ∧ c.r = R + 5 * j ∧ c.f = 0 ∧ c.b = 1099511627776 ∧ 0 ≤ c.w ∧ c.w ≤ R + 10 ∧ 0 ≤ c.l ∧ c.l ≤ n
def Bd (n R j : Int) : Prop := 0 ≤ n ∧ n ≤ 1000 ∧ 0 ≤ R ∧ R ≤ 1000 ∧ 0 ≤ j ∧ j ≤ 2
theorem K6.ok {n R j : Int} {c : Ck} (h : K6 n R j c) (b : Bd n R j) : c.ok := by
  unfold K6 at h
  unfold Bd at b
  unfold Ck.ok
  omega
theorem K6.set {n R j by_ : Int} {c : Ck} (h : K6 n R j c) (b : Bd n R j) (hb : 0 ≤ by_ ∧ by_ < 4) : (c.set (c.r + by_)).2 = 0 ∧ K6 n (R + by_) j (c.set (c.r + by_)).1 := by
  unfold K6 at h ⊢
  unfold Bd at b
  unfold Ck.set
  rw [if_neg (by omega)]
  exact ⟨rfl, by dsimp only; omega⟩
theorem K6.now {n R j : Int} {c : Ck} (h : K6 n R j c) (b : Bd n R j) : c.now.2.2 = 0 ∧ K6 (n + 1) R j c.now.1 ∧ 0 ≤ c.now.2.1.1 ∧ c.now.2.1.1 ≤ R + 10 ∧ 0 ≤ c.now.2.1.2 ∧ c.now.2.1.2 ≤ n + 1 := by
  unfold K6 at h ⊢
  unfold Bd at b
  unfold Ck.now
  rw [if_neg (by omega)]
  rcases nxt_cases c.w c.l with ⟨e, h3⟩ | ⟨e, h3⟩
  · exfalso; omega
  rw [e]
  dsimp only
  rcases smx_cases c.w (c.l + 1) c.r 0 with ⟨e2, h4⟩ | ⟨e2, h4⟩ <;> rw [e2] <;> dsimp only <;> rw [if_neg (by omega)] <;> dsimp only <;> omega
theorem K6.see {n R j x y : Int} {c : Ck} (h : K6 n R j c) (b : Bd n R j) (hx : 0 ≤ x ∧ x ≤ R + 10 ∧ 0 ≤ y ∧ y ≤ n) : (c.see x y).2 = 0 ∧ K6 n R j (c.see x y).1 := by
  unfold K6 at h ⊢
  unfold Bd at b
  unfold Ck.see
  rw [if_neg (by omega), if_neg (by omega), if_neg (by omega)]
  refine ⟨rfl, ?_⟩
  dsimp only
  rcases smx_cases c.w c.l x y with ⟨e, h4⟩ | ⟨e, h4⟩ <;> rw [e] <;> dsimp only <;> omega
theorem K6.up {n R j : Int} {c : Ck} (h : K6 n R j c) : K6 (n + 1) R j c := by
  unfold K6 at h ⊢
  omega
theorem raise6 : (Ck.fresh 10 0).raise 1099511627776 = (⟨10, 0, 0, 1099511627776, 0, 0⟩, 0) := by kernel_rfl
theorem set60 : (⟨10, 0, 0, 1099511627776, 0, 0⟩ : Ck).set 0 = (⟨10, 0, 0, 1099511627776, 0, 0⟩, 0) := by kernel_rfl
theorem set61 : (⟨10, 0, 0, 1099511627776, 0, 0⟩ : Ck).set 5 = (⟨10, 5, 0, 1099511627776, 0, 0⟩, 0) := by kernel_rfl
theorem set62 : (⟨10, 0, 0, 1099511627776, 0, 0⟩ : Ck).set 10 = (⟨10, 10, 0, 1099511627776, 0, 0⟩, 0) := by kernel_rfl
def scriptoriumlaw06_ClockTalks.f (k : Nat) (l0 : List (S30)) : Option (Bool) := scriptoriumlaw06_awake.f k
theorem bring_some (a n : Int) (h : 0 < n) (hn : n ≤ 4611686018427387904) : ∃ r, scriptoriumref00_Bring.f a n = some r ∧ 0 ≤ r ∧ r < n := by
  unfold scriptoriumref00_Bring.f
  have h1 := Int.tmod_lt_of_pos a h
  have h2 : -n < Int.tmod a n := by
    have := Int.lt_tmod_of_pos a h
    omega
  rw [if_neg (by omega), if_neg (by omega)]
  by_cases h3 : Int.tmod a n < 0
  · rw [if_pos h3]
    refine ⟨_, rfl, ?_⟩
    have : RowKit.wrap64 (Int.tmod a n + n) = Int.tmod a n + n := by unfold RowKit.wrap64; omega
    rw [this]
    omega
  · rw [if_neg h3]
    exact ⟨_, rfl, by omega, by omega⟩
set_option maxHeartbeats 16000000 in
set_option maxRecDepth 100000 in
theorem scriptoriumlaw06_ClockTalks.calls (k : Nat) (A0 : Option Addr) (c0 : Nat) (l0 : List (S30)) (r : Bool) (w : World) (hr0 : Kd.C k30 w A0 l0.length l0) (hc0 : l0.length ≤ c0) (h : scriptoriumlaw06_ClockTalks.f k l0 = some r) (hrt : r = true) :
    Calls Try.prog 3 #[.slice A0 l0.length c0] w fun e w' => e = .returned (.bool r) ∧ Below w.heap.size w w' := by
  subst hrt
  have HA := Aside0.mk (show scriptoriumlaw06_awake.f k = some true from h)
  have HR0 := Aside0.mk hr0
  have HC0 := Aside0.mk hc0
  clear h hr0 hc0
  have hu30 := Try.underlying30
  have hu24 := Try.underlying24
  go_enter Try.func3, Try.ntmps3
  go_upto_region 2 with fail
  have hM0 := (Bx.nil (Below.refl w.heap.size w)).alloc #[.pointer none, .pointer none, .pointer none] 24
  generalize hw0 : w.alloc _ = w0 at hM0 ⊢
  have S0 := Aside0.mk hM0
  clear hw0 hM0
  obtain ⟨ga, hga⟩ : ∃ g, w.heap.size = g := ⟨_, rfl⟩
  rw [hga] at S0
  try rw [hga]
  have HGA := Aside0.mk hga
  clear hga
  go_wp2_with fail
  go_loopg [4] 4 (fun kq v4 w' => (v4 = .int .i64 0 ∧ Aside0 (kq = 4) ∧ Aside0 (Bx w w' [(ga, #[.pointer none, .pointer none, .pointer none], 24)])) ∨ (∃ g0 : Nat, v4 = .int .i64 1 ∧ Aside0 (kq = 3) ∧ Aside0 (Bx w w' [(g0, #[.int .i64 10, .int .i64 0, .int .i64 0, .int .i64 1099511627776, .int .i64 0, .int .i64 0, .bool true], 51), (ga, #[.pointer (some ⟨g0, 0, none⟩), .pointer none, .pointer none], 24)])) ∨ (∃ g0 g1 : Nat, v4 = .int .i64 2 ∧ Aside0 (kq = 2) ∧ Aside0 (Bx w w' [(g1, #[.int .i64 10, .int .i64 5, .int .i64 0, .int .i64 1099511627776, .int .i64 0, .int .i64 0, .bool true], 51), (g0, #[.int .i64 10, .int .i64 0, .int .i64 0, .int .i64 1099511627776, .int .i64 0, .int .i64 0, .bool true], 51), (ga, #[.pointer (some ⟨g0, 0, none⟩), .pointer (some ⟨g1, 0, none⟩), .pointer none], 24)])) ∨ (∃ g0 g1 g2 : Nat, v4 = .int .i64 3 ∧ Aside0 (kq = 1) ∧ Aside0 (Bx w w' [(g2, #[.int .i64 10, .int .i64 10, .int .i64 0, .int .i64 1099511627776, .int .i64 0, .int .i64 0, .bool true], 51), (g1, #[.int .i64 10, .int .i64 5, .int .i64 0, .int .i64 1099511627776, .int .i64 0, .int .i64 0, .bool true], 51), (g0, #[.int .i64 10, .int .i64 0, .int .i64 0, .int .i64 1099511627776, .int .i64 0, .int .i64 0, .bool true], 51), (ga, #[.pointer (some ⟨g0, 0, none⟩), .pointer (some ⟨g1, 0, none⟩), .pointer (some ⟨g2, 0, none⟩)], 24)])))
  case atStart => exact .inl ⟨rfl, ⟨rfl⟩, S0⟩
  case round =>
    rcases hrel with ⟨rfl, HK, S⟩ | ⟨g0, rfl, HK, S⟩ | ⟨g0, g1, rfl, HK, S⟩ | ⟨g0, g1, g2, rfl, HK, S⟩
    · go_wp2_with fail
      refine (ck_new 10 0 _ (by omega) (by omega)).mono ?_
      rintro e w1 ⟨g0, rfl, hl, hb, hge⟩
      have S1 := Aside0.mk (S.out.made hb hl hge)
      clear hl hb hge S
      go_wp2_with fail
      have hc := ck_raise (Ck.fresh 10 0) g0 1099511627776 w1 S1.out.bx0
      rw [raise6] at hc
      refine hc.mono ?_
      clear hc
      rintro e w2 ⟨rfl, hl, hO⟩
      have S2 := Aside0.mk (S1.out.chg0 hO hl)
      clear hl hO S1
      go_wp2_with fail
      have hc := ck_set ⟨10, 0, 0, 1099511627776, 0, 0⟩ g0 0 w2 S2.out.bx0
      rw [set60] at hc
      refine hc.mono ?_
      clear hc
      rintro e w3 ⟨rfl, hl, hO⟩
      have S3 := Aside0.mk (S2.out.chg0 hO hl)
      clear hl hO S2
      have x0 : w3.cell? ⟨ga, 0, none⟩ = some (.pointer none) := (blk_cell S3.out.bx1 0).trans rfl
      have y0 := blk_frozen S3.out.bx1 0
      go_upto_region 4 with fail
      clear x0 y0
      generalize hw : World.setCell w3 _ _ = w4
      have S4 := Aside0.mk ((S3.out.set1 (cs' := #[.pointer (some ⟨g0, 0, none⟩), .pointer none, .pointer none]) rfl).gen hw)
      clear hw S3
      go_wp2_with fail
      go_roundg 3
      case measure => have h1 := HK.out; omega
      case rel => exact .inr (.inl (⟨g0, rfl, ⟨rfl⟩, S4⟩))
    · go_wp2_with fail
      refine (ck_new 10 0 _ (by omega) (by omega)).mono ?_
      rintro e w1 ⟨g1, rfl, hl, hb, hge⟩
      have S1 := Aside0.mk (S.out.made hb hl hge)
      clear hl hb hge S
      go_wp2_with fail
      have hc := ck_raise (Ck.fresh 10 0) g1 1099511627776 w1 S1.out.bx0
      rw [raise6] at hc
      refine hc.mono ?_
      clear hc
      rintro e w2 ⟨rfl, hl, hO⟩
      have S2 := Aside0.mk (S1.out.chg0 hO hl)
      clear hl hO S1
      go_wp2_with fail
      have hc := ck_set ⟨10, 0, 0, 1099511627776, 0, 0⟩ g1 5 w2 S2.out.bx0
      rw [set61] at hc
      refine hc.mono ?_
      clear hc
      rintro e w3 ⟨rfl, hl, hO⟩
      have S3 := Aside0.mk (S2.out.chg0 hO hl)
      clear hl hO S2
      have x0 : w3.cell? ⟨ga, 1, none⟩ = some (.pointer none) := (blk_cell S3.out.bx2 1).trans rfl
      have y0 := blk_frozen S3.out.bx2 1
      go_upto_region 4 with fail
      clear x0 y0
      generalize hw : World.setCell w3 _ _ = w4
      have S4 := Aside0.mk ((S3.out.set2 (cs' := #[.pointer (some ⟨g0, 0, none⟩), .pointer (some ⟨g1, 0, none⟩), .pointer none]) rfl).gen hw)
      clear hw S3
      go_wp2_with fail
      go_roundg 2
      case measure => have h1 := HK.out; omega
      case rel => exact .inr (.inr (.inl (⟨g0, g1, rfl, ⟨rfl⟩, S4⟩)))
    · go_wp2_with fail
      refine (ck_new 10 0 _ (by omega) (by omega)).mono ?_
      rintro e w1 ⟨g2, rfl, hl, hb, hge⟩
      have S1 := Aside0.mk (S.out.made hb hl hge)
      clear hl hb hge S
      go_wp2_with fail
      have hc := ck_raise (Ck.fresh 10 0) g2 1099511627776 w1 S1.out.bx0
      rw [raise6] at hc
      refine hc.mono ?_
      clear hc
      rintro e w2 ⟨rfl, hl, hO⟩
      have S2 := Aside0.mk (S1.out.chg0 hO hl)
      clear hl hO S1
      go_wp2_with fail
      have hc := ck_set ⟨10, 0, 0, 1099511627776, 0, 0⟩ g2 10 w2 S2.out.bx0
      rw [set62] at hc
      refine hc.mono ?_
      clear hc
      rintro e w3 ⟨rfl, hl, hO⟩
      have S3 := Aside0.mk (S2.out.chg0 hO hl)
      clear hl hO S2
      have x0 : w3.cell? ⟨ga, 2, none⟩ = some (.pointer none) := (blk_cell S3.out.bx3 2).trans rfl
      have y0 := blk_frozen S3.out.bx3 2
      go_upto_region 4 with fail
      clear x0 y0
      generalize hw : World.setCell w3 _ _ = w4
      have S4 := Aside0.mk ((S3.out.set3 (cs' := #[.pointer (some ⟨g0, 0, none⟩), .pointer (some ⟨g1, 0, none⟩), .pointer (some ⟨g2, 0, none⟩)]) rfl).gen hw)
      clear hw S3
      go_wp2_with fail
      go_roundg 1
      case measure => have h1 := HK.out; omega
      case rel => exact .inr (.inr (.inr (⟨g0, g1, g2, rfl, ⟨rfl⟩, S4⟩)))
    · go_wp2_with fail
      go_loopg [7] 201 (fun kq v7 w' => ∃ (i : Nat) (R : Int) (c0 c1 c2 : Ck), v7 = .int .i64 (i : Int) ∧ Aside0 (i + kq = 201) ∧ Aside0 (0 ≤ R ∧ R ≤ 3 * (i : Int)) ∧ Aside0 (K6 i R 0 c0 ∧ K6 i R 1 c1 ∧ K6 i R 2 c2) ∧ Aside0 (Bx w w' [(g2, #[.int .i64 c2.o, .int .i64 c2.r, .int .i64 c2.f, .int .i64 c2.b, .int .i64 c2.w, .int .i64 c2.l, .bool true], 51), (g1, #[.int .i64 c1.o, .int .i64 c1.r, .int .i64 c1.f, .int .i64 c1.b, .int .i64 c1.w, .int .i64 c1.l, .bool true], 51), (g0, #[.int .i64 c0.o, .int .i64 c0.r, .int .i64 c0.f, .int .i64 c0.b, .int .i64 c0.w, .int .i64 c0.l, .bool true], 51), (ga, #[.pointer (some ⟨g0, 0, none⟩), .pointer (some ⟨g1, 0, none⟩), .pointer (some ⟨g2, 0, none⟩)], 24)]))
      case atStart => exact ⟨0, 0, ⟨10, 0, 0, 1099511627776, 0, 0⟩, ⟨10, 5, 0, 1099511627776, 0, 0⟩, ⟨10, 10, 0, 1099511627776, 0, 0⟩, rfl, ⟨rfl⟩, ⟨by omega⟩, ⟨by unfold K6; dsimp only; omega, by unfold K6; dsimp only; omega, by unfold K6; dsimp only; omega⟩, S⟩
      case round =>
        obtain ⟨i, R, c0, c1, c2, rfl, HI, HR, HKK, S⟩ := hrel
        by_cases h1 : i < l0.length
        case neg =>
          have d1 : decide ((i : Int) < (l0.length : Int)) = false := decide_eq_false (by omega)
          go_wp2_with fail
          refine (scriptoriumlaw06_awake.calls k true _ HA.out).mono ?_
          rintro e w1 ⟨rfl, hb⟩
          go_wp2_with fail
          go_ret
          exact ⟨rfl, (S.out.step hb).below⟩
        have d1 : decide ((i : Int) < (l0.length : Int)) = true := decide_eq_true (by omega)
        by_cases h2 : i < 200
        case neg =>
          have d2 : decide ((i : Int) < 200) = false := decide_eq_false (by omega)
          go_wp2_with fail
          refine (scriptoriumlaw06_awake.calls k true _ HA.out).mono ?_
          rintro e w1 ⟨rfl, hb⟩
          go_wp2_with fail
          go_ret
          exact ⟨rfl, (S.out.step hb).below⟩
        have d2 : decide ((i : Int) < 200) = true := decide_eq_true (by omega)
        obtain ⟨ad, e0, x0, x1, x2⟩ := at_T30 (Kd.C_below HR0.out S.out.below) (i : Int) (by omega) (by omega)
        clear x0 x1 x2
        cases e0
        obtain ⟨d, hd⟩ : ∃ d, rd_T30 l0 (i : Int) = d := ⟨_, rfl⟩
        have hlc : ∀ V, Below w.heap.size w V → V.cell? (ad.add (i * 3)) = some (.int .i64 d.f0) ∧ V.cell? ⟨(ad.add (i * 3)).block, (ad.add (i * 3)).off + 1, none⟩ = some (.int .i64 d.f1) ∧ V.cell? ⟨(ad.add (i * 3)).block, (ad.add (i * 3)).off + 2, none⟩ = some (.int .i64 d.f2) := fun V hb => by
          obtain ⟨ad', e', x0, x1, x2⟩ := at_T30 (Kd.C_below HR0.out hb) (i : Int) (by omega) (by omega)
          cases e'
          rw [hd] at x0 x1 x2
          simp only [Int.toNat_natCast] at x0 x1 x2
          exact ⟨x0, x1, x2⟩
        have HLC := Aside0.mk hlc
        clear hd hlc
        obtain ⟨by_, hby, hb0, hb4⟩ := bring_some d.f2 4 (by omega) (by omega)
        obtain ⟨t, ht, ht0, ht3⟩ := bring_some d.f0 3 (by omega) (by omega)
        obtain ⟨u, hu, hu0, hu3⟩ := bring_some d.f1 3 (by omega) (by omega)
        have HBY := Aside0.mk hby
        have HT := Aside0.mk ht
        have HU := Aside0.mk hu
        have HB4 := Aside0.mk (And.intro hb0 hb4)
        have HT3 := Aside0.mk (And.intro ht0 ht3)
        have HU3 := Aside0.mk (And.intro hu0 hu3)
        have HH2 := Aside0.mk h2
        have HBD : Aside0 (Bd ((i : Int) + 1) R 2 ∧ Bd ((i : Int) + 1) (R + by_) 2) := ⟨by have := HR.out; unfold Bd; omega⟩
        have hwi : Go.RowKit.wrap64 ((i : Int) + 1) = ((i + 1 : Nat) : Int) := by
          unfold Go.RowKit.wrap64
          omega
        have HWI := Aside0.mk hwi
        have HWI2 := Aside0.mk ((i64_w ((i : Int) + 1)).trans hwi)
        clear hby hb0 hb4 ht ht0 ht3 hu hu0 hu3 hwi
        have p0 := eq_true (show (0 : Int) ≤ (i : Int) by omega)
        have q0 := eq_true (show (i : Int) < (l0.length : Int) by omega)
        obtain ⟨x0, x1, x2⟩ := HLC.out _ S.out.below
        go_wp2_with fail
        refine (scriptoriumref00_Bring.calls d.f2 4 by_ _ HBY.out).mono ?_
        rintro e w1 ⟨rfl, hb⟩
        have S1 := Aside0.mk (S.out.step hb.below)
        clear hb S x0 x1 x2
        go_wp2_with fail
        go_loopg [9] 4 (fun kq v9 w' => ∃ c0 c1 c2 : Ck, Aside0 (Bx w w' [(g2, #[.int .i64 c2.o, .int .i64 c2.r, .int .i64 c2.f, .int .i64 c2.b, .int .i64 c2.w, .int .i64 c2.l, .bool true], 51), (g1, #[.int .i64 c1.o, .int .i64 c1.r, .int .i64 c1.f, .int .i64 c1.b, .int .i64 c1.w, .int .i64 c1.l, .bool true], 51), (g0, #[.int .i64 c0.o, .int .i64 c0.r, .int .i64 c0.f, .int .i64 c0.b, .int .i64 c0.w, .int .i64 c0.l, .bool true], 51), (ga, #[.pointer (some ⟨g0, 0, none⟩), .pointer (some ⟨g1, 0, none⟩), .pointer (some ⟨g2, 0, none⟩)], 24)]) ∧ ((v9 = .int .i64 0 ∧ Aside0 (kq = 4 ∧ K6 (i : Int) (R) 0 c0 ∧ K6 (i : Int) (R) 1 c1 ∧ K6 (i : Int) (R) 2 c2)) ∨ (v9 = .int .i64 1 ∧ Aside0 (kq = 3 ∧ K6 (i : Int) (R + by_) 0 c0 ∧ K6 (i : Int) (R) 1 c1 ∧ K6 (i : Int) (R) 2 c2)) ∨ (v9 = .int .i64 2 ∧ Aside0 (kq = 2 ∧ K6 (i : Int) (R + by_) 0 c0 ∧ K6 (i : Int) (R + by_) 1 c1 ∧ K6 (i : Int) (R) 2 c2)) ∨ (v9 = .int .i64 3 ∧ Aside0 (kq = 1 ∧ K6 (i : Int) (R + by_) 0 c0 ∧ K6 (i : Int) (R + by_) 1 c1 ∧ K6 (i : Int) (R + by_) 2 c2))))
        case atStart => exact ⟨c0, c1, c2, S1, .inl ⟨rfl, ⟨rfl, HKK.out.1, HKK.out.2.1, HKK.out.2.2⟩⟩⟩
        case round =>
          clear S1 HKK
          obtain ⟨c0, c1, c2, S, hrel⟩ := hrel
          rcases hrel with ⟨rfl, HQ⟩ | ⟨rfl, HQ⟩ | ⟨rfl, HQ⟩ | ⟨rfl, HQ⟩
          · have hwr : IntKind.i64.wrap (c0.r + by_) = c0.r + by_ := by
              rw [i64_w]
              have h1 := HQ.out.2.1
              have h2 := HB4.out
              have h3 := HBD.out.1
              unfold K6 at h1
              unfold Bd at h3
              unfold Go.RowKit.wrap64
              omega
            go_upto_region 16 with fail
            have ra := fun (V : World) (h : V.heap[ga]? = some (.cells #[.pointer (some ⟨g0, 0, none⟩), .pointer (some ⟨g1, 0, none⟩), .pointer (some ⟨g2, 0, none⟩)] 24 (0, 0))) => (show V.cell? ⟨ga, 0, none⟩ = some (.pointer (some ⟨g0, 0, none⟩)) from (blk_cell h 0).trans rfl)
            refine wp_region_noPanic ?_
            have SD := Aside0.mk S.out.drew
            refine wp_region_held_drew (S := (fun V => V.heap[ga]? = some (.cells #[.pointer (some ⟨g0, 0, none⟩), .pointer (some ⟨g1, 0, none⟩), .pointer (some ⟨g2, 0, none⟩)] 24 (0, 0)))) (by kernel_rfl) SD.out.bx3 (fun hHeld => ?_)
            generalize hwd : World.drew _ = wd at hHeld SD ⊢
            clear hwd
            refine wpAnyH_take (i := 0) (oi := ⟨some 58, _, _, _, _, none⟩) (v := ?v1) rfl (by kernel_rfl) (by kernel_rfl) (by kernel_rfl) (fun _ _ _ h => h) (Or.inl ⟨by rfl, ?hy1⟩) (by with_reducible assumption) ?rest1
            case hy1 => (intro V_ hSw; (try dsimp only at hSw); go_simp; (try with_reducible rfl))
            case' rest1 => skip
            try simp only [Act.put, List.setIfInBounds_toArray, List.set_cons_zero, List.set_cons_succ]
            refine wpAnyH_take (i := 1) (oi := ⟨some 59, _, _, _, _, none⟩) (v := ?v2) rfl (by kernel_rfl) (by kernel_rfl) (by kernel_rfl) (fun _ _ _ h => h) (Or.inl ⟨by rfl, ?hy2⟩) (by with_reducible assumption) ?rest2
            case hy2 => (intro V_ hSw; (try dsimp only at hSw); go_simp; (try with_reducible rfl))
            case' rest2 => skip
            try simp only [Act.put, List.setIfInBounds_toArray, List.set_cons_zero, List.set_cons_succ]
            refine wpAnyH_take (i := 2) (oi := ⟨some 60, _, _, _, _, none⟩) (v := ?v3) rfl (by kernel_rfl) (by kernel_rfl) (by kernel_rfl) (fun _ _ _ h => h) (Or.inl ⟨by rfl, ?hy3⟩) (by with_reducible assumption) ?rest3
            case hy3 => (intro V_ hSw; (try dsimp only at hSw); go_simp; (try with_reducible rfl))
            case' rest3 => skip
            try simp only [Act.put, List.setIfInBounds_toArray, List.set_cons_zero, List.set_cons_succ]
            refine wpAnyH_take (i := 3) (oi := ⟨some 61, _, _, _, _, none⟩) (v := ?v4) rfl (by kernel_rfl) (by kernel_rfl) (by kernel_rfl) (fun _ _ _ h => h) (Or.inl ⟨by rfl, ?hy4⟩) (by with_reducible assumption) ?rest4
            case hy4 => (intro V_ hSw; (try dsimp only at hSw); go_simp; (try with_reducible rfl))
            case' rest4 => skip
            try simp only [Act.put, List.setIfInBounds_toArray, List.set_cons_zero, List.set_cons_succ]
            refine wpAnyH_take (i := 4) (oi := ⟨some 62, _, _, _, _, none⟩) (v := ?v5) rfl (by kernel_rfl) (by kernel_rfl) (by kernel_rfl) (fun _ _ _ h => h) (Or.inl ⟨by rfl, ?hy5⟩) (by with_reducible assumption) ?rest5
            case hy5 => (intro V_ hSw; (try dsimp only at hSw); go_simp; (try with_reducible rfl))
            case' rest5 => skip
            try simp only [Act.put, List.setIfInBounds_toArray, List.set_cons_zero, List.set_cons_succ]
            refine wpAnyH_take (i := 5) (oi := ⟨some 63, _, _, _, _, none⟩) (v := ?v6) rfl (by kernel_rfl) (by kernel_rfl) (by kernel_rfl) (fun _ _ _ h => h) (Or.inl ⟨by rfl, ?hy6⟩) (by with_reducible assumption) ?rest6
            case hy6 => (intro V_ hSw; (try dsimp only at hSw); go_simp; (try with_reducible rfl))
            case' rest6 => skip
            try simp only [Act.put, List.setIfInBounds_toArray, List.set_cons_zero, List.set_cons_succ]
            refine wpAnyH_take (i := 7) (oi := ⟨some 65, _, _, _, _, none⟩) (v := ?v7) rfl (by kernel_rfl) (by kernel_rfl) (by kernel_rfl) (fun _ _ _ h => h) (Or.inl ⟨by rfl, ?hy7⟩) (by with_reducible assumption) ?rest7
            case hy7 => (intro V_ hSw; (try dsimp only at hSw); go_simp; (try with_reducible rfl))
            case' rest7 => skip
            try simp only [Act.put, List.setIfInBounds_toArray, List.set_cons_zero, List.set_cons_succ]
            refine wpAnyH_ready (rs := [6]) (by kernel_rfl) (by simp) ?_
            refine AllReadyH.cons (o := ⟨some 64, _, _, _, _, none⟩) rfl (fun K hK => ?_) ?_
            · go_simp
              refine (ck_reading c0 g0 _ SD.out.bx2).mono ?_
              rintro e we ⟨rfl, hb⟩
              have SE := Aside0.mk (SD.out.step hb)
              clear hb
              refine hK.out _ _ SE.out.bx3 (fun hHeld => ?_)
              clear hK K
              try simp only [Act.put, List.setIfInBounds_toArray, List.set_cons_zero, List.set_cons_succ]
              refine wpAnyH_take (i := 8) (oi := ⟨some 66, _, _, _, _, none⟩) (v := ?v9) rfl (by kernel_rfl) (by kernel_rfl) (by kernel_rfl) (fun _ _ _ h => h) (Or.inl ⟨by rfl, ?hy9⟩) (by with_reducible assumption) ?rest9
              case hy9 => (intro V_ hSw; (try dsimp only at hSw); go_simp; (try with_reducible rfl))
              case' rest9 => skip
              try simp only [Act.put, List.setIfInBounds_toArray, List.set_cons_zero, List.set_cons_succ]
              refine wpAnyH_ready (rs := [9]) (by kernel_rfl) (by simp) ?_
              refine AllReadyH.cons (o := ⟨some 67, _, _, _, _, none⟩) rfl (fun K hK => ?_) ?_
              · go_simp
                have hK_ := K6.set (by_ := by_) HQ.out.2.1 (show Bd (i : Int) R 0 from by have h3 := HBD.out.1; unfold Bd at h3 ⊢; omega) HB4.out
                have hc := ck_set c0 g0 (c0.r + by_) _ SE.out.bx2
                rw [hK_.1] at hc
                have HK2 := Aside0.mk hK_.2
                clear hK_
                generalize (c0.set (c0.r + by_)).1 = c' at hc HK2
                refine hc.mono ?_
                clear hc
                rintro e wf ⟨rfl, hl, hO⟩
                have SF := Aside0.mk (SE.out.chg2 hO hl)
                clear hl hO
                refine hK.out _ _ SF.out.bx3 (fun hHeld => ?_)
                clear hK K
                try simp only [Act.put, List.setIfInBounds_toArray, List.set_cons_zero, List.set_cons_succ]
                refine wpAnyH_take (i := 10) (oi := ⟨some 68, _, _, _, _, none⟩) (v := ?v8) rfl (by kernel_rfl) (by kernel_rfl) (by kernel_rfl) (fun _ _ _ h => h) (Or.inl ⟨by rfl, ?hy8⟩) (by with_reducible assumption) ?rest8
                case hy8 => (intro V_ hSw; (try dsimp only at hSw); go_simp; (try with_reducible rfl))
                case' rest8 => skip
                try simp only [Act.put, List.setIfInBounds_toArray, List.set_cons_zero, List.set_cons_succ]
                refine wpAnyH_done (by kernel_rfl) ?_ _
                refine NoPanic.normal ?_
                clear ra hHeld
                go_wp2_with fail
                go_roundg 3
                case measure => have h1 := HQ.out.1; omega
                case rel => exact ⟨c', c1, c2, SF, .inr (.inl (⟨rfl, ⟨rfl, HK2.out, HQ.out.2.2.1, HQ.out.2.2.2⟩⟩))⟩
              exact AllReadyH.nil
            exact AllReadyH.nil
          · have hwr : IntKind.i64.wrap (c1.r + by_) = c1.r + by_ := by
              rw [i64_w]
              have h1 := HQ.out.2.2.1
              have h2 := HB4.out
              have h3 := HBD.out.1
              unfold K6 at h1
              unfold Bd at h3
              unfold Go.RowKit.wrap64
              omega
            go_upto_region 16 with fail
            have ra := fun (V : World) (h : V.heap[ga]? = some (.cells #[.pointer (some ⟨g0, 0, none⟩), .pointer (some ⟨g1, 0, none⟩), .pointer (some ⟨g2, 0, none⟩)] 24 (0, 0))) => (show V.cell? ⟨ga, 1, none⟩ = some (.pointer (some ⟨g1, 0, none⟩)) from (blk_cell h 1).trans rfl)
            refine wp_region_noPanic ?_
            have SD := Aside0.mk S.out.drew
            refine wp_region_held_drew (S := (fun V => V.heap[ga]? = some (.cells #[.pointer (some ⟨g0, 0, none⟩), .pointer (some ⟨g1, 0, none⟩), .pointer (some ⟨g2, 0, none⟩)] 24 (0, 0)))) (by kernel_rfl) SD.out.bx3 (fun hHeld => ?_)
            generalize hwd : World.drew _ = wd at hHeld SD ⊢
            clear hwd
            refine wpAnyH_take (i := 0) (oi := ⟨some 58, _, _, _, _, none⟩) (v := ?v10) rfl (by kernel_rfl) (by kernel_rfl) (by kernel_rfl) (fun _ _ _ h => h) (Or.inl ⟨by rfl, ?hy10⟩) (by with_reducible assumption) ?rest10
            case hy10 => (intro V_ hSw; (try dsimp only at hSw); go_simp; (try with_reducible rfl))
            case' rest10 => skip
            try simp only [Act.put, List.setIfInBounds_toArray, List.set_cons_zero, List.set_cons_succ]
            refine wpAnyH_take (i := 1) (oi := ⟨some 59, _, _, _, _, none⟩) (v := ?v11) rfl (by kernel_rfl) (by kernel_rfl) (by kernel_rfl) (fun _ _ _ h => h) (Or.inl ⟨by rfl, ?hy11⟩) (by with_reducible assumption) ?rest11
            case hy11 => (intro V_ hSw; (try dsimp only at hSw); go_simp; (try with_reducible rfl))
            case' rest11 => skip
            try simp only [Act.put, List.setIfInBounds_toArray, List.set_cons_zero, List.set_cons_succ]
            refine wpAnyH_take (i := 2) (oi := ⟨some 60, _, _, _, _, none⟩) (v := ?v12) rfl (by kernel_rfl) (by kernel_rfl) (by kernel_rfl) (fun _ _ _ h => h) (Or.inl ⟨by rfl, ?hy12⟩) (by with_reducible assumption) ?rest12
            case hy12 => (intro V_ hSw; (try dsimp only at hSw); go_simp; (try with_reducible rfl))
            case' rest12 => skip
            try simp only [Act.put, List.setIfInBounds_toArray, List.set_cons_zero, List.set_cons_succ]
            refine wpAnyH_take (i := 3) (oi := ⟨some 61, _, _, _, _, none⟩) (v := ?v13) rfl (by kernel_rfl) (by kernel_rfl) (by kernel_rfl) (fun _ _ _ h => h) (Or.inl ⟨by rfl, ?hy13⟩) (by with_reducible assumption) ?rest13
            case hy13 => (intro V_ hSw; (try dsimp only at hSw); go_simp; (try with_reducible rfl))
            case' rest13 => skip
            try simp only [Act.put, List.setIfInBounds_toArray, List.set_cons_zero, List.set_cons_succ]
            refine wpAnyH_take (i := 4) (oi := ⟨some 62, _, _, _, _, none⟩) (v := ?v14) rfl (by kernel_rfl) (by kernel_rfl) (by kernel_rfl) (fun _ _ _ h => h) (Or.inl ⟨by rfl, ?hy14⟩) (by with_reducible assumption) ?rest14
            case hy14 => (intro V_ hSw; (try dsimp only at hSw); go_simp; (try with_reducible rfl))
            case' rest14 => skip
            try simp only [Act.put, List.setIfInBounds_toArray, List.set_cons_zero, List.set_cons_succ]
            refine wpAnyH_take (i := 5) (oi := ⟨some 63, _, _, _, _, none⟩) (v := ?v15) rfl (by kernel_rfl) (by kernel_rfl) (by kernel_rfl) (fun _ _ _ h => h) (Or.inl ⟨by rfl, ?hy15⟩) (by with_reducible assumption) ?rest15
            case hy15 => (intro V_ hSw; (try dsimp only at hSw); go_simp; (try with_reducible rfl))
            case' rest15 => skip
            try simp only [Act.put, List.setIfInBounds_toArray, List.set_cons_zero, List.set_cons_succ]
            refine wpAnyH_take (i := 7) (oi := ⟨some 65, _, _, _, _, none⟩) (v := ?v16) rfl (by kernel_rfl) (by kernel_rfl) (by kernel_rfl) (fun _ _ _ h => h) (Or.inl ⟨by rfl, ?hy16⟩) (by with_reducible assumption) ?rest16
            case hy16 => (intro V_ hSw; (try dsimp only at hSw); go_simp; (try with_reducible rfl))
            case' rest16 => skip
            try simp only [Act.put, List.setIfInBounds_toArray, List.set_cons_zero, List.set_cons_succ]
            refine wpAnyH_ready (rs := [6]) (by kernel_rfl) (by simp) ?_
            refine AllReadyH.cons (o := ⟨some 64, _, _, _, _, none⟩) rfl (fun K hK => ?_) ?_
            · go_simp
              refine (ck_reading c1 g1 _ SD.out.bx1).mono ?_
              rintro e we ⟨rfl, hb⟩
              have SE := Aside0.mk (SD.out.step hb)
              clear hb
              refine hK.out _ _ SE.out.bx3 (fun hHeld => ?_)
              clear hK K
              try simp only [Act.put, List.setIfInBounds_toArray, List.set_cons_zero, List.set_cons_succ]
              refine wpAnyH_take (i := 8) (oi := ⟨some 66, _, _, _, _, none⟩) (v := ?v18) rfl (by kernel_rfl) (by kernel_rfl) (by kernel_rfl) (fun _ _ _ h => h) (Or.inl ⟨by rfl, ?hy18⟩) (by with_reducible assumption) ?rest18
              case hy18 => (intro V_ hSw; (try dsimp only at hSw); go_simp; (try with_reducible rfl))
              case' rest18 => skip
              try simp only [Act.put, List.setIfInBounds_toArray, List.set_cons_zero, List.set_cons_succ]
              refine wpAnyH_ready (rs := [9]) (by kernel_rfl) (by simp) ?_
              refine AllReadyH.cons (o := ⟨some 67, _, _, _, _, none⟩) rfl (fun K hK => ?_) ?_
              · go_simp
                have hK_ := K6.set (by_ := by_) HQ.out.2.2.1 (show Bd (i : Int) R 1 from by have h3 := HBD.out.1; unfold Bd at h3 ⊢; omega) HB4.out
                have hc := ck_set c1 g1 (c1.r + by_) _ SE.out.bx1
                rw [hK_.1] at hc
                have HK2 := Aside0.mk hK_.2
                clear hK_
                generalize (c1.set (c1.r + by_)).1 = c' at hc HK2
                refine hc.mono ?_
                clear hc
                rintro e wf ⟨rfl, hl, hO⟩
                have SF := Aside0.mk (SE.out.chg1 hO hl)
                clear hl hO
                refine hK.out _ _ SF.out.bx3 (fun hHeld => ?_)
                clear hK K
                try simp only [Act.put, List.setIfInBounds_toArray, List.set_cons_zero, List.set_cons_succ]
                refine wpAnyH_take (i := 10) (oi := ⟨some 68, _, _, _, _, none⟩) (v := ?v17) rfl (by kernel_rfl) (by kernel_rfl) (by kernel_rfl) (fun _ _ _ h => h) (Or.inl ⟨by rfl, ?hy17⟩) (by with_reducible assumption) ?rest17
                case hy17 => (intro V_ hSw; (try dsimp only at hSw); go_simp; (try with_reducible rfl))
                case' rest17 => skip
                try simp only [Act.put, List.setIfInBounds_toArray, List.set_cons_zero, List.set_cons_succ]
                refine wpAnyH_done (by kernel_rfl) ?_ _
                refine NoPanic.normal ?_
                clear ra hHeld
                go_wp2_with fail
                go_roundg 2
                case measure => have h1 := HQ.out.1; omega
                case rel => exact ⟨c0, c', c2, SF, .inr (.inr (.inl (⟨rfl, ⟨rfl, HQ.out.2.1, HK2.out, HQ.out.2.2.2⟩⟩)))⟩
              exact AllReadyH.nil
            exact AllReadyH.nil
          · have hwr : IntKind.i64.wrap (c2.r + by_) = c2.r + by_ := by
              rw [i64_w]
              have h1 := HQ.out.2.2.2
              have h2 := HB4.out
              have h3 := HBD.out.1
              unfold K6 at h1
              unfold Bd at h3
              unfold Go.RowKit.wrap64
              omega
            go_upto_region 16 with fail
            have ra := fun (V : World) (h : V.heap[ga]? = some (.cells #[.pointer (some ⟨g0, 0, none⟩), .pointer (some ⟨g1, 0, none⟩), .pointer (some ⟨g2, 0, none⟩)] 24 (0, 0))) => (show V.cell? ⟨ga, 2, none⟩ = some (.pointer (some ⟨g2, 0, none⟩)) from (blk_cell h 2).trans rfl)
            refine wp_region_noPanic ?_
            have SD := Aside0.mk S.out.drew
            refine wp_region_held_drew (S := (fun V => V.heap[ga]? = some (.cells #[.pointer (some ⟨g0, 0, none⟩), .pointer (some ⟨g1, 0, none⟩), .pointer (some ⟨g2, 0, none⟩)] 24 (0, 0)))) (by kernel_rfl) SD.out.bx3 (fun hHeld => ?_)
            generalize hwd : World.drew _ = wd at hHeld SD ⊢
            clear hwd
            refine wpAnyH_take (i := 0) (oi := ⟨some 58, _, _, _, _, none⟩) (v := ?v19) rfl (by kernel_rfl) (by kernel_rfl) (by kernel_rfl) (fun _ _ _ h => h) (Or.inl ⟨by rfl, ?hy19⟩) (by with_reducible assumption) ?rest19
            case hy19 => (intro V_ hSw; (try dsimp only at hSw); go_simp; (try with_reducible rfl))
            case' rest19 => skip
            try simp only [Act.put, List.setIfInBounds_toArray, List.set_cons_zero, List.set_cons_succ]
            refine wpAnyH_take (i := 1) (oi := ⟨some 59, _, _, _, _, none⟩) (v := ?v20) rfl (by kernel_rfl) (by kernel_rfl) (by kernel_rfl) (fun _ _ _ h => h) (Or.inl ⟨by rfl, ?hy20⟩) (by with_reducible assumption) ?rest20
            case hy20 => (intro V_ hSw; (try dsimp only at hSw); go_simp; (try with_reducible rfl))
            case' rest20 => skip
            try simp only [Act.put, List.setIfInBounds_toArray, List.set_cons_zero, List.set_cons_succ]
            refine wpAnyH_take (i := 2) (oi := ⟨some 60, _, _, _, _, none⟩) (v := ?v21) rfl (by kernel_rfl) (by kernel_rfl) (by kernel_rfl) (fun _ _ _ h => h) (Or.inl ⟨by rfl, ?hy21⟩) (by with_reducible assumption) ?rest21
            case hy21 => (intro V_ hSw; (try dsimp only at hSw); go_simp; (try with_reducible rfl))
            case' rest21 => skip
            try simp only [Act.put, List.setIfInBounds_toArray, List.set_cons_zero, List.set_cons_succ]
            refine wpAnyH_take (i := 3) (oi := ⟨some 61, _, _, _, _, none⟩) (v := ?v22) rfl (by kernel_rfl) (by kernel_rfl) (by kernel_rfl) (fun _ _ _ h => h) (Or.inl ⟨by rfl, ?hy22⟩) (by with_reducible assumption) ?rest22
            case hy22 => (intro V_ hSw; (try dsimp only at hSw); go_simp; (try with_reducible rfl))
            case' rest22 => skip
            try simp only [Act.put, List.setIfInBounds_toArray, List.set_cons_zero, List.set_cons_succ]
            refine wpAnyH_take (i := 4) (oi := ⟨some 62, _, _, _, _, none⟩) (v := ?v23) rfl (by kernel_rfl) (by kernel_rfl) (by kernel_rfl) (fun _ _ _ h => h) (Or.inl ⟨by rfl, ?hy23⟩) (by with_reducible assumption) ?rest23
            case hy23 => (intro V_ hSw; (try dsimp only at hSw); go_simp; (try with_reducible rfl))
            case' rest23 => skip
            try simp only [Act.put, List.setIfInBounds_toArray, List.set_cons_zero, List.set_cons_succ]
            refine wpAnyH_take (i := 5) (oi := ⟨some 63, _, _, _, _, none⟩) (v := ?v24) rfl (by kernel_rfl) (by kernel_rfl) (by kernel_rfl) (fun _ _ _ h => h) (Or.inl ⟨by rfl, ?hy24⟩) (by with_reducible assumption) ?rest24
            case hy24 => (intro V_ hSw; (try dsimp only at hSw); go_simp; (try with_reducible rfl))
            case' rest24 => skip
            try simp only [Act.put, List.setIfInBounds_toArray, List.set_cons_zero, List.set_cons_succ]
            refine wpAnyH_take (i := 7) (oi := ⟨some 65, _, _, _, _, none⟩) (v := ?v25) rfl (by kernel_rfl) (by kernel_rfl) (by kernel_rfl) (fun _ _ _ h => h) (Or.inl ⟨by rfl, ?hy25⟩) (by with_reducible assumption) ?rest25
            case hy25 => (intro V_ hSw; (try dsimp only at hSw); go_simp; (try with_reducible rfl))
            case' rest25 => skip
            try simp only [Act.put, List.setIfInBounds_toArray, List.set_cons_zero, List.set_cons_succ]
            refine wpAnyH_ready (rs := [6]) (by kernel_rfl) (by simp) ?_
            refine AllReadyH.cons (o := ⟨some 64, _, _, _, _, none⟩) rfl (fun K hK => ?_) ?_
            · go_simp
              refine (ck_reading c2 g2 _ SD.out.bx0).mono ?_
              rintro e we ⟨rfl, hb⟩
              have SE := Aside0.mk (SD.out.step hb)
              clear hb
              refine hK.out _ _ SE.out.bx3 (fun hHeld => ?_)
              clear hK K
              try simp only [Act.put, List.setIfInBounds_toArray, List.set_cons_zero, List.set_cons_succ]
              refine wpAnyH_take (i := 8) (oi := ⟨some 66, _, _, _, _, none⟩) (v := ?v27) rfl (by kernel_rfl) (by kernel_rfl) (by kernel_rfl) (fun _ _ _ h => h) (Or.inl ⟨by rfl, ?hy27⟩) (by with_reducible assumption) ?rest27
              case hy27 => (intro V_ hSw; (try dsimp only at hSw); go_simp; (try with_reducible rfl))
              case' rest27 => skip
              try simp only [Act.put, List.setIfInBounds_toArray, List.set_cons_zero, List.set_cons_succ]
              refine wpAnyH_ready (rs := [9]) (by kernel_rfl) (by simp) ?_
              refine AllReadyH.cons (o := ⟨some 67, _, _, _, _, none⟩) rfl (fun K hK => ?_) ?_
              · go_simp
                have hK_ := K6.set (by_ := by_) HQ.out.2.2.2 (show Bd (i : Int) R 2 from by have h3 := HBD.out.1; unfold Bd at h3 ⊢; omega) HB4.out
                have hc := ck_set c2 g2 (c2.r + by_) _ SE.out.bx0
                rw [hK_.1] at hc
                have HK2 := Aside0.mk hK_.2
                clear hK_
                generalize (c2.set (c2.r + by_)).1 = c' at hc HK2
                refine hc.mono ?_
                clear hc
                rintro e wf ⟨rfl, hl, hO⟩
                have SF := Aside0.mk (SE.out.chg0 hO hl)
                clear hl hO
                refine hK.out _ _ SF.out.bx3 (fun hHeld => ?_)
                clear hK K
                try simp only [Act.put, List.setIfInBounds_toArray, List.set_cons_zero, List.set_cons_succ]
                refine wpAnyH_take (i := 10) (oi := ⟨some 68, _, _, _, _, none⟩) (v := ?v26) rfl (by kernel_rfl) (by kernel_rfl) (by kernel_rfl) (fun _ _ _ h => h) (Or.inl ⟨by rfl, ?hy26⟩) (by with_reducible assumption) ?rest26
                case hy26 => (intro V_ hSw; (try dsimp only at hSw); go_simp; (try with_reducible rfl))
                case' rest26 => skip
                try simp only [Act.put, List.setIfInBounds_toArray, List.set_cons_zero, List.set_cons_succ]
                refine wpAnyH_done (by kernel_rfl) ?_ _
                refine NoPanic.normal ?_
                clear ra hHeld
                go_wp2_with fail
                go_roundg 1
                case measure => have h1 := HQ.out.1; omega
                case rel => exact ⟨c0, c1, c', SF, .inr (.inr (.inr (⟨rfl, ⟨rfl, HQ.out.2.1, HQ.out.2.2.1, HK2.out⟩⟩)))⟩
              exact AllReadyH.nil
            exact AllReadyH.nil
          · go_upto_region 18 with fail
            go_cut [10, 11] (fun v10_ v11_ wc => ∃ (gs : Nat) (sw sl : Int) (c0 c1 c2 : Ck), v10_ = .pointer (some ⟨gs, 0, none⟩) ∧ v11_ = .int .i64 0 ∧ Aside0 (K6 ((i : Int) + 1) (R + by_) 0 c0 ∧ K6 ((i : Int) + 1) (R + by_) 1 c1 ∧ K6 ((i : Int) + 1) (R + by_) 2 c2) ∧ Aside0 (0 ≤ sw ∧ sw ≤ R + by_ + 10 ∧ 0 ≤ sl ∧ sl ≤ (i : Int) + 1) ∧ Aside0 (Bx w wc [(gs, #[.int .i64 sw, .int .i64 sl], 33), (g2, #[.int .i64 c2.o, .int .i64 c2.r, .int .i64 c2.f, .int .i64 c2.b, .int .i64 c2.w, .int .i64 c2.l, .bool true], 51), (g1, #[.int .i64 c1.o, .int .i64 c1.r, .int .i64 c1.f, .int .i64 c1.b, .int .i64 c1.w, .int .i64 c1.l, .bool true], 51), (g0, #[.int .i64 c0.o, .int .i64 c0.r, .int .i64 c0.f, .int .i64 c0.b, .int .i64 c0.w, .int .i64 c0.l, .bool true], 51), (ga, #[.pointer (some ⟨g0, 0, none⟩), .pointer (some ⟨g1, 0, none⟩), .pointer (some ⟨g2, 0, none⟩)], 24)]))
            case first =>
              have ht3 := HT3.out
              obtain rfl | rfl | rfl : t = 0 ∨ t = 1 ∨ t = 2 := by omega
              · clear ht3
                obtain ⟨x0, x1, x2⟩ := HLC.out _ S.out.below
                go_wp2_with fail
                refine (scriptoriumref00_Bring.calls d.f0 3 0 _ HT.out).mono ?_
                rintro e w2 ⟨rfl, hb⟩
                have S2 := Aside0.mk (S.out.step hb.below)
                clear hb x0 x1 x2
                have ya : w2.cell? ⟨ga, 0, none⟩ = some (.pointer (some ⟨g0, 0, none⟩)) := (blk_cell S2.out.bx3 0).trans rfl
                go_wp2_with fail
                have hbd : Bd (i : Int) (R + by_) 0 := by have h3 := HBD.out.2; unfold Bd at h3 ⊢; omega
                have hK_ := K6.now HQ.out.2.1 hbd
                have hc := ck_now c0 g0 w2 S2.out.bx2 (K6.ok HQ.out.2.1 hbd)
                rw [hK_.1] at hc
                have HK2 := Aside0.mk hK_.2.1
                have HS2 := Aside0.mk hK_.2.2
                clear hK_ hbd
                generalize c0.now.1 = c' at hc HK2
                generalize c0.now.2.1 = s at hc HS2
                obtain ⟨sw, sl⟩ := s
                refine hc.mono ?_
                clear hc
                rintro e w3 ⟨rfl, hl, hO⟩
                have S3 := Aside0.mk (S2.out.chg2 hO hl)
                clear hl hO ya
                go_wp2_with fail
                have hMA := S3.out.alloc #[.int .i64 sw, .int .i64 sl] 33
                generalize hwa : World.alloc w3 _ = w4 at hMA ⊢
                have S4 := Aside0.mk hMA
                clear hwa hMA
                go_wp2_with fail
                go_meet
                case rel => exact ⟨_, sw, sl, c', c1, c2, rfl, rfl, ⟨HK2.out, K6.up HQ.out.2.2.1, K6.up HQ.out.2.2.2⟩, HS2, S4⟩
              · clear ht3
                obtain ⟨x0, x1, x2⟩ := HLC.out _ S.out.below
                go_wp2_with fail
                refine (scriptoriumref00_Bring.calls d.f0 3 1 _ HT.out).mono ?_
                rintro e w2 ⟨rfl, hb⟩
                have S2 := Aside0.mk (S.out.step hb.below)
                clear hb x0 x1 x2
                have ya : w2.cell? ⟨ga, 1, none⟩ = some (.pointer (some ⟨g1, 0, none⟩)) := (blk_cell S2.out.bx3 1).trans rfl
                go_wp2_with fail
                have hbd : Bd (i : Int) (R + by_) 1 := by have h3 := HBD.out.2; unfold Bd at h3 ⊢; omega
                have hK_ := K6.now HQ.out.2.2.1 hbd
                have hc := ck_now c1 g1 w2 S2.out.bx1 (K6.ok HQ.out.2.2.1 hbd)
                rw [hK_.1] at hc
                have HK2 := Aside0.mk hK_.2.1
                have HS2 := Aside0.mk hK_.2.2
                clear hK_ hbd
                generalize c1.now.1 = c' at hc HK2
                generalize c1.now.2.1 = s at hc HS2
                obtain ⟨sw, sl⟩ := s
                refine hc.mono ?_
                clear hc
                rintro e w3 ⟨rfl, hl, hO⟩
                have S3 := Aside0.mk (S2.out.chg1 hO hl)
                clear hl hO ya
                go_wp2_with fail
                have hMA := S3.out.alloc #[.int .i64 sw, .int .i64 sl] 33
                generalize hwa : World.alloc w3 _ = w4 at hMA ⊢
                have S4 := Aside0.mk hMA
                clear hwa hMA
                go_wp2_with fail
                go_meet
                case rel => exact ⟨_, sw, sl, c0, c', c2, rfl, rfl, ⟨K6.up HQ.out.2.1, HK2.out, K6.up HQ.out.2.2.2⟩, HS2, S4⟩
              · clear ht3
                obtain ⟨x0, x1, x2⟩ := HLC.out _ S.out.below
                go_wp2_with fail
                refine (scriptoriumref00_Bring.calls d.f0 3 2 _ HT.out).mono ?_
                rintro e w2 ⟨rfl, hb⟩
                have S2 := Aside0.mk (S.out.step hb.below)
                clear hb x0 x1 x2
                have ya : w2.cell? ⟨ga, 2, none⟩ = some (.pointer (some ⟨g2, 0, none⟩)) := (blk_cell S2.out.bx3 2).trans rfl
                go_wp2_with fail
                have hbd : Bd (i : Int) (R + by_) 2 := by have h3 := HBD.out.2; unfold Bd at h3 ⊢; omega
                have hK_ := K6.now HQ.out.2.2.2 hbd
                have hc := ck_now c2 g2 w2 S2.out.bx0 (K6.ok HQ.out.2.2.2 hbd)
                rw [hK_.1] at hc
                have HK2 := Aside0.mk hK_.2.1
                have HS2 := Aside0.mk hK_.2.2
                clear hK_ hbd
                generalize c2.now.1 = c' at hc HK2
                generalize c2.now.2.1 = s at hc HS2
                obtain ⟨sw, sl⟩ := s
                refine hc.mono ?_
                clear hc
                rintro e w3 ⟨rfl, hl, hO⟩
                have S3 := Aside0.mk (S2.out.chg0 hO hl)
                clear hl hO ya
                go_wp2_with fail
                have hMA := S3.out.alloc #[.int .i64 sw, .int .i64 sl] 33
                generalize hwa : World.alloc w3 _ = w4 at hMA ⊢
                have S4 := Aside0.mk hMA
                clear hwa hMA
                go_wp2_with fail
                go_meet
                case rel => exact ⟨_, sw, sl, c0, c1, c', rfl, rfl, ⟨K6.up HQ.out.2.1, K6.up HQ.out.2.2.1, HK2.out⟩, HS2, S4⟩
            case rest =>
              clear S HQ
              obtain ⟨gs, sw, sl, c0, c1, c2, rfl, rfl, HKA, HSS, SA⟩ := hcut
              rename World => wa
              go_upto_region 19 with fail
              go_cut [12] (fun v12_ wc => ∃ (c0 c1 c2 : Ck), v12_ = .int .i64 0 ∧ Aside0 (K6 ((i : Int) + 1) (R + by_) 0 c0 ∧ K6 ((i : Int) + 1) (R + by_) 1 c1 ∧ K6 ((i : Int) + 1) (R + by_) 2 c2) ∧ Aside0 (Bx w wc [(gs, #[.int .i64 sw, .int .i64 sl], 33), (g2, #[.int .i64 c2.o, .int .i64 c2.r, .int .i64 c2.f, .int .i64 c2.b, .int .i64 c2.w, .int .i64 c2.l, .bool true], 51), (g1, #[.int .i64 c1.o, .int .i64 c1.r, .int .i64 c1.f, .int .i64 c1.b, .int .i64 c1.w, .int .i64 c1.l, .bool true], 51), (g0, #[.int .i64 c0.o, .int .i64 c0.r, .int .i64 c0.f, .int .i64 c0.b, .int .i64 c0.w, .int .i64 c0.l, .bool true], 51), (ga, #[.pointer (some ⟨g0, 0, none⟩), .pointer (some ⟨g1, 0, none⟩), .pointer (some ⟨g2, 0, none⟩)], 24)]))
              case first =>
                have hu3 := HU3.out
                obtain rfl | rfl | rfl : u = 0 ∨ u = 1 ∨ u = 2 := by omega
                · clear hu3
                  have ra := fun (V : World) (h : V.heap[ga]? = some (.cells #[.pointer (some ⟨g0, 0, none⟩), .pointer (some ⟨g1, 0, none⟩), .pointer (some ⟨g2, 0, none⟩)] 24 (0, 0))) => (show V.cell? ⟨ga, 0, none⟩ = some (.pointer (some ⟨g0, 0, none⟩)) from (blk_cell h 0).trans rfl)
                  have rs0 := fun (V : World) (h : V.heap[gs]? = some (.cells #[.int .i64 sw, .int .i64 sl] 33 (0, 0))) => (show V.cell? ⟨gs, 0, none⟩ = some (.int .i64 sw) from (blk_cell h 0).trans rfl)
                  have rs1 := fun (V : World) (h : V.heap[gs]? = some (.cells #[.int .i64 sw, .int .i64 sl] 33 (0, 0))) => (show V.cell? ⟨gs, 1, none⟩ = some (.int .i64 sl) from (blk_cell h 1).trans rfl)
                  refine wp_region_noPanic ?_
                  have SD := Aside0.mk SA.out.drew
                  refine wp_region_held_drew (S := (fun V => V.heap[ga]? = some (.cells #[.pointer (some ⟨g0, 0, none⟩), .pointer (some ⟨g1, 0, none⟩), .pointer (some ⟨g2, 0, none⟩)] 24 (0, 0)) ∧ V.heap[gs]? = some (.cells #[.int .i64 sw, .int .i64 sl] 33 (0, 0)) ∧ V.cell? ⟨(ad.add (i * 3)).block, (ad.add (i * 3)).off + 1, none⟩ = some (.int .i64 d.f1))) (by kernel_rfl) ⟨SD.out.bx4, SD.out.bx0, (HLC.out _ SD.out.below).2.1⟩ (fun hHeld => ?_)
                  generalize hwd : World.drew _ = wd at hHeld SD ⊢
                  clear hwd
                  refine wpAnyH_take (i := 0) (oi := ⟨some 81, _, _, _, _, none⟩) (v := ?v28) rfl (by kernel_rfl) (by kernel_rfl) (by kernel_rfl) (fun _ _ _ h => h) (Or.inl ⟨by rfl, ?hy28⟩) (by with_reducible assumption) ?rest28
                  case hy28 => (intro V_ hSw; (try dsimp only at hSw); go_simp; (try with_reducible rfl))
                  case' rest28 => skip
                  try simp only [Act.put, List.setIfInBounds_toArray, List.set_cons_zero, List.set_cons_succ]
                  refine wpAnyH_take (i := 1) (oi := ⟨some 82, _, _, _, _, none⟩) (v := ?v29) rfl (by kernel_rfl) (by kernel_rfl) (by kernel_rfl) (fun _ _ _ h => h) (Or.inl ⟨by rfl, ?hy29⟩) (by with_reducible assumption) ?rest29
                  case hy29 => (intro V_ hSw; (try dsimp only at hSw); go_simp; (try with_reducible rfl))
                  case' rest29 => skip
                  try simp only [Act.put, List.setIfInBounds_toArray, List.set_cons_zero, List.set_cons_succ]
                  refine wpAnyH_take (i := 2) (oi := ⟨some 83, _, _, _, _, none⟩) (v := ?v30) rfl (by kernel_rfl) (by kernel_rfl) (by kernel_rfl) (fun _ _ _ h => h) (Or.inl ⟨by rfl, ?hy30⟩) (by with_reducible assumption) ?rest30
                  case hy30 => (intro V_ hSw; (try dsimp only at hSw); go_simp; (try with_reducible rfl))
                  case' rest30 => skip
                  try simp only [Act.put, List.setIfInBounds_toArray, List.set_cons_zero, List.set_cons_succ]
                  refine wpAnyH_take (i := 3) (oi := ⟨some 84, _, _, _, _, none⟩) (v := ?v31) rfl (by kernel_rfl) (by kernel_rfl) (by kernel_rfl) (fun _ _ _ h => h) (Or.inl ⟨by rfl, ?hy31⟩) (by with_reducible assumption) ?rest31
                  case hy31 => (intro V_ hSw; (try dsimp only at hSw); go_simp; (try with_reducible rfl))
                  case' rest31 => skip
                  try simp only [Act.put, List.setIfInBounds_toArray, List.set_cons_zero, List.set_cons_succ]
                  refine wpAnyH_take (i := 4) (oi := ⟨some 85, _, _, _, _, none⟩) (v := ?v32) rfl (by kernel_rfl) (by kernel_rfl) (by kernel_rfl) (fun _ _ _ h => h) (Or.inl ⟨by rfl, ?hy32⟩) (by with_reducible assumption) ?rest32
                  case hy32 => (intro V_ hSw; (try dsimp only at hSw); go_simp; (try with_reducible rfl))
                  case' rest32 => skip
                  try simp only [Act.put, List.setIfInBounds_toArray, List.set_cons_zero, List.set_cons_succ]
                  refine wpAnyH_take (i := 8) (oi := ⟨some 89, _, _, _, _, none⟩) (v := ?v33) rfl (by kernel_rfl) (by kernel_rfl) (by kernel_rfl) (fun _ _ _ h => h) (Or.inl ⟨by rfl, ?hy33⟩) (by with_reducible assumption) ?rest33
                  case hy33 => (intro V_ hSw; (try dsimp only at hSw); go_simp; (try with_reducible rfl))
                  case' rest33 => skip
                  try simp only [Act.put, List.setIfInBounds_toArray, List.set_cons_zero, List.set_cons_succ]
                  refine wpAnyH_ready (rs := [5]) (by kernel_rfl) (by simp) ?_
                  refine AllReadyH.cons (o := ⟨some 86, _, _, _, _, none⟩) rfl (fun K hK => ?_) ?_
                  · go_simp
                    refine (scriptoriumref00_Bring.calls d.f1 3 0 _ HU.out).mono ?_
                    rintro e we ⟨rfl, hb⟩
                    have SE := Aside0.mk (SD.out.step hb.below)
                    clear hb
                    refine hK.out _ _ ⟨SE.out.bx4, SE.out.bx0, (HLC.out _ SE.out.below).2.1⟩ (fun hHeld => ?_)
                    clear hK K
                    try simp only [Act.put, List.setIfInBounds_toArray, List.set_cons_zero, List.set_cons_succ]
                    refine wpAnyH_take (i := 6) (oi := ⟨some 87, _, _, _, _, none⟩) (v := ?v35) rfl (by kernel_rfl) (by kernel_rfl) (by kernel_rfl) (fun _ _ _ h => h) (Or.inl ⟨by rfl, ?hy35⟩) (by with_reducible assumption) ?rest35
                    case hy35 => (intro V_ hSw; (try dsimp only at hSw); go_simp; (try with_reducible rfl))
                    case' rest35 => skip
                    try simp only [Act.put, List.setIfInBounds_toArray, List.set_cons_zero, List.set_cons_succ]
                    refine wpAnyH_take (i := 7) (oi := ⟨some 88, _, _, _, _, none⟩) (v := ?v36) rfl (by kernel_rfl) (by kernel_rfl) (by kernel_rfl) (fun _ _ _ h => h) (Or.inl ⟨by rfl, ?hy36⟩) (by with_reducible assumption) ?rest36
                    case hy36 => (intro V_ hSw; (try dsimp only at hSw); go_simp; (try with_reducible rfl))
                    case' rest36 => skip
                    try simp only [Act.put, List.setIfInBounds_toArray, List.set_cons_zero, List.set_cons_succ]
                    refine wpAnyH_ready (rs := [9]) (by kernel_rfl) (by simp) ?_
                    refine AllReadyH.cons (o := ⟨some 90, _, _, _, _, none⟩) rfl (fun K hK => ?_) ?_
                    · go_simp
                      have hbd : Bd ((i : Int) + 1) (R + by_) 0 := by have h3 := HBD.out.2; unfold Bd at h3 ⊢; omega
                      have hK_ := K6.see HKA.out.1 hbd HSS.out
                      have hc := ck_see c0 g0 sw sl _ SE.out.bx3 (K6.ok HKA.out.1 hbd)
                      rw [hK_.1] at hc
                      have HK2 := Aside0.mk hK_.2
                      clear hK_ hbd
                      generalize (c0.see sw sl).1 = c' at hc HK2
                      refine hc.mono ?_
                      clear hc
                      rintro e wf ⟨rfl, hl, hO⟩
                      have SF := Aside0.mk (SE.out.chg3 hO hl)
                      clear hl hO
                      refine hK.out _ _ ⟨SF.out.bx4, SF.out.bx0, (HLC.out _ SF.out.below).2.1⟩ (fun hHeld => ?_)
                      clear hK K
                      try simp only [Act.put, List.setIfInBounds_toArray, List.set_cons_zero, List.set_cons_succ]
                      refine wpAnyH_take (i := 10) (oi := ⟨some 12, _, _, _, _, none⟩) (v := ?v34) rfl (by kernel_rfl) (by kernel_rfl) (by kernel_rfl) (fun _ _ _ h => h) (Or.inl ⟨by rfl, ?hy34⟩) (by with_reducible assumption) ?rest34
                      case hy34 => (intro V_ hSw; (try dsimp only at hSw); go_simp; (try with_reducible rfl))
                      case' rest34 => skip
                      try simp only [Act.put, List.setIfInBounds_toArray, List.set_cons_zero, List.set_cons_succ]
                      refine wpAnyH_done (by kernel_rfl) ?_ _
                      refine NoPanic.normal ?_
                      go_wp2_with fail
                      go_meet
                      case rel => exact ⟨c', c1, c2, rfl, ⟨HK2.out, HKA.out.2.1, HKA.out.2.2⟩, SF⟩
                    exact AllReadyH.nil
                  exact AllReadyH.nil
                · clear hu3
                  have ra := fun (V : World) (h : V.heap[ga]? = some (.cells #[.pointer (some ⟨g0, 0, none⟩), .pointer (some ⟨g1, 0, none⟩), .pointer (some ⟨g2, 0, none⟩)] 24 (0, 0))) => (show V.cell? ⟨ga, 1, none⟩ = some (.pointer (some ⟨g1, 0, none⟩)) from (blk_cell h 1).trans rfl)
                  have rs0 := fun (V : World) (h : V.heap[gs]? = some (.cells #[.int .i64 sw, .int .i64 sl] 33 (0, 0))) => (show V.cell? ⟨gs, 0, none⟩ = some (.int .i64 sw) from (blk_cell h 0).trans rfl)
                  have rs1 := fun (V : World) (h : V.heap[gs]? = some (.cells #[.int .i64 sw, .int .i64 sl] 33 (0, 0))) => (show V.cell? ⟨gs, 1, none⟩ = some (.int .i64 sl) from (blk_cell h 1).trans rfl)
                  refine wp_region_noPanic ?_
                  have SD := Aside0.mk SA.out.drew
                  refine wp_region_held_drew (S := (fun V => V.heap[ga]? = some (.cells #[.pointer (some ⟨g0, 0, none⟩), .pointer (some ⟨g1, 0, none⟩), .pointer (some ⟨g2, 0, none⟩)] 24 (0, 0)) ∧ V.heap[gs]? = some (.cells #[.int .i64 sw, .int .i64 sl] 33 (0, 0)) ∧ V.cell? ⟨(ad.add (i * 3)).block, (ad.add (i * 3)).off + 1, none⟩ = some (.int .i64 d.f1))) (by kernel_rfl) ⟨SD.out.bx4, SD.out.bx0, (HLC.out _ SD.out.below).2.1⟩ (fun hHeld => ?_)
                  generalize hwd : World.drew _ = wd at hHeld SD ⊢
                  clear hwd
                  refine wpAnyH_take (i := 0) (oi := ⟨some 81, _, _, _, _, none⟩) (v := ?v37) rfl (by kernel_rfl) (by kernel_rfl) (by kernel_rfl) (fun _ _ _ h => h) (Or.inl ⟨by rfl, ?hy37⟩) (by with_reducible assumption) ?rest37
                  case hy37 => (intro V_ hSw; (try dsimp only at hSw); go_simp; (try with_reducible rfl))
                  case' rest37 => skip
                  try simp only [Act.put, List.setIfInBounds_toArray, List.set_cons_zero, List.set_cons_succ]
                  refine wpAnyH_take (i := 1) (oi := ⟨some 82, _, _, _, _, none⟩) (v := ?v38) rfl (by kernel_rfl) (by kernel_rfl) (by kernel_rfl) (fun _ _ _ h => h) (Or.inl ⟨by rfl, ?hy38⟩) (by with_reducible assumption) ?rest38
                  case hy38 => (intro V_ hSw; (try dsimp only at hSw); go_simp; (try with_reducible rfl))
                  case' rest38 => skip
                  try simp only [Act.put, List.setIfInBounds_toArray, List.set_cons_zero, List.set_cons_succ]
                  refine wpAnyH_take (i := 2) (oi := ⟨some 83, _, _, _, _, none⟩) (v := ?v39) rfl (by kernel_rfl) (by kernel_rfl) (by kernel_rfl) (fun _ _ _ h => h) (Or.inl ⟨by rfl, ?hy39⟩) (by with_reducible assumption) ?rest39
                  case hy39 => (intro V_ hSw; (try dsimp only at hSw); go_simp; (try with_reducible rfl))
                  case' rest39 => skip
                  try simp only [Act.put, List.setIfInBounds_toArray, List.set_cons_zero, List.set_cons_succ]
                  refine wpAnyH_take (i := 3) (oi := ⟨some 84, _, _, _, _, none⟩) (v := ?v40) rfl (by kernel_rfl) (by kernel_rfl) (by kernel_rfl) (fun _ _ _ h => h) (Or.inl ⟨by rfl, ?hy40⟩) (by with_reducible assumption) ?rest40
                  case hy40 => (intro V_ hSw; (try dsimp only at hSw); go_simp; (try with_reducible rfl))
                  case' rest40 => skip
                  try simp only [Act.put, List.setIfInBounds_toArray, List.set_cons_zero, List.set_cons_succ]
                  refine wpAnyH_take (i := 4) (oi := ⟨some 85, _, _, _, _, none⟩) (v := ?v41) rfl (by kernel_rfl) (by kernel_rfl) (by kernel_rfl) (fun _ _ _ h => h) (Or.inl ⟨by rfl, ?hy41⟩) (by with_reducible assumption) ?rest41
                  case hy41 => (intro V_ hSw; (try dsimp only at hSw); go_simp; (try with_reducible rfl))
                  case' rest41 => skip
                  try simp only [Act.put, List.setIfInBounds_toArray, List.set_cons_zero, List.set_cons_succ]
                  refine wpAnyH_take (i := 8) (oi := ⟨some 89, _, _, _, _, none⟩) (v := ?v42) rfl (by kernel_rfl) (by kernel_rfl) (by kernel_rfl) (fun _ _ _ h => h) (Or.inl ⟨by rfl, ?hy42⟩) (by with_reducible assumption) ?rest42
                  case hy42 => (intro V_ hSw; (try dsimp only at hSw); go_simp; (try with_reducible rfl))
                  case' rest42 => skip
                  try simp only [Act.put, List.setIfInBounds_toArray, List.set_cons_zero, List.set_cons_succ]
                  refine wpAnyH_ready (rs := [5]) (by kernel_rfl) (by simp) ?_
                  refine AllReadyH.cons (o := ⟨some 86, _, _, _, _, none⟩) rfl (fun K hK => ?_) ?_
                  · go_simp
                    refine (scriptoriumref00_Bring.calls d.f1 3 1 _ HU.out).mono ?_
                    rintro e we ⟨rfl, hb⟩
                    have SE := Aside0.mk (SD.out.step hb.below)
                    clear hb
                    refine hK.out _ _ ⟨SE.out.bx4, SE.out.bx0, (HLC.out _ SE.out.below).2.1⟩ (fun hHeld => ?_)
                    clear hK K
                    try simp only [Act.put, List.setIfInBounds_toArray, List.set_cons_zero, List.set_cons_succ]
                    refine wpAnyH_take (i := 6) (oi := ⟨some 87, _, _, _, _, none⟩) (v := ?v44) rfl (by kernel_rfl) (by kernel_rfl) (by kernel_rfl) (fun _ _ _ h => h) (Or.inl ⟨by rfl, ?hy44⟩) (by with_reducible assumption) ?rest44
                    case hy44 => (intro V_ hSw; (try dsimp only at hSw); go_simp; (try with_reducible rfl))
                    case' rest44 => skip
                    try simp only [Act.put, List.setIfInBounds_toArray, List.set_cons_zero, List.set_cons_succ]
                    refine wpAnyH_take (i := 7) (oi := ⟨some 88, _, _, _, _, none⟩) (v := ?v45) rfl (by kernel_rfl) (by kernel_rfl) (by kernel_rfl) (fun _ _ _ h => h) (Or.inl ⟨by rfl, ?hy45⟩) (by with_reducible assumption) ?rest45
                    case hy45 => (intro V_ hSw; (try dsimp only at hSw); go_simp; (try with_reducible rfl))
                    case' rest45 => skip
                    try simp only [Act.put, List.setIfInBounds_toArray, List.set_cons_zero, List.set_cons_succ]
                    refine wpAnyH_ready (rs := [9]) (by kernel_rfl) (by simp) ?_
                    refine AllReadyH.cons (o := ⟨some 90, _, _, _, _, none⟩) rfl (fun K hK => ?_) ?_
                    · go_simp
                      have hbd : Bd ((i : Int) + 1) (R + by_) 1 := by have h3 := HBD.out.2; unfold Bd at h3 ⊢; omega
                      have hK_ := K6.see HKA.out.2.1 hbd HSS.out
                      have hc := ck_see c1 g1 sw sl _ SE.out.bx2 (K6.ok HKA.out.2.1 hbd)
                      rw [hK_.1] at hc
                      have HK2 := Aside0.mk hK_.2
                      clear hK_ hbd
                      generalize (c1.see sw sl).1 = c' at hc HK2
                      refine hc.mono ?_
                      clear hc
                      rintro e wf ⟨rfl, hl, hO⟩
                      have SF := Aside0.mk (SE.out.chg2 hO hl)
                      clear hl hO
                      refine hK.out _ _ ⟨SF.out.bx4, SF.out.bx0, (HLC.out _ SF.out.below).2.1⟩ (fun hHeld => ?_)
                      clear hK K
                      try simp only [Act.put, List.setIfInBounds_toArray, List.set_cons_zero, List.set_cons_succ]
                      refine wpAnyH_take (i := 10) (oi := ⟨some 12, _, _, _, _, none⟩) (v := ?v43) rfl (by kernel_rfl) (by kernel_rfl) (by kernel_rfl) (fun _ _ _ h => h) (Or.inl ⟨by rfl, ?hy43⟩) (by with_reducible assumption) ?rest43
                      case hy43 => (intro V_ hSw; (try dsimp only at hSw); go_simp; (try with_reducible rfl))
                      case' rest43 => skip
                      try simp only [Act.put, List.setIfInBounds_toArray, List.set_cons_zero, List.set_cons_succ]
                      refine wpAnyH_done (by kernel_rfl) ?_ _
                      refine NoPanic.normal ?_
                      go_wp2_with fail
                      go_meet
                      case rel => exact ⟨c0, c', c2, rfl, ⟨HKA.out.1, HK2.out, HKA.out.2.2⟩, SF⟩
                    exact AllReadyH.nil
                  exact AllReadyH.nil
                · clear hu3
                  have ra := fun (V : World) (h : V.heap[ga]? = some (.cells #[.pointer (some ⟨g0, 0, none⟩), .pointer (some ⟨g1, 0, none⟩), .pointer (some ⟨g2, 0, none⟩)] 24 (0, 0))) => (show V.cell? ⟨ga, 2, none⟩ = some (.pointer (some ⟨g2, 0, none⟩)) from (blk_cell h 2).trans rfl)
                  have rs0 := fun (V : World) (h : V.heap[gs]? = some (.cells #[.int .i64 sw, .int .i64 sl] 33 (0, 0))) => (show V.cell? ⟨gs, 0, none⟩ = some (.int .i64 sw) from (blk_cell h 0).trans rfl)
                  have rs1 := fun (V : World) (h : V.heap[gs]? = some (.cells #[.int .i64 sw, .int .i64 sl] 33 (0, 0))) => (show V.cell? ⟨gs, 1, none⟩ = some (.int .i64 sl) from (blk_cell h 1).trans rfl)
                  refine wp_region_noPanic ?_
                  have SD := Aside0.mk SA.out.drew
                  refine wp_region_held_drew (S := (fun V => V.heap[ga]? = some (.cells #[.pointer (some ⟨g0, 0, none⟩), .pointer (some ⟨g1, 0, none⟩), .pointer (some ⟨g2, 0, none⟩)] 24 (0, 0)) ∧ V.heap[gs]? = some (.cells #[.int .i64 sw, .int .i64 sl] 33 (0, 0)) ∧ V.cell? ⟨(ad.add (i * 3)).block, (ad.add (i * 3)).off + 1, none⟩ = some (.int .i64 d.f1))) (by kernel_rfl) ⟨SD.out.bx4, SD.out.bx0, (HLC.out _ SD.out.below).2.1⟩ (fun hHeld => ?_)
                  generalize hwd : World.drew _ = wd at hHeld SD ⊢
                  clear hwd
                  refine wpAnyH_take (i := 0) (oi := ⟨some 81, _, _, _, _, none⟩) (v := ?v46) rfl (by kernel_rfl) (by kernel_rfl) (by kernel_rfl) (fun _ _ _ h => h) (Or.inl ⟨by rfl, ?hy46⟩) (by with_reducible assumption) ?rest46
                  case hy46 => (intro V_ hSw; (try dsimp only at hSw); go_simp; (try with_reducible rfl))
                  case' rest46 => skip
                  try simp only [Act.put, List.setIfInBounds_toArray, List.set_cons_zero, List.set_cons_succ]
                  refine wpAnyH_take (i := 1) (oi := ⟨some 82, _, _, _, _, none⟩) (v := ?v47) rfl (by kernel_rfl) (by kernel_rfl) (by kernel_rfl) (fun _ _ _ h => h) (Or.inl ⟨by rfl, ?hy47⟩) (by with_reducible assumption) ?rest47
                  case hy47 => (intro V_ hSw; (try dsimp only at hSw); go_simp; (try with_reducible rfl))
                  case' rest47 => skip
                  try simp only [Act.put, List.setIfInBounds_toArray, List.set_cons_zero, List.set_cons_succ]
                  refine wpAnyH_take (i := 2) (oi := ⟨some 83, _, _, _, _, none⟩) (v := ?v48) rfl (by kernel_rfl) (by kernel_rfl) (by kernel_rfl) (fun _ _ _ h => h) (Or.inl ⟨by rfl, ?hy48⟩) (by with_reducible assumption) ?rest48
                  case hy48 => (intro V_ hSw; (try dsimp only at hSw); go_simp; (try with_reducible rfl))
                  case' rest48 => skip
                  try simp only [Act.put, List.setIfInBounds_toArray, List.set_cons_zero, List.set_cons_succ]
                  refine wpAnyH_take (i := 3) (oi := ⟨some 84, _, _, _, _, none⟩) (v := ?v49) rfl (by kernel_rfl) (by kernel_rfl) (by kernel_rfl) (fun _ _ _ h => h) (Or.inl ⟨by rfl, ?hy49⟩) (by with_reducible assumption) ?rest49
                  case hy49 => (intro V_ hSw; (try dsimp only at hSw); go_simp; (try with_reducible rfl))
                  case' rest49 => skip
                  try simp only [Act.put, List.setIfInBounds_toArray, List.set_cons_zero, List.set_cons_succ]
                  refine wpAnyH_take (i := 4) (oi := ⟨some 85, _, _, _, _, none⟩) (v := ?v50) rfl (by kernel_rfl) (by kernel_rfl) (by kernel_rfl) (fun _ _ _ h => h) (Or.inl ⟨by rfl, ?hy50⟩) (by with_reducible assumption) ?rest50
                  case hy50 => (intro V_ hSw; (try dsimp only at hSw); go_simp; (try with_reducible rfl))
                  case' rest50 => skip
                  try simp only [Act.put, List.setIfInBounds_toArray, List.set_cons_zero, List.set_cons_succ]
                  refine wpAnyH_take (i := 8) (oi := ⟨some 89, _, _, _, _, none⟩) (v := ?v51) rfl (by kernel_rfl) (by kernel_rfl) (by kernel_rfl) (fun _ _ _ h => h) (Or.inl ⟨by rfl, ?hy51⟩) (by with_reducible assumption) ?rest51
                  case hy51 => (intro V_ hSw; (try dsimp only at hSw); go_simp; (try with_reducible rfl))
                  case' rest51 => skip
                  try simp only [Act.put, List.setIfInBounds_toArray, List.set_cons_zero, List.set_cons_succ]
                  refine wpAnyH_ready (rs := [5]) (by kernel_rfl) (by simp) ?_
                  refine AllReadyH.cons (o := ⟨some 86, _, _, _, _, none⟩) rfl (fun K hK => ?_) ?_
                  · go_simp
                    refine (scriptoriumref00_Bring.calls d.f1 3 2 _ HU.out).mono ?_
                    rintro e we ⟨rfl, hb⟩
                    have SE := Aside0.mk (SD.out.step hb.below)
                    clear hb
                    refine hK.out _ _ ⟨SE.out.bx4, SE.out.bx0, (HLC.out _ SE.out.below).2.1⟩ (fun hHeld => ?_)
                    clear hK K
                    try simp only [Act.put, List.setIfInBounds_toArray, List.set_cons_zero, List.set_cons_succ]
                    refine wpAnyH_take (i := 6) (oi := ⟨some 87, _, _, _, _, none⟩) (v := ?v53) rfl (by kernel_rfl) (by kernel_rfl) (by kernel_rfl) (fun _ _ _ h => h) (Or.inl ⟨by rfl, ?hy53⟩) (by with_reducible assumption) ?rest53
                    case hy53 => (intro V_ hSw; (try dsimp only at hSw); go_simp; (try with_reducible rfl))
                    case' rest53 => skip
                    try simp only [Act.put, List.setIfInBounds_toArray, List.set_cons_zero, List.set_cons_succ]
                    refine wpAnyH_take (i := 7) (oi := ⟨some 88, _, _, _, _, none⟩) (v := ?v54) rfl (by kernel_rfl) (by kernel_rfl) (by kernel_rfl) (fun _ _ _ h => h) (Or.inl ⟨by rfl, ?hy54⟩) (by with_reducible assumption) ?rest54
                    case hy54 => (intro V_ hSw; (try dsimp only at hSw); go_simp; (try with_reducible rfl))
                    case' rest54 => skip
                    try simp only [Act.put, List.setIfInBounds_toArray, List.set_cons_zero, List.set_cons_succ]
                    refine wpAnyH_ready (rs := [9]) (by kernel_rfl) (by simp) ?_
                    refine AllReadyH.cons (o := ⟨some 90, _, _, _, _, none⟩) rfl (fun K hK => ?_) ?_
                    · go_simp
                      have hbd : Bd ((i : Int) + 1) (R + by_) 2 := by have h3 := HBD.out.2; unfold Bd at h3 ⊢; omega
                      have hK_ := K6.see HKA.out.2.2 hbd HSS.out
                      have hc := ck_see c2 g2 sw sl _ SE.out.bx1 (K6.ok HKA.out.2.2 hbd)
                      rw [hK_.1] at hc
                      have HK2 := Aside0.mk hK_.2
                      clear hK_ hbd
                      generalize (c2.see sw sl).1 = c' at hc HK2
                      refine hc.mono ?_
                      clear hc
                      rintro e wf ⟨rfl, hl, hO⟩
                      have SF := Aside0.mk (SE.out.chg1 hO hl)
                      clear hl hO
                      refine hK.out _ _ ⟨SF.out.bx4, SF.out.bx0, (HLC.out _ SF.out.below).2.1⟩ (fun hHeld => ?_)
                      clear hK K
                      try simp only [Act.put, List.setIfInBounds_toArray, List.set_cons_zero, List.set_cons_succ]
                      refine wpAnyH_take (i := 10) (oi := ⟨some 12, _, _, _, _, none⟩) (v := ?v52) rfl (by kernel_rfl) (by kernel_rfl) (by kernel_rfl) (fun _ _ _ h => h) (Or.inl ⟨by rfl, ?hy52⟩) (by with_reducible assumption) ?rest52
                      case hy52 => (intro V_ hSw; (try dsimp only at hSw); go_simp; (try with_reducible rfl))
                      case' rest52 => skip
                      try simp only [Act.put, List.setIfInBounds_toArray, List.set_cons_zero, List.set_cons_succ]
                      refine wpAnyH_done (by kernel_rfl) ?_ _
                      refine NoPanic.normal ?_
                      go_wp2_with fail
                      go_meet
                      case rel => exact ⟨c0, c1, c', rfl, ⟨HKA.out.1, HKA.out.2.1, HK2.out⟩, SF⟩
                    exact AllReadyH.nil
                  exact AllReadyH.nil
              case rest =>
                clear HKA SA
                obtain ⟨c0, c1, c2, rfl, HKB, SB⟩ := hcut
                rename World => wb
                go_upto_region 20 with fail
                have ra := fun (V : World) (h : V.heap[ga]? = some (.cells #[.pointer (some ⟨g0, 0, none⟩), .pointer (some ⟨g1, 0, none⟩), .pointer (some ⟨g2, 0, none⟩)] 24 (0, 0))) => (show V.cell? ⟨ga, 2, none⟩ = some (.pointer (some ⟨g2, 0, none⟩)) from (blk_cell h 2).trans rfl)
                have rs0 := fun (V : World) (h : V.heap[gs]? = some (.cells #[.int .i64 sw, .int .i64 sl] 33 (0, 0))) => (show V.cell? ⟨gs, 0, none⟩ = some (.int .i64 sw) from (blk_cell h 0).trans rfl)
                have rs1 := fun (V : World) (h : V.heap[gs]? = some (.cells #[.int .i64 sw, .int .i64 sl] 33 (0, 0))) => (show V.cell? ⟨gs, 1, none⟩ = some (.int .i64 sl) from (blk_cell h 1).trans rfl)
                have dgt : decide (c2.r < sw) = false := decide_eq_false (by have h1 := HKB.out.2.2; have h2 := HSS.out; unfold K6 at h1; omega)
                refine wp_region_noPanic ?_
                have SD := Aside0.mk SB.out.drew
                refine wp_region_held_drew (S := (fun V => V.heap[ga]? = some (.cells #[.pointer (some ⟨g0, 0, none⟩), .pointer (some ⟨g1, 0, none⟩), .pointer (some ⟨g2, 0, none⟩)] 24 (0, 0)) ∧ V.heap[gs]? = some (.cells #[.int .i64 sw, .int .i64 sl] 33 (0, 0)))) (by kernel_rfl) ⟨SD.out.bx4, SD.out.bx0⟩ (fun hHeld => ?_)
                generalize hwd : World.drew _ = wd at hHeld SD ⊢
                clear hwd
                refine wpAnyH_take (i := 0) (oi := ⟨some 91, _, _, _, _, none⟩) (v := ?v55) rfl (by kernel_rfl) (by kernel_rfl) (by kernel_rfl) (fun _ _ _ h => h) (Or.inl ⟨by rfl, ?hy55⟩) (by with_reducible assumption) ?rest55
                case hy55 => (intro V_ hSw; (try dsimp only at hSw); go_simp; (try with_reducible rfl))
                case' rest55 => skip
                try simp only [Act.put, List.setIfInBounds_toArray, List.set_cons_zero, List.set_cons_succ]
                refine wpAnyH_take (i := 1) (oi := ⟨some 92, _, _, _, _, none⟩) (v := ?v56) rfl (by kernel_rfl) (by kernel_rfl) (by kernel_rfl) (fun _ _ _ h => h) (Or.inl ⟨by rfl, ?hy56⟩) (by with_reducible assumption) ?rest56
                case hy56 => (intro V_ hSw; (try dsimp only at hSw); go_simp; (try with_reducible rfl))
                case' rest56 => skip
                try simp only [Act.put, List.setIfInBounds_toArray, List.set_cons_zero, List.set_cons_succ]
                refine wpAnyH_take (i := 2) (oi := ⟨some 93, _, _, _, _, none⟩) (v := ?v57) rfl (by kernel_rfl) (by kernel_rfl) (by kernel_rfl) (fun _ _ _ h => h) (Or.inl ⟨by rfl, ?hy57⟩) (by with_reducible assumption) ?rest57
                case hy57 => (intro V_ hSw; (try dsimp only at hSw); go_simp; (try with_reducible rfl))
                case' rest57 => skip
                try simp only [Act.put, List.setIfInBounds_toArray, List.set_cons_zero, List.set_cons_succ]
                refine wpAnyH_take (i := 3) (oi := ⟨some 94, _, _, _, _, some (2, false)⟩) (v := ?v58) rfl (by kernel_rfl) (by kernel_rfl) (by kernel_rfl) (fun _ _ _ h => h) (Or.inl ⟨by rfl, ?hy58⟩) (by with_reducible assumption) ?rest58
                case hy58 => (intro V_ hSw; (try dsimp only at hSw); go_simp; (try with_reducible rfl))
                case' rest58 => skip
                try simp only [Act.put, List.setIfInBounds_toArray, List.set_cons_zero, List.set_cons_succ]
                refine wpAnyH_take (i := 4) (oi := ⟨some 95, _, _, _, _, some (2, false)⟩) (v := ?v59) rfl (by kernel_rfl) (by kernel_rfl) (by kernel_rfl) (fun _ _ _ h => h) (Or.inl ⟨by rfl, ?hy59⟩) (by with_reducible assumption) ?rest59
                case hy59 => (intro V_ hSw; (try dsimp only at hSw); go_simp; (try with_reducible rfl))
                case' rest59 => skip
                try simp only [Act.put, List.setIfInBounds_toArray, List.set_cons_zero, List.set_cons_succ]
                refine wpAnyH_take (i := 5) (oi := ⟨some 96, _, _, _, _, none⟩) (v := ?v60) rfl (by kernel_rfl) (by kernel_rfl) (by kernel_rfl) (fun _ _ _ h => h) (Or.inl ⟨by rfl, ?hy60⟩) (by with_reducible assumption) ?rest60
                case hy60 => (intro V_ hSw; (try dsimp only at hSw); go_simp; (try with_reducible rfl))
                case' rest60 => skip
                try simp only [Act.put, List.setIfInBounds_toArray, List.set_cons_zero, List.set_cons_succ]
                refine wpAnyH_take (i := 6) (oi := ⟨some 97, _, _, _, _, none⟩) (v := ?v61) rfl (by kernel_rfl) (by kernel_rfl) (by kernel_rfl) (fun _ _ _ h => h) (Or.inl ⟨by rfl, ?hy61⟩) (by with_reducible assumption) ?rest61
                case hy61 => (intro V_ hSw; (try dsimp only at hSw); go_simp; (try with_reducible rfl))
                case' rest61 => skip
                try simp only [Act.put, List.setIfInBounds_toArray, List.set_cons_zero, List.set_cons_succ]
                refine wpAnyH_take (i := 7) (oi := ⟨some 98, _, _, _, _, some (6, false)⟩) (v := ?v62) rfl (by kernel_rfl) (by kernel_rfl) (by kernel_rfl) (fun _ _ _ h => h) (Or.inl ⟨by rfl, ?hy62⟩) (by with_reducible assumption) ?rest62
                case hy62 => (intro V_ hSw; (try dsimp only at hSw); go_simp; (try with_reducible rfl))
                case' rest62 => skip
                try simp only [Act.put, List.setIfInBounds_toArray, List.set_cons_zero, List.set_cons_succ]
                refine wpAnyH_take (i := 8) (oi := ⟨some 99, _, _, _, _, some (6, false)⟩) (v := ?v63) rfl (by kernel_rfl) (by kernel_rfl) (by kernel_rfl) (fun _ _ _ h => h) (Or.inl ⟨by rfl, ?hy63⟩) (by with_reducible assumption) ?rest63
                case hy63 => (intro V_ hSw; (try dsimp only at hSw); go_simp; (try with_reducible rfl))
                case' rest63 => skip
                try simp only [Act.put, List.setIfInBounds_toArray, List.set_cons_zero, List.set_cons_succ]
                refine wpAnyH_take (i := 9) (oi := ⟨some 100, _, _, _, _, some (6, false)⟩) (v := ?v64) rfl (by kernel_rfl) (by kernel_rfl) (by kernel_rfl) (fun _ _ _ h => h) (Or.inl ⟨by rfl, ?hy64⟩) (by with_reducible assumption) ?rest64
                case hy64 => (intro V_ hSw; (try dsimp only at hSw); go_simp; (try with_reducible rfl))
                case' rest64 => skip
                try simp only [Act.put, List.setIfInBounds_toArray, List.set_cons_zero, List.set_cons_succ]
                refine wpAnyH_take (i := 10) (oi := ⟨some 101, _, _, _, _, some (6, false)⟩) (v := ?v65) rfl (by kernel_rfl) (by kernel_rfl) (by kernel_rfl) (fun _ _ _ h => h) (Or.inl ⟨by rfl, ?hy65⟩) (by with_reducible assumption) ?rest65
                case hy65 => (intro V_ hSw; (try dsimp only at hSw); go_simp; (try with_reducible rfl))
                case' rest65 => skip
                try simp only [Act.put, List.setIfInBounds_toArray, List.set_cons_zero, List.set_cons_succ]
                refine wpAnyH_ready (rs := [11]) (by kernel_rfl) (by simp) ?_
                refine AllReadyH.cons (o := ⟨some 102, _, _, _, _, some (6, false)⟩) rfl (fun K hK => ?_) ?_
                · go_simp
                  refine (ck_reading c2 g2 _ SD.out.bx1).mono ?_
                  rintro e we ⟨rfl, hb⟩
                  have SE := Aside0.mk (SD.out.step hb)
                  clear hb
                  refine hK.out _ _ ⟨SE.out.bx4, SE.out.bx0⟩ (fun hHeld => ?_)
                  clear hK K
                  try simp only [Act.put, List.setIfInBounds_toArray, List.set_cons_zero, List.set_cons_succ]
                  refine wpAnyH_take (i := 12) (oi := ⟨some 103, _, _, _, _, some (6, false)⟩) (v := ?v66) rfl (by kernel_rfl) (by kernel_rfl) (by kernel_rfl) (fun _ _ _ h => h) (Or.inl ⟨by rfl, ?hy66⟩) (by with_reducible assumption) ?rest66
                  case hy66 => (intro V_ hSw; (try dsimp only at hSw); go_simp; (try with_reducible rfl))
                  case' rest66 => skip
                  try simp only [Act.put, List.setIfInBounds_toArray, List.set_cons_zero, List.set_cons_succ]
                  refine wpAnyH_take (i := 13) (oi := ⟨some 104, _, _, _, _, none⟩) (v := ?v67) rfl (by kernel_rfl) (by kernel_rfl) (by kernel_rfl) (fun _ _ _ h => h) (Or.inl ⟨by rfl, ?hy67⟩) (by with_reducible assumption) ?rest67
                  case hy67 => (intro V_ hSw; (try dsimp only at hSw); go_simp; (try with_reducible rfl))
                  case' rest67 => skip
                  try simp only [Act.put, List.setIfInBounds_toArray, List.set_cons_zero, List.set_cons_succ]
                  refine wpAnyH_done (by kernel_rfl) ?_ _
                  refine NoPanic.normal ?_
                  clear ra rs0 rs1 hHeld
                  go_wp2_with fail
                  go_roundg (200 - i)
                  case measure => have h1 := HI.out; have h2 := HH2.out; omega
                  case rel =>
                    refine ⟨i + 1, R + by_, c0, c1, c2, congrArg (Value.int .i64) (by first | exact HWI.out | exact HWI2.out | rfl | omega), ⟨by have h1 := HI.out; have h2 := HH2.out; omega⟩, ⟨by have h1 := HR.out; have h2 := HB4.out; omega⟩, ⟨?_⟩, ⟨SE.out.sub (.cons _ (List.Sublist.refl _))⟩⟩
                    rw [show ((i + 1 : Nat) : Int) = (i : Int) + 1 from by omega]
                    exact HKB.out
                exact AllReadyH.nil
def scriptoriumlaw06_ClockTalks.Pure : Prop := ∀ (a0 : List (S30)), (a0.length ≤ maxLen ∧ a0.length * 24 ≤ 140737488351232 ∧ ∀ y0 ∈ a0, ((Lit.int .i64 y0.f0).wf = true ∧ (Lit.int .i64 y0.f1).wf = true ∧ (Lit.int .i64 y0.f2).wf = true)) → ∃ k, scriptoriumlaw06_ClockTalks.f k a0 = some true
theorem scriptoriumlaw06_ClockTalks.walk (P : scriptoriumlaw06_ClockTalks.Pure) (a0 : List (S30)) (A0 : Option Addr) (c0 : Nat) (w : World) (w0 : (a0.length ≤ maxLen ∧ a0.length * 24 ≤ 140737488351232 ∧ ∀ y0 ∈ a0, ((Lit.int .i64 y0.f0).wf = true ∧ (Lit.int .i64 y0.f1).wf = true ∧ (Lit.int .i64 y0.f2).wf = true))) (hr0 : Kd.C k30 w A0 a0.length a0) (hc0 : a0.length ≤ c0) :
  Calls Try.prog 3 #[.slice A0 a0.length c0] w fun e w' => e = .returned (.bool true) ∧ Below w.heap.size w w' := by
  obtain ⟨k, h⟩ := P a0 w0
  refine (scriptoriumlaw06_ClockTalks.calls k A0 c0 a0 true w hr0 hc0 h rfl).mono ?_
  rintro e w' ⟨rfl, hd⟩
  exact ⟨rfl, hd⟩

end Go.Proofs.Ythhgoiabkgfdfaa.PClockRises
