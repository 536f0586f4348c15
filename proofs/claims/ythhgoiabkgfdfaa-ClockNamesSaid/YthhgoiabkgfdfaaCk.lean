/- A clock in a block of its own: its numbers, what its methods do to it (in plain Lean), and that the methods which ask no stamp do so. -/
import Derived.Test.YthhgoiabkgfdfaaProg
import Derived.Below
import Derived.Deep.Draws
import Derived.Deep.AppendLies
import Derived.Maps.AppendAt
import Derived.OwnWalk
import Derived.Laws.BytesArg
import Derived.Laws.MakeOwn
import Derived.Laws.OwnMore
import Derived.Deep.OwnRows
import Derived.Tactics
import Derived.Lib.ConvBytes
import Derived.Laws.Slices
import Derived.WalkKit
import Derived.KernelRfl
import Derived.RowKit3
import Derived.Deep.LoopGhost
import Derived.Deep.QuietTactic
import Derived.BigQuiet
import Derived.WideLaws
import Derived.Deep.DeepCutAuto
import Derived.Deep.CutBlock
import Derived.Deep.RegionHeld3
import Derived.Laws.Rows
import Derived.Lib.AppendStr
import Derived.ArgAppend
import Derived.Laws.IdiomCopy
import Derived.OrdersHeld
import Derived.Laws.BitsLemmas
import Derived.RowKit
import Derived.Outline
import Derived.Lib.SlBytesConst
import Derived.Lib.SliceRun
import Derived.WalkSpells
import Derived.Lib.BytesEntry
import Derived.Laws.Externs
import Derived.Test.YthhgoiabkgfdfaaRangeR
import Derived.Test.YthhgoiabkgfdfaaWWords
import Derived.Test.YthhgoiabkgfdfaaWLast
import Derived.Test.YthhgoiabkgfdfaaWTab
import Derived.Test.YthhgoiabkgfdfaaWFour
import Derived.Test.YthhgoiabkgfdfaaWQPut
import Derived.Test.YthhgoiabkgfdfaaWApart
import Derived.Test.YthhgoiabkgfdfaaWArr
import Derived.Test.YthhgoiabkgfdfaaWZeros
import Derived.Test.YthhgoiabkgfdfaaWFoot
import Derived.Test.YthhgoiabkgfdfaaWKept
import Derived.Test.YthhgoiabkgfdfaaWShare
import Derived.Test.YthhgoiabkgfdfaaWN
import Derived.Test.YthhgoiabkgfdfaaWFootNe
import Derived.Test.YthhgoiabkgfdfaaWAt
import Derived.Test.YthhgoiabkgfdfaaWEqStruct
import Derived.Test.YthhgoiabkgfdfaaWRepsOne
import Derived.Test.YthhgoiabkgfdfaaWInv
import Derived.Test.YthhgoiabkgfdfaaWInvWords
import Derived.Test.YthhgoiabkgfdfaaWGuard
import Derived.Test.YthhgoiabkgfdfaaWNEv
import Derived.Test.YthhgoiabkgfdfaaWMore
set_option linter.unusedVariables false
set_option linter.unusedSimpArgs false
namespace Go.Proofs.Ythhgoiabkgfdfaa
open Go.RowKit Go.Proofs.YthhgoiabkgfdfaaW.PrintWords Go.Proofs.YthhgoiabkgfdfaaW.PrintLast Go.Proofs.YthhgoiabkgfdfaaW.PrintMore
theorem off_refl (r : Nat) (W : World) : Off r W W := ⟨rfl, rfl, rfl, Nat.le_refl _, fun _ _ _ => rfl⟩
theorem off_setCell {W V : World} {r i : Nat} (h : Off r W V) (u : Value) : Off r W (V.setCell ⟨r, i, none⟩ u) :=
  ⟨h.os, h.tape, h.output, by simpa [World.setCell] using h.size, fun k hk hn => (Below.heap_setCell V _ u k (show k ≠ r from hn)).trans (h.block k hk hn)⟩
theorem off_alloc {W V : World} {r : Nat} (h : Off r W V) (o : Obj) : Off r W (V.alloc o) := h.trans (Off.of_below (below_alloc (Below.refl _ _) _))
theorem off_far {W V : World} {r : Nat} (h : Off r W V) {p : Addr} (hp : W.heap.size ≤ p.block) (u : Value) : Off r W (V.setCell p u) :=
  ⟨h.os, h.tape, h.output, by simpa [World.setCell] using h.size, fun k hk hn => (Below.heap_setCell V p u k (by omega)).trans (h.block k hk hn)⟩
theorem off_drew {W V : World} {r : Nat} (h : Off r W V) : Off r W V.drew := ⟨h.os, h.tape, h.output, h.size, h.block⟩
/-- A clock: its offset, reading, first bound, bound, last stamp. -/
structure Ck where
  o : Int
  r : Int
  f : Int
  b : Int
  w : Int
  l : Int
/-- It lies in a block of its own. -/
def Ck.lies (c : Ck) (g : Nat) (W : World) : Prop := W.heap[g]? = some (.cells #[.int .i64 c.o, .int .i64 c.r, .int .i64 c.f, .int .i64 c.b, .int .i64 c.w, .int .i64 c.l, .bool true] 51 (0, 0))
/-- Its numbers are in their bounds. -/
def Ck.ok (c : Ck) : Prop := (0 ≤ c.o ∧ c.o ≤ 1099511627776) ∧ (0 ≤ c.r ∧ c.r ≤ 1099511627776) ∧ (0 ≤ c.f ∧ c.f ≤ 1099511627776) ∧ (0 ≤ c.b ∧ c.b ≤ 1099511627776) ∧ (0 ≤ c.w ∧ c.w ≤ 1099511627776) ∧ 0 ≤ c.l ∧ c.l ≤ 1048575
def Ck.set (c : Ck) (a : Int) : Ck × Int := if a < c.r ∨ a < 0 ∨ 1099511627776 < a then (c, 9) else ({ c with r := a }, 0)
def Ck.raise (c : Ck) (a : Int) : Ck × Int := if a < c.b ∨ a < 0 ∨ 1099511627776 < a then (c, 9) else ({ c with b := a }, 0)
/-- The stamp behind a stamp; the greater one of two. -/
def nxt (w l : Int) : Int × Int := if l = 1048575 then (w + 1, 0) else (w, l + 1)
def smx (w l v m : Int) : Int × Int := if w < v ∨ (w = v ∧ l < m) then (v, m) else (w, l)
def Ck.now (c : Ck) : Ck × (Int × Int) × Int :=
  if c.w = 1099511627776 ∧ c.l = 1048575 then (c, (0, 0), 5)
  else if c.b ≤ (smx (nxt c.w c.l).1 (nxt c.w c.l).2 c.r 0).1 then (c, (0, 0), 61)
  else ({ c with w := (smx (nxt c.w c.l).1 (nxt c.w c.l).2 c.r 0).1, l := (smx (nxt c.w c.l).1 (nxt c.w c.l).2 c.r 0).2 }, smx (nxt c.w c.l).1 (nxt c.w c.l).2 c.r 0, 0)
def Ck.see (c : Ck) (w l : Int) : Ck × Int :=
  if w < 0 ∨ 1099511627776 < w ∨ l < 0 ∨ 1048575 < l then (c, 9) else if c.r + c.o < w then (c, 60) else if c.b ≤ w then (c, 61)
  else ({ c with w := (smx c.w c.l w l).1, l := (smx c.w c.l w l).2 }, 0)
/-- A new one. -/
def Ck.fresh (o b : Int) : Ck := { o := o, r := 0, f := b, b := b, w := if b = 0 then 0 else b - 1, l := if b = 0 then 0 else 1048575 }
theorem smx_cases (w l v m : Int) : (smx w l v m = (v, m) ∧ (w < v ∨ (w = v ∧ l < m))) ∨ (smx w l v m = (w, l) ∧ ¬ (w < v ∨ (w = v ∧ l < m))) := by
  unfold smx
  by_cases h : w < v ∨ (w = v ∧ l < m)
  · rw [if_pos h]; exact .inl ⟨rfl, h⟩
  · rw [if_neg h]; exact .inr ⟨rfl, h⟩
theorem nxt_cases (w l : Int) : (nxt w l = (w + 1, 0) ∧ l = 1048575) ∨ (nxt w l = (w, l + 1) ∧ l ≠ 1048575) := by
  unfold nxt
  by_cases h : l = 1048575
  · rw [if_pos h]; exact .inl ⟨rfl, h⟩
  · rw [if_neg h]; exact .inr ⟨rfl, h⟩
instance (c : Ck) : Decidable c.ok := by unfold Ck.ok; infer_instance
theorem Ck.fresh_ok (o b : Int) (ho : 0 ≤ o ∧ o ≤ 1099511627776) (hb : 0 ≤ b ∧ b ≤ 1099511627776) : (Ck.fresh o b).ok := by
  unfold Ck.fresh Ck.ok
  dsimp only
  by_cases h : b = 0
  · rw [if_pos h, if_pos h]; omega
  · rw [if_neg h, if_neg h]; omega
theorem Ck.set_ok (c : Ck) (a : Int) (h : c.ok) : (c.set a).1.ok := by
  unfold Ck.set
  by_cases h1 : a < c.r ∨ a < 0 ∨ 1099511627776 < a
  · rw [if_pos h1]; exact h
  · rw [if_neg h1]; unfold Ck.ok at h ⊢; dsimp only; omega
theorem Ck.raise_ok (c : Ck) (a : Int) (h : c.ok) : (c.raise a).1.ok := by
  unfold Ck.raise
  by_cases h1 : a < c.b ∨ a < 0 ∨ 1099511627776 < a
  · rw [if_pos h1]; exact h
  · rw [if_neg h1]; unfold Ck.ok at h ⊢; dsimp only; omega
theorem Ck.now_ok (c : Ck) (h : c.ok) : c.now.1.ok := by
  unfold Ck.now
  by_cases h1 : c.w = 1099511627776 ∧ c.l = 1048575
  · rw [if_pos h1]; exact h
  · rw [if_neg h1]
    by_cases h2 : c.b ≤ (smx (nxt c.w c.l).1 (nxt c.w c.l).2 c.r 0).1
    · rw [if_pos h2]; exact h
    · rw [if_neg h2]
      unfold Ck.ok at h ⊢
      dsimp only
      rcases nxt_cases c.w c.l with ⟨e, h3⟩ | ⟨e, h3⟩ <;> rw [e] at h2 ⊢ <;> dsimp only at h2 ⊢ <;> rcases smx_cases _ _ c.r 0 with ⟨e2, h4⟩ | ⟨e2, h4⟩ <;> rw [e2] at h2 ⊢ <;> dsimp only at h2 ⊢ <;> omega
theorem Ck.see_ok (c : Ck) (w l : Int) (h : c.ok) : (c.see w l).1.ok := by
  unfold Ck.see
  by_cases h1 : w < 0 ∨ 1099511627776 < w ∨ l < 0 ∨ 1048575 < l
  · rw [if_pos h1]; exact h
  rw [if_neg h1]
  by_cases h2 : c.r + c.o < w
  · rw [if_pos h2]; exact h
  rw [if_neg h2]
  by_cases h3 : c.b ≤ w
  · rw [if_pos h3]; exact h
  rw [if_neg h3]
  unfold Ck.ok at h ⊢
  dsimp only
  rcases smx_cases c.w c.l w l with ⟨e, h4⟩ | ⟨e, h4⟩ <;> rw [e] <;> dsimp only <;> omega
def Ck.does (c : Ck) (k a w l : Int) : Ck × (Int × Int) × Bool :=
  if k = 0 then ((c.set a).1, (0, 0), false) else if k = 1 then ((c.raise a).1, (0, 0), false) else if k = 2 then (c.now.1, c.now.2.1, decide (c.now.2.2 = 0)) else ((c.see w l).1, (0, 0), false)
/-- What a call does to a clock: it stays one, its last stamp does not fall, nor its bound; a stamp that it makes is its last one, behind the one before, below the bound, not ahead of the reading. -/
structure Grew (c d : Ck) : Prop where
  ok : d.ok
  le : c.w < d.w ∨ (c.w = d.w ∧ c.l ≤ d.l)
  most : c.w < max c.b 1 → d.w < max d.b 1
  bound : c.b ≤ d.b
theorem Grew.refl {c : Ck} (h : c.ok) : Grew c c := ⟨h, .inr ⟨rfl, Int.le_refl _⟩, id, Int.le_refl _⟩
theorem Grew.trans {a b c : Ck} (h : Grew a b) (k : Grew b c) : Grew a c := ⟨k.ok, by have := h.le; have := k.le; omega, fun x => k.most (h.most x), Int.le_trans h.bound k.bound⟩
theorem Ck.set_grew (c : Ck) (a : Int) (h : c.ok) : Grew c (c.set a).1 := by
  refine ⟨Ck.set_ok c a h, ?_, ?_, ?_⟩ <;> unfold Ck.set <;> by_cases h1 : a < c.r ∨ a < 0 ∨ 1099511627776 < a <;> (first | rw [if_pos h1] | rw [if_neg h1]) <;> dsimp only <;> omega
theorem Ck.raise_grew (c : Ck) (a : Int) (h : c.ok) : Grew c (c.raise a).1 := by
  refine ⟨Ck.raise_ok c a h, ?_, ?_, ?_⟩ <;> unfold Ck.raise <;> by_cases h1 : a < c.b ∨ a < 0 ∨ 1099511627776 < a <;> (first | rw [if_pos h1] | rw [if_neg h1]) <;> dsimp only <;> omega
theorem Ck.now_grew (c : Ck) (h : c.ok) : Grew c c.now.1 ∧ (c.now.2.2 = 0 → c.now.2.1 = (c.now.1.w, c.now.1.l) ∧ (c.w < c.now.1.w ∨ (c.w = c.now.1.w ∧ c.l < c.now.1.l)) ∧ c.now.1.w < c.now.1.b ∧ c.now.1.r ≤ c.now.1.w) := by
  have hk := Ck.now_ok c h
  unfold Ck.now at hk ⊢
  by_cases h1 : c.w = 1099511627776 ∧ c.l = 1048575
  · rw [if_pos h1] at hk ⊢; exact ⟨Grew.refl h, fun e => by dsimp only at e; omega⟩
  rw [if_neg h1] at hk ⊢
  by_cases h2 : c.b ≤ (smx (nxt c.w c.l).1 (nxt c.w c.l).2 c.r 0).1
  · rw [if_pos h2] at hk ⊢; exact ⟨Grew.refl h, fun e => by dsimp only at e; omega⟩
  rw [if_neg h2] at hk ⊢
  have h0 := h
  unfold Ck.ok at h0
  dsimp only at hk ⊢
  have hl : c.w < (smx (nxt c.w c.l).1 (nxt c.w c.l).2 c.r 0).1 ∨ (c.w = (smx (nxt c.w c.l).1 (nxt c.w c.l).2 c.r 0).1 ∧ c.l < (smx (nxt c.w c.l).1 (nxt c.w c.l).2 c.r 0).2) := by
    rcases nxt_cases c.w c.l with ⟨e, h3⟩ | ⟨e, h3⟩ <;> rw [e] <;> dsimp only <;> rcases smx_cases _ _ c.r 0 with ⟨e2, h4⟩ | ⟨e2, h4⟩ <;> rw [e2] <;> dsimp only <;> omega
  have hr : c.r ≤ (smx (nxt c.w c.l).1 (nxt c.w c.l).2 c.r 0).1 := by
    rcases smx_cases (nxt c.w c.l).1 (nxt c.w c.l).2 c.r 0 with ⟨e2, h4⟩ | ⟨e2, h4⟩ <;> rw [e2] <;> dsimp only <;> omega
  generalize smx (nxt c.w c.l).1 (nxt c.w c.l).2 c.r 0 = s at *
  refine ⟨⟨hk, ?_, ?_, ?_⟩, fun _ => ⟨rfl, hl, ?_, hr⟩⟩ <;> (try dsimp only) <;> omega
theorem Ck.see_grew (c : Ck) (w l : Int) (h : c.ok) : Grew c (c.see w l).1 := by
  have hk := Ck.see_ok c w l h
  unfold Ck.see at hk ⊢
  by_cases h1 : w < 0 ∨ 1099511627776 < w ∨ l < 0 ∨ 1048575 < l
  · rw [if_pos h1]; exact Grew.refl h
  rw [if_neg h1] at hk ⊢
  by_cases h2 : c.r + c.o < w
  · rw [if_pos h2]; exact Grew.refl h
  rw [if_neg h2] at hk ⊢
  by_cases h3 : c.b ≤ w
  · rw [if_pos h3]; exact Grew.refl h
  rw [if_neg h3] at hk ⊢
  dsimp only at hk ⊢
  rcases smx_cases c.w c.l w l with ⟨e, h4⟩ | ⟨e, h4⟩ <;> rw [e] at hk ⊢ <;> dsimp only at hk ⊢ <;> refine ⟨hk, ?_, ?_, ?_⟩ <;> dsimp only <;> omega
theorem Ck.does_grew (c : Ck) (k a w l : Int) (h : c.ok) : Grew c (c.does k a w l).1 ∧ ((c.does k a w l).2.2 = true → (c.does k a w l).2.1 = ((c.does k a w l).1.w, (c.does k a w l).1.l) ∧ (c.w < (c.does k a w l).1.w ∨ (c.w = (c.does k a w l).1.w ∧ c.l < (c.does k a w l).1.l)) ∧ (c.does k a w l).1.w < (c.does k a w l).1.b ∧ (c.does k a w l).1.r ≤ (c.does k a w l).1.w) := by
  unfold Ck.does
  by_cases h0 : k = 0
  · rw [if_pos h0]; exact ⟨Ck.set_grew c a h, fun e => by simp at e⟩
  rw [if_neg h0]
  by_cases h1 : k = 1
  · rw [if_pos h1]; exact ⟨Ck.raise_grew c a h, fun e => by simp at e⟩
  rw [if_neg h1]
  by_cases h2 : k = 2
  · rw [if_pos h2]
    obtain ⟨g, n⟩ := Ck.now_grew c h
    exact ⟨g, fun e => n (of_decide_eq_true e)⟩
  rw [if_neg h2]
  exact ⟨Ck.see_grew c w l h, fun e => by simp at e⟩
theorem Ck.lies.cell {c : Ck} {g : Nat} {W : World} (h : c.lies g W) : W.cell? ⟨g, 0, none⟩ = some (.int .i64 c.o) ∧ W.cell? ⟨g, 1, none⟩ = some (.int .i64 c.r) ∧ W.cell? ⟨g, 2, none⟩ = some (.int .i64 c.f) ∧ W.cell? ⟨g, 3, none⟩ = some (.int .i64 c.b) ∧ W.cell? ⟨g, 4, none⟩ = some (.int .i64 c.w) ∧ W.cell? ⟨g, 5, none⟩ = some (.int .i64 c.l) ∧ W.cell? ⟨g, 6, none⟩ = some (.bool true) ∧
    (∀ i, W.frozen? ⟨g, i, none⟩ = false) :=
  ⟨(blk_cell h 0).trans rfl, (blk_cell h 1).trans rfl, (blk_cell h 2).trans rfl, (blk_cell h 3).trans rfl, (blk_cell h 4).trans rfl, (blk_cell h 5).trans rfl, (blk_cell h 6).trans rfl, fun i => blk_frozen h i⟩
theorem Ck.lies.below {c : Ck} {g : Nat} {W W' : World} (h : c.lies g W) (hb : Below W.heap.size W W') : c.lies g W' := (hb.block _ (Array.getElem?_eq_some_iff.1 h).1).trans h
theorem Ck.lies.off {c : Ck} {g r : Nat} {W W' : World} (h : c.lies g W) (hb : Off r W W') (hn : g ≠ r) : c.lies g W' := (hb.block _ (Array.getElem?_eq_some_iff.1 h).1 hn).trans h
theorem Ck.lies.lt {c : Ck} {g : Nat} {W : World} (h : c.lies g W) : g < W.heap.size := (Array.getElem?_eq_some_iff.1 h).1
theorem blk_ckept {g : Nat} {W W' : World} {o : Obj} (h : W.heap[g]? = some o) (hb : Below W.heap.size W W') : W'.heap[g]? = some o := (hb.block _ (Array.getElem?_eq_some_iff.1 h).1).trans h
theorem alloc_new (W : World) (o : Obj) : Below W.heap.size W (W.alloc o) := below_alloc (Below.refl _ _) _
set_option maxHeartbeats 8000000 in
set_option maxRecDepth 100000 in
theorem ck_none (c : Ck) (g : Nat) (W : World) (h : c.lies g W) : Calls Try.prog 29 #[.pointer (some ⟨g, 0, none⟩)] W fun e w' => e = .returned (.bool false) ∧ Below W.heap.size W w' := by
  obtain ⟨h0, h1, h2, h3, h4, h5, h6, hf⟩ := h.cell
  clear h hf
  go_enter Try.func29, Try.ntmps29
  go_wp2
  go_ret
  exact ⟨rfl, Below.refl _ _⟩
set_option maxHeartbeats 8000000 in
set_option maxRecDepth 100000 in
theorem ck_set (c : Ck) (g : Nat) (a : Int) (W : World) (h : c.lies g W) : Calls Try.prog 11 #[.pointer (some ⟨g, 0, none⟩), .int .i64 a] W fun e w' => e = .returned (.int .i64 (c.set a).2) ∧ (c.set a).1.lies g w' ∧ Off g W w' := by
  obtain ⟨h0, h1, h2, h3, h4, h5, h6, hf⟩ := h.cell
  have hf1 := hf 1
  have HL := Aside0.mk h
  clear h hf
  unfold Ck.set
  go_enter Try.func11, Try.ntmps11
  by_cases c1 : a < c.r
  · rw [if_pos (.inl c1)]
    have d1 : decide (a < c.r) = true := decide_eq_true c1
    go_wp2
    go_ret
    exact ⟨rfl, HL.out, off_refl _ _⟩
  · have d1 : decide (a < c.r) = false := decide_eq_false c1
    by_cases c2 : a < 0
    · rw [if_pos (.inr (.inl c2))]
      have d2 : decide (0 ≤ a) = false := decide_eq_false (by omega)
      clear c1
      go_wp2
      go_ret
      exact ⟨rfl, HL.out, off_refl _ _⟩
    · have d2 : decide (0 ≤ a) = true := decide_eq_true (by omega)
      by_cases c3 : 1099511627776 < a
      · rw [if_pos (.inr (.inr c3))]
        have d3 : decide (a ≤ 1099511627776) = false := decide_eq_false (by omega)
        clear c1 c2
        go_wp2
        go_ret
        exact ⟨rfl, HL.out, off_refl _ _⟩
      · rw [if_neg (by omega)]
        have d3 : decide (a ≤ 1099511627776) = true := decide_eq_true (by omega)
        clear c1 c2 c3
        go_wp2
        go_ret
        exact ⟨rfl, blk_put (cs := #[.int .i64 c.o, .int .i64 c.r, .int .i64 c.f, .int .i64 c.b, .int .i64 c.w, .int .i64 c.l, .bool true]) HL.out 1 _ rfl, off_setCell (off_refl _ _) _⟩
set_option maxHeartbeats 8000000 in
set_option maxRecDepth 100000 in
theorem ck_raise (c : Ck) (g : Nat) (a : Int) (W : World) (h : c.lies g W) : Calls Try.prog 10 #[.pointer (some ⟨g, 0, none⟩), .int .i64 a] W fun e w' => e = .returned (.int .i64 (c.raise a).2) ∧ (c.raise a).1.lies g w' ∧ Off g W w' := by
  obtain ⟨h0, h1, h2, h3, h4, h5, h6, hf⟩ := h.cell
  have hf1 := hf 3
  have HL := Aside0.mk h
  clear h hf
  unfold Ck.raise
  go_enter Try.func10, Try.ntmps10
  by_cases c1 : a < c.b
  · rw [if_pos (.inl c1)]
    have d1 : decide (a < c.b) = true := decide_eq_true c1
    go_wp2
    go_ret
    exact ⟨rfl, HL.out, off_refl _ _⟩
  · have d1 : decide (a < c.b) = false := decide_eq_false c1
    by_cases c2 : a < 0
    · rw [if_pos (.inr (.inl c2))]
      have d2 : decide (0 ≤ a) = false := decide_eq_false (by omega)
      clear c1
      go_wp2
      go_ret
      exact ⟨rfl, HL.out, off_refl _ _⟩
    · have d2 : decide (0 ≤ a) = true := decide_eq_true (by omega)
      by_cases c3 : 1099511627776 < a
      · rw [if_pos (.inr (.inr c3))]
        have d3 : decide (a ≤ 1099511627776) = false := decide_eq_false (by omega)
        clear c1 c2
        go_wp2
        go_ret
        exact ⟨rfl, HL.out, off_refl _ _⟩
      · rw [if_neg (by omega)]
        have d3 : decide (a ≤ 1099511627776) = true := decide_eq_true (by omega)
        clear c1 c2 c3
        go_wp2
        go_ret
        exact ⟨rfl, blk_put (cs := #[.int .i64 c.o, .int .i64 c.r, .int .i64 c.f, .int .i64 c.b, .int .i64 c.w, .int .i64 c.l, .bool true]) HL.out 3 _ rfl, off_setCell (off_refl _ _) _⟩
set_option maxHeartbeats 8000000 in
set_option maxRecDepth 100000 in
theorem ck_reading (c : Ck) (g : Nat) (W : World) (h : c.lies g W) : Calls Try.prog 13 #[.pointer (some ⟨g, 0, none⟩)] W fun e w' => e = .returned (.int .i64 c.r) ∧ Below W.heap.size W w' := by
  obtain ⟨h0, h1, h2, h3, h4, h5, h6, hf⟩ := h.cell
  clear h hf
  go_enter Try.func13, Try.ntmps13
  go_wp2
  go_ret
  exact ⟨rfl, Below.refl _ _⟩
set_option maxHeartbeats 8000000 in
set_option maxRecDepth 100000 in
theorem ck_bound (c : Ck) (g : Nat) (W : World) (h : c.lies g W) : Calls Try.prog 22 #[.pointer (some ⟨g, 0, none⟩)] W fun e w' => e = .returned (.int .i64 c.b) ∧ Below W.heap.size W w' := by
  obtain ⟨h0, h1, h2, h3, h4, h5, h6, hf⟩ := h.cell
  clear h hf
  go_enter Try.func22, Try.ntmps22
  go_wp2
  go_ret
  exact ⟨rfl, Below.refl _ _⟩
set_option maxHeartbeats 8000000 in
set_option maxRecDepth 100000 in
theorem ck_last (c : Ck) (g : Nat) (W : World) (h : c.lies g W) : Calls Try.prog 21 #[.pointer (some ⟨g, 0, none⟩)] W fun e w' => e = .returned (.agg #[.int .i64 c.w, .int .i64 c.l]) ∧ Below W.heap.size W w' := by
  have HL := Aside0.mk h
  clear h
  go_enter Try.func21, Try.ntmps21
  go_wp2_with (go_at_call 29; (generalize hG : Calls _ _ _ _ _ = G))
  rw [← hG]; clear hG
  refine (ck_none c g _ (HL.out.below (alloc_new _ _))).mono ?_
  rintro e w1 ⟨rfl, hb1⟩
  obtain ⟨h0, h1, h2, h3, h4, h5, h6, hf⟩ := ((HL.out.below (alloc_new _ _)).below hb1).cell
  have hbr := blk_ckept (World.alloc_heap_new W (Obj.cells #[Value.int IntKind.i64 0, Value.int IntKind.i64 0] 33)) hb1; have HBR := Aside0.mk hbr; have r0 : w1.cell? ⟨W.heap.size, 0, none⟩ = some (.int .i64 0) := (blk_cell hbr 0).trans rfl; have r1 : w1.cell? ⟨W.heap.size, 1, none⟩ = some (.int .i64 0) := (blk_cell hbr 1).trans rfl; have f0 := blk_frozen hbr 0; have f1 := blk_frozen hbr 1; clear hbr hf; have HB1 := Aside0.mk (below_step (alloc_new W _) hb1); clear hb1
  go_wp2
  refine bodyPost_ret (results_cell_row rfl _ _ W.heap.size 33 #[.int .i64 c.w, .int .i64 c.l] (0, 0) _ rfl (blk_put (cs := #[.int .i64 c.w, .int .i64 0]) (blk_put (cs := #[.int .i64 0, .int .i64 0]) HBR.out 0 _ rfl) 1 _ rfl) Try.underlying33 rfl (by kernel_rfl)) rfl ?_
  exact ⟨rfl, Below.setCell (Below.setCell HB1.out (p := ⟨W.heap.size, 0, none⟩) (Nat.le_refl _) _) (p := ⟨W.heap.size, 1, none⟩) (Nat.le_refl _) _⟩
set_option maxHeartbeats 8000000 in
set_option maxRecDepth 100000 in
theorem ck_ready (c : Ck) (g : Nat) (W : World) (h : c.lies g W) : Calls Try.prog 19 #[.pointer (some ⟨g, 0, none⟩)] W fun e w' => e = .returned (.bool (decide (c.f ≤ c.r))) ∧ Below W.heap.size W w' := by
  have HL := Aside0.mk h
  clear h
  go_enter Try.func19, Try.ntmps19
  go_wp2_with fail
  go_region_with (go_at_call 29; refine (ck_none c g W.drew (blk_drew HL.out)).mono ?_; rintro e w1 ⟨rfl, hb1⟩; have HB1 := Aside0.mk (below_step (below_drew1 (Below.refl W.heap.size W)) hb1); obtain ⟨h0, h1, h2, h3, h4, h5, h6, hf⟩ := (HL.out.below HB1.out).cell; clear hf hb1)
  all_goals (go_wp2; go_ret; exact ⟨rfl, HB1.out⟩)
theorem fld_wall (a b : Value) (w : World) : Sem.run Try.prog (Instr.field 33 (Value.agg #[a, b]) 0) w = .ok a w := by kernel_rfl
theorem fld_logic (a b : Value) (w : World) : Sem.run Try.prog (Instr.field 33 (Value.agg #[a, b]) 1) w = .ok b w := by kernel_rfl
end Go.Proofs.Ythhgoiabkgfdfaa
