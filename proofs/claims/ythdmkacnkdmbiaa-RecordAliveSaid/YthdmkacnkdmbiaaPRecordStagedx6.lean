/- Written by xprint.py, a program of these sessions (over the print of the kit, with leaves typed by hand): one Lean function for each Go function, and the proof that the Go code comes to its answers. -/
import Derived.Test.YthdmkacnkdmbiaaPRecordStagedx0
import Derived.Test.YthdmkacnkdmbiaaPRecordStagedx4
import Derived.Test.YthdmkacnkdmbiaaPRecordStagedx5
namespace Go.Proofs.Ythdmkacnkdmbiaa.PRecordStaged
open Go.RowKit Go.Proofs.YthdmkacnkdmbiaaW.PrintWords Go.Proofs.YthdmkacnkdmbiaaW.PrintLast Go.Proofs.YthdmkacnkdmbiaaW.PrintMore
attribute [local go_sem] max2_int min2_int max_two min_two max_three min_three max_four min_four   -- for this text's walks alone
attribute [local go_sem] str_gtr str_leq str_geq
set_option linter.unusedVariables false
set_option linter.unusedSimpArgs false

/-- A state of type 27 at block g of W; what its slices lead to came in by w0. -/
def IsS27 (w0 W : World) (g : Nat) (f0 : Int) (f1 : Int) (f2 : Int) (f3 : Int) (f4 : ByteArray) (f5 : Int) (f6 : Int) (f7 : Int) (f8 : Int) (f9 : List (S44)) : Prop := ∃ A9 c9, W.heap[g]? = some (.cells #[.int .i64 f0, .int .i64 f1, .int .i64 f2, .int .i64 f3, .string f4, .int .i64 f5, .int .i64 f6, .int .i64 f7, .int .i64 f8, .slice A9 f9.length c9] 27 (0, 0)) ∧ w0.heap.size ≤ g ∧ Kd.C k44 w0 A9 f9.length f9
theorem IsS27.grown {w0 W : World} {g : Nat} {f0 : Int} {f1 : Int} {f2 : Int} {f3 : Int} {f4 : ByteArray} {f5 : Int} {f6 : Int} {f7 : Int} {f8 : Int} {f9 : List (S44)} {W1 : World} {row : Option Nat} (h : IsS27 w0 W g f0 f1 f2 f3 f4 f5 f6 f7 f8 f9) (hw : W.grownBy W1 row) (hne : some g ≠ row) : IsS27 w0 W1 g f0 f1 f2 f3 f4 f5 f6 f7 f8 f9 := by
  obtain ⟨A9, c9, hb, hg, hr9⟩ := h
  exact ⟨A9, c9, blk_grown hb hw hne, hg, hr9⟩
theorem IsS27.own_neN {w0 W : World} {g : Nat} {f0 : Int} {f1 : Int} {f2 : Int} {f3 : Int} {f4 : ByteArray} {f5 : Int} {f6 : Int} {f7 : Int} {f8 : Int} {f9 : List (S44)} {α : Type} {d : Kd α} {e : Nat} {base : Nat} {ok : Nat → Prop} {v : Value} {xs : List α} (h : IsS27 w0 W g f0 f1 f2 f3 f4 f5 f6 f7 f8 f9) (ho : Kd.N d e W base ok v xs) (ht : e ≠ 27) : some g ≠ v.ownBlock := by
  obtain ⟨A9, c9, hb, hg, hr9⟩ := h
  exact Kd.N_ne ho hb ht
theorem IsS27.fresh {w0 W : World} {g : Nat} {f0 : Int} {f1 : Int} {f2 : Int} {f3 : Int} {f4 : ByteArray} {f5 : Int} {f6 : Int} {f7 : Int} {f8 : Int} {f9 : List (S44)} (h : IsS27 w0 W g f0 f1 f2 f3 f4 f5 f6 f7 f8 f9) : ∀ k, W.heap.size ≤ k → k ≠ g := by
  obtain ⟨A9, c9, hb, hg, hr9⟩ := h
  exact Kd.freshB hb
theorem IsS27.kept {w0 W : World} {g : Nat} {f0 : Int} {f1 : Int} {f2 : Int} {f3 : Int} {f4 : ByteArray} {f5 : Int} {f6 : Int} {f7 : Int} {f8 : Int} {f9 : List (S44)} {W1 : World} {S : Nat → Prop} (h : IsS27 w0 W g f0 f1 f2 f3 f4 f5 f6 f7 f8 f9) (hk : Kept W W1 S) (hne : ¬ S g) : IsS27 w0 W1 g f0 f1 f2 f3 f4 f5 f6 f7 f8 f9 := by
  obtain ⟨A9, c9, hb, hg, hr9⟩ := h
  exact ⟨A9, c9, blk_kept hb hk hne, hg, hr9⟩
theorem IsS27.keepB {w0 W : World} {g : Nat} {f0 : Int} {f1 : Int} {f2 : Int} {f3 : Int} {f4 : ByteArray} {f5 : Int} {f6 : Int} {f7 : Int} {f8 : Int} {f9 : List (S44)} {W1 : World} {g2 : Nat} (h : IsS27 w0 W g f0 f1 f2 f3 f4 f5 f6 f7 f8 f9) (hk : KeepBut W W1 g2 none) (hne : g ≠ g2) : IsS27 w0 W1 g f0 f1 f2 f3 f4 f5 f6 f7 f8 f9 := by
  obtain ⟨A9, c9, hb, hg, hr9⟩ := h
  exact ⟨A9, c9, KeepBut.blk hk hb hne (by simp), hg, hr9⟩
theorem IsS27.below {w0 W : World} {g : Nat} {f0 : Int} {f1 : Int} {f2 : Int} {f3 : Int} {f4 : ByteArray} {f5 : Int} {f6 : Int} {f7 : Int} {f8 : Int} {f9 : List (S44)} {W1 : World} (h : IsS27 w0 W g f0 f1 f2 f3 f4 f5 f6 f7 f8 f9) (hw : Below W.heap.size W W1) : IsS27 w0 W1 g f0 f1 f2 f3 f4 f5 f6 f7 f8 f9 := h.grown (grown_of_below hw none) (by simp)
theorem IsS27.alloc {w0 W : World} {g : Nat} {f0 : Int} {f1 : Int} {f2 : Int} {f3 : Int} {f4 : ByteArray} {f5 : Int} {f6 : Int} {f7 : Int} {f8 : Int} {f9 : List (S44)} (h : IsS27 w0 W g f0 f1 f2 f3 f4 f5 f6 f7 f8 f9) (o : Obj) : IsS27 w0 (W.alloc o) g f0 f1 f2 f3 f4 f5 f6 f7 f8 f9 := h.below (below_alloc (Below.refl _ _) o)
theorem IsS27.drewN {w0 W : World} {g : Nat} {f0 : Int} {f1 : Int} {f2 : Int} {f3 : Int} {f4 : ByteArray} {f5 : Int} {f6 : Int} {f7 : Int} {f8 : Int} {f9 : List (S44)} (h : IsS27 w0 W g f0 f1 f2 f3 f4 f5 f6 f7 f8 f9) (m : Nat) : IsS27 w0 (W.drewN m) g f0 f1 f2 f3 f4 f5 f6 f7 f8 f9 := h
theorem IsS27.drew {w0 W : World} {g : Nat} {f0 : Int} {f1 : Int} {f2 : Int} {f3 : Int} {f4 : ByteArray} {f5 : Int} {f6 : Int} {f7 : Int} {f8 : Int} {f9 : List (S44)} (h : IsS27 w0 W g f0 f1 f2 f3 f4 f5 f6 f7 f8 f9) : IsS27 w0 W.drew g f0 f1 f2 f3 f4 f5 f6 f7 f8 f9 := h
theorem IsS27.at_ {w0 W : World} {g : Nat} {f0 : Int} {f1 : Int} {f2 : Int} {f3 : Int} {f4 : ByteArray} {f5 : Int} {f6 : Int} {f7 : Int} {f8 : Int} {f9 : List (S44)} {w' : World} {m : Nat} (hq : W.drewN m = w') (h : IsS27 w0 W g f0 f1 f2 f3 f4 f5 f6 f7 f8 f9) : IsS27 w0 w' g f0 f1 f2 f3 f4 f5 f6 f7 f8 f9 := by subst hq; exact IsS27.drewN h m
theorem IsS27.apart {w0 W : World} {g : Nat} {f0 : Int} {f1 : Int} {f2 : Int} {f3 : Int} {f4 : ByteArray} {f5 : Int} {f6 : Int} {f7 : Int} {f8 : Int} {f9 : List (S44)} {α : Type} {d : Kd α} {e : Nat} {base : Nat} {ok : Nat → Prop} {v : Value} {xs : List α} (h : IsS27 w0 W g f0 f1 f2 f3 f4 f5 f6 f7 f8 f9) (ho : d.R e W base ok v xs) (ht : ∀ q, q ∈ e :: d.E → q ≠ 27) : d.R e W base (fun k => ok k ∧ k ≠ g) v xs := by
  obtain ⟨A9, c9, hb, hg, hr9⟩ := h
  exact Kd.R_types ho hb ht
theorem IsS27.own_ne {w0 W : World} {g : Nat} {f0 : Int} {f1 : Int} {f2 : Int} {f3 : Int} {f4 : ByteArray} {f5 : Int} {f6 : Int} {f7 : Int} {f8 : Int} {f9 : List (S44)} {α : Type} {d : Kd α} {e : Nat} {base : Nat} {ok : Nat → Prop} {v : Value} {xs : List α} (h : IsS27 w0 W g f0 f1 f2 f3 f4 f5 f6 f7 f8 f9) (ho : d.R e W base ok v xs) (ht : e ≠ 27) : some g ≠ v.ownBlock := by
  obtain ⟨A9, c9, hb, hg, hr9⟩ := h
  exact Kd.R_ne ho hb ht
theorem IsS27.apartQ {w0 W : World} {g : Nat} {f0 : Int} {f1 : Int} {f2 : Int} {f3 : Int} {f4 : ByteArray} {f5 : Int} {f6 : Int} {f7 : Int} {f8 : Int} {f9 : List (S44)} {α : Type} {d : Kd α} {e : Nat} {base : Nat} {ok : Nat → Prop} {v : Value} {xs : List α} (h : IsS27 w0 W g f0 f1 f2 f3 f4 f5 f6 f7 f8 f9) (ho : d.Q e W base ok v xs) (ht : ∀ q, q ∈ e :: d.E → q ≠ 27) : d.Q e W base (fun k => ok k ∧ k ≠ g) v xs := by
  obtain ⟨A9, c9, hb, hg, hr9⟩ := h
  exact Kd.Q_types ho hb ht
theorem IsS27.own_neQ {w0 W : World} {g : Nat} {f0 : Int} {f1 : Int} {f2 : Int} {f3 : Int} {f4 : ByteArray} {f5 : Int} {f6 : Int} {f7 : Int} {f8 : Int} {f9 : List (S44)} {α : Type} {d : Kd α} {e : Nat} {base : Nat} {ok : Nat → Prop} {v : Value} {xs : List α} (h : IsS27 w0 W g f0 f1 f2 f3 f4 f5 f6 f7 f8 f9) (ho : d.Q e W base ok v xs) (ht : e ≠ 27) : some g ≠ v.ownBlock := by
  obtain ⟨A9, c9, hb, hg, hr9⟩ := h
  exact Kd.Q_ne ho hb ht
theorem IsS27.apartS {w0 W : World} {g : Nat} {f0 : Int} {f1 : Int} {f2 : Int} {f3 : Int} {f4 : ByteArray} {f5 : Int} {f6 : Int} {f7 : Int} {f8 : Int} {f9 : List (S44)} {α : Type} {d : Kd α} {e : Nat} {base : Nat} {ok : Nat → Prop} {v : Value} {xs : List α} (h : IsS27 w0 W g f0 f1 f2 f3 f4 f5 f6 f7 f8 f9) (ho : d.S e W base ok v xs) (ht : ∀ q, q ∈ e :: d.E → q ≠ 27) : d.S e W base (fun k => ok k ∧ k ≠ g) v xs := by
  obtain ⟨A9, c9, hb, hg, hr9⟩ := h
  exact Kd.S_types ho hb ht
theorem IsS27.own_neS {w0 W : World} {g : Nat} {f0 : Int} {f1 : Int} {f2 : Int} {f3 : Int} {f4 : ByteArray} {f5 : Int} {f6 : Int} {f7 : Int} {f8 : Int} {f9 : List (S44)} {α : Type} {d : Kd α} {e : Nat} {base : Nat} {ok : Nat → Prop} {v : Value} {xs : List α} (h : IsS27 w0 W g f0 f1 f2 f3 f4 f5 f6 f7 f8 f9) (ho : d.S e W base ok v xs) (ht : e ≠ 27) : some g ≠ v.ownBlock := by
  obtain ⟨A9, c9, hb, hg, hr9⟩ := h
  exact Kd.S_ne ho hb ht
theorem IsS27.lt {w0 W : World} {g : Nat} {f0 : Int} {f1 : Int} {f2 : Int} {f3 : Int} {f4 : ByteArray} {f5 : Int} {f6 : Int} {f7 : Int} {f8 : Int} {f9 : List (S44)} (h : IsS27 w0 W g f0 f1 f2 f3 f4 f5 f6 f7 f8 f9) : g < W.heap.size := by
  obtain ⟨A9, c9, hb, hg, hr9⟩ := h
  exact blk_lt hb
theorem IsS27.ge {w0 W : World} {g : Nat} {f0 : Int} {f1 : Int} {f2 : Int} {f3 : Int} {f4 : ByteArray} {f5 : Int} {f6 : Int} {f7 : Int} {f8 : Int} {f9 : List (S44)} (h : IsS27 w0 W g f0 f1 f2 f3 f4 f5 f6 f7 f8 f9) : w0.heap.size ≤ g := by
  obtain ⟨A9, c9, hb, hg, hr9⟩ := h
  exact hg
theorem IsS27.ne_blk {w0 W : World} {g : Nat} {f0 : Int} {f1 : Int} {f2 : Int} {f3 : Int} {f4 : ByteArray} {f5 : Int} {f6 : Int} {f7 : Int} {f8 : Int} {f9 : List (S44)} {a : Nat} {cs : Array Value} {t : TypeId} {fr : Nat × Nat} (h : IsS27 w0 W g f0 f1 f2 f3 f4 f5 f6 f7 f8 f9) (hb2 : W.heap[a]? = some (.cells cs t fr)) (ht : t ≠ 27) : g ≠ a := by
  obtain ⟨A9, c9, hb, hg, hr9⟩ := h
  rintro rfl
  rw [hb] at hb2
  injection hb2 with hb2
  injection hb2 with _ ht2
  exact ht ht2.symm
theorem IsS27.far {w0 W : World} {g : Nat} {f0 : Int} {f1 : Int} {f2 : Int} {f3 : Int} {f4 : ByteArray} {f5 : Int} {f6 : Int} {f7 : Int} {f8 : Int} {f9 : List (S44)} {p : Addr} (h : IsS27 w0 W g f0 f1 f2 f3 f4 f5 f6 f7 f8 f9) (hne : g ≠ p.block) (u : Value) : IsS27 w0 (W.setCell p u) g f0 f1 f2 f3 f4 f5 f6 f7 f8 f9 := by
  obtain ⟨A9, c9, hb, hg, hr9⟩ := h
  exact ⟨A9, c9, blk_far hb hne u, hg, hr9⟩
theorem cellS27_0 {W : World} {g : Nat} {A9 : Option Addr} {c9 : Nat} {f0 : Int} {f1 : Int} {f2 : Int} {f3 : Int} {f4 : ByteArray} {f5 : Int} {f6 : Int} {f7 : Int} {f8 : Int} {f9 : List (S44)} (h : W.heap[g]? = some (.cells #[.int .i64 f0, .int .i64 f1, .int .i64 f2, .int .i64 f3, .string f4, .int .i64 f5, .int .i64 f6, .int .i64 f7, .int .i64 f8, .slice A9 f9.length c9] 27 (0, 0))) : W.cell? ⟨g, 0, none⟩ = some (.int .i64 f0) := (blk_cell h 0).trans rfl
theorem IsS27.set_0 {w0 W : World} {g : Nat} {f0 : Int} {f1 : Int} {f2 : Int} {f3 : Int} {f4 : ByteArray} {f5 : Int} {f6 : Int} {f7 : Int} {f8 : Int} {f9 : List (S44)} (h : IsS27 w0 W g f0 f1 f2 f3 f4 f5 f6 f7 f8 f9) (x : Int) : IsS27 w0 (W.setCell ⟨g, 0, none⟩ (.int .i64 x)) g x f1 f2 f3 f4 f5 f6 f7 f8 f9 := by
  obtain ⟨A9, c9, hb, hg, hr9⟩ := h
  exact ⟨A9, c9, by simpa using blk_set hb 0 (.int .i64 x), hg, hr9⟩
theorem cellS27_1 {W : World} {g : Nat} {A9 : Option Addr} {c9 : Nat} {f0 : Int} {f1 : Int} {f2 : Int} {f3 : Int} {f4 : ByteArray} {f5 : Int} {f6 : Int} {f7 : Int} {f8 : Int} {f9 : List (S44)} (h : W.heap[g]? = some (.cells #[.int .i64 f0, .int .i64 f1, .int .i64 f2, .int .i64 f3, .string f4, .int .i64 f5, .int .i64 f6, .int .i64 f7, .int .i64 f8, .slice A9 f9.length c9] 27 (0, 0))) : W.cell? ⟨g, 1, none⟩ = some (.int .i64 f1) := (blk_cell h 1).trans rfl
theorem IsS27.set_1 {w0 W : World} {g : Nat} {f0 : Int} {f1 : Int} {f2 : Int} {f3 : Int} {f4 : ByteArray} {f5 : Int} {f6 : Int} {f7 : Int} {f8 : Int} {f9 : List (S44)} (h : IsS27 w0 W g f0 f1 f2 f3 f4 f5 f6 f7 f8 f9) (x : Int) : IsS27 w0 (W.setCell ⟨g, 1, none⟩ (.int .i64 x)) g f0 x f2 f3 f4 f5 f6 f7 f8 f9 := by
  obtain ⟨A9, c9, hb, hg, hr9⟩ := h
  exact ⟨A9, c9, by simpa using blk_set hb 1 (.int .i64 x), hg, hr9⟩
theorem cellS27_2 {W : World} {g : Nat} {A9 : Option Addr} {c9 : Nat} {f0 : Int} {f1 : Int} {f2 : Int} {f3 : Int} {f4 : ByteArray} {f5 : Int} {f6 : Int} {f7 : Int} {f8 : Int} {f9 : List (S44)} (h : W.heap[g]? = some (.cells #[.int .i64 f0, .int .i64 f1, .int .i64 f2, .int .i64 f3, .string f4, .int .i64 f5, .int .i64 f6, .int .i64 f7, .int .i64 f8, .slice A9 f9.length c9] 27 (0, 0))) : W.cell? ⟨g, 2, none⟩ = some (.int .i64 f2) := (blk_cell h 2).trans rfl
theorem IsS27.set_2 {w0 W : World} {g : Nat} {f0 : Int} {f1 : Int} {f2 : Int} {f3 : Int} {f4 : ByteArray} {f5 : Int} {f6 : Int} {f7 : Int} {f8 : Int} {f9 : List (S44)} (h : IsS27 w0 W g f0 f1 f2 f3 f4 f5 f6 f7 f8 f9) (x : Int) : IsS27 w0 (W.setCell ⟨g, 2, none⟩ (.int .i64 x)) g f0 f1 x f3 f4 f5 f6 f7 f8 f9 := by
  obtain ⟨A9, c9, hb, hg, hr9⟩ := h
  exact ⟨A9, c9, by simpa using blk_set hb 2 (.int .i64 x), hg, hr9⟩
theorem cellS27_3 {W : World} {g : Nat} {A9 : Option Addr} {c9 : Nat} {f0 : Int} {f1 : Int} {f2 : Int} {f3 : Int} {f4 : ByteArray} {f5 : Int} {f6 : Int} {f7 : Int} {f8 : Int} {f9 : List (S44)} (h : W.heap[g]? = some (.cells #[.int .i64 f0, .int .i64 f1, .int .i64 f2, .int .i64 f3, .string f4, .int .i64 f5, .int .i64 f6, .int .i64 f7, .int .i64 f8, .slice A9 f9.length c9] 27 (0, 0))) : W.cell? ⟨g, 3, none⟩ = some (.int .i64 f3) := (blk_cell h 3).trans rfl
theorem IsS27.set_3 {w0 W : World} {g : Nat} {f0 : Int} {f1 : Int} {f2 : Int} {f3 : Int} {f4 : ByteArray} {f5 : Int} {f6 : Int} {f7 : Int} {f8 : Int} {f9 : List (S44)} (h : IsS27 w0 W g f0 f1 f2 f3 f4 f5 f6 f7 f8 f9) (x : Int) : IsS27 w0 (W.setCell ⟨g, 3, none⟩ (.int .i64 x)) g f0 f1 f2 x f4 f5 f6 f7 f8 f9 := by
  obtain ⟨A9, c9, hb, hg, hr9⟩ := h
  exact ⟨A9, c9, by simpa using blk_set hb 3 (.int .i64 x), hg, hr9⟩
theorem cellS27_4 {W : World} {g : Nat} {A9 : Option Addr} {c9 : Nat} {f0 : Int} {f1 : Int} {f2 : Int} {f3 : Int} {f4 : ByteArray} {f5 : Int} {f6 : Int} {f7 : Int} {f8 : Int} {f9 : List (S44)} (h : W.heap[g]? = some (.cells #[.int .i64 f0, .int .i64 f1, .int .i64 f2, .int .i64 f3, .string f4, .int .i64 f5, .int .i64 f6, .int .i64 f7, .int .i64 f8, .slice A9 f9.length c9] 27 (0, 0))) : W.cell? ⟨g, 4, none⟩ = some (.string f4) := (blk_cell h 4).trans rfl
theorem IsS27.set_4 {w0 W : World} {g : Nat} {f0 : Int} {f1 : Int} {f2 : Int} {f3 : Int} {f4 : ByteArray} {f5 : Int} {f6 : Int} {f7 : Int} {f8 : Int} {f9 : List (S44)} (h : IsS27 w0 W g f0 f1 f2 f3 f4 f5 f6 f7 f8 f9) (x : ByteArray) : IsS27 w0 (W.setCell ⟨g, 4, none⟩ (.string x)) g f0 f1 f2 f3 x f5 f6 f7 f8 f9 := by
  obtain ⟨A9, c9, hb, hg, hr9⟩ := h
  exact ⟨A9, c9, by simpa using blk_set hb 4 (.string x), hg, hr9⟩
theorem cellS27_5 {W : World} {g : Nat} {A9 : Option Addr} {c9 : Nat} {f0 : Int} {f1 : Int} {f2 : Int} {f3 : Int} {f4 : ByteArray} {f5 : Int} {f6 : Int} {f7 : Int} {f8 : Int} {f9 : List (S44)} (h : W.heap[g]? = some (.cells #[.int .i64 f0, .int .i64 f1, .int .i64 f2, .int .i64 f3, .string f4, .int .i64 f5, .int .i64 f6, .int .i64 f7, .int .i64 f8, .slice A9 f9.length c9] 27 (0, 0))) : W.cell? ⟨g, 5, none⟩ = some (.int .i64 f5) := (blk_cell h 5).trans rfl
theorem IsS27.set_5 {w0 W : World} {g : Nat} {f0 : Int} {f1 : Int} {f2 : Int} {f3 : Int} {f4 : ByteArray} {f5 : Int} {f6 : Int} {f7 : Int} {f8 : Int} {f9 : List (S44)} (h : IsS27 w0 W g f0 f1 f2 f3 f4 f5 f6 f7 f8 f9) (x : Int) : IsS27 w0 (W.setCell ⟨g, 5, none⟩ (.int .i64 x)) g f0 f1 f2 f3 f4 x f6 f7 f8 f9 := by
  obtain ⟨A9, c9, hb, hg, hr9⟩ := h
  exact ⟨A9, c9, by simpa using blk_set hb 5 (.int .i64 x), hg, hr9⟩
theorem cellS27_6 {W : World} {g : Nat} {A9 : Option Addr} {c9 : Nat} {f0 : Int} {f1 : Int} {f2 : Int} {f3 : Int} {f4 : ByteArray} {f5 : Int} {f6 : Int} {f7 : Int} {f8 : Int} {f9 : List (S44)} (h : W.heap[g]? = some (.cells #[.int .i64 f0, .int .i64 f1, .int .i64 f2, .int .i64 f3, .string f4, .int .i64 f5, .int .i64 f6, .int .i64 f7, .int .i64 f8, .slice A9 f9.length c9] 27 (0, 0))) : W.cell? ⟨g, 6, none⟩ = some (.int .i64 f6) := (blk_cell h 6).trans rfl
theorem IsS27.set_6 {w0 W : World} {g : Nat} {f0 : Int} {f1 : Int} {f2 : Int} {f3 : Int} {f4 : ByteArray} {f5 : Int} {f6 : Int} {f7 : Int} {f8 : Int} {f9 : List (S44)} (h : IsS27 w0 W g f0 f1 f2 f3 f4 f5 f6 f7 f8 f9) (x : Int) : IsS27 w0 (W.setCell ⟨g, 6, none⟩ (.int .i64 x)) g f0 f1 f2 f3 f4 f5 x f7 f8 f9 := by
  obtain ⟨A9, c9, hb, hg, hr9⟩ := h
  exact ⟨A9, c9, by simpa using blk_set hb 6 (.int .i64 x), hg, hr9⟩
theorem cellS27_7 {W : World} {g : Nat} {A9 : Option Addr} {c9 : Nat} {f0 : Int} {f1 : Int} {f2 : Int} {f3 : Int} {f4 : ByteArray} {f5 : Int} {f6 : Int} {f7 : Int} {f8 : Int} {f9 : List (S44)} (h : W.heap[g]? = some (.cells #[.int .i64 f0, .int .i64 f1, .int .i64 f2, .int .i64 f3, .string f4, .int .i64 f5, .int .i64 f6, .int .i64 f7, .int .i64 f8, .slice A9 f9.length c9] 27 (0, 0))) : W.cell? ⟨g, 7, none⟩ = some (.int .i64 f7) := (blk_cell h 7).trans rfl
theorem IsS27.set_7 {w0 W : World} {g : Nat} {f0 : Int} {f1 : Int} {f2 : Int} {f3 : Int} {f4 : ByteArray} {f5 : Int} {f6 : Int} {f7 : Int} {f8 : Int} {f9 : List (S44)} (h : IsS27 w0 W g f0 f1 f2 f3 f4 f5 f6 f7 f8 f9) (x : Int) : IsS27 w0 (W.setCell ⟨g, 7, none⟩ (.int .i64 x)) g f0 f1 f2 f3 f4 f5 f6 x f8 f9 := by
  obtain ⟨A9, c9, hb, hg, hr9⟩ := h
  exact ⟨A9, c9, by simpa using blk_set hb 7 (.int .i64 x), hg, hr9⟩
theorem cellS27_8 {W : World} {g : Nat} {A9 : Option Addr} {c9 : Nat} {f0 : Int} {f1 : Int} {f2 : Int} {f3 : Int} {f4 : ByteArray} {f5 : Int} {f6 : Int} {f7 : Int} {f8 : Int} {f9 : List (S44)} (h : W.heap[g]? = some (.cells #[.int .i64 f0, .int .i64 f1, .int .i64 f2, .int .i64 f3, .string f4, .int .i64 f5, .int .i64 f6, .int .i64 f7, .int .i64 f8, .slice A9 f9.length c9] 27 (0, 0))) : W.cell? ⟨g, 8, none⟩ = some (.int .i64 f8) := (blk_cell h 8).trans rfl
theorem IsS27.set_8 {w0 W : World} {g : Nat} {f0 : Int} {f1 : Int} {f2 : Int} {f3 : Int} {f4 : ByteArray} {f5 : Int} {f6 : Int} {f7 : Int} {f8 : Int} {f9 : List (S44)} (h : IsS27 w0 W g f0 f1 f2 f3 f4 f5 f6 f7 f8 f9) (x : Int) : IsS27 w0 (W.setCell ⟨g, 8, none⟩ (.int .i64 x)) g f0 f1 f2 f3 f4 f5 f6 f7 x f9 := by
  obtain ⟨A9, c9, hb, hg, hr9⟩ := h
  exact ⟨A9, c9, by simpa using blk_set hb 8 (.int .i64 x), hg, hr9⟩
theorem cellS27_9 {W : World} {g : Nat} {A9 : Option Addr} {c9 : Nat} {f0 : Int} {f1 : Int} {f2 : Int} {f3 : Int} {f4 : ByteArray} {f5 : Int} {f6 : Int} {f7 : Int} {f8 : Int} {f9 : List (S44)} (h : W.heap[g]? = some (.cells #[.int .i64 f0, .int .i64 f1, .int .i64 f2, .int .i64 f3, .string f4, .int .i64 f5, .int .i64 f6, .int .i64 f7, .int .i64 f8, .slice A9 f9.length c9] 27 (0, 0))) : W.cell? ⟨g, 9, none⟩ = some (.slice A9 f9.length c9) := (blk_cell h 9).trans rfl
theorem IsS27.new (w0 W : World) (A9 : Option Addr) (c9 : Nat) (f0 : Int) (f1 : Int) (f2 : Int) (f3 : Int) (f4 : ByteArray) (f5 : Int) (f6 : Int) (f7 : Int) (f8 : Int) (f9 : List (S44)) (hB : Below w0.heap.size w0 W) (hr9 : Kd.C k44 w0 A9 f9.length f9) : IsS27 w0 (W.alloc (.cells #[.int .i64 f0, .int .i64 f1, .int .i64 f2, .int .i64 f3, .string f4, .int .i64 f5, .int .i64 f6, .int .i64 f7, .int .i64 f8, .slice A9 f9.length c9] 27)) W.heap.size f0 f1 f2 f3 f4 f5 f6 f7 f8 f9 := ⟨A9, c9, by simpa using heap_alloc_new W _, hB.size, hr9⟩

/-! ### record_stands: function 26 (a leaf, by hand) -/
/-- What the functions of the layer answer: a record whose writes lie in memory of its own, and an error. -/
def recPost (id ep st pr : Int) (an : ByteArray) (sw sl bw bl : Int) (l : List S44) (err : Int) (W : World) (e : Ending) (w' : World) : Prop :=
  ∃ v : Value, e = .returned (.tuple #[.agg #[.int .i64 id, .int .i64 ep, .int .i64 st, .int .i64 pr, .string an, .int .i64 sw, .int .i64 sl, .int .i64 bw, .int .i64 bl, v], .int .i64 err]) ∧ Kd.R k44 44 w' W.heap.size (fun _ => True) v l ∧ Below W.heap.size W w'
theorem three_boxes (W : World) (o1 o2 o3 : Obj) : ∃ V, ((W.alloc o1).alloc o2).alloc o3 = V ∧ V.heap[W.heap.size]? = some o1 ∧ V.heap[W.heap.size + 1]? = some o2 ∧ V.heap[W.heap.size + 1 + 1]? = some o3 ∧ Below W.heap.size W V ∧ V.heap.size = W.heap.size + 3 := by
  refine ⟨_, rfl, ?_, ?_, ?_, ?_, ?_⟩
  · exact blk_alloc (blk_alloc (blk_new W o1) o2) o3
  · have h := blk_new (W.alloc o1) o2
    rw [World.size_alloc] at h
    exact blk_alloc h o3
  · have h := blk_new ((W.alloc o1).alloc o2) o3
    rw [World.size_alloc, World.size_alloc] at h
    exact h
  · exact below_alloc (below_alloc (below_alloc (Below.refl _ _) _) _) _
  · rw [World.size_alloc, World.size_alloc, World.size_alloc]
theorem l0_02 : ∀ (k : Nat) (b : Bool) (x : ByteArray) (l : List S44) (n i e : Int), cell_CheckRecord.l0 k b x l n i = some e → e = 0 ∨ e = 2
  | 0, _, _, _, _, _, _, h => by simp [cell_CheckRecord.l0] at h
  | k + 1, b, x, l, n, i, e, h => by
    have ih := l0_02 k
    have hm : ∀ b : Bool, ((cell_may.f b).bind fun t => some t) = some e → e = 0 ∨ e = 2 := by
      intro b h
      cases b
      · exact .inr (Option.some.inj h).symm
      · exact .inl (Option.some.inj h).symm
    simp only [cell_CheckRecord.l0] at h
    split at h
    case isFalse => exact hm _ h
    split at h
    case isFalse => exact absurd h (by simp)
    split at h
    case isFalse => exact absurd h (by simp)
    split at h
    case isFalse => exact ih _ _ _ _ _ _ h
    obtain ⟨t, _, h⟩ := Option.bind_eq_some_iff.mp h
    split at h
    case isFalse => exact ih _ _ _ _ _ _ h
    split at h
    case isFalse => exact ih _ _ _ _ _ _ h
    obtain ⟨t, _, h⟩ := Option.bind_eq_some_iff.mp h
    exact ih _ _ _ _ _ _ h
theorem j1_02 (k : Nat) (b : Bool) (x0 x1 x2 x3 : Int) (x4 : ByteArray) (x5 x6 x7 x8 : Int) (l : List S44) (e : Int) (h : cell_CheckRecord.j1 k b x0 x1 x2 x3 x4 x5 x6 x7 x8 l = some e) : e = 0 ∨ e = 2 := by
  cases k with
  | zero => simp [cell_CheckRecord.j1] at h
  | succ k =>
    simp only [cell_CheckRecord.j1] at h
    exact l0_02 _ _ _ _ _ _ _ h
theorem j0_02 (k : Nat) (b : Bool) (x0 x1 x2 x3 : Int) (x4 : ByteArray) (x5 x6 x7 x8 : Int) (l : List S44) (e : Int) (h : cell_CheckRecord.j0 k b x0 x1 x2 x3 x4 x5 x6 x7 x8 l = some e) : e = 0 ∨ e = 2 := by
  cases k with
  | zero => simp [cell_CheckRecord.j0] at h
  | succ k =>
    simp only [cell_CheckRecord.j0] at h
    repeat' split at h
    all_goals exact j1_02 _ _ _ _ _ _ _ _ _ _ _ _ _ h
theorem check_02 (k : Nat) (x0 x1 x2 x3 : Int) (x4 : ByteArray) (x5 x6 x7 x8 : Int) (l : List S44) (e : Int) (h : cell_CheckRecord.f k x0 x1 x2 x3 x4 x5 x6 x7 x8 l = some e) : e = 0 ∨ e = 2 := by
  unfold cell_CheckRecord.f at h
  obtain ⟨t, _, h⟩ := Option.bind_eq_some_iff.mp h
  repeat' split at h
  all_goals exact j0_02 _ _ _ _ _ _ _ _ _ _ _ _ _ h
theorem four_boxes (W : World) (o1 o2 o3 o4 : Obj) : ∃ V, (((W.alloc o1).alloc o2).alloc o3).alloc o4 = V ∧ V.heap[W.heap.size]? = some o1 ∧ V.heap[W.heap.size + 1]? = some o2 ∧ V.heap[W.heap.size + 1 + 1]? = some o3 ∧ V.heap[W.heap.size + 1 + 1 + 1]? = some o4 ∧ Below W.heap.size W V ∧ V.heap.size = W.heap.size + 4 := by
  obtain ⟨V, hV, h1, h2, h3, hb, hs⟩ := three_boxes W o1 o2 o3
  have h := blk_new V o4
  rw [hs] at h
  refine ⟨_, rfl, ?_, ?_, ?_, ?_, ?_, ?_⟩ <;> rw [hV]
  · exact blk_alloc h1 o4
  · exact blk_alloc h2 o4
  · exact blk_alloc h3 o4
  · exact h
  · exact below_alloc hb _
  · rw [World.size_alloc, hs]
set_option maxHeartbeats 8000000 in
set_option maxRecDepth 100000 in
theorem status_nil (W : World) : Calls Try.prog 29 #[.pointer none] W fun e w' => e = .returned (.int .i64 0) ∧ Below W.heap.size W w' := by
  go_enter Try.func29, Try.ntmps29
  go_wp2
  go_ret
  exact ⟨rfl, Below.refl _ _⟩
set_option maxHeartbeats 8000000 in
set_option maxRecDepth 100000 in
theorem status_at (g : Nat) (st : Int) (W : World) (h2 : W.cell? ⟨g, 2, none⟩ = some (.int .i64 st)) : Calls Try.prog 29 #[.pointer (some ⟨g, 0, none⟩)] W fun e w' => e = .returned (.int .i64 st) ∧ Below W.heap.size W w' := by
  go_enter Try.func29, Try.ntmps29
  go_wp2
  go_ret
  exact ⟨rfl, Below.refl _ _⟩
theorem Kd.C_nil' {α : Type} (d : Kd α) (W : World) (A : Option Addr) : d.C W A ([] : List α).length [] := ⟨rfl, by simp, fun h => absurd h (Nat.lt_irrefl 0)⟩
set_option maxHeartbeats 8000000 in
set_option maxRecDepth 100000 in
theorem stays_at (g : Nat) (err : Int) (id ep st pr : Int) (an : ByteArray) (sw sl bw bl : Int) (Av : Option Addr) (cv : Nat) (l : List S44) (W : World) (hg : W.heap[g]? = some (.cells #[.int .i64 id, .int .i64 ep, .int .i64 st, .int .i64 pr, .string an, .int .i64 sw, .int .i64 sl, .int .i64 bw, .int .i64 bl, .slice Av l.length cv] 27 (0, 0))) : Calls Try.prog 30 #[.pointer (some ⟨g, 0, none⟩), .int .i64 err] W fun e w' => e = .returned (.tuple #[.agg #[.int .i64 id, .int .i64 ep, .int .i64 st, .int .i64 pr, .string an, .int .i64 sw, .int .i64 sl, .int .i64 bw, .int .i64 bl, .slice Av l.length cv], .int .i64 err]) ∧ Below W.heap.size W w' := by
  have u0 : ∀ o, (W.alloc o).cell? ⟨g, 0, none⟩ = some (.int .i64 id) := fun o => (blk_cell (blk_alloc hg o) 0).trans rfl
  have u1 : ∀ o, (W.alloc o).cell? ⟨g, 1, none⟩ = some (.int .i64 ep) := fun o => (blk_cell (blk_alloc hg o) 1).trans rfl
  have u2 : ∀ o, (W.alloc o).cell? ⟨g, 2, none⟩ = some (.int .i64 st) := fun o => (blk_cell (blk_alloc hg o) 2).trans rfl
  have u3 : ∀ o, (W.alloc o).cell? ⟨g, 3, none⟩ = some (.int .i64 pr) := fun o => (blk_cell (blk_alloc hg o) 3).trans rfl
  have u4 : ∀ o, (W.alloc o).cell? ⟨g, 4, none⟩ = some (.string an) := fun o => (blk_cell (blk_alloc hg o) 4).trans rfl
  have u5 : ∀ o, (W.alloc o).cell? ⟨g, 5, none⟩ = some (.int .i64 sw) := fun o => (blk_cell (blk_alloc hg o) 5).trans rfl
  have u6 : ∀ o, (W.alloc o).cell? ⟨g, 6, none⟩ = some (.int .i64 sl) := fun o => (blk_cell (blk_alloc hg o) 6).trans rfl
  have u7 : ∀ o, (W.alloc o).cell? ⟨g, 7, none⟩ = some (.int .i64 bw) := fun o => (blk_cell (blk_alloc hg o) 7).trans rfl
  have u8 : ∀ o, (W.alloc o).cell? ⟨g, 8, none⟩ = some (.int .i64 bl) := fun o => (blk_cell (blk_alloc hg o) 8).trans rfl
  have u9 : ∀ o, (W.alloc o).cell? ⟨g, 9, none⟩ = some (.slice Av l.length cv) := fun o => (blk_cell (blk_alloc hg o) 9).trans rfl
  have HG := Aside0.mk hg
  clear hg
  go_enter Try.func30, Try.ntmps30
  go_wp2
  refine bodyPost_ret (results_ct rfl _ _ W.heap.size 27 #[.int .i64 id, .int .i64 ep, .int .i64 st, .int .i64 pr, .string an, .int .i64 sw, .int .i64 sl, .int .i64 bw, .int .i64 bl, .slice Av l.length cv] (0, 0) _ rfl ?hres Try.underlying27 rfl (by kernel_rfl)) rfl ?_
  case hres => exact blk_new W _
  exact ⟨rfl, below_alloc (Below.refl _ _) _⟩
theorem pair_C (W : World) (a b v m : Int) : Kd.C k24 (W.alloc (.cells #[.int .i64 a, .int .i64 b, .int .i64 v, .int .i64 m] 24)) (some ⟨W.heap.size, 0, none⟩) 2 [⟨a, b⟩, ⟨v, m⟩] := by
  have hc := fun i => blk_cell (blk_new W (.cells #[.int .i64 a, .int .i64 b, .int .i64 v, .int .i64 m] 24)) i
  refine ⟨rfl, by omega, fun _ => ⟨_, rfl, fun j p hj => ?_⟩⟩
  match j, hj with
  | 0, hj =>
    cases hj
    refine ⟨[.int .i64 a, .int .i64 b], rfl, k24_mk _ ⟨a, b⟩, fun i u hu => ?_⟩
    match i, hu with
    | 0, hu => cases hu; exact (hc 0).trans rfl
    | 1, hu => cases hu; exact (hc 1).trans rfl
  | 1, hj =>
    cases hj
    refine ⟨[.int .i64 v, .int .i64 m], rfl, k24_mk _ ⟨v, m⟩, fun i u hu => ?_⟩
    match i, hu with
    | 0, hu => cases hu; exact (hc 2).trans rfl
    | 1, hu => cases hu; exact (hc 3).trans rfl
/-- The memory that a walk keeps an eye on: blocks (place, cells, type) and rows of writes (where their own memory may not lie, the slice, what it holds). -/
structure Stt (W w : World) (bs : List (Nat × Array Value × TypeId)) (rs : List ((Nat → Prop) × Value × List S44)) : Prop where
  below : Below W.heap.size W w
  box : ∀ b ∈ bs, w.heap[b.1]? = some (.cells b.2.1 b.2.2 (0, 0))
  row : ∀ r ∈ rs, Kd.R k44 44 w W.heap.size r.1 r.2.1 r.2.2
section
variable {W w w' : World} {bs : List (Nat × Array Value × TypeId)} {rs : List ((Nat → Prop) × Value × List S44)} {b0 b1 b2 b3 b4 : Nat × Array Value × TypeId} {g : Nat} {cs : Array Value} {t : TypeId} {ok : Nat → Prop} {v : Value} {m : List S44}
theorem Stt.step (h : Stt W w bs rs) (hb : Below w.heap.size w w') : Stt W w' bs rs := ⟨below_step h.below hb, fun b q => blk_below (h.box b q) hb, fun r q => Kd.R_below (h.row r q) hb⟩
theorem Stt.drewN (h : Stt W w bs rs) (n : Nat) : Stt W (w.drewN n) bs rs := ⟨pw_below_drewN h.below n, fun b q => blk_drewN (h.box b q) n, fun r q => Kd.R_drewN (h.row r q) n⟩
theorem Stt.at (h : Stt W w bs rs) {n : Nat} (e : w.drewN n = w') : Stt W w' bs rs := e ▸ h.drewN n
theorem Stt.more (h : Stt W w bs rs) (hg : w.heap[g]? = some (.cells cs t (0, 0))) : Stt W w ((g, cs, t) :: bs) rs := ⟨h.below, fun b q => by rcases List.mem_cons.1 q with rfl | q <;> first | exact hg | exact h.box b q, h.row⟩
theorem Stt.row' (h : Stt W w bs rs) (hr : Kd.R k44 44 w W.heap.size ok v m) : Stt W w bs ((ok, v, m) :: rs) := ⟨h.below, h.box, fun b q => by rcases List.mem_cons.1 q with rfl | q <;> first | exact hr | exact h.row b q⟩
theorem Stt.nil (h : Below W.heap.size W w) : Stt W w [] [] := ⟨h, (fun _ q => absurd q (by simp)), (fun _ q => absurd q (by simp))⟩
theorem Stt.bx0 (h : Stt W w ((g, cs, t) :: bs) rs) : w.heap[g]? = some (.cells cs t (0, 0)) := h.box (g, cs, t) (by simp)
theorem Stt.bx1 (h : Stt W w (b0 :: (g, cs, t) :: bs) rs) : w.heap[g]? = some (.cells cs t (0, 0)) := h.box (g, cs, t) (by simp)
theorem Stt.bx2 (h : Stt W w (b0 :: b1 :: (g, cs, t) :: bs) rs) : w.heap[g]? = some (.cells cs t (0, 0)) := h.box (g, cs, t) (by simp)
theorem Stt.bx3 (h : Stt W w (b0 :: b1 :: b2 :: (g, cs, t) :: bs) rs) : w.heap[g]? = some (.cells cs t (0, 0)) := h.box (g, cs, t) (by simp)
theorem Stt.bx4 (h : Stt W w (b0 :: b1 :: b2 :: b3 :: (g, cs, t) :: bs) rs) : w.heap[g]? = some (.cells cs t (0, 0)) := h.box (g, cs, t) (by simp)
theorem Stt.rx0 (h : Stt W w bs ((ok, v, m) :: rs)) : Kd.R k44 44 w W.heap.size ok v m := h.row (ok, v, m) (by simp)
theorem Stt.rx1 {r : (Nat → Prop) × Value × List S44} (h : Stt W w bs (r :: (ok, v, m) :: rs)) : Kd.R k44 44 w W.heap.size ok v m := h.row (ok, v, m) (by simp)
end
theorem cells2 {w : World} {g : Nat} {t : TypeId} {a0 a1 : Value} (h : w.heap[g]? = some (.cells #[a0, a1] t (0, 0))) : w.cell? ⟨g, 0, none⟩ = some a0 ∧ w.cell? ⟨g, 1, none⟩ = some a1 := ⟨(blk_cell h 0).trans rfl, (blk_cell h 1).trans rfl⟩
theorem cells10 {w : World} {g : Nat} {t : TypeId} {a0 a1 a2 a3 a4 a5 a6 a7 a8 a9 : Value} (h : w.heap[g]? = some (.cells #[a0, a1, a2, a3, a4, a5, a6, a7, a8, a9] t (0, 0))) : w.cell? ⟨g, 0, none⟩ = some a0 ∧ w.cell? ⟨g, 1, none⟩ = some a1 ∧ w.cell? ⟨g, 2, none⟩ = some a2 ∧ w.cell? ⟨g, 3, none⟩ = some a3 ∧ w.cell? ⟨g, 4, none⟩ = some a4 ∧ w.cell? ⟨g, 5, none⟩ = some a5 ∧ w.cell? ⟨g, 6, none⟩ = some a6 ∧ w.cell? ⟨g, 7, none⟩ = some a7 ∧ w.cell? ⟨g, 8, none⟩ = some a8 ∧ w.cell? ⟨g, 9, none⟩ = some a9 :=
  ⟨(blk_cell h 0).trans rfl, (blk_cell h 1).trans rfl, (blk_cell h 2).trans rfl, (blk_cell h 3).trans rfl, (blk_cell h 4).trans rfl, (blk_cell h 5).trans rfl, (blk_cell h 6).trans rfl, (blk_cell h 7).trans rfl, (blk_cell h 8).trans rfl, (blk_cell h 9).trans rfl⟩
theorem cells12 {w : World} {g : Nat} {t : TypeId} {a0 a1 a2 a3 a4 a5 a6 a7 a8 a9 a10 a11 : Value} (h : w.heap[g]? = some (.cells #[a0, a1, a2, a3, a4, a5, a6, a7, a8, a9, a10, a11] t (0, 0))) : w.cell? ⟨g, 0, none⟩ = some a0 ∧ w.cell? ⟨g, 1, none⟩ = some a1 ∧ w.cell? ⟨g, 2, none⟩ = some a2 ∧ w.cell? ⟨g, 3, none⟩ = some a3 ∧ w.cell? ⟨g, 4, none⟩ = some a4 ∧ w.cell? ⟨g, 5, none⟩ = some a5 ∧ w.cell? ⟨g, 6, none⟩ = some a6 ∧ w.cell? ⟨g, 7, none⟩ = some a7 ∧ w.cell? ⟨g, 8, none⟩ = some a8 ∧ w.cell? ⟨g, 9, none⟩ = some a9 ∧ w.cell? ⟨g, 10, none⟩ = some a10 ∧ w.cell? ⟨g, 11, none⟩ = some a11 :=
  ⟨(blk_cell h 0).trans rfl, (blk_cell h 1).trans rfl, (blk_cell h 2).trans rfl, (blk_cell h 3).trans rfl, (blk_cell h 4).trans rfl, (blk_cell h 5).trans rfl, (blk_cell h 6).trans rfl, (blk_cell h 7).trans rfl, (blk_cell h 8).trans rfl, (blk_cell h 9).trans rfl, (blk_cell h 10).trans rfl, (blk_cell h 11).trans rfl⟩
theorem frozen10 {w : World} {g : Nat} {t : TypeId} {cs : Array Value} (h : w.heap[g]? = some (.cells cs t (0, 0))) : w.frozen? ⟨g, 0, none⟩ = false ∧ w.frozen? ⟨g, 1, none⟩ = false ∧ w.frozen? ⟨g, 2, none⟩ = false ∧ w.frozen? ⟨g, 3, none⟩ = false ∧ w.frozen? ⟨g, 4, none⟩ = false ∧ w.frozen? ⟨g, 5, none⟩ = false ∧ w.frozen? ⟨g, 6, none⟩ = false ∧ w.frozen? ⟨g, 7, none⟩ = false ∧ w.frozen? ⟨g, 8, none⟩ = false ∧ w.frozen? ⟨g, 9, none⟩ = false :=
  ⟨blk_frozen h 0, blk_frozen h 1, blk_frozen h 2, blk_frozen h 3, blk_frozen h 4, blk_frozen h 5, blk_frozen h 6, blk_frozen h 7, blk_frozen h 8, blk_frozen h 9⟩
/-- The world in which the ten cells of a record have been written. -/
abbrev ten (w : World) (g : Nat) (a0 a1 a2 a3 a4 a5 a6 a7 a8 a9 : Value) : World := (((((((((w.setCell ⟨g, 0, none⟩ a0).setCell ⟨g, 1, none⟩ a1).setCell ⟨g, 2, none⟩ a2).setCell ⟨g, 3, none⟩ a3).setCell ⟨g, 4, none⟩ a4).setCell ⟨g, 5, none⟩ a5).setCell ⟨g, 6, none⟩ a6).setCell ⟨g, 7, none⟩ a7).setCell ⟨g, 8, none⟩ a8).setCell ⟨g, 9, none⟩ a9
theorem ten_put {w : World} {g : Nat} {t : TypeId} {z0 z1 z2 z3 z4 z5 z6 z7 z8 z9 : Value} (a0 a1 a2 a3 a4 a5 a6 a7 a8 a9 : Value) (h : w.heap[g]? = some (.cells #[z0, z1, z2, z3, z4, z5, z6, z7, z8, z9] t (0, 0))) : (ten w g a0 a1 a2 a3 a4 a5 a6 a7 a8 a9).heap[g]? = some (.cells #[a0, a1, a2, a3, a4, a5, a6, a7, a8, a9] t (0, 0)) := by
  have h1 := blk_put (cs' := #[a0, z1, z2, z3, z4, z5, z6, z7, z8, z9]) h 0 a0 rfl
  have h2 := blk_put (cs' := #[a0, a1, z2, z3, z4, z5, z6, z7, z8, z9]) h1 1 a1 rfl
  have h3 := blk_put (cs' := #[a0, a1, a2, z3, z4, z5, z6, z7, z8, z9]) h2 2 a2 rfl
  have h4 := blk_put (cs' := #[a0, a1, a2, a3, z4, z5, z6, z7, z8, z9]) h3 3 a3 rfl
  have h5 := blk_put (cs' := #[a0, a1, a2, a3, a4, z5, z6, z7, z8, z9]) h4 4 a4 rfl
  have h6 := blk_put (cs' := #[a0, a1, a2, a3, a4, a5, z6, z7, z8, z9]) h5 5 a5 rfl
  have h7 := blk_put (cs' := #[a0, a1, a2, a3, a4, a5, a6, z7, z8, z9]) h6 6 a6 rfl
  have h8 := blk_put (cs' := #[a0, a1, a2, a3, a4, a5, a6, a7, z8, z9]) h7 7 a7 rfl
  have h9 := blk_put (cs' := #[a0, a1, a2, a3, a4, a5, a6, a7, a8, z9]) h8 8 a8 rfl
  have h10 := blk_put (cs' := #[a0, a1, a2, a3, a4, a5, a6, a7, a8, a9]) h9 9 a9 rfl
  exact h10
theorem ten_below {W w : World} {g : Nat} (a0 a1 a2 a3 a4 a5 a6 a7 a8 a9 : Value) (h : Below W.heap.size W w) (hg : W.heap.size ≤ g) : Below W.heap.size W (ten w g a0 a1 a2 a3 a4 a5 a6 a7 a8 a9) :=
  below_set (below_set (below_set (below_set (below_set (below_set (below_set (below_set (below_set (below_set h hg) hg) hg) hg) hg) hg) hg) hg) hg) hg
theorem ten_row {w : World} {g base : Nat} {ok : Nat → Prop} {v : Value} {m : List S44} (a0 a1 a2 a3 a4 a5 a6 a7 a8 a9 : Value) (h : Kd.R k44 44 w base ok v m) (hg : ∀ b, ok b → b ≠ g) : Kd.R k44 44 (ten w g a0 a1 a2 a3 a4 a5 a6 a7 a8 a9) base (fun _ => True) v m :=
  Kd.R_mono (Kd.R_far (Kd.R_far (Kd.R_far (Kd.R_far (Kd.R_far (Kd.R_far (Kd.R_far (Kd.R_far (Kd.R_far (Kd.R_far h hg _) hg _) hg _) hg _) hg _) hg _) hg _) hg _) hg _) hg _) (fun _ _ => trivial)
/-- The end of a walk that answers a record. -/
theorem post_row {id ep st pr : Int} {an : ByteArray} {sw sl bw bl : Int} {l : List S44} {err : Int} {W w : World} {g : Nat} {ok : Nat → Prop} {v : Value} (a0 a1 a2 a3 a4 a5 a6 a7 a8 a9 : Value) (hb : Below W.heap.size W w) (hg : W.heap.size ≤ g) (hr : Kd.R k44 44 w W.heap.size ok v l) (hn : ∀ b, ok b → b ≠ g) :
    recPost id ep st pr an sw sl bw bl l err W (.returned (.tuple #[.agg #[.int .i64 id, .int .i64 ep, .int .i64 st, .int .i64 pr, .string an, .int .i64 sw, .int .i64 sl, .int .i64 bw, .int .i64 bl, v], .int .i64 err])) (ten w g a0 a1 a2 a3 a4 a5 a6 a7 a8 a9) :=
  ⟨v, rfl, ten_row _ _ _ _ _ _ _ _ _ _ hr hn, ten_below _ _ _ _ _ _ _ _ _ _ hb hg⟩
set_option maxHeartbeats 8000000 in
set_option maxRecDepth 100000 in
theorem stays_nil (err : Int) (W : World) : Calls Try.prog 30 #[.pointer none, .int .i64 err] W fun e w' => e = .returned (.tuple #[.agg #[.int .i64 0, .int .i64 0, .int .i64 0, .int .i64 0, .string ⟨#[]⟩, .int .i64 0, .int .i64 0, .int .i64 0, .int .i64 0, .slice none 0 0], .int .i64 err]) ∧ Below W.heap.size W w' := by
  go_enter Try.func30, Try.ntmps30
  go_wp2
  refine bodyPost_ret (results_ct rfl _ _ W.heap.size 27 #[.int .i64 0, .int .i64 0, .int .i64 0, .int .i64 0, .string ⟨#[]⟩, .int .i64 0, .int .i64 0, .int .i64 0, .int .i64 0, .slice none 0 0] (0, 0) _ rfl ?hres Try.underlying27 rfl (by kernel_rfl)) rfl ?_
  case hres => exact blk_new W _
  exact ⟨rfl, below_alloc (Below.refl _ _) _⟩
theorem hltx0 {N g : Nat} {cs : Array Value} {t : TypeId} {bs : List (Nat × Array Value × TypeId)} (h : ∀ b ∈ (g, cs, t) :: bs, b.1 < N) : g < N := h (g, cs, t) (by simp)
theorem cells10a {w : World} {g : Nat} {t : TypeId} {a0 a1 a2 a3 a4 a5 a6 a7 a8 a9 : Value} (h : w.heap[g]? = some (.cells #[a0, a1, a2, a3, a4, a5, a6, a7, a8, a9] t (0, 0))) : (∀ ob, (w.alloc ob).cell? ⟨g, 0, none⟩ = some a0) ∧ (∀ ob, (w.alloc ob).cell? ⟨g, 1, none⟩ = some a1) ∧ (∀ ob, (w.alloc ob).cell? ⟨g, 2, none⟩ = some a2) ∧ (∀ ob, (w.alloc ob).cell? ⟨g, 3, none⟩ = some a3) ∧ (∀ ob, (w.alloc ob).cell? ⟨g, 4, none⟩ = some a4) ∧ (∀ ob, (w.alloc ob).cell? ⟨g, 5, none⟩ = some a5) ∧ (∀ ob, (w.alloc ob).cell? ⟨g, 6, none⟩ = some a6) ∧ (∀ ob, (w.alloc ob).cell? ⟨g, 7, none⟩ = some a7) ∧ (∀ ob, (w.alloc ob).cell? ⟨g, 8, none⟩ = some a8) ∧ (∀ ob, (w.alloc ob).cell? ⟨g, 9, none⟩ = some a9) :=
  ⟨fun ob => (blk_cell (blk_alloc h ob) 0).trans rfl, fun ob => (blk_cell (blk_alloc h ob) 1).trans rfl, fun ob => (blk_cell (blk_alloc h ob) 2).trans rfl, fun ob => (blk_cell (blk_alloc h ob) 3).trans rfl, fun ob => (blk_cell (blk_alloc h ob) 4).trans rfl, fun ob => (blk_cell (blk_alloc h ob) 5).trans rfl, fun ob => (blk_cell (blk_alloc h ob) 6).trans rfl, fun ob => (blk_cell (blk_alloc h ob) 7).trans rfl, fun ob => (blk_cell (blk_alloc h ob) 8).trans rfl, fun ob => (blk_cell (blk_alloc h ob) 9).trans rfl⟩
theorem frozen10a {w : World} {g : Nat} {t : TypeId} {cs : Array Value} (h : w.heap[g]? = some (.cells cs t (0, 0))) : (∀ ob, (w.alloc ob).frozen? ⟨g, 0, none⟩ = false) ∧ (∀ ob, (w.alloc ob).frozen? ⟨g, 1, none⟩ = false) ∧ (∀ ob, (w.alloc ob).frozen? ⟨g, 2, none⟩ = false) ∧ (∀ ob, (w.alloc ob).frozen? ⟨g, 3, none⟩ = false) ∧ (∀ ob, (w.alloc ob).frozen? ⟨g, 4, none⟩ = false) ∧ (∀ ob, (w.alloc ob).frozen? ⟨g, 5, none⟩ = false) ∧ (∀ ob, (w.alloc ob).frozen? ⟨g, 6, none⟩ = false) ∧ (∀ ob, (w.alloc ob).frozen? ⟨g, 7, none⟩ = false) ∧ (∀ ob, (w.alloc ob).frozen? ⟨g, 8, none⟩ = false) ∧ (∀ ob, (w.alloc ob).frozen? ⟨g, 9, none⟩ = false) :=
  ⟨fun ob => blk_frozen (blk_alloc h ob) 0, fun ob => blk_frozen (blk_alloc h ob) 1, fun ob => blk_frozen (blk_alloc h ob) 2, fun ob => blk_frozen (blk_alloc h ob) 3, fun ob => blk_frozen (blk_alloc h ob) 4, fun ob => blk_frozen (blk_alloc h ob) 5, fun ob => blk_frozen (blk_alloc h ob) 6, fun ob => blk_frozen (blk_alloc h ob) 7, fun ob => blk_frozen (blk_alloc h ob) 8, fun ob => blk_frozen (blk_alloc h ob) 9⟩
theorem ten_far {w : World} {g base : Nat} {ok : Nat → Prop} {v : Value} {m : List S44} (a0 a1 a2 a3 a4 a5 a6 a7 a8 a9 : Value) (h : Kd.R k44 44 w base ok v m) (hg : ∀ b, ok b → b ≠ g) : Kd.R k44 44 (ten w g a0 a1 a2 a3 a4 a5 a6 a7 a8 a9) base ok v m := by
  unfold ten
  iterate 10 refine Kd.R_far ?_ hg _
  exact h
set_option maxHeartbeats 8000000 in
set_option maxRecDepth 100000 in
theorem stands_no (id ep st pr : Int) (an : ByteArray) (sw sl bw bl : Int) (vw : Value) (qid : Int) (qan : ByteArray) (W : World) :
    Calls Try.prog 26 #[.agg #[.int .i64 id, .int .i64 ep, .int .i64 st, .int .i64 pr, .string an, .int .i64 sw, .int .i64 sl, .int .i64 bw, .int .i64 bl, vw], .bool false, .int .i64 qid, .string qan] W fun e w' => e = .returned (.tuple #[.pointer none, .bool true]) ∧ Below W.heap.size W w' := by
  go_enter Try.func26, Try.ntmps26
  go_wp2
  go_ret2
  exact ⟨rfl, below_alloc (Below.refl _ _) _⟩
/-- What 'stands' tells of a record that is there: a copy in memory of its own, and whether it fits. -/
def standsPost (id ep st pr : Int) (an : ByteArray) (sw sl bw bl : Int) (l : List S44) (W : World) (ok : Bool) (e : Ending) (w' : World) : Prop :=
  ∃ (g : Nat) (v : Value), e = .returned (.tuple #[.pointer (some ⟨g, 0, none⟩), .bool ok]) ∧ w'.heap[g]? = some (.cells #[.int .i64 id, .int .i64 ep, .int .i64 st, .int .i64 pr, .string an, .int .i64 sw, .int .i64 sl, .int .i64 bw, .int .i64 bl, v] 27 (0, 0)) ∧ W.heap.size ≤ g ∧ Kd.R k44 44 w' W.heap.size (fun b => b ≠ g) v l ∧ Below W.heap.size W w'
set_option maxHeartbeats 16000000 in
set_option maxRecDepth 100000 in
theorem stands_bad (k : Nat) (id ep st pr : Int) (an : ByteArray) (sw sl bw bl : Int) (A : Option Addr) (c : Nat) (l : List S44) (qid : Int) (qan : ByteArray) (W : World) (hr : Kd.C k44 W A l.length l) (hc : l.length ≤ c) (hl : l.length < 1000000000000) (hk : cell_CheckRecord.f k id ep st pr an sw sl bw bl l = some 2) :
    Calls Try.prog 26 #[.agg #[.int .i64 id, .int .i64 ep, .int .i64 st, .int .i64 pr, .string an, .int .i64 sw, .int .i64 sl, .int .i64 bw, .int .i64 bl, .slice A l.length c], .bool true, .int .i64 qid, .string qan] W (standsPost id ep st pr an sw sl bw bl l W false) := by
  have HR := Aside0.mk hr
  have HC := Aside0.mk hc
  have HK := Aside0.mk hk
  have HCL := Aside0.mk (show api_Write.f l = some l from if_pos hl)
  clear hr hc hk hl
  go_enter Try.func26, Try.ntmps26
  go_wp2_with fail
  obtain ⟨w1, hw1⟩ : ∃ V, W.alloc (.cells #[.int .i64 id, .int .i64 ep, .int .i64 st, .int .i64 pr, .string an, .int .i64 sw, .int .i64 sl, .int .i64 bw, .int .i64 bl, .slice A l.length c] 27) = V := ⟨_, rfl⟩
  have HB1 := Aside0.mk (show Below W.heap.size W w1 from by rw [← hw1]; exact below_alloc (Below.refl _ _) _)
  have HG1 := Aside0.mk (show w1.heap[W.heap.size]? = some (.cells #[.int .i64 id, .int .i64 ep, .int .i64 st, .int .i64 pr, .string an, .int .i64 sw, .int .i64 sl, .int .i64 bw, .int .i64 bl, .slice A l.length c] 27 (0, 0)) from by rw [← hw1]; exact blk_new W _)
  have HW1 := Aside0.mk (show W.heap.size < w1.heap.size from by rw [← hw1]; simp)
  rw [hw1]
  clear hw1
  refine (api_Write.calls A c l l w1 (Kd.C_below HR.out HB1.out) HC.out HCL.out).mono ?_
  rintro e w2 ⟨v, rfl, hR2, hb2⟩
  obtain ⟨Av, cv, rfl⟩ := Kd.R_slice hR2
  have HR2 := Aside0.mk hR2
  have HB2 := Aside0.mk (below_step HB1.out hb2)
  have hg2 := blk_below HG1.out hb2
  have HG2 := Aside0.mk hg2
  have c9 : w2.cell? ⟨W.heap.size, 9, none⟩ = some (.slice A l.length c) := (blk_cell hg2 9).trans rfl
  have f9 := blk_frozen hg2 9
  clear hb2 hR2 hg2
  go_wp2_with fail
  obtain ⟨w3, hw3⟩ : ∃ V, w2.setCell ⟨W.heap.size, 9, none⟩ (.slice Av l.length cv) = V := ⟨_, rfl⟩
  have HG3 := Aside0.mk (show w3.heap[W.heap.size]? = some (.cells #[.int .i64 id, .int .i64 ep, .int .i64 st, .int .i64 pr, .string an, .int .i64 sw, .int .i64 sl, .int .i64 bw, .int .i64 bl, .slice Av l.length cv] 27 (0, 0)) from by rw [← hw3]; exact blk_put (cs := #[.int .i64 id, .int .i64 ep, .int .i64 st, .int .i64 pr, .string an, .int .i64 sw, .int .i64 sl, .int .i64 bw, .int .i64 bl, .slice A l.length c]) HG2.out 9 _ rfl)
  have HB3 := Aside0.mk (show Below W.heap.size W w3 from by rw [← hw3]; exact below_set HB2.out (Nat.le_refl _))
  have HR3 := Aside0.mk (show Kd.R k44 44 w3 w1.heap.size (fun b => b ≠ W.heap.size) (.slice Av l.length cv) l from by rw [← hw3]; exact Kd.R_far (Kd.R_mono (Kd.R_bound HR2.out) (fun b hb => by have h1 := hb.2.1; have h2 := HW1.out; show b ≠ W.heap.size; omega)) (fun b hb => hb) _)
  rw [hw3]
  clear hw3 c9 f9 HG2 HB2 HR2
  have c0 : w3.cell? ⟨W.heap.size, 0, none⟩ = some (.int .i64 id) := (blk_cell HG3.out 0).trans rfl
  have c1 : w3.cell? ⟨W.heap.size, 1, none⟩ = some (.int .i64 ep) := (blk_cell HG3.out 1).trans rfl
  have c2 : w3.cell? ⟨W.heap.size, 2, none⟩ = some (.int .i64 st) := (blk_cell HG3.out 2).trans rfl
  have c3 : w3.cell? ⟨W.heap.size, 3, none⟩ = some (.int .i64 pr) := (blk_cell HG3.out 3).trans rfl
  have c4 : w3.cell? ⟨W.heap.size, 4, none⟩ = some (.string an) := (blk_cell HG3.out 4).trans rfl
  have c5 : w3.cell? ⟨W.heap.size, 5, none⟩ = some (.int .i64 sw) := (blk_cell HG3.out 5).trans rfl
  have c6 : w3.cell? ⟨W.heap.size, 6, none⟩ = some (.int .i64 sl) := (blk_cell HG3.out 6).trans rfl
  have c7 : w3.cell? ⟨W.heap.size, 7, none⟩ = some (.int .i64 bw) := (blk_cell HG3.out 7).trans rfl
  have c8 : w3.cell? ⟨W.heap.size, 8, none⟩ = some (.int .i64 bl) := (blk_cell HG3.out 8).trans rfl
  have c9 : w3.cell? ⟨W.heap.size, 9, none⟩ = some (.slice Av l.length cv) := (blk_cell HG3.out 9).trans rfl
  first
    | (go_region_with (go_at_call 27; refine (cell_CheckRecord.calls k id ep st pr an sw sl bw bl Av cv l 2 w3.drew (Kd.R_reads' (Kd.R_drew HR3.out)).2.2 (Kd.R_reads' HR3.out).2.1 HK.out).mono ?_; rintro e w4 ⟨rfl, hb4⟩; have HB4 := Aside0.mk (below_step (below_drew1 (Below.refl w3.heap.size w3)) hb4); clear hb4))
    | fail
  all_goals go_wp2
  all_goals go_ret2
  all_goals exact ⟨W.heap.size, .slice Av l.length cv, rfl, blk_below HG3.out HB4.out, Nat.le_refl _, Kd.R_lower (Kd.R_below HR3.out HB4.out) (Nat.le_of_lt HW1.out), below_step HB3.out HB4.out⟩
set_option maxHeartbeats 16000000 in
set_option maxRecDepth 100000 in
theorem stands_id (k : Nat) (id ep st pr : Int) (an : ByteArray) (sw sl bw bl : Int) (A : Option Addr) (c : Nat) (l : List S44) (qid : Int) (qan : ByteArray) (W : World) (hr : Kd.C k44 W A l.length l) (hc : l.length ≤ c) (hl : l.length < 1000000000000) (hk : cell_CheckRecord.f k id ep st pr an sw sl bw bl l = some 0) (q1 : (id == qid) = false) :
    Calls Try.prog 26 #[.agg #[.int .i64 id, .int .i64 ep, .int .i64 st, .int .i64 pr, .string an, .int .i64 sw, .int .i64 sl, .int .i64 bw, .int .i64 bl, .slice A l.length c], .bool true, .int .i64 qid, .string qan] W (standsPost id ep st pr an sw sl bw bl l W false) := by
  have HR := Aside0.mk hr
  have HC := Aside0.mk hc
  have HK := Aside0.mk hk
  have HCL := Aside0.mk (show api_Write.f l = some l from if_pos hl)
  clear hr hc hk hl
  go_enter Try.func26, Try.ntmps26
  go_wp2_with fail
  obtain ⟨w1, hw1⟩ : ∃ V, W.alloc (.cells #[.int .i64 id, .int .i64 ep, .int .i64 st, .int .i64 pr, .string an, .int .i64 sw, .int .i64 sl, .int .i64 bw, .int .i64 bl, .slice A l.length c] 27) = V := ⟨_, rfl⟩
  have HB1 := Aside0.mk (show Below W.heap.size W w1 from by rw [← hw1]; exact below_alloc (Below.refl _ _) _)
  have HG1 := Aside0.mk (show w1.heap[W.heap.size]? = some (.cells #[.int .i64 id, .int .i64 ep, .int .i64 st, .int .i64 pr, .string an, .int .i64 sw, .int .i64 sl, .int .i64 bw, .int .i64 bl, .slice A l.length c] 27 (0, 0)) from by rw [← hw1]; exact blk_new W _)
  have HW1 := Aside0.mk (show W.heap.size < w1.heap.size from by rw [← hw1]; simp)
  rw [hw1]
  clear hw1
  refine (api_Write.calls A c l l w1 (Kd.C_below HR.out HB1.out) HC.out HCL.out).mono ?_
  rintro e w2 ⟨v, rfl, hR2, hb2⟩
  obtain ⟨Av, cv, rfl⟩ := Kd.R_slice hR2
  have HR2 := Aside0.mk hR2
  have HB2 := Aside0.mk (below_step HB1.out hb2)
  have hg2 := blk_below HG1.out hb2
  have HG2 := Aside0.mk hg2
  have c9 : w2.cell? ⟨W.heap.size, 9, none⟩ = some (.slice A l.length c) := (blk_cell hg2 9).trans rfl
  have f9 := blk_frozen hg2 9
  clear hb2 hR2 hg2
  go_wp2_with fail
  obtain ⟨w3, hw3⟩ : ∃ V, w2.setCell ⟨W.heap.size, 9, none⟩ (.slice Av l.length cv) = V := ⟨_, rfl⟩
  have HG3 := Aside0.mk (show w3.heap[W.heap.size]? = some (.cells #[.int .i64 id, .int .i64 ep, .int .i64 st, .int .i64 pr, .string an, .int .i64 sw, .int .i64 sl, .int .i64 bw, .int .i64 bl, .slice Av l.length cv] 27 (0, 0)) from by rw [← hw3]; exact blk_put (cs := #[.int .i64 id, .int .i64 ep, .int .i64 st, .int .i64 pr, .string an, .int .i64 sw, .int .i64 sl, .int .i64 bw, .int .i64 bl, .slice A l.length c]) HG2.out 9 _ rfl)
  have HB3 := Aside0.mk (show Below W.heap.size W w3 from by rw [← hw3]; exact below_set HB2.out (Nat.le_refl _))
  have HR3 := Aside0.mk (show Kd.R k44 44 w3 w1.heap.size (fun b => b ≠ W.heap.size) (.slice Av l.length cv) l from by rw [← hw3]; exact Kd.R_far (Kd.R_mono (Kd.R_bound HR2.out) (fun b hb => by have h1 := hb.2.1; have h2 := HW1.out; show b ≠ W.heap.size; omega)) (fun b hb => hb) _)
  rw [hw3]
  clear hw3 c9 f9 HG2 HB2 HR2
  have c0 : w3.cell? ⟨W.heap.size, 0, none⟩ = some (.int .i64 id) := (blk_cell HG3.out 0).trans rfl
  have c1 : w3.cell? ⟨W.heap.size, 1, none⟩ = some (.int .i64 ep) := (blk_cell HG3.out 1).trans rfl
  have c2 : w3.cell? ⟨W.heap.size, 2, none⟩ = some (.int .i64 st) := (blk_cell HG3.out 2).trans rfl
  have c3 : w3.cell? ⟨W.heap.size, 3, none⟩ = some (.int .i64 pr) := (blk_cell HG3.out 3).trans rfl
  have c4 : w3.cell? ⟨W.heap.size, 4, none⟩ = some (.string an) := (blk_cell HG3.out 4).trans rfl
  have c5 : w3.cell? ⟨W.heap.size, 5, none⟩ = some (.int .i64 sw) := (blk_cell HG3.out 5).trans rfl
  have c6 : w3.cell? ⟨W.heap.size, 6, none⟩ = some (.int .i64 sl) := (blk_cell HG3.out 6).trans rfl
  have c7 : w3.cell? ⟨W.heap.size, 7, none⟩ = some (.int .i64 bw) := (blk_cell HG3.out 7).trans rfl
  have c8 : w3.cell? ⟨W.heap.size, 8, none⟩ = some (.int .i64 bl) := (blk_cell HG3.out 8).trans rfl
  have c9 : w3.cell? ⟨W.heap.size, 9, none⟩ = some (.slice Av l.length cv) := (blk_cell HG3.out 9).trans rfl
  first
    | (go_region_with (go_at_call 27; refine (cell_CheckRecord.calls k id ep st pr an sw sl bw bl Av cv l 0 w3.drew (Kd.R_reads' (Kd.R_drew HR3.out)).2.2 (Kd.R_reads' HR3.out).2.1 HK.out).mono ?_; rintro e w4 ⟨rfl, hb4⟩; have HB4 := Aside0.mk (below_step (below_drew1 (Below.refl w3.heap.size w3)) hb4); clear hb4; have p0 : w4.cell? ⟨W.heap.size, 0, none⟩ = some (.int .i64 id) := (blk_cell (blk_below HG3.out HB4.out) 0).trans rfl; have p4 : w4.cell? ⟨W.heap.size, 4, none⟩ = some (.string an) := (blk_cell (blk_below HG3.out HB4.out) 4).trans rfl))
    | fail
  all_goals go_wp2
  all_goals go_ret2
  all_goals exact ⟨W.heap.size, .slice Av l.length cv, rfl, blk_below HG3.out HB4.out, Nat.le_refl _, Kd.R_lower (Kd.R_below HR3.out HB4.out) (Nat.le_of_lt HW1.out), below_step HB3.out HB4.out⟩
set_option maxHeartbeats 16000000 in
set_option maxRecDepth 100000 in
theorem stands_an (k : Nat) (id ep st pr : Int) (an : ByteArray) (sw sl bw bl : Int) (A : Option Addr) (c : Nat) (l : List S44) (qid : Int) (qan : ByteArray) (W : World) (hr : Kd.C k44 W A l.length l) (hc : l.length ≤ c) (hl : l.length < 1000000000000) (hk : cell_CheckRecord.f k id ep st pr an sw sl bw bl l = some 0) (q1 : (id == qid) = true) (q2 : (an.toList == qan.toList) = false) :
    Calls Try.prog 26 #[.agg #[.int .i64 id, .int .i64 ep, .int .i64 st, .int .i64 pr, .string an, .int .i64 sw, .int .i64 sl, .int .i64 bw, .int .i64 bl, .slice A l.length c], .bool true, .int .i64 qid, .string qan] W (standsPost id ep st pr an sw sl bw bl l W false) := by
  have HR := Aside0.mk hr
  have HC := Aside0.mk hc
  have HK := Aside0.mk hk
  have HCL := Aside0.mk (show api_Write.f l = some l from if_pos hl)
  clear hr hc hk hl
  go_enter Try.func26, Try.ntmps26
  go_wp2_with fail
  obtain ⟨w1, hw1⟩ : ∃ V, W.alloc (.cells #[.int .i64 id, .int .i64 ep, .int .i64 st, .int .i64 pr, .string an, .int .i64 sw, .int .i64 sl, .int .i64 bw, .int .i64 bl, .slice A l.length c] 27) = V := ⟨_, rfl⟩
  have HB1 := Aside0.mk (show Below W.heap.size W w1 from by rw [← hw1]; exact below_alloc (Below.refl _ _) _)
  have HG1 := Aside0.mk (show w1.heap[W.heap.size]? = some (.cells #[.int .i64 id, .int .i64 ep, .int .i64 st, .int .i64 pr, .string an, .int .i64 sw, .int .i64 sl, .int .i64 bw, .int .i64 bl, .slice A l.length c] 27 (0, 0)) from by rw [← hw1]; exact blk_new W _)
  have HW1 := Aside0.mk (show W.heap.size < w1.heap.size from by rw [← hw1]; simp)
  rw [hw1]
  clear hw1
  refine (api_Write.calls A c l l w1 (Kd.C_below HR.out HB1.out) HC.out HCL.out).mono ?_
  rintro e w2 ⟨v, rfl, hR2, hb2⟩
  obtain ⟨Av, cv, rfl⟩ := Kd.R_slice hR2
  have HR2 := Aside0.mk hR2
  have HB2 := Aside0.mk (below_step HB1.out hb2)
  have hg2 := blk_below HG1.out hb2
  have HG2 := Aside0.mk hg2
  have c9 : w2.cell? ⟨W.heap.size, 9, none⟩ = some (.slice A l.length c) := (blk_cell hg2 9).trans rfl
  have f9 := blk_frozen hg2 9
  clear hb2 hR2 hg2
  go_wp2_with fail
  obtain ⟨w3, hw3⟩ : ∃ V, w2.setCell ⟨W.heap.size, 9, none⟩ (.slice Av l.length cv) = V := ⟨_, rfl⟩
  have HG3 := Aside0.mk (show w3.heap[W.heap.size]? = some (.cells #[.int .i64 id, .int .i64 ep, .int .i64 st, .int .i64 pr, .string an, .int .i64 sw, .int .i64 sl, .int .i64 bw, .int .i64 bl, .slice Av l.length cv] 27 (0, 0)) from by rw [← hw3]; exact blk_put (cs := #[.int .i64 id, .int .i64 ep, .int .i64 st, .int .i64 pr, .string an, .int .i64 sw, .int .i64 sl, .int .i64 bw, .int .i64 bl, .slice A l.length c]) HG2.out 9 _ rfl)
  have HB3 := Aside0.mk (show Below W.heap.size W w3 from by rw [← hw3]; exact below_set HB2.out (Nat.le_refl _))
  have HR3 := Aside0.mk (show Kd.R k44 44 w3 w1.heap.size (fun b => b ≠ W.heap.size) (.slice Av l.length cv) l from by rw [← hw3]; exact Kd.R_far (Kd.R_mono (Kd.R_bound HR2.out) (fun b hb => by have h1 := hb.2.1; have h2 := HW1.out; show b ≠ W.heap.size; omega)) (fun b hb => hb) _)
  rw [hw3]
  clear hw3 c9 f9 HG2 HB2 HR2
  have c0 : w3.cell? ⟨W.heap.size, 0, none⟩ = some (.int .i64 id) := (blk_cell HG3.out 0).trans rfl
  have c1 : w3.cell? ⟨W.heap.size, 1, none⟩ = some (.int .i64 ep) := (blk_cell HG3.out 1).trans rfl
  have c2 : w3.cell? ⟨W.heap.size, 2, none⟩ = some (.int .i64 st) := (blk_cell HG3.out 2).trans rfl
  have c3 : w3.cell? ⟨W.heap.size, 3, none⟩ = some (.int .i64 pr) := (blk_cell HG3.out 3).trans rfl
  have c4 : w3.cell? ⟨W.heap.size, 4, none⟩ = some (.string an) := (blk_cell HG3.out 4).trans rfl
  have c5 : w3.cell? ⟨W.heap.size, 5, none⟩ = some (.int .i64 sw) := (blk_cell HG3.out 5).trans rfl
  have c6 : w3.cell? ⟨W.heap.size, 6, none⟩ = some (.int .i64 sl) := (blk_cell HG3.out 6).trans rfl
  have c7 : w3.cell? ⟨W.heap.size, 7, none⟩ = some (.int .i64 bw) := (blk_cell HG3.out 7).trans rfl
  have c8 : w3.cell? ⟨W.heap.size, 8, none⟩ = some (.int .i64 bl) := (blk_cell HG3.out 8).trans rfl
  have c9 : w3.cell? ⟨W.heap.size, 9, none⟩ = some (.slice Av l.length cv) := (blk_cell HG3.out 9).trans rfl
  first
    | (go_region_with (go_at_call 27; refine (cell_CheckRecord.calls k id ep st pr an sw sl bw bl Av cv l 0 w3.drew (Kd.R_reads' (Kd.R_drew HR3.out)).2.2 (Kd.R_reads' HR3.out).2.1 HK.out).mono ?_; rintro e w4 ⟨rfl, hb4⟩; have HB4 := Aside0.mk (below_step (below_drew1 (Below.refl w3.heap.size w3)) hb4); clear hb4; have p0 : w4.cell? ⟨W.heap.size, 0, none⟩ = some (.int .i64 id) := (blk_cell (blk_below HG3.out HB4.out) 0).trans rfl; have p4 : w4.cell? ⟨W.heap.size, 4, none⟩ = some (.string an) := (blk_cell (blk_below HG3.out HB4.out) 4).trans rfl))
    | fail
  all_goals go_wp2
  all_goals go_ret2
  all_goals exact ⟨W.heap.size, .slice Av l.length cv, rfl, blk_below HG3.out HB4.out, Nat.le_refl _, Kd.R_lower (Kd.R_below HR3.out HB4.out) (Nat.le_of_lt HW1.out), below_step HB3.out HB4.out⟩
set_option maxHeartbeats 16000000 in
set_option maxRecDepth 100000 in
theorem stands_ok (k : Nat) (id ep st pr : Int) (an : ByteArray) (sw sl bw bl : Int) (A : Option Addr) (c : Nat) (l : List S44) (qid : Int) (qan : ByteArray) (W : World) (hr : Kd.C k44 W A l.length l) (hc : l.length ≤ c) (hl : l.length < 1000000000000) (hk : cell_CheckRecord.f k id ep st pr an sw sl bw bl l = some 0) (q1 : (id == qid) = true) (q2 : (an.toList == qan.toList) = true) :
    Calls Try.prog 26 #[.agg #[.int .i64 id, .int .i64 ep, .int .i64 st, .int .i64 pr, .string an, .int .i64 sw, .int .i64 sl, .int .i64 bw, .int .i64 bl, .slice A l.length c], .bool true, .int .i64 qid, .string qan] W (standsPost id ep st pr an sw sl bw bl l W true) := by
  have HR := Aside0.mk hr
  have HC := Aside0.mk hc
  have HK := Aside0.mk hk
  have HCL := Aside0.mk (show api_Write.f l = some l from if_pos hl)
  clear hr hc hk hl
  go_enter Try.func26, Try.ntmps26
  go_wp2_with fail
  obtain ⟨w1, hw1⟩ : ∃ V, W.alloc (.cells #[.int .i64 id, .int .i64 ep, .int .i64 st, .int .i64 pr, .string an, .int .i64 sw, .int .i64 sl, .int .i64 bw, .int .i64 bl, .slice A l.length c] 27) = V := ⟨_, rfl⟩
  have HB1 := Aside0.mk (show Below W.heap.size W w1 from by rw [← hw1]; exact below_alloc (Below.refl _ _) _)
  have HG1 := Aside0.mk (show w1.heap[W.heap.size]? = some (.cells #[.int .i64 id, .int .i64 ep, .int .i64 st, .int .i64 pr, .string an, .int .i64 sw, .int .i64 sl, .int .i64 bw, .int .i64 bl, .slice A l.length c] 27 (0, 0)) from by rw [← hw1]; exact blk_new W _)
  have HW1 := Aside0.mk (show W.heap.size < w1.heap.size from by rw [← hw1]; simp)
  rw [hw1]
  clear hw1
  refine (api_Write.calls A c l l w1 (Kd.C_below HR.out HB1.out) HC.out HCL.out).mono ?_
  rintro e w2 ⟨v, rfl, hR2, hb2⟩
  obtain ⟨Av, cv, rfl⟩ := Kd.R_slice hR2
  have HR2 := Aside0.mk hR2
  have HB2 := Aside0.mk (below_step HB1.out hb2)
  have hg2 := blk_below HG1.out hb2
  have HG2 := Aside0.mk hg2
  have c9 : w2.cell? ⟨W.heap.size, 9, none⟩ = some (.slice A l.length c) := (blk_cell hg2 9).trans rfl
  have f9 := blk_frozen hg2 9
  clear hb2 hR2 hg2
  go_wp2_with fail
  obtain ⟨w3, hw3⟩ : ∃ V, w2.setCell ⟨W.heap.size, 9, none⟩ (.slice Av l.length cv) = V := ⟨_, rfl⟩
  have HG3 := Aside0.mk (show w3.heap[W.heap.size]? = some (.cells #[.int .i64 id, .int .i64 ep, .int .i64 st, .int .i64 pr, .string an, .int .i64 sw, .int .i64 sl, .int .i64 bw, .int .i64 bl, .slice Av l.length cv] 27 (0, 0)) from by rw [← hw3]; exact blk_put (cs := #[.int .i64 id, .int .i64 ep, .int .i64 st, .int .i64 pr, .string an, .int .i64 sw, .int .i64 sl, .int .i64 bw, .int .i64 bl, .slice A l.length c]) HG2.out 9 _ rfl)
  have HB3 := Aside0.mk (show Below W.heap.size W w3 from by rw [← hw3]; exact below_set HB2.out (Nat.le_refl _))
  have HR3 := Aside0.mk (show Kd.R k44 44 w3 w1.heap.size (fun b => b ≠ W.heap.size) (.slice Av l.length cv) l from by rw [← hw3]; exact Kd.R_far (Kd.R_mono (Kd.R_bound HR2.out) (fun b hb => by have h1 := hb.2.1; have h2 := HW1.out; show b ≠ W.heap.size; omega)) (fun b hb => hb) _)
  rw [hw3]
  clear hw3 c9 f9 HG2 HB2 HR2
  have c0 : w3.cell? ⟨W.heap.size, 0, none⟩ = some (.int .i64 id) := (blk_cell HG3.out 0).trans rfl
  have c1 : w3.cell? ⟨W.heap.size, 1, none⟩ = some (.int .i64 ep) := (blk_cell HG3.out 1).trans rfl
  have c2 : w3.cell? ⟨W.heap.size, 2, none⟩ = some (.int .i64 st) := (blk_cell HG3.out 2).trans rfl
  have c3 : w3.cell? ⟨W.heap.size, 3, none⟩ = some (.int .i64 pr) := (blk_cell HG3.out 3).trans rfl
  have c4 : w3.cell? ⟨W.heap.size, 4, none⟩ = some (.string an) := (blk_cell HG3.out 4).trans rfl
  have c5 : w3.cell? ⟨W.heap.size, 5, none⟩ = some (.int .i64 sw) := (blk_cell HG3.out 5).trans rfl
  have c6 : w3.cell? ⟨W.heap.size, 6, none⟩ = some (.int .i64 sl) := (blk_cell HG3.out 6).trans rfl
  have c7 : w3.cell? ⟨W.heap.size, 7, none⟩ = some (.int .i64 bw) := (blk_cell HG3.out 7).trans rfl
  have c8 : w3.cell? ⟨W.heap.size, 8, none⟩ = some (.int .i64 bl) := (blk_cell HG3.out 8).trans rfl
  have c9 : w3.cell? ⟨W.heap.size, 9, none⟩ = some (.slice Av l.length cv) := (blk_cell HG3.out 9).trans rfl
  first
    | (go_region_with (go_at_call 27; refine (cell_CheckRecord.calls k id ep st pr an sw sl bw bl Av cv l 0 w3.drew (Kd.R_reads' (Kd.R_drew HR3.out)).2.2 (Kd.R_reads' HR3.out).2.1 HK.out).mono ?_; rintro e w4 ⟨rfl, hb4⟩; have HB4 := Aside0.mk (below_step (below_drew1 (Below.refl w3.heap.size w3)) hb4); clear hb4; have p0 : w4.cell? ⟨W.heap.size, 0, none⟩ = some (.int .i64 id) := (blk_cell (blk_below HG3.out HB4.out) 0).trans rfl; have p4 : w4.cell? ⟨W.heap.size, 4, none⟩ = some (.string an) := (blk_cell (blk_below HG3.out HB4.out) 4).trans rfl))
    | fail
  all_goals go_wp2
  all_goals go_ret2
  all_goals exact ⟨W.heap.size, .slice Av l.length cv, rfl, blk_below HG3.out HB4.out, Nat.le_refl _, Kd.R_lower (Kd.R_below HR3.out HB4.out) (Nat.le_of_lt HW1.out), below_step HB3.out HB4.out⟩
theorem stands_yes (k : Nat) (id ep st pr : Int) (an : ByteArray) (sw sl bw bl : Int) (A : Option Addr) (c : Nat) (l : List S44) (qid : Int) (qan : ByteArray) (W : World) (hr : Kd.C k44 W A l.length l) (hc : l.length ≤ c) (hl : l.length < 1000000000000) (ec : Int) (hec : ec = 0 ∨ ec = 2) (hk : cell_CheckRecord.f k id ep st pr an sw sl bw bl l = some ec) :
    Calls Try.prog 26 #[.agg #[.int .i64 id, .int .i64 ep, .int .i64 st, .int .i64 pr, .string an, .int .i64 sw, .int .i64 sl, .int .i64 bw, .int .i64 bl, .slice A l.length c], .bool true, .int .i64 qid, .string qan] W (standsPost id ep st pr an sw sl bw bl l W (decide (ec = 0) && ((id == qid) && (an.toList == qan.toList)))) := by
  rcases hec with rfl | rfl
  · cases q1 : (id == qid)
    · exact stands_id k id ep st pr an sw sl bw bl A c l qid qan W hr hc hl hk q1
    · cases q2 : (an.toList == qan.toList)
      · exact stands_an k id ep st pr an sw sl bw bl A c l qid qan W hr hc hl hk q1 q2
      · exact stands_ok k id ep st pr an sw sl bw bl A c l qid qan W hr hc hl hk q1 q2
  · exact stands_bad k id ep st pr an sw sl bw bl A c l qid qan W hr hc hl hk

-- NOT PRINTED: function 29 (record_status)

-- NOT PRINTED: function 30 (record_stays)

end Go.Proofs.Ythdmkacnkdmbiaa.PRecordStaged
