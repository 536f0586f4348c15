/- A range over a function that hands over rows of fresh memory: the statement, out of a contract of the iterator's. -/
import Derived.RangeFuncRecord
import Derived.RangeFuncNested
import Derived.RangeFuncBound
import Derived.RangeFuncCalls
import Derived.RangeFuncLeaves
import Derived.Shelf.Abstract
import Derived.Shelf.RegionOpen
import Derived.WalkKit
import Derived.OwnWalkIn
import Derived.TacticsInMore
import Derived.LoopNIn
import Derived.LoopIn
import Derived.RangeFuncSeq
import Derived.RangeFuncIn
import Derived.RangeFuncOwn
import Derived.Below
set_option linter.unusedVariables false
namespace Go.Proofs.Ythhgoiabkgfdfaa
open Go.RowKit
/-- All that was there is as it was, but for one block. -/
structure Off (r : Nat) (W W' : World) : Prop where
  os : W'.os = W.os
  tape : W'.tape = W.tape
  output : W'.output = W.output
  size : W.heap.size ≤ W'.heap.size
  block : ∀ k, k < W.heap.size → k ≠ r → W'.heap[k]? = W.heap[k]?
theorem Off.of_below {r : Nat} {W W' : World} (h : Below W.heap.size W W') : Off r W W' := ⟨h.os, h.tape, h.output, h.size, fun k hk _ => h.block k hk⟩
theorem Off.put (W : World) (r : Nat) (o : Obj) : Off r W (W.putObj r o) := ⟨rfl, rfl, rfl, Nat.le_of_eq World.putObj_size.symm, fun _ _ h => World.putObj_heap_other h⟩
theorem Off.trans {r : Nat} {A B C : World} (h : Off r A B) (k : Off r B C) : Off r A C := ⟨k.os.trans h.os, k.tape.trans h.tape, k.output.trans h.output, Nat.le_trans h.size k.size, fun i hi hn => (k.block i (Nat.lt_of_lt_of_le hi h.size) hn).trans (h.block i hi hn)⟩
theorem Off.below {r n : Nat} {W W' : World} (h : Off r W W') (hn : n ≤ r) (hs : n ≤ W.heap.size) : Below n W W' := ⟨h.os, h.tape, h.output, h.size, fun k hk => h.block k (Nat.lt_of_lt_of_le hk hs) (by omega)⟩
/-- What the iterator does with whatever body: round by round it hands over an element, of which R holds (its memory is fresh); between two rounds it makes new memory alone. -/
def Iterates {α : Type} (P : Program) (gf : Nat) (lb : Array Value) (enc : α → Value) (R : α → Nat → World → Prop) (n0 : Nat) (S Sp : List α → Prop) (w : World) : Prop :=
  ∀ (l : Nat) (J Jx : List α → World → Prop) (W : World), Below w.heap.size w W →
    (∀ pre x W0 W1, J pre W0 → Below W0.heap.size W0 W1 → R x W0.heap.size W1 → Sp (pre ++ [x]) → YieldAt Fence.wide 0 P l #[enc x] W1 fun e W' =>
      (e = .returned (.bool true) ∧ J (pre ++ [x]) W' ∧ Below n0 W1 W') ∨ (e = .returned (.bool false) ∧ Jx (pre ++ [x]) W')) →
    J [] W →
    CallsIn Fence.wide 0 P gf (#[.func (.yield l) #[] #[]] ++ lb) W fun e W' => (∃ v, e = .returned v) ∧
      ((∃ xs W0, S xs ∧ J xs W0 ∧ Below W0.heap.size W0 W') ∨ (∃ pre W0, Sp pre ∧ Jx pre W0 ∧ Below W0.heap.size W0 W'))
/-- How a round's body may be left. -/
def roundEnd {α : Type} (D n0 : Nat) (I : List α → World → Prop) (Ix : Code → List α → World → Prop) (xs : List α) (W : World) : Exit → Act → World → Prop
  | .normal, _, W' => (W'.heap[D]? = W.heap[D]? ∧ W'.heap[D + 1]? = W.heap[D + 1]?) ∧ Below n0 W W' ∧ I xs W'
  | .ret, _, W' => (W'.heap[D]? = W.heap[D]? ∧ W'.heap[D + 1]? = W.heap[D + 1]?) ∧ Ix .ret xs W'
  | .exit id, _, W' => (W'.heap[D]? = W.heap[D]? ∧ W'.heap[D + 1]? = W.heap[D + 1]?) ∧ Ix (.exit id) xs W'
  | .goto _, _, _ => False
  | .panic _, _, _ => False
  | .outgrown, _, _ => False
/-- In a round all but 'defer' goes as everywhere. -/
theorem upon_in (l : Nat) {P : Program} {o : Oper} {a : Act} {next next' : Act → World → Prop} {Q : Exit → Act → World → Prop} (hn : ∀ a w, next a w → next' a w) : ∀ r : Result Next, Oper.upon P o a next Q r → Oper.uponIn (Fence.wide.inRound l) 0 P o a next' Q r
  | .ok (.value _) _, h => hn _ _ h
  | .ok .skip _, h => hn _ _ h
  | .ok (.defer _) _, h => hn _ _ h
  | .ok (.enter f args) w', h => ⟨fun h0 => by simp [Fence.wide, Fence.inRound] at h0, CallsIn.inRound l (callsIn_wide.2 (Calls.mono h (fun e w2 he => by
      cases e with
      | returned v => exact hn _ _ he
      | panicked c => exact he
      | outgrown => exact he)))⟩
  | .ok (.row row args) w', h => ⟨fun h0 => by simp [Fence.wide, Fence.inRound] at h0, fun c cs _ => by
      obtain ⟨v, w2, hr, hs⟩ := h c cs
      exact ⟨v, w2, hn _ _ hr, stepsIn_wide.2 hs⟩⟩
  | .ok (.round _ _ _ _ _) _, h => by exact absurd h (by simp [Oper.upon])
  | .halt (.panic _) _, h => h
  | .halt .blocked _, h => absurd h (by simp [Oper.upon])
  | .halt .waiting _, h => absurd h (by simp [Oper.upon])
  | .halt (.exit _) _, h => absurd h (by simp [Oper.upon])
theorem list_in (l : Nat) {P : Program} {ops : Array Oper} {Q : Exit → Act → World → Prop} (hQ : ¬ LetsOut Q) : ∀ (rest : List Oper) (a : Act) (w : World), (∀ o ∈ rest, ∀ c, o.op ≠ .defer c) →
    wpList P ops Q rest a w → wpListIn (Fence.wide.inRound l) 0 P ops Q rest a w
  | [], _, _, _, h => h
  | o :: rest, a, w, hd, h => by
    unfold wpList at h
    unfold wpListIn
    by_cases c : Region.wanted o (yielded ops a.tmps) = true
    · rw [if_pos c] at h
      rw [if_pos c]
      rcases h with h | ⟨_, h⟩
      · refine ⟨fun _ _ => trivial, ?_⟩
        have hs : Oper.semAt (Fence.wide.inRound l).round a.eval o = execOp a.eval o := Oper.semAt_some l _ o (hd o (List.mem_cons_self ..))
        rw [hs]
        exact upon_in l (fun a' w' h' => list_in l hQ rest a' w' (fun o' ho' => hd o' (List.mem_cons_of_mem _ ho')) h') _ h
      · exact absurd h hQ
    · rw [if_neg c] at h
      rw [if_neg c]
      exact ⟨fun _ _ => trivial, list_in l hQ rest _ _ (fun o' ho' => hd o' (List.mem_cons_of_mem _ ho')) h⟩
theorem range_over {α : Type} {P : Program} {g : Operand} {ps : Array Tmp} {assign body : Code} {Q : Exit → Act → World → Prop} {a : Act} {w : World} {gf : Nat} {lb : Array Value}
    (hg : a.eval g = .func (.func gf) #[] lb) (eg : ∀ args w, (callFunc gf args).run P w = .ok (.enter gf args) w) {enc : α → Value} {R : α → Nat → World → Prop} {n0 : Nat} {S Sp : List α → Prop}
    (hit : Iterates P gf lb enc R n0 S Sp w) (hn0 : n0 ≤ w.heap.size) (t : Tmp) (hps : ps = #[t]) (hR : ∀ x b W o, w.heap.size + 1 < b → R x b W → R x b (W.putObj (w.heap.size + 1) o))
    (I : List α → World → Prop) (Ix : Code → List α → World → Prop) (hI : ∀ pre W W', I pre W → Off (w.heap.size + 1) W W' → I pre W') (hIx : ∀ c pre W W', Ix c pre W → Off (w.heap.size + 1) W W' → Ix c pre W')
    (h0 : ∀ W, Below w.heap.size w W → I [] W) (a₁ : α → Act)
    (hassign : ∀ (l : Nat) (x : α) (W : World) (K : Act → World → Prop), K (a₁ x) W → assign.wpIn (Fence.wide.inRound l) 0 P (Exit.then K (fun _ _ _ => False)) { tmps := a.tmps.setIfInBounds t (enc x), defers := [] } W)
    (hbody : ∀ (l : Nat) (pre : List α) (x : α) (W0 W : World), I pre W0 → Off (w.heap.size + 1) W0 W → w.heap.size + 1 < W0.heap.size → R x W0.heap.size W → Sp (pre ++ [x]) → body.wpIn (Fence.wide.inRound l) 0 P (roundEnd w.heap.size n0 I Ix (pre ++ [x]) W) (a₁ x) W)
    (hdone : ∀ (xs : List α) (W : World), S xs → I xs W → W.heap[w.heap.size]? = some (.deferred (some [])) → Q .normal { a with defers := { target := .collected w.heap.size, args := #[] } :: a.defers } W)
    (hstop : ∀ (c : Code) (pre : List α) (W : World), Sp pre → Ix c pre W → W.heap[w.heap.size]? = some (.deferred (some [])) → c.wpIn Fence.wide 0 P Q { a with defers := { target := .collected w.heap.size, args := #[] } :: a.defers } W) :
    (Code.rangeFunc g ps assign body).wpIn Fence.wide 0 P Q a w := by
  subst hps
  refine wpIn_rangeFunc fun fn hfn => ?_
  let rc : LoopState → Option Code → Obj := fun st pe => .loop { state := st, pending := pe, fn := fn, tmps := a.tmps, params := #[t], assign := assign, body := body, defers := w.heap.size }
  obtain ⟨W1, hW1⟩ : ∃ W1, (w.alloc (.deferred (some []))).alloc (rc .ready none) = W1 := ⟨_, rfl⟩
  have hL1 : W1.heap[w.heap.size + 1]? = some (rc .ready none) := by
    have h := World.alloc_heap_new (w.alloc (.deferred (some []))) (rc .ready none)
    rw [World.size_alloc] at h
    rw [← hW1]
    exact h
  have hD1 : W1.heap[w.heap.size]? = some (.deferred (some [])) := by
    rw [← hW1]
    exact (Below.heap_alloc _ _ _ (by rw [World.size_alloc]; omega)).trans (World.alloc_heap_new w _)
  have hb1 : Below w.heap.size w W1 := by
    rw [← hW1]
    exact ((Below.refl _ w).alloc (Nat.le_refl _) _).alloc (by rw [World.size_alloc]; omega) _
  refine ⟨w.heap.size + 1, [{ target := .collected w.heap.size, args := #[] }], W1, { target := .fn (.func gf) lb, args := #[.func (.yield (w.heap.size + 1)) #[] #[]] }, W1, gf,
    #[.func (.yield (w.heap.size + 1)) #[] #[]] ++ lb, W1, ?_, ?_, fun _ _ => trivial, ?_, fun h => by simp [Fence.wide] at h, ?_⟩
  · rw [← hW1]
    exact run_enterLoop_outer _ _ _ _ _
  · simp only [resolve, hg]
    simp [go_sem]
  · simp [invoke, go_sem, eg]
  refine (hit (w.heap.size + 1) (fun pre W => I pre W ∧ W.heap[w.heap.size + 1]? = some (rc .ready none) ∧ W.heap[w.heap.size]? = some (.deferred (some [])))
    (fun pre W => ∃ c, Ix c pre W ∧ W.heap[w.heap.size + 1]? = some (rc .done (some c)) ∧ W.heap[w.heap.size]? = some (.deferred (some []))) W1 hb1 ?_ ⟨h0 W1 hb1, hL1, hD1⟩).mono ?_
  · rintro pre x W0 W ⟨hi, hl0, hd0⟩ hbW hr hsp
    have hlt0 : w.heap.size + 1 < W0.heap.size := (Array.getElem?_eq_some_iff.1 hl0).1
    have hl : W.heap[w.heap.size + 1]? = some (rc .ready none) := (hbW.block _ hlt0).trans hl0
    have hd : W.heap[w.heap.size]? = some (.deferred (some [])) := (hbW.block _ (by omega)).trans hd0
    have hlt : w.heap.size + 1 < W.heap.size := (Array.getElem?_eq_some_iff.1 hl).1
    have hy : (Instr.yield (w.heap.size + 1) #[enc x]).run P W = .ok (.round (w.heap.size + 1) fn (a.tmps.setIfInBounds t (enc x)) assign body) W := by
      have h := run_yield (P := P) (args := #[enc x]) hl rfl
      simpa using h
    refine ⟨fn, _, assign, body, hy, roundIn_of_wpIn hfn ?_⟩
    refine hassign _ x W _ ?_
    refine ⟨_, run_beginRound hl rfl, ?_⟩
    obtain ⟨W2, hW2⟩ : ∃ W2, W.putObj (w.heap.size + 1) (rc .busy none) = W2 := ⟨_, rfl⟩
    have hl2 : W2.heap[w.heap.size + 1]? = some (rc .busy none) := by rw [← hW2]; exact World.putObj_heap_same hlt
    have hd2 : W2.heap[w.heap.size]? = some (.deferred (some [])) := by rw [← hW2]; exact (World.putObj_heap_other (by omega)).trans hd
    have hoff : Off (w.heap.size + 1) W W2 := by rw [← hW2]; exact Off.put _ _ _
    have hi2 : Off (w.heap.size + 1) W0 W2 := (Off.of_below hbW).trans hoff
    have hr2 : R x W0.heap.size W2 := by rw [← hW2]; exact hR x _ W _ hlt0 hr
    show body.wpIn _ 0 P _ _ (W.putObj (w.heap.size + 1) (rc .busy none))
    rw [hW2]
    refine wpIn_mono (hbody _ pre x W0 W2 hi hi2 hlt0 hr2 hsp) ?_
    have fin : ∀ (jump : Option Code) (W3 : World), (W3.heap[w.heap.size]? = W2.heap[w.heap.size]? ∧ W3.heap[w.heap.size + 1]? = W2.heap[w.heap.size + 1]?) →
        (Instr.endRound (w.heap.size + 1) jump).run P W3 = .ok (.bool jump.isNone) (W3.putObj (w.heap.size + 1) (rc (if jump.isNone then .ready else .done) jump)) ∧
        (W3.putObj (w.heap.size + 1) (rc (if jump.isNone then .ready else .done) jump)).heap[w.heap.size + 1]? = some (rc (if jump.isNone then .ready else .done) jump) ∧
        (W3.putObj (w.heap.size + 1) (rc (if jump.isNone then .ready else .done) jump)).heap[w.heap.size]? = some (.deferred (some [])) := by
      rintro jump W3 ⟨e0, e1⟩
      rw [hd2] at e0
      rw [hl2] at e1
      exact ⟨run_endRound jump e1, World.putObj_heap_same (Array.getElem?_eq_some_iff.1 e1).1, (World.putObj_heap_other (by omega)).trans e0⟩
    rintro e a3 W3 hp
    cases e with
    | normal =>
      obtain ⟨hk, hb3, hi3⟩ := hp
      obtain ⟨h1, h2, h3⟩ := fin none W3 hk
      refine ⟨_, _, h1, .inl ⟨rfl, ⟨hI _ _ _ hi3 (Off.put _ _ _), h2, h3⟩, ?_⟩⟩
      exact ((hoff.below (by omega) (by omega)).trans hb3).trans ((Off.put W3 (w.heap.size + 1) _).below (by omega) (by have := hb3.size; have := hoff.size; omega))
    | ret =>
      obtain ⟨hk, hi3⟩ := hp
      obtain ⟨h1, h2, h3⟩ := fin (some .ret) W3 hk
      exact ⟨_, _, h1, .inr ⟨rfl, .ret, hIx _ _ _ _ hi3 (Off.put _ _ _), h2, h3⟩⟩
    | exit id =>
      obtain ⟨hk, hi3⟩ := hp
      obtain ⟨h1, h2, h3⟩ := fin (some (.exit id)) W3 hk
      exact ⟨_, _, h1, .inr ⟨rfl, .exit id, hIx _ _ _ _ hi3 (Off.put _ _ _), h2, h3⟩⟩
    | goto _ => exact hp.elim
    | panic _ => exact hp.elim
    | outgrown => exact hp.elim
  · rintro e W2 ⟨⟨v, rfl⟩, (⟨xs, W0, hS, ⟨hi, hl, hd⟩, hb⟩ | ⟨pre, W0, hSp, ⟨c, hi, hl, hd⟩, hb⟩)⟩
    · have hlt := (Array.getElem?_eq_some_iff.1 hl).1
      have hl2 := (hb.block _ hlt).trans hl
      have hd2 := (hb.block _ (by omega)).trans hd
      exact ⟨none, _, run_endLoop hl2 (by simp), hdone xs _ hS (hI _ _ _ hi ((Off.of_below hb).trans (Off.put _ _ _))) ((World.putObj_heap_other (by omega)).trans hd2)⟩
    · have hlt := (Array.getElem?_eq_some_iff.1 hl).1
      have hl2 := (hb.block _ hlt).trans hl
      have hd2 := (hb.block _ (by omega)).trans hd
      exact ⟨some c, _, run_endLoop hl2 (by simp), hstop c pre _ hSp (hIx _ _ _ _ hi ((Off.of_below hb).trans (Off.put _ _ _))) ((World.putObj_heap_other (by omega)).trans hd2)⟩
end Go.Proofs.Ythhgoiabkgfdfaa
