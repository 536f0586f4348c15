/- An append to a row of whole numbers of the call's own: what was read of the row before is read still, whether there was room or not. -/
import Derived.Test.YtkboplflbokofaaWMore
import Derived.Maps.AppendAt
import Derived.Laws.OwnMore
import Derived.ArgAppend
set_option linter.unusedVariables false
set_option linter.unusedSimpArgs false
namespace Go.Proofs.Ytkboplflbokofaa
open Go.RowKit Go.Proofs.YtkboplflbokofaaW.PrintWords Go.Proofs.YtkboplflbokofaaW.PrintMore
theorem R_append_keep {P : Program} {ops : Array Oper} {rest : List Oper} {o : Oper} {a : Act} {Q : Exit → Act → World → Prop} {w0 W : World} (base : Nat) (hgd : o.guard = none) (s x : Operand) (t e : TypeId) (z : Value) (bytes : Nat)
    (ho : o.op = .call { callee := .builtin .append, args := #[s, x], argTypes := #[t, t] })
    (ht : P.underlying t = some (.slice e)) (hinfo : (P.info? e).map (fun i => (i.zero, i.size, i.bytes)) = some (some z, 1, bytes)) (hz : z.cells.size = 1) (hs0 : 0 < 1) (hb0 : 0 < bytes)
    (v : Value) (xs : List Int) (p : Int) (cs : List Value) (ok okp : Nat → Prop) (hs : a.eval s = v) (hx : a.eval x = .slice (some ⟨W.heap.size, 0, none⟩) 1 1) (hp : (Kd.int .u8).M W base okp p cs) (hokp : ∀ k, okp k → ok k ∧ some k ≠ v.ownBlock) (hfresh : ∀ k, W.heap.size ≤ k → ok k)
    (HO : (Kd.int .u8).R e W base ok v xs) (HB : Below base w0 W) (hbase : base ≤ W.heap.size) (hl : (xs.length + 1) * bytes ≤ 140737488355328)
    (h : ∀ v1 w1, (Kd.int .u8).R e w1 base ok v1 (xs ++ [p]) → Below base w0 w1 → W.grownBy w1 v.ownBlock → (v1.ownBlock = v.ownBlock ∨ ∃ b, v1.ownBlock = some b ∧ W.heap.size ≤ b) → (∀ A n c, v = .slice A n c → (Kd.int .u8).C w1 A n xs) → wpList P ops Q rest (a.put o.dst v1) w1) :
    wpList P ops Q (o :: rest) a (W.alloc (.cells cs.toArray e)) := by
  have HO' := HO
  obtain ⟨h0, inner, hown, hr⟩ := HO
  have hcs : cs.length = 1 := (Kd.int .u8).K_len ((Kd.int .u8).K_of_M hp)
  have hone := (Kd.int .u8).K_one ((Kd.int .u8).K_of_M hp)
  obtain ⟨i0, hi, hzz⟩ := Option.map_eq_some_iff.1 hinfo
  simp only [Prod.mk.injEq] at hzz
  obtain ⟨hz0, hz1, hz2⟩ := hzz
  have hlen : xs.length + 1 ≤ 140737488355328 := Nat.le_trans (Nat.le_mul_of_pos_right _ hb0) hl
  have hnews : ∀ j u, cs[j]? = some u → (W.alloc (.cells cs.toArray e)).cell? ((⟨W.heap.size, 0, none⟩ : Addr).add j) = some u := by
    simpa using World.news_of_block (cs := cs.toArray) (t := e) (fr := (0, 0)) (heap_alloc_new W (.cells cs.toArray e))
  have hml : xs.length + 1 ≤ maxLen := by simp only [maxLen]; omega
  obtain ⟨v', w', hrun, hown', hgr, _, hat⟩ := run_append_own_at (P := P) (W.alloc (.cells cs.toArray e)) base t o.type e i0 z 1 bytes ht hi hz0 hz1 hz2 hz hs0 v xs.length inner (hown.alloc _) ⟨W.heap.size, 0, none⟩ 1 1 cs (by rw [hcs]) hnews hone hml hl (by simp; omega)
  have hg1 : W.grownBy w' v.ownBlock := World.grownBy.trans (World.grownBy_alloc W _ _) hgr
  have hat1 : v'.ownBlock = v.ownBlock ∨ ∃ b, v'.ownBlock = some b ∧ W.heap.size ≤ b := by
    rcases hat with hat | hat
    · exact .inl hat
    · exact .inr ⟨_, hat, by simp⟩
  have hB1 : Below base w0 w' := (HB.alloc hbase _).grown hgr (by simp; omega) (own_base hown)
  have hR1 : (Kd.int .u8).R e w' base ok v' (xs ++ [p]) := Kd.R_appended h0 hr hp hokp hfresh hown' hg1 hat1
  refine wpList_plain hgd fun K hK' => ?_
  unfold Oper.wp
  simp [execOp, ho, resolve, invoke, builtin, hs, hx, hrun, Result.andThen]
  refine hK' _ _ (h v' w' hR1 hB1 hg1 hat1 ?_)
  rintro A n c rfl
  obtain ⟨hn, hnc, hC⟩ := Kd.R_reads' HO'
  subst hn
  rcases hown.2 with ⟨hv, hn0⟩ | ⟨g, cap, cur, hv, _⟩
  · have hx0 : xs = [] := List.length_eq_zero_iff.1 hn0
    subst hx0
    injection hv with ha _ _
    subst ha
    exact Kd.C_nil _ _
  · injection hv with ha hn2 hc
    subst ha
    subst hc
    by_cases hfull : c < xs.length + 1
    · obtain ⟨v2, w2, hr2, _, hg2⟩ := run_append_arg_grows (P := P) (W.alloc (.cells cs.toArray e)) t o.type e i0 z 1 bytes ht hi hz0 hz1 hz2 hz hs0 ⟨g, 0, none⟩ xs.length c inner hown.1 ((hown.alloc (.cells cs.toArray e)).cells (g := g) rfl) ⟨W.heap.size, 0, none⟩ 1 1 cs (by rw [hcs]) hnews hfull hml hl
      rw [hrun] at hr2
      injection hr2 with hv2 hw2
      subst hw2
      have hb : Below W.heap.size W w' := below_step (below_alloc (Below.refl _ _) _) ⟨hg2.os, hg2.tape, hg2.output, hg2.size, fun i hi => hg2.block i hi (by simp)⟩
      exact Kd.C_below hC hb
    · obtain ⟨w2, hr2, _, _⟩ := run_append_fits (P := P) (W.alloc (.cells cs.toArray e)) base t o.type e i0 1 ht hi hz1 g xs.length c inner (hown.alloc _) ⟨W.heap.size, 0, none⟩ 1 1 cs (by rw [hcs]) hnews hone (by omega)
      rw [hrun] at hr2
      injection hr2 with hv2 hw2
      subst hv2
      obtain ⟨_, _, hC1⟩ := Kd.R_reads' hR1
      have hC2 := Kd.C_take (m := xs.length) hC1 (by simp)
      rw [List.take_left] at hC2
      exact hC2
theorem keep_grown {B : Nat} {a W w1 : World} {v : Value} (h : Below B a W) (hs : B ≤ a.heap.size) (hg : W.grownBy w1 v.ownBlock) (hv : ∀ k, v.ownBlock = some k → B ≤ k) : Below B a w1 := h.grown hg (Nat.le_trans hs h.size) hv
theorem keep_own {B : Nat} {a W : World} {v v1 : Value} (h : Below B a W) (hs : B ≤ a.heap.size) (hat : v1.ownBlock = v.ownBlock ∨ ∃ b, v1.ownBlock = some b ∧ W.heap.size ≤ b) (hv : ∀ k, v.ownBlock = some k → B ≤ k) : ∀ k, v1.ownBlock = some k → B ≤ k := by
  intro k hk
  rcases hat with e | ⟨b, e, hb⟩
  · exact hv k (e.symm.trans hk)
  · rw [e] at hk
    injection hk with hk
    have h1 := h.size
    omega
theorem keep_new {B : Nat} {a W w1 : World} {e : Nat} {ok : Nat → Prop} {v : Value} {xs : List Int} (h : Below B a W) (hs : B ≤ a.heap.size) (ho : (Kd.int .u8).R e w1 W.heap.size ok v xs) : ∀ k, v.ownBlock = some k → B ≤ k := by
  intro k hk
  have h1 := Kd.R_base ho k hk
  have h2 := h.size
  omega
end Go.Proofs.Ytkboplflbokofaa
