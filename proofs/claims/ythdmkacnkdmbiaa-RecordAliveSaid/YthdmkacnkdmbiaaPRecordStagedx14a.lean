/- Written by xprint.py, a program of these sessions (over the print of the kit, with leaves typed by hand): one Lean function for each Go function, and the proof that the Go code comes to its answers. -/
import Derived.Test.YthdmkacnkdmbiaaPRecordStagedx0
import Derived.Test.YthdmkacnkdmbiaaPRecordStagedx1
import Derived.Test.YthdmkacnkdmbiaaPRecordStagedx3
import Derived.Test.YthdmkacnkdmbiaaPRecordStagedx6
import Derived.Test.YthdmkacnkdmbiaaPRecordStagedx7
import Derived.Test.YthdmkacnkdmbiaaPRecordStagedx9
import Derived.Test.YthdmkacnkdmbiaaPRecordStagedx11
import Derived.Test.YthdmkacnkdmbiaaPRecordStagedx12
import Derived.Test.YthdmkacnkdmbiaaPRecordStagedx13
namespace Go.Proofs.Ythdmkacnkdmbiaa.PRecordStaged
open Go.RowKit Go.Proofs.YthdmkacnkdmbiaaW.PrintWords Go.Proofs.YthdmkacnkdmbiaaW.PrintLast Go.Proofs.YthdmkacnkdmbiaaW.PrintMore
attribute [local go_sem] max2_int min2_int max_two min_two max_three min_three max_four min_four   -- for this text's walks alone
attribute [local go_sem] str_gtr str_leq str_geq
set_option linter.unusedVariables false
set_option linter.unusedSimpArgs false

/-! ### scriptoriumlaw20_awake: function 11 (a leaf, by hand) -/
/-- The memory that a law's walk keeps an eye on: boxes (place, cells, type), each made since the call, no two the same; rows of writes, made since the call. -/
structure Mem (W w : World) (bs : List (Nat × Array Value × TypeId)) (rs : List (Option Addr × Nat × List S44)) : Prop where
  below : Below W.heap.size W w
  box : ∀ b ∈ bs, w.heap[b.1]? = some (.cells b.2.1 b.2.2 (0, 0))
  own : ∀ b ∈ bs, W.heap.size ≤ b.1
  nd : bs.Pairwise (fun a b => a.1 ≠ b.1)
  row : ∀ r ∈ rs, Kd.R k44 44 w W.heap.size (fun _ => True) (.slice r.1 r.2.2.length r.2.1) r.2.2
section
variable {W w w' : World} {bs b1 b2 : List (Nat × Array Value × TypeId)} {rs rs' : List (Option Addr × Nat × List S44)} {a0 a1 a2 a3 : Nat × Array Value × TypeId} {g : Nat} {cs : Array Value} {t : TypeId}
theorem Mem.nil (h : Below W.heap.size W w) : Mem W w [] [] := ⟨h, (fun _ q => absurd q (by simp)), (fun _ q => absurd q (by simp)), List.Pairwise.nil, (fun _ q => absurd q (by simp))⟩
theorem Mem.step (h : Mem W w bs rs) (hb : Below w.heap.size w w') : Mem W w' bs rs := ⟨below_step h.below hb, fun b q => blk_below (h.box b q) hb, h.own, h.nd, fun r q => Kd.R_below (h.row r q) hb⟩
theorem Mem.alloc (h : Mem W w bs rs) (cs : Array Value) (t : TypeId) : Mem W (w.alloc (.cells cs t)) ((w.heap.size, cs, t) :: bs) rs := by
  have hb := below_alloc (Below.refl w.heap.size w) (.cells cs t)
  refine ⟨below_step h.below hb, fun b q => ?_, fun b q => ?_, List.Pairwise.cons (fun b q => (Nat.ne_of_lt (blk_lt (h.box b q))).symm) h.nd, fun r q => Kd.R_below (h.row r q) hb⟩
  · rcases List.mem_cons.1 q with rfl | q
    · exact blk_new w _
    · exact blk_below (h.box b q) hb
  · rcases List.mem_cons.1 q with rfl | q
    · exact h.below.size
    · exact h.own b q
theorem row_ne {base : Nat} {v : Value} {l : List S44} {fr : Nat × Nat} (h : Kd.R k44 44 w base (fun _ => True) v l) (hg : w.heap[g]? = some (.cells cs t fr)) (ht : t ≠ 44) : Kd.R k44 44 w base (fun b => b ≠ g) v l := by
  refine Kd.R_mono (Kd.R_bound h) (fun b hb e => ?_)
  subst e
  obtain ⟨_, _, _, q, hq, cells, hc⟩ := hb
  rw [hg] at hc
  injection hc with hc
  injection hc with h1 h2
  subst h2
  have h44 : t ∈ [44] := hq
  exact ht (List.mem_singleton.1 h44)
theorem row_set {base : Nat} {v : Value} {l : List S44} {fr : Nat × Nat} (h : Kd.R k44 44 w base (fun _ => True) v l) (hg : w.heap[g]? = some (.cells cs t fr)) (ht : t ≠ 44) (cs' : Array Value) : Kd.R k44 44 (w.setRow g cs') base (fun _ => True) v l :=
  Kd.R_mono (Kd.R_step (row_ne h hg ht) (fun _ hk _ => setRow_other _ _ _ _ hk)) (fun _ _ => trivial)
theorem Mem.put (h : Mem W w (b1 ++ (g, cs, t) :: b2) rs) (ht : t ≠ 44) (cs' : Array Value) : Mem W (w.setRow g cs') (b1 ++ (g, cs', t) :: b2) rs := by
  have hg := h.box (g, cs, t) (by simp)
  have hn := h.nd
  rw [List.pairwise_append, List.pairwise_cons] at hn
  obtain ⟨n1, ⟨n2, n4⟩, n3⟩ := hn
  refine ⟨below_row h.below (h.own (g, cs, t) (by simp)) _, fun b q => ?_, fun b q => ?_, ?_, fun r q => row_set (h.row r q) hg ht cs'⟩
  · rcases List.mem_append.1 q with q | q
    · exact (setRow_other _ _ _ _ (n3 b q (g, cs, t) (by simp))).trans (h.box b (by simp [q]))
    · rcases List.mem_cons.1 q with rfl | q
      · exact setRow_heap _ _ _ _ _ _ hg
      · exact (setRow_other _ _ _ _ (n2 b q).symm).trans (h.box b (by simp [q]))
  · rcases List.mem_append.1 q with q | q
    · exact h.own b (by simp [q])
    · rcases List.mem_cons.1 q with rfl | q
      · exact h.own (g, cs, t) (by simp)
      · exact h.own b (by simp [q])
  · rw [List.pairwise_append, List.pairwise_cons]
    refine ⟨n1, ⟨fun b q => n2 b q, n4⟩, fun a qa b qb => ?_⟩
    rcases List.mem_cons.1 qb with rfl | qb
    · exact n3 a qa (g, cs, t) (by simp)
    · exact n3 a qa b (by simp [qb])
theorem Mem.put0 (h : Mem W w ((g, cs, t) :: bs) rs) (ht : t ≠ 44) (cs' : Array Value) : Mem W (w.setRow g cs') ((g, cs', t) :: bs) rs := Mem.put (b1 := []) h ht cs'
theorem Mem.put1 (h : Mem W w (a0 :: (g, cs, t) :: bs) rs) (ht : t ≠ 44) (cs' : Array Value) : Mem W (w.setRow g cs') (a0 :: (g, cs', t) :: bs) rs := Mem.put (b1 := [a0]) h ht cs'
theorem Mem.put2 (h : Mem W w (a0 :: a1 :: (g, cs, t) :: bs) rs) (ht : t ≠ 44) (cs' : Array Value) : Mem W (w.setRow g cs') (a0 :: a1 :: (g, cs', t) :: bs) rs := Mem.put (b1 := [a0, a1]) h ht cs'
theorem Mem.new (h : Mem W w bs rs) (zs : Array Value) (t : TypeId) (ht : t ≠ 44) (cs : Array Value) : Mem W ((w.alloc (.cells zs t)).setRow w.heap.size cs) ((w.heap.size, cs, t) :: bs) rs := Mem.put0 (h.alloc zs t) ht cs
theorem Mem.row' (h : Mem W w bs rs) {A : Option Addr} {n c : Nat} {l : List S44} {base : Nat} (hr : Kd.R k44 44 w base (fun _ => True) (.slice A n c) l) (hn : n = l.length) (hb : W.heap.size ≤ base) : Mem W w bs ((A, c, l) :: rs) := by
  subst hn
  exact ⟨h.below, h.box, h.own, h.nd, fun r q => by
    rcases List.mem_cons.1 q with rfl | q
    · exact Kd.R_lower hr hb
    · exact h.row r q⟩
theorem Mem.sub (h : Mem W w bs rs) (hb : b1.Sublist bs) (hr : ∀ r ∈ rs', r ∈ rs) : Mem W w b1 rs' := ⟨h.below, fun b q => h.box b (hb.subset q), fun b q => h.own b (hb.subset q), h.nd.sublist hb, fun r q => h.row r (hr r q)⟩
theorem Mem.bx0 (h : Mem W w ((g, cs, t) :: bs) rs) : w.heap[g]? = some (.cells cs t (0, 0)) := h.box (g, cs, t) (by simp)
theorem Mem.bx1 (h : Mem W w (a0 :: (g, cs, t) :: bs) rs) : w.heap[g]? = some (.cells cs t (0, 0)) := h.box (g, cs, t) (by simp)
theorem Mem.bx2 (h : Mem W w (a0 :: a1 :: (g, cs, t) :: bs) rs) : w.heap[g]? = some (.cells cs t (0, 0)) := h.box (g, cs, t) (by simp)
theorem Mem.bx3 (h : Mem W w (a0 :: a1 :: a2 :: (g, cs, t) :: bs) rs) : w.heap[g]? = some (.cells cs t (0, 0)) := h.box (g, cs, t) (by simp)
theorem Mem.bx4 (h : Mem W w (a0 :: a1 :: a2 :: a3 :: (g, cs, t) :: bs) rs) : w.heap[g]? = some (.cells cs t (0, 0)) := h.box (g, cs, t) (by simp)
theorem Mem.bx5 {a4 : Nat × Array Value × TypeId} (h : Mem W w (a0 :: a1 :: a2 :: a3 :: a4 :: (g, cs, t) :: bs) rs) : w.heap[g]? = some (.cells cs t (0, 0)) := h.box (g, cs, t) (by simp)
theorem Mem.rd (h : Mem W w bs rs) {A : Option Addr} {c : Nat} {l : List S44} (q : (A, c, l) ∈ rs) : Kd.C k44 w A l.length l ∧ l.length ≤ c := ⟨(Kd.R_reads' (h.row _ q)).2.2, (Kd.R_reads' (h.row _ q)).2.1⟩
theorem Mem.drew (h : Mem W w bs rs) : Mem W w.drew bs rs := h.step (below_drew1 (Below.refl _ _))
theorem Mem.gen (h : Mem W w bs rs) (e : w = w') : Mem W w' bs rs := e ▸ h
end
section
variable {W w w' : World} {bs : List (Nat × Array Value × TypeId)} {rs : List (Option Addr × Nat × List S44)} {g : Nat} {t : TypeId} {z0 z1 z2 z3 z4 z5 z6 z7 z8 z9 : Value}
theorem Mem.ten0 (a0 a1 a2 a3 a4 a5 a6 a7 a8 a9 : Value) (h : Mem W w ((g, #[z0, z1, z2, z3, z4, z5, z6, z7, z8, z9], t) :: bs) rs) (ht : t ≠ 44) : Mem W (ten w g a0 a1 a2 a3 a4 a5 a6 a7 a8 a9) ((g, #[a0, a1, a2, a3, a4, a5, a6, a7, a8, a9], t) :: bs) rs := by
  have hg := h.bx0
  have hn := List.pairwise_cons.1 h.nd
  have hy : ∀ r ∈ rs, Kd.R k44 44 (ten w g a0 a1 a2 a3 a4 a5 a6 a7 a8 a9) W.heap.size (fun _ => True) (.slice r.1 r.2.2.length r.2.1) r.2.2 := fun r q => by
    have h1 := row_ne (h.row r q) hg ht
    refine Kd.R_mono (ok := fun b => b ≠ g) ?_ (fun _ _ => trivial)
    unfold ten
    iterate 10 refine Kd.R_far ?_ (fun _ hb => hb) _
    exact h1
  refine ⟨ten_below _ _ _ _ _ _ _ _ _ _ h.below (h.own (g, #[z0, z1, z2, z3, z4, z5, z6, z7, z8, z9], t) (by simp)), fun b q => ?_, fun b q => ?_, List.pairwise_cons.2 ⟨fun b q => hn.1 b q, hn.2⟩, hy⟩
  · rcases List.mem_cons.1 q with rfl | q
    · exact ten_put _ _ _ _ _ _ _ _ _ _ hg
    · have hne : b.1 ≠ g := (hn.1 b q).symm
      show (ten w g a0 a1 a2 a3 a4 a5 a6 a7 a8 a9).heap[b.1]? = _
      unfold ten
      iterate 10 refine blk_far ?_ hne _
      exact h.box b (.tail _ q)
  · rcases List.mem_cons.1 q with rfl | q
    · exact h.own (g, #[z0, z1, z2, z3, z4, z5, z6, z7, z8, z9], t) (by simp)
    · exact h.own b (.tail _ q)
theorem Mem.two (W : World) (c1 c2 : Array Value) (t1 t2 : TypeId) : ∃ V, (W.alloc (.cells c1 t1)).alloc (.cells c2 t2) = V ∧ Mem W V [(W.heap.size + 1, c2, t2), (W.heap.size, c1, t1)] [] :=
  ⟨_, rfl, by have h := ((Mem.nil (Below.refl W.heap.size W)).alloc c1 t1).alloc c2 t2; rw [World.size_alloc] at h; exact h⟩
end
/-- A struct of the list that a law is given lies as it lay. -/
def Lies (ad : Addr) (n : Nat) (cs : List Value) (V : World) : Prop := ∀ (j : Nat) (v : Value), cs[j]? = some v → V.cell? ((ad.add n).add j) = some v
theorem Lies.step {ad : Addr} {n : Nat} {cs : List Value} {V V' : World} (h : Lies ad n cs V) (hb : Below V.heap.size V V') : Lies ad n cs V' := fun j v hj => (hb.cell (World.block_lt_of_cell? V _ (h j v hj))).trans (h j v hj)
theorem yieldsIf_load_at {P : Program} {ops : Array Oper} {S : World → Prop} {op : Oper} {a : Act} (hw : Region.wanted op (yielded ops a.tmps) = true) (ty : TypeId) (x : Operand) (ho : op.op = .load ty x)
    (p : Addr) (hx : a.eval x = .pointer (some p)) (cs : List Value) (d : TypeDesc) (hS : ∀ w, S w → ∀ (j : Nat) (v : Value), cs[j]? = some v → w.cell? (p.add j) = some v)
    (hu : P.underlying ty = some d) (hd : d.isRow = true) (hi : (P.info? ty).map (·.size) = some cs.length) : YieldsIf P ops S op (.agg cs.toArray) a :=
  .inl ⟨hw, fun w hw' => by
    have hl : (loadCells p cs.length).run P w = .ok cs.toArray w := run_loadCells_list (P := P) w p cs (hS w hw')
    have hr : (loadVar ty p).run P w = .ok (.agg cs.toArray) w := by
      cases hq : P.info? ty with
      | none => simp [hq] at hi
      | some i =>
        have hs : i.size = cs.length := by simpa [hq] using hi
        have hagg : (isAgg ty).run P w = .ok true w := by
          unfold isAgg
          rw [Sem.run_bind, run_underlying hu w]
          cases d <;> simp_all
        simp [loadVar, Sem.run_bind, hagg, sizeOf, typeInfo, hq, hs, hl]
    unfold execOp
    simp only [ho, hx, Instr.loadAt, Instr.sureAddr, Sem.run_bind, Sem.run_pure, Result.andThen_ok, hr]⟩
theorem yieldsIf_load_row {P : Program} {ops : Array Oper} {S : World → Prop} {op : Oper} {a : Act} (hw : Region.wanted op (yielded ops a.tmps) = true) (ty : TypeId) (x : Operand) (ho : op.op = .load ty x)
    (g : Nat) (hx : a.eval x = .pointer (some ⟨g, 0, none⟩)) (t : TypeId) (cs : Array Value) (fr : Nat × Nat) (d : TypeDesc) (hS : ∀ w, S w → w.heap[g]? = some (.cells cs t fr))
    (hu : P.underlying ty = some d) (hd : (match d with | .struct _ | .array _ _ => true | _ => false) = true) (hi : (P.info? ty).map (·.size) = some cs.size) : YieldsIf P ops S op (.agg cs) a :=
  .inl ⟨hw, fun w hw' => by
    unfold execOp
    simp only [ho, hx, Instr.loadAt, Instr.sureAddr, Sem.run_bind, Sem.run_pure, Result.andThen_ok, run_loadVar_row (P := P) w g t ty cs fr d (hS w hw') hu hd hi]⟩
theorem Lies.set {ad : Addr} {n : Nat} {cs : List Value} {V : World} (h : Lies ad n cs V) {N i : Nat} (hN : (ad.add n).block ≠ N) (u : Value) : Lies ad n cs (V.setCell ⟨N, i, none⟩ u) := fun j v hj => by
  have hb : ((ad.add n).add j).block = (ad.add n).block := by unfold Addr.add; split <;> rfl
  exact (World.cell?_setCell_far V _ _ u (by show N ≠ _; rw [hb]; exact hN.symm)).trans (h j v hj)
theorem Lies.ten {ad : Addr} {n : Nat} {cs : List Value} {V : World} (h : Lies ad n cs V) {N : Nat} (hN : (ad.add n).block ≠ N) (a0 a1 a2 a3 a4 a5 a6 a7 a8 a9 : Value) : Lies ad n cs (ten V N a0 a1 a2 a3 a4 a5 a6 a7 a8 a9) :=
  (((((((((h.set hN a0).set hN a1).set hN a2).set hN a3).set hN a4).set hN a5).set hN a6).set hN a7).set hN a8).set hN a9
section
variable {W w w' : World} {bs b1 b2 : List (Nat × Array Value × TypeId)} {rs : List (Option Addr × Nat × List S44)} {a0 : Nat × Array Value × TypeId} {g : Nat} {cs cs' : Array Value} {t : TypeId}
theorem Mem.set (h : Mem W w (b1 ++ (g, cs, t) :: b2) rs) (ht : t ≠ 44) {i : Nat} {v : Value} (e : cs.setIfInBounds i v = cs') : Mem W (w.setCell ⟨g, i, none⟩ v) (b1 ++ (g, cs', t) :: b2) rs := by
  have hg := h.box (g, cs, t) (by simp)
  have hn := h.nd
  rw [List.pairwise_append, List.pairwise_cons] at hn
  obtain ⟨n1, ⟨n2, n4⟩, n3⟩ := hn
  have hfar : ∀ b : Nat × Array Value × TypeId, w.heap[b.1]? = some (.cells b.2.1 b.2.2 (0, 0)) → b.1 ≠ g → (w.setCell ⟨g, i, none⟩ v).heap[b.1]? = some (.cells b.2.1 b.2.2 (0, 0)) := fun b hb hne => blk_far hb hne _
  refine ⟨below_set h.below (h.own (g, cs, t) (by simp)), fun b q => ?_, fun b q => ?_, ?_, fun r q => Kd.R_mono (Kd.R_far (row_ne (h.row r q) hg ht) (fun _ hb => hb) _) (fun _ _ => trivial)⟩
  · rcases List.mem_append.1 q with q | q
    · exact hfar b (h.box b (by simp [q])) (n3 b q (g, cs, t) (by simp))
    · rcases List.mem_cons.1 q with rfl | q
      · exact blk_put hg i v e
      · exact hfar b (h.box b (by simp [q])) (n2 b q).symm
  · rcases List.mem_append.1 q with q | q
    · exact h.own b (by simp [q])
    · rcases List.mem_cons.1 q with rfl | q
      · exact h.own (g, cs, t) (by simp)
      · exact h.own b (by simp [q])
  · rw [List.pairwise_append, List.pairwise_cons]
    refine ⟨n1, ⟨fun b q => n2 b q, n4⟩, fun a qa b qb => ?_⟩
    rcases List.mem_cons.1 qb with rfl | qb
    · exact n3 a qa (g, cs, t) (by simp)
    · exact n3 a qa b (by simp [qb])
theorem Mem.set0 (h : Mem W w ((g, cs, t) :: bs) rs) (ht : t ≠ 44) {i : Nat} {v : Value} (e : cs.setIfInBounds i v = cs') : Mem W (w.setCell ⟨g, i, none⟩ v) ((g, cs', t) :: bs) rs := Mem.set (b1 := []) h ht e
theorem Mem.set1 (h : Mem W w (a0 :: (g, cs, t) :: bs) rs) (ht : t ≠ 44) {i : Nat} {v : Value} (e : cs.setIfInBounds i v = cs') : Mem W (w.setCell ⟨g, i, none⟩ v) (a0 :: (g, cs', t) :: bs) rs := Mem.set (b1 := [a0]) h ht e
end
attribute [local go_sem high] eqA24
theorem one_C (W : World) (a : ByteArray) (b : Int) : Kd.C k44 (W.alloc (.cells #[.string a, .int .i64 b] 44)) (some ⟨W.heap.size, 0, none⟩) 1 [⟨a, b⟩] := by
  have hc := fun i => blk_cell (blk_new W (.cells #[.string a, .int .i64 b] 44)) i
  refine ⟨rfl, by omega, fun _ => ⟨_, rfl, fun j p hj => ?_⟩⟩
  match j, hj with
  | 0, hj =>
    cases hj
    refine ⟨[.string a, .int .i64 b], rfl, k44_mk _ ⟨a, b⟩, fun i u hu => ?_⟩
    match i, hu with
    | 0, hu => cases hu; exact (hc 0).trans rfl
    | 1, hu => cases hu; exact (hc 1).trans rfl
/-- A body behind its first statements. -/
def tailC : Nat → Option Code → Code
  | 0, some c => c
  | n + 1, some (.seq _ c) => tailC n (some c)
  | _, _ => .ret
set_option maxHeartbeats 16000000 in
set_option maxRecDepth 100000 in
theorem awake_t9 (w w17 : World) (ba : Nat) (Aa : Option Addr) (ca : Nat) (bb : Nat) (Ab : Option Addr) (cb : Nat) (bc : Nat) (Ac : Option Addr) (cc : Nat) (bd : Nat) (Ad : Option Addr) (cd : Nat) (bs : Nat) (As : Option Addr) (cs : Nat) (bx : Nat) (Ax : Option Addr) (cx : Nat) (sl0 sl7 sl13 sl17 sl18 sl19 sl20 sl21 sl22 sl23 sl24 sl25 sl26 sl27 sl28 sl29 sl30 sl31 sl32 sl33 sl34 sl35 sl36 sl37 sl38 sl39 sl40 sl41 sl42 sl43 sl44 sl45 sl46 sl47 sl48 sl49 sl50 sl51 sl52 sl53 sl54 sl55 sl56 sl57 sl58 sl59 sl60 sl61 sl62 sl63 sl64 sl65 sl66 sl67 sl68 sl69 sl70 sl71 sl72 sl73 sl74 sl75 sl76 sl77 sl78 sl79 sl80 sl81 sl82 sl83 sl84 sl85 sl86 sl87 sl88 sl89 sl90 sl91 sl92 sl93 sl94 sl95 sl96 sl97 sl98 sl99 sl100 sl101 sl102 sl103 sl104 sl105 sl106 sl107 sl108 sl109 sl110 sl111 sl112 sl113 sl114 sl115 sl116 sl117 sl118 sl119 sl120 sl121 sl122 sl123 sl124 sl125 sl126 sl127 sl128 sl129 sl130 sl131 sl132 sl133 sl134 sl135 sl136 sl137 sl138 sl139 sl140 sl141 sl142 sl143 sl144 sl145 sl146 sl147 sl148 sl149 sl150 sl151 sl152 sl153 sl154 sl155 sl156 sl157 sl158 sl159 sl160 sl161 sl162 sl163 sl164 sl165 sl166 sl167 : Value) (S17 : Aside0 (Mem w w17 [(bx, #[.int .i64 7, .int .i64 0, .int .i64 3, .int .i64 5, .string ⟨#[97]⟩, .int .i64 10, .int .i64 0, .int .i64 20, .int .i64 0, .slice Ax 0 cx], 27), (bs, #[.int .i64 7, .int .i64 0, .int .i64 2, .int .i64 5, .string ⟨#[97]⟩, .int .i64 10, .int .i64 0, .int .i64 20, .int .i64 0, .slice As 1 cs], 27), (bd, #[.int .i64 7, .int .i64 0, .int .i64 4, .int .i64 5, .string ⟨#[97]⟩, .int .i64 10, .int .i64 0, .int .i64 20, .int .i64 0, .slice Ad 0 cd], 27), (bc, #[.int .i64 7, .int .i64 0, .int .i64 1, .int .i64 5, .string ⟨#[97]⟩, .int .i64 30, .int .i64 1, .int .i64 20, .int .i64 0, .slice Ac 0 cc], 27), (bb, #[.int .i64 7, .int .i64 0, .int .i64 1, .int .i64 5, .string ⟨#[97]⟩, .int .i64 30, .int .i64 1, .int .i64 20, .int .i64 0, .slice Ab 0 cb], 27), (ba, #[.int .i64 7, .int .i64 0, .int .i64 1, .int .i64 5, .string ⟨#[97]⟩, .int .i64 10, .int .i64 0, .int .i64 20, .int .i64 0, .slice Aa 0 ca], 27)] [(As, cs, [(⟨⟨#[98]⟩, 2⟩ : S44)])])) :
    Code.wp Try.prog (tailC 9 Try.f11.body) (bodyPost Try.prog Try.f11 fun e w' => e = .returned (.bool true) ∧ Below w.heap.size w w') ⟨List.toArray (sl0 :: .pointer (some ⟨ba, 0, none⟩) :: .int .i64 0 :: .pointer (some ⟨bb, 0, none⟩) :: .int .i64 0 :: .pointer (some ⟨bc, 0, none⟩) :: .int .i64 202 :: sl7 :: .int .i64 120 :: .pointer (some ⟨bd, 0, none⟩) :: .int .i64 0 :: .pointer (some ⟨bs, 0, none⟩) :: .int .i64 0 :: sl13 :: .int .i64 120 :: .pointer (some ⟨bx, 0, none⟩) :: .int .i64 0 :: sl17 :: sl18 :: sl19 :: sl20 :: sl21 :: sl22 :: sl23 :: sl24 :: sl25 :: sl26 :: sl27 :: sl28 :: sl29 :: sl30 :: sl31 :: sl32 :: sl33 :: sl34 :: sl35 :: sl36 :: sl37 :: sl38 :: sl39 :: sl40 :: sl41 :: sl42 :: sl43 :: sl44 :: sl45 :: sl46 :: sl47 :: sl48 :: sl49 :: sl50 :: sl51 :: sl52 :: sl53 :: sl54 :: sl55 :: sl56 :: sl57 :: sl58 :: sl59 :: sl60 :: sl61 :: sl62 :: sl63 :: sl64 :: sl65 :: sl66 :: sl67 :: sl68 :: sl69 :: sl70 :: sl71 :: sl72 :: sl73 :: sl74 :: sl75 :: sl76 :: sl77 :: sl78 :: sl79 :: sl80 :: sl81 :: sl82 :: sl83 :: sl84 :: sl85 :: sl86 :: sl87 :: sl88 :: sl89 :: sl90 :: sl91 :: sl92 :: sl93 :: sl94 :: sl95 :: sl96 :: sl97 :: sl98 :: sl99 :: sl100 :: sl101 :: sl102 :: sl103 :: sl104 :: sl105 :: sl106 :: sl107 :: sl108 :: sl109 :: sl110 :: sl111 :: sl112 :: sl113 :: sl114 :: sl115 :: sl116 :: sl117 :: sl118 :: sl119 :: sl120 :: sl121 :: sl122 :: sl123 :: sl124 :: sl125 :: sl126 :: sl127 :: sl128 :: sl129 :: sl130 :: sl131 :: sl132 :: sl133 :: sl134 :: sl135 :: sl136 :: sl137 :: sl138 :: sl139 :: sl140 :: sl141 :: sl142 :: sl143 :: sl144 :: sl145 :: sl146 :: sl147 :: sl148 :: sl149 :: sl150 :: sl151 :: sl152 :: sl153 :: sl154 :: sl155 :: sl156 :: sl157 :: sl158 :: sl159 :: sl160 :: sl161 :: sl162 :: sl163 :: sl164 :: sl165 :: sl166 :: sl167 :: []), []⟩ w17 := by
  change Code.wp _ (Code.seq _ _) _ _ _
  go_upto_region 9 with fail
  go_cut [17] (fun v_ wc => v_ = .bool true ∧ Aside0 (Mem w wc [(bx, #[.int .i64 7, .int .i64 0, .int .i64 3, .int .i64 5, .string ⟨#[97]⟩, .int .i64 10, .int .i64 0, .int .i64 20, .int .i64 0, .slice Ax 0 cx], 27), (bs, #[.int .i64 7, .int .i64 0, .int .i64 2, .int .i64 5, .string ⟨#[97]⟩, .int .i64 10, .int .i64 0, .int .i64 20, .int .i64 0, .slice As 1 cs], 27), (bd, #[.int .i64 7, .int .i64 0, .int .i64 4, .int .i64 5, .string ⟨#[97]⟩, .int .i64 10, .int .i64 0, .int .i64 20, .int .i64 0, .slice Ad 0 cd], 27), (bc, #[.int .i64 7, .int .i64 0, .int .i64 1, .int .i64 5, .string ⟨#[97]⟩, .int .i64 30, .int .i64 1, .int .i64 20, .int .i64 0, .slice Ac 0 cc], 27), (bb, #[.int .i64 7, .int .i64 0, .int .i64 1, .int .i64 5, .string ⟨#[97]⟩, .int .i64 30, .int .i64 1, .int .i64 20, .int .i64 0, .slice Ab 0 cb], 27), (ba, #[.int .i64 7, .int .i64 0, .int .i64 1, .int .i64 5, .string ⟨#[97]⟩, .int .i64 10, .int .i64 0, .int .i64 20, .int .i64 0, .slice Aa 0 ca], 27)] [(As, cs, [(⟨⟨#[98]⟩, 2⟩ : S44)])]))
  case first =>
    have ra2 := fun (V : World) (h : V.heap[ba]? = some (.cells #[.int .i64 7, .int .i64 0, .int .i64 1, .int .i64 5, .string ⟨#[97]⟩, .int .i64 10, .int .i64 0, .int .i64 20, .int .i64 0, .slice Aa 0 ca] 27 (0, 0))) => (show V.cell? ⟨ba, 2, none⟩ = some (.int .i64 1) from (blk_cell h 2).trans rfl)
    have ra5 := fun (V : World) (h : V.heap[ba]? = some (.cells #[.int .i64 7, .int .i64 0, .int .i64 1, .int .i64 5, .string ⟨#[97]⟩, .int .i64 10, .int .i64 0, .int .i64 20, .int .i64 0, .slice Aa 0 ca] 27 (0, 0))) => (show V.cell? ⟨ba, 5, none⟩ = some (.int .i64 10) from (blk_cell h 5).trans rfl)
    have ra6 := fun (V : World) (h : V.heap[ba]? = some (.cells #[.int .i64 7, .int .i64 0, .int .i64 1, .int .i64 5, .string ⟨#[97]⟩, .int .i64 10, .int .i64 0, .int .i64 20, .int .i64 0, .slice Aa 0 ca] 27 (0, 0))) => (show V.cell? ⟨ba, 6, none⟩ = some (.int .i64 0) from (blk_cell h 6).trans rfl)
    have ra7 := fun (V : World) (h : V.heap[ba]? = some (.cells #[.int .i64 7, .int .i64 0, .int .i64 1, .int .i64 5, .string ⟨#[97]⟩, .int .i64 10, .int .i64 0, .int .i64 20, .int .i64 0, .slice Aa 0 ca] 27 (0, 0))) => (show V.cell? ⟨ba, 7, none⟩ = some (.int .i64 20) from (blk_cell h 7).trans rfl)
    have ra8 := fun (V : World) (h : V.heap[ba]? = some (.cells #[.int .i64 7, .int .i64 0, .int .i64 1, .int .i64 5, .string ⟨#[97]⟩, .int .i64 10, .int .i64 0, .int .i64 20, .int .i64 0, .slice Aa 0 ca] 27 (0, 0))) => (show V.cell? ⟨ba, 8, none⟩ = some (.int .i64 0) from (blk_cell h 8).trans rfl)
    have rb5 := fun (V : World) (h : V.heap[bb]? = some (.cells #[.int .i64 7, .int .i64 0, .int .i64 1, .int .i64 5, .string ⟨#[97]⟩, .int .i64 30, .int .i64 1, .int .i64 20, .int .i64 0, .slice Ab 0 cb] 27 (0, 0))) => (show V.cell? ⟨bb, 5, none⟩ = some (.int .i64 30) from (blk_cell h 5).trans rfl)
    have rb6 := fun (V : World) (h : V.heap[bb]? = some (.cells #[.int .i64 7, .int .i64 0, .int .i64 1, .int .i64 5, .string ⟨#[97]⟩, .int .i64 30, .int .i64 1, .int .i64 20, .int .i64 0, .slice Ab 0 cb] 27 (0, 0))) => (show V.cell? ⟨bb, 6, none⟩ = some (.int .i64 1) from (blk_cell h 6).trans rfl)
    refine wp_region_noPanic ?_
    have SD := Aside0.mk S17.out.drew
    refine wp_region_held_drew (S := (fun V => V.heap[ba]? = some (.cells #[.int .i64 7, .int .i64 0, .int .i64 1, .int .i64 5, .string ⟨#[97]⟩, .int .i64 10, .int .i64 0, .int .i64 20, .int .i64 0, .slice Aa 0 ca] 27 (0, 0)) ∧ V.heap[bb]? = some (.cells #[.int .i64 7, .int .i64 0, .int .i64 1, .int .i64 5, .string ⟨#[97]⟩, .int .i64 30, .int .i64 1, .int .i64 20, .int .i64 0, .slice Ab 0 cb] 27 (0, 0)) ∧ V.heap[bc]? = some (.cells #[.int .i64 7, .int .i64 0, .int .i64 1, .int .i64 5, .string ⟨#[97]⟩, .int .i64 30, .int .i64 1, .int .i64 20, .int .i64 0, .slice Ac 0 cc] 27 (0, 0)))) (by kernel_rfl) ⟨SD.out.bx5, SD.out.bx4, SD.out.bx3⟩ (fun hHeld => ?_)
    generalize hwd : World.drew w17 = wd at hHeld SD ⊢
    clear hwd
    refine wpAnyH_take (i := 0) (oi := ⟨some 80, _, _, _, _, none⟩) (v := ?v102) rfl (by kernel_rfl) (by kernel_rfl) (by kernel_rfl) (fun _ _ _ h => h) (Or.inl ⟨by rfl, ?hy102⟩) (by with_reducible assumption) ?rest102
    case hy102 => (intro V_ hSw; (try dsimp only at hSw); go_simp; (try with_reducible rfl))
    case' rest102 => skip
    try simp only [Act.put, List.setIfInBounds_toArray, List.set_cons_zero, List.set_cons_succ]
    refine wpAnyH_take (i := 1) (oi := ⟨some 81, _, _, _, _, none⟩) (v := ?v103) rfl (by kernel_rfl) (by kernel_rfl) (by kernel_rfl) (fun _ _ _ h => h) (Or.inl ⟨by rfl, ?hy103⟩) (by with_reducible assumption) ?rest103
    case hy103 => (intro V_ hSw; (try dsimp only at hSw); go_simp; (try with_reducible rfl))
    case' rest103 => skip
    try simp only [Act.put, List.setIfInBounds_toArray, List.set_cons_zero, List.set_cons_succ]
    refine wpAnyH_take (i := 2) (oi := ⟨some 82, _, _, _, _, none⟩) (v := ?v104) rfl (by kernel_rfl) (by kernel_rfl) (by kernel_rfl) (fun _ _ _ h => h) (Or.inl ⟨by rfl, ?hy104⟩) (by with_reducible assumption) ?rest104
    case hy104 => (intro V_ hSw; (try dsimp only at hSw); go_simp; (try with_reducible rfl))
    case' rest104 => skip
    try simp only [Act.put, List.setIfInBounds_toArray, List.set_cons_zero, List.set_cons_succ]
    refine wpAnyH_take (i := 3) (oi := ⟨some 83, _, _, _, _, some (2, true)⟩) (v := ?v105) rfl (by kernel_rfl) (by kernel_rfl) (by kernel_rfl) (fun _ _ _ h => h) (Or.inl ⟨by rfl, ?hy105⟩) (by with_reducible assumption) ?rest105
    case hy105 => (intro V_ hSw; (try dsimp only at hSw); go_simp; (try with_reducible rfl))
    case' rest105 => skip
    try simp only [Act.put, List.setIfInBounds_toArray, List.set_cons_zero, List.set_cons_succ]
    refine wpAnyH_take (i := 4) (oi := ⟨some 84, _, _, _, _, some (2, true)⟩) (v := ?v106) rfl (by kernel_rfl) (by kernel_rfl) (by kernel_rfl) (fun _ _ _ h => h) (Or.inl ⟨by rfl, ?hy106⟩) (by with_reducible assumption) ?rest106
    case hy106 => (intro V_ hSw; (try dsimp only at hSw); go_simp; (try with_reducible rfl))
    case' rest106 => skip
    try simp only [Act.put, List.setIfInBounds_toArray, List.set_cons_zero, List.set_cons_succ]
    refine wpAnyH_take (i := 5) (oi := ⟨some 85, _, _, _, _, some (2, true)⟩) (v := ?v107) rfl (by kernel_rfl) (by kernel_rfl) (by kernel_rfl) (fun _ _ _ h => h) (Or.inl ⟨by rfl, ?hy107⟩) (by with_reducible assumption) ?rest107
    case hy107 => (intro V_ hSw; (try dsimp only at hSw); go_simp; (try with_reducible rfl))
    case' rest107 => skip
    try simp only [Act.put, List.setIfInBounds_toArray, List.set_cons_zero, List.set_cons_succ]
    refine wpAnyH_take (i := 6) (oi := ⟨some 86, _, _, _, _, none⟩) (v := ?v108) rfl (by kernel_rfl) (by kernel_rfl) (by kernel_rfl) (fun _ _ _ h => h) (Or.inl ⟨by rfl, ?hy108⟩) (by with_reducible assumption) ?rest108
    case hy108 => (intro V_ hSw; (try dsimp only at hSw); go_simp; (try with_reducible rfl))
    case' rest108 => skip
    try simp only [Act.put, List.setIfInBounds_toArray, List.set_cons_zero, List.set_cons_succ]
    refine wpAnyH_take (i := 7) (oi := ⟨some 87, _, _, _, _, none⟩) (v := ?v109) rfl (by kernel_rfl) (by kernel_rfl) (by kernel_rfl) (fun _ _ _ h => h) (Or.inl ⟨by rfl, ?hy109⟩) (by with_reducible assumption) ?rest109
    case hy109 => (intro V_ hSw; (try dsimp only at hSw); go_simp; (try with_reducible rfl))
    case' rest109 => skip
    try simp only [Act.put, List.setIfInBounds_toArray, List.set_cons_zero, List.set_cons_succ]
    refine wpAnyH_take (i := 8) (oi := ⟨some 88, _, _, _, _, some (7, true)⟩) (v := ?v110) rfl (by kernel_rfl) (by kernel_rfl) (by kernel_rfl) (fun _ _ _ h => h) (Or.inl ⟨by rfl, ?hy110⟩) (by with_reducible assumption) ?rest110
    case hy110 => (intro V_ hSw; (try dsimp only at hSw); go_simp; (try with_reducible rfl))
    case' rest110 => skip
    try simp only [Act.put, List.setIfInBounds_toArray, List.set_cons_zero, List.set_cons_succ]
    refine wpAnyH_take (i := 9) (oi := ⟨some 89, _, _, _, _, some (7, true)⟩) (v := ?v111) rfl (by kernel_rfl) (by kernel_rfl) (by kernel_rfl) (fun _ _ _ h => h) (Or.inl ⟨by rfl, ?hy111⟩) (by with_reducible assumption) ?rest111
    case hy111 => (intro V_ hSw; (try dsimp only at hSw); go_simp; (try with_reducible rfl))
    case' rest111 => skip
    try simp only [Act.put, List.setIfInBounds_toArray, List.set_cons_zero, List.set_cons_succ]
    refine wpAnyH_ready (rs := [10]) (by kernel_rfl) (by simp) ?_
    refine AllReadyH.cons (o := ⟨some 90, _, _, _, _, some (7, true)⟩) rfl (fun K hK => ?_) ?_
    · go_simp
      refine (scriptoriumlaw20_at.calls 10 10 0 _ rfl).mono ?_
      rintro e wq10 ⟨rfl, hb⟩
      have Sq10 := Aside0.mk (SD.out.step hb)
      refine hK.out _ _ ⟨Sq10.out.bx5, Sq10.out.bx4, Sq10.out.bx3⟩ (fun hHeld => ?_)
      clear hK K
      try simp only [Act.put, List.setIfInBounds_toArray, List.set_cons_zero, List.set_cons_succ]
      refine wpAnyH_take (i := 11) (oi := ⟨some 91, _, _, _, _, some (7, true)⟩) (v := ?v112) rfl (by kernel_rfl) (by kernel_rfl) (by kernel_rfl) (fun _ _ _ h => h) (Or.inl ⟨by rfl, ?hy112⟩) (by with_reducible assumption) ?rest112
      case hy112 => (intro V_ hSw; (try dsimp only at hSw); go_simp; (try with_reducible rfl))
      case' rest112 => skip
      try simp only [Act.put, List.setIfInBounds_toArray, List.set_cons_zero, List.set_cons_succ]
      refine wpAnyH_take (i := 12) (oi := ⟨some 92, _, _, _, _, none⟩) (v := ?v113) rfl (by kernel_rfl) (by kernel_rfl) (by kernel_rfl) (fun _ _ _ h => h) (Or.inl ⟨by rfl, ?hy113⟩) (by with_reducible assumption) ?rest113
      case hy113 => (intro V_ hSw; (try dsimp only at hSw); go_simp; (try with_reducible rfl))
      case' rest113 => skip
      try simp only [Act.put, List.setIfInBounds_toArray, List.set_cons_zero, List.set_cons_succ]
      refine wpAnyH_take (i := 13) (oi := ⟨some 93, _, _, _, _, none⟩) (v := ?v114) rfl (by kernel_rfl) (by kernel_rfl) (by kernel_rfl) (fun _ _ _ h => h) (Or.inl ⟨by rfl, ?hy114⟩) (by with_reducible assumption) ?rest114
      case hy114 => (intro V_ hSw; (try dsimp only at hSw); go_simp; (try with_reducible rfl))
      case' rest114 => skip
      try simp only [Act.put, List.setIfInBounds_toArray, List.set_cons_zero, List.set_cons_succ]
      refine wpAnyH_take (i := 14) (oi := ⟨some 94, _, _, _, _, some (13, true)⟩) (v := ?v115) rfl (by kernel_rfl) (by kernel_rfl) (by kernel_rfl) (fun _ _ _ h => h) (Or.inl ⟨by rfl, ?hy115⟩) (by with_reducible assumption) ?rest115
      case hy115 => (intro V_ hSw; (try dsimp only at hSw); go_simp; (try with_reducible rfl))
      case' rest115 => skip
      try simp only [Act.put, List.setIfInBounds_toArray, List.set_cons_zero, List.set_cons_succ]
      refine wpAnyH_take (i := 15) (oi := ⟨some 95, _, _, _, _, some (13, true)⟩) (v := ?v116) rfl (by kernel_rfl) (by kernel_rfl) (by kernel_rfl) (fun _ _ _ h => h) (Or.inl ⟨by rfl, ?hy116⟩) (by with_reducible assumption) ?rest116
      case hy116 => (intro V_ hSw; (try dsimp only at hSw); go_simp; (try with_reducible rfl))
      case' rest116 => skip
      try simp only [Act.put, List.setIfInBounds_toArray, List.set_cons_zero, List.set_cons_succ]
      refine wpAnyH_ready (rs := [16]) (by kernel_rfl) (by simp) ?_
      refine AllReadyH.cons (o := ⟨some 96, _, _, _, _, some (13, true)⟩) rfl (fun K hK => ?_) ?_
      · go_simp
        refine (scriptoriumlaw20_at.calls 20 20 0 _ rfl).mono ?_
        rintro e wq16 ⟨rfl, hb⟩
        have Sq16 := Aside0.mk (Sq10.out.step hb)
        refine hK.out _ _ ⟨Sq16.out.bx5, Sq16.out.bx4, Sq16.out.bx3⟩ (fun hHeld => ?_)
        clear hK K
        try simp only [Act.put, List.setIfInBounds_toArray, List.set_cons_zero, List.set_cons_succ]
        refine wpAnyH_take (i := 17) (oi := ⟨some 97, _, _, _, _, some (13, true)⟩) (v := ?v117) rfl (by kernel_rfl) (by kernel_rfl) (by kernel_rfl) (fun _ _ _ h => h) (Or.inl ⟨by rfl, ?hy117⟩) (by with_reducible assumption) ?rest117
        case hy117 => (intro V_ hSw; (try dsimp only at hSw); go_simp; (try with_reducible rfl))
        case' rest117 => skip
        try simp only [Act.put, List.setIfInBounds_toArray, List.set_cons_zero, List.set_cons_succ]
        refine wpAnyH_take (i := 18) (oi := ⟨some 98, _, _, _, _, none⟩) (v := ?v118) rfl (by kernel_rfl) (by kernel_rfl) (by kernel_rfl) (fun _ _ _ h => h) (Or.inl ⟨by rfl, ?hy118⟩) (by with_reducible assumption) ?rest118
        case hy118 => (intro V_ hSw; (try dsimp only at hSw); go_simp; (try with_reducible rfl))
        case' rest118 => skip
        try simp only [Act.put, List.setIfInBounds_toArray, List.set_cons_zero, List.set_cons_succ]
        refine wpAnyH_take (i := 19) (oi := ⟨some 99, _, _, _, _, none⟩) (v := ?v119) rfl (by kernel_rfl) (by kernel_rfl) (by kernel_rfl) (fun _ _ _ h => h) (Or.inl ⟨by rfl, ?hy119⟩) (by with_reducible assumption) ?rest119
        case hy119 => (intro V_ hSw; (try dsimp only at hSw); go_simp; (try with_reducible rfl))
        case' rest119 => skip
        try simp only [Act.put, List.setIfInBounds_toArray, List.set_cons_zero, List.set_cons_succ]
        refine wpAnyH_take (i := 20) (oi := ⟨some 100, _, _, _, _, some (19, true)⟩) (v := ?v120) rfl (by kernel_rfl) (by kernel_rfl) (by kernel_rfl) (fun _ _ _ h => h) (Or.inl ⟨by rfl, ?hy120⟩) (by with_reducible assumption) ?rest120
        case hy120 => (intro V_ hSw; (try dsimp only at hSw); go_simp; (try with_reducible rfl))
        case' rest120 => skip
        try simp only [Act.put, List.setIfInBounds_toArray, List.set_cons_zero, List.set_cons_succ]
        refine wpAnyH_take (i := 21) (oi := ⟨some 101, _, _, _, _, some (19, true)⟩) (v := ?v121) rfl (by kernel_rfl) (by kernel_rfl) (by kernel_rfl) (fun _ _ _ h => h) (Or.inl ⟨by rfl, ?hy121⟩) (by with_reducible assumption) ?rest121
        case hy121 => (intro V_ hSw; (try dsimp only at hSw); go_simp; (try with_reducible rfl))
        case' rest121 => skip
        try simp only [Act.put, List.setIfInBounds_toArray, List.set_cons_zero, List.set_cons_succ]
        refine wpAnyH_take (i := 22) (oi := ⟨some 102, _, _, _, _, none⟩) (v := ?v122) rfl (by kernel_rfl) (by kernel_rfl) (by kernel_rfl) (fun _ _ _ h => h) (Or.inl ⟨by rfl, ?hy122⟩) (by with_reducible assumption) ?rest122
        case hy122 => (intro V_ hSw; (try dsimp only at hSw); go_simp; (try with_reducible rfl))
        case' rest122 => skip
        try simp only [Act.put, List.setIfInBounds_toArray, List.set_cons_zero, List.set_cons_succ]
        refine wpAnyH_take (i := 23) (oi := ⟨some 103, _, _, _, _, none⟩) (v := ?v123) rfl (by kernel_rfl) (by kernel_rfl) (by kernel_rfl) (fun _ _ _ h => h) (Or.inl ⟨by rfl, ?hy123⟩) (by with_reducible assumption) ?rest123
        case hy123 => (intro V_ hSw; (try dsimp only at hSw); go_simp; (try with_reducible rfl))
        case' rest123 => skip
        try simp only [Act.put, List.setIfInBounds_toArray, List.set_cons_zero, List.set_cons_succ]
        refine wpAnyH_take (i := 24) (oi := ⟨some 104, _, _, _, _, some (23, true)⟩) (v := ?v124) rfl (by kernel_rfl) (by kernel_rfl) (by kernel_rfl) (fun _ _ _ h => h) (Or.inl ⟨by rfl, ?hy124⟩) (by with_reducible assumption) ?rest124
        case hy124 => (intro V_ hSw; (try dsimp only at hSw); go_simp; (try with_reducible rfl))
        case' rest124 => skip
        try simp only [Act.put, List.setIfInBounds_toArray, List.set_cons_zero, List.set_cons_succ]
        refine wpAnyH_take (i := 25) (oi := ⟨some 105, _, _, _, _, some (23, true)⟩) (v := ?v125) rfl (by kernel_rfl) (by kernel_rfl) (by kernel_rfl) (fun _ _ _ h => h) (Or.inl ⟨by rfl, ?hy125⟩) (by with_reducible assumption) ?rest125
        case hy125 => (intro V_ hSw; (try dsimp only at hSw); go_simp; (try with_reducible rfl))
        case' rest125 => skip
        try simp only [Act.put, List.setIfInBounds_toArray, List.set_cons_zero, List.set_cons_succ]
        refine wpAnyH_take (i := 26) (oi := ⟨some 106, _, _, _, _, some (23, true)⟩) (v := ?v126) rfl (by kernel_rfl) (by kernel_rfl) (by kernel_rfl) (fun _ _ _ h => h) (Or.inl ⟨by rfl, ?hy126⟩) (by with_reducible assumption) ?rest126
        case hy126 => (intro V_ hSw; (try dsimp only at hSw); go_simp; (try with_reducible rfl))
        case' rest126 => skip
        try simp only [Act.put, List.setIfInBounds_toArray, List.set_cons_zero, List.set_cons_succ]
        refine wpAnyH_take (i := 27) (oi := ⟨some 107, _, _, _, _, some (23, true)⟩) (v := ?v127) rfl (by kernel_rfl) (by kernel_rfl) (by kernel_rfl) (fun _ _ _ h => h) (Or.inl ⟨by rfl, ?hy127⟩) (by with_reducible assumption) ?rest127
        case hy127 => (intro V_ hSw; (try dsimp only at hSw); go_simp; (try with_reducible rfl))
        case' rest127 => skip
        try simp only [Act.put, List.setIfInBounds_toArray, List.set_cons_zero, List.set_cons_succ]
        refine wpAnyH_take (i := 28) (oi := ⟨some 108, _, _, _, _, none⟩) (v := ?v128) rfl (by kernel_rfl) (by kernel_rfl) (by kernel_rfl) (fun _ _ _ h => h) (Or.inl ⟨by rfl, ?hy128⟩) (by with_reducible assumption) ?rest128
        case hy128 => (intro V_ hSw; (try dsimp only at hSw); go_simp; (try with_reducible rfl))
        case' rest128 => skip
        try simp only [Act.put, List.setIfInBounds_toArray, List.set_cons_zero, List.set_cons_succ]
        refine wpAnyH_take (i := 29) (oi := ⟨some 109, _, _, _, _, none⟩) (v := ?v129) rfl (by kernel_rfl) (by kernel_rfl) (by kernel_rfl) (fun _ _ _ h => h) (Or.inl ⟨by rfl, ?hy129⟩) (by with_reducible assumption) ?rest129
        case hy129 => (intro V_ hSw; (try dsimp only at hSw); go_simp; (try with_reducible rfl))
        case' rest129 => skip
        try simp only [Act.put, List.setIfInBounds_toArray, List.set_cons_zero, List.set_cons_succ]
        refine wpAnyH_take (i := 30) (oi := ⟨some 110, _, _, _, _, some (29, true)⟩) (v := ?v130) rfl (by kernel_rfl) (by kernel_rfl) (by kernel_rfl) (fun _ _ _ h => h) (Or.inl ⟨by rfl, ?hy130⟩) (by with_reducible assumption) ?rest130
        case hy130 => (intro V_ hSw; (try dsimp only at hSw); go_simp; (try with_reducible rfl))
        case' rest130 => skip
        try simp only [Act.put, List.setIfInBounds_toArray, List.set_cons_zero, List.set_cons_succ]
        refine wpAnyH_take (i := 31) (oi := ⟨some 111, _, _, _, _, some (29, true)⟩) (v := ?v131) rfl (by kernel_rfl) (by kernel_rfl) (by kernel_rfl) (fun _ _ _ h => h) (Or.inl ⟨by rfl, ?hy131⟩) (by with_reducible assumption) ?rest131
        case hy131 => (intro V_ hSw; (try dsimp only at hSw); go_simp; (try with_reducible rfl))
        case' rest131 => skip
        try simp only [Act.put, List.setIfInBounds_toArray, List.set_cons_zero, List.set_cons_succ]
        refine wpAnyH_take (i := 32) (oi := ⟨some 112, _, _, _, _, none⟩) (v := ?v132) rfl (by kernel_rfl) (by kernel_rfl) (by kernel_rfl) (fun _ _ _ h => h) (Or.inl ⟨by rfl, ?hy132⟩) (by with_reducible assumption) ?rest132
        case hy132 => (intro V_ hSw; (try dsimp only at hSw); go_simp; (try with_reducible rfl))
        case' rest132 => skip
        try simp only [Act.put, List.setIfInBounds_toArray, List.set_cons_zero, List.set_cons_succ]
        refine wpAnyH_take (i := 33) (oi := ⟨some 113, _, _, _, _, none⟩) (v := ?v133) rfl (by kernel_rfl) (by kernel_rfl) (by kernel_rfl) (fun _ _ _ h => h) (Or.inl ⟨by rfl, ?hy133⟩) (by with_reducible assumption) ?rest133
        case hy133 => (intro V_ hSw; (try dsimp only at hSw); go_simp; (try with_reducible rfl))
        case' rest133 => skip
        try simp only [Act.put, List.setIfInBounds_toArray, List.set_cons_zero, List.set_cons_succ]
        refine wpAnyH_take (i := 34) (oi := ⟨some 114, _, _, _, _, some (33, true)⟩) (v := _) rfl (by kernel_rfl) (by kernel_rfl) (by kernel_rfl) (fun _ _ _ h => h) (yieldsIf_load_row (by rfl) 27 _ rfl bc rfl _ _ (0, 0) _ (fun V h => h.2.2) Try.underlying27 rfl (by kernel_rfl)) (by with_reducible assumption) ?_
        try simp only [Act.put, List.setIfInBounds_toArray, List.set_cons_zero, List.set_cons_succ]
        refine wpAnyH_take (i := 35) (oi := ⟨some 115, _, _, _, _, some (33, true)⟩) (v := _) rfl (by kernel_rfl) (by kernel_rfl) (by kernel_rfl) (fun _ _ _ h => h) (yieldsIf_load_row (by rfl) 27 _ rfl bb rfl _ _ (0, 0) _ (fun V h => h.2.1) Try.underlying27 rfl (by kernel_rfl)) (by with_reducible assumption) ?_
        try simp only [Act.put, List.setIfInBounds_toArray, List.set_cons_zero, List.set_cons_succ]
        refine wpAnyH_ready (rs := [36]) (by kernel_rfl) (by simp) ?_
        refine AllReadyH.cons (o := ⟨some 116, _, _, _, _, some (33, true)⟩) rfl (fun K hK => ?_) ?_
        · go_simp
          refine (scriptoriumref11_SameRecord.calls 40 7 0 1 5 ⟨#[97]⟩ 30 1 20 0 Ac cc [] 7 0 1 5 ⟨#[97]⟩ 30 1 20 0 Ab cb [] true _ (Kd.C_nil' _ _ _) (Nat.zero_le _) (Kd.C_nil' _ _ _) (Nat.zero_le _) (by kernel_rfl)).mono ?_
          rintro e wq36 ⟨rfl, hb⟩
          have Sq36 := Aside0.mk (Sq16.out.step hb)
          refine hK.out _ _ ⟨Sq36.out.bx5, Sq36.out.bx4, Sq36.out.bx3⟩ (fun hHeld => ?_)
          clear hK K
          try simp only [Act.put, List.setIfInBounds_toArray, List.set_cons_zero, List.set_cons_succ]
          refine wpAnyH_take (i := 37) (oi := ⟨some 117, _, _, _, _, none⟩) (v := ?v136) rfl (by kernel_rfl) (by kernel_rfl) (by kernel_rfl) (fun _ _ _ h => h) (Or.inl ⟨by rfl, ?hy136⟩) (by with_reducible assumption) ?rest136
          case hy136 => (intro V_ hSw; (try dsimp only at hSw); go_simp; (try with_reducible rfl))
          case' rest136 => skip
          try simp only [Act.put, List.setIfInBounds_toArray, List.set_cons_zero, List.set_cons_succ]
          refine wpAnyH_take (i := 38) (oi := ⟨some 17, _, _, _, _, none⟩) (v := ?v137) rfl (by kernel_rfl) (by kernel_rfl) (by kernel_rfl) (fun _ _ _ h => h) (Or.inl ⟨by rfl, ?hy137⟩) (by with_reducible assumption) ?rest137
          case hy137 => (intro V_ hSw; (try dsimp only at hSw); go_simp; (try with_reducible rfl))
          case' rest137 => skip
          try simp only [Act.put, List.setIfInBounds_toArray, List.set_cons_zero, List.set_cons_succ]
          refine wpAnyH_done (by kernel_rfl) ?_ _
          refine NoPanic.normal ?_
          go_wp2_with fail
          go_meet
          case rel => exact ⟨rfl, Sq36⟩
        exact AllReadyH.nil
      exact AllReadyH.nil
    exact AllReadyH.nil
  case rest =>
  obtain ⟨rfl, S18⟩ := hcut
  rename World => w18
  clear S17
  obtain ⟨d0, d1, d2, d3, d4, d5, d6, d7, d8, d9⟩ := cells10 S18.out.bx2
  obtain ⟨s0, s1, s2, s3, s4, s5, s6, s7, s8, s9⟩ := cells10 S18.out.bx1
  go_upto_region 11 with fail
  clear d0 d1 d2 d3 d4 d5 d6 d7 d8 d9 s0 s1 s2 s3 s4 s5 s6 s7 s8 s9
  have rx2 := fun (V : World) (h : V.heap[bx]? = some (.cells #[.int .i64 7, .int .i64 0, .int .i64 3, .int .i64 5, .string ⟨#[97]⟩, .int .i64 10, .int .i64 0, .int .i64 20, .int .i64 0, .slice Ax 0 cx] 27 (0, 0))) => (show V.cell? ⟨bx, 2, none⟩ = some (.int .i64 3) from (blk_cell h 2).trans rfl)
  have rx5 := fun (V : World) (h : V.heap[bx]? = some (.cells #[.int .i64 7, .int .i64 0, .int .i64 3, .int .i64 5, .string ⟨#[97]⟩, .int .i64 10, .int .i64 0, .int .i64 20, .int .i64 0, .slice Ax 0 cx] 27 (0, 0))) => (show V.cell? ⟨bx, 5, none⟩ = some (.int .i64 10) from (blk_cell h 5).trans rfl)
  have rx6 := fun (V : World) (h : V.heap[bx]? = some (.cells #[.int .i64 7, .int .i64 0, .int .i64 3, .int .i64 5, .string ⟨#[97]⟩, .int .i64 10, .int .i64 0, .int .i64 20, .int .i64 0, .slice Ax 0 cx] 27 (0, 0))) => (show V.cell? ⟨bx, 6, none⟩ = some (.int .i64 0) from (blk_cell h 6).trans rfl)
  have rx9 := fun (V : World) (h : V.heap[bx]? = some (.cells #[.int .i64 7, .int .i64 0, .int .i64 3, .int .i64 5, .string ⟨#[97]⟩, .int .i64 10, .int .i64 0, .int .i64 20, .int .i64 0, .slice Ax 0 cx] 27 (0, 0))) => (show V.cell? ⟨bx, 9, none⟩ = some (.slice Ax 0 cx) from (blk_cell h 9).trans rfl)
  refine wp_region_noPanic ?_
  have SD := Aside0.mk S18.out.drew
  refine wp_region_held_drew (S := (fun V => V.heap[bx]? = some (.cells #[.int .i64 7, .int .i64 0, .int .i64 3, .int .i64 5, .string ⟨#[97]⟩, .int .i64 10, .int .i64 0, .int .i64 20, .int .i64 0, .slice Ax 0 cx] 27 (0, 0)))) (by kernel_rfl) SD.out.bx0 (fun hHeld => ?_)
  generalize hwd : World.drew w18 = wd at hHeld SD ⊢
  clear hwd
  refine wpAnyH_take (i := 0) (oi := ⟨some 143, _, _, _, _, none⟩) (v := ?v138) rfl (by kernel_rfl) (by kernel_rfl) (by kernel_rfl) (fun _ _ _ h => h) (Or.inl ⟨by rfl, ?hy138⟩) (by with_reducible assumption) ?rest138
  case hy138 => (intro V_ hSw; (try dsimp only at hSw); go_simp; (try with_reducible rfl))
  case' rest138 => skip
  try simp only [Act.put, List.setIfInBounds_toArray, List.set_cons_zero, List.set_cons_succ]
  refine wpAnyH_take (i := 1) (oi := ⟨some 144, _, _, _, _, none⟩) (v := ?v139) rfl (by kernel_rfl) (by kernel_rfl) (by kernel_rfl) (fun _ _ _ h => h) (Or.inl ⟨by rfl, ?hy139⟩) (by with_reducible assumption) ?rest139
  case hy139 => (intro V_ hSw; (try dsimp only at hSw); go_simp; (try with_reducible rfl))
  case' rest139 => skip
  try simp only [Act.put, List.setIfInBounds_toArray, List.set_cons_zero, List.set_cons_succ]
  refine wpAnyH_take (i := 2) (oi := ⟨some 145, _, _, _, _, some (1, true)⟩) (v := ?v140) rfl (by kernel_rfl) (by kernel_rfl) (by kernel_rfl) (fun _ _ _ h => h) (Or.inl ⟨by rfl, ?hy140⟩) (by with_reducible assumption) ?rest140
  case hy140 => (intro V_ hSw; (try dsimp only at hSw); go_simp; (try with_reducible rfl))
  case' rest140 => skip
  try simp only [Act.put, List.setIfInBounds_toArray, List.set_cons_zero, List.set_cons_succ]
  refine wpAnyH_take (i := 3) (oi := ⟨some 146, _, _, _, _, none⟩) (v := ?v141) rfl (by kernel_rfl) (by kernel_rfl) (by kernel_rfl) (fun _ _ _ h => h) (Or.inl ⟨by rfl, ?hy141⟩) (by with_reducible assumption) ?rest141
  case hy141 => (intro V_ hSw; (try dsimp only at hSw); go_simp; (try with_reducible rfl))
  case' rest141 => skip
  try simp only [Act.put, List.setIfInBounds_toArray, List.set_cons_zero, List.set_cons_succ]
  refine wpAnyH_take (i := 4) (oi := ⟨some 147, _, _, _, _, none⟩) (v := ?v142) rfl (by kernel_rfl) (by kernel_rfl) (by kernel_rfl) (fun _ _ _ h => h) (Or.inl ⟨by rfl, ?hy142⟩) (by with_reducible assumption) ?rest142
  case hy142 => (intro V_ hSw; (try dsimp only at hSw); go_simp; (try with_reducible rfl))
  case' rest142 => skip
  try simp only [Act.put, List.setIfInBounds_toArray, List.set_cons_zero, List.set_cons_succ]
  refine wpAnyH_take (i := 5) (oi := ⟨some 148, _, _, _, _, some (4, true)⟩) (v := ?v143) rfl (by kernel_rfl) (by kernel_rfl) (by kernel_rfl) (fun _ _ _ h => h) (Or.inl ⟨by rfl, ?hy143⟩) (by with_reducible assumption) ?rest143
  case hy143 => (intro V_ hSw; (try dsimp only at hSw); go_simp; (try with_reducible rfl))
  case' rest143 => skip
  try simp only [Act.put, List.setIfInBounds_toArray, List.set_cons_zero, List.set_cons_succ]
  refine wpAnyH_take (i := 6) (oi := ⟨some 149, _, _, _, _, some (4, true)⟩) (v := ?v144) rfl (by kernel_rfl) (by kernel_rfl) (by kernel_rfl) (fun _ _ _ h => h) (Or.inl ⟨by rfl, ?hy144⟩) (by with_reducible assumption) ?rest144
  case hy144 => (intro V_ hSw; (try dsimp only at hSw); go_simp; (try with_reducible rfl))
  case' rest144 => skip
  try simp only [Act.put, List.setIfInBounds_toArray, List.set_cons_zero, List.set_cons_succ]
  refine wpAnyH_take (i := 7) (oi := ⟨some 150, _, _, _, _, none⟩) (v := ?v145) rfl (by kernel_rfl) (by kernel_rfl) (by kernel_rfl) (fun _ _ _ h => h) (Or.inl ⟨by rfl, ?hy145⟩) (by with_reducible assumption) ?rest145
  case hy145 => (intro V_ hSw; (try dsimp only at hSw); go_simp; (try with_reducible rfl))
  case' rest145 => skip
  try simp only [Act.put, List.setIfInBounds_toArray, List.set_cons_zero, List.set_cons_succ]
  refine wpAnyH_take (i := 8) (oi := ⟨some 151, _, _, _, _, none⟩) (v := ?v146) rfl (by kernel_rfl) (by kernel_rfl) (by kernel_rfl) (fun _ _ _ h => h) (Or.inl ⟨by rfl, ?hy146⟩) (by with_reducible assumption) ?rest146
  case hy146 => (intro V_ hSw; (try dsimp only at hSw); go_simp; (try with_reducible rfl))
  case' rest146 => skip
  try simp only [Act.put, List.setIfInBounds_toArray, List.set_cons_zero, List.set_cons_succ]
  refine wpAnyH_take (i := 9) (oi := ⟨some 152, _, _, _, _, some (8, true)⟩) (v := ?v147) rfl (by kernel_rfl) (by kernel_rfl) (by kernel_rfl) (fun _ _ _ h => h) (Or.inl ⟨by rfl, ?hy147⟩) (by with_reducible assumption) ?rest147
  case hy147 => (intro V_ hSw; (try dsimp only at hSw); go_simp; (try with_reducible rfl))
  case' rest147 => skip
  try simp only [Act.put, List.setIfInBounds_toArray, List.set_cons_zero, List.set_cons_succ]
  refine wpAnyH_take (i := 10) (oi := ⟨some 153, _, _, _, _, some (8, true)⟩) (v := ?v148) rfl (by kernel_rfl) (by kernel_rfl) (by kernel_rfl) (fun _ _ _ h => h) (Or.inl ⟨by rfl, ?hy148⟩) (by with_reducible assumption) ?rest148
  case hy148 => (intro V_ hSw; (try dsimp only at hSw); go_simp; (try with_reducible rfl))
  case' rest148 => skip
  try simp only [Act.put, List.setIfInBounds_toArray, List.set_cons_zero, List.set_cons_succ]
  refine wpAnyH_take (i := 11) (oi := ⟨some 154, _, _, _, _, some (8, true)⟩) (v := ?v149) rfl (by kernel_rfl) (by kernel_rfl) (by kernel_rfl) (fun _ _ _ h => h) (Or.inl ⟨by rfl, ?hy149⟩) (by with_reducible assumption) ?rest149
  case hy149 => (intro V_ hSw; (try dsimp only at hSw); go_simp; (try with_reducible rfl))
  case' rest149 => skip
  try simp only [Act.put, List.setIfInBounds_toArray, List.set_cons_zero, List.set_cons_succ]
  refine wpAnyH_take (i := 12) (oi := ⟨some 155, _, _, _, _, none⟩) (v := ?v150) rfl (by kernel_rfl) (by kernel_rfl) (by kernel_rfl) (fun _ _ _ h => h) (Or.inl ⟨by rfl, ?hy150⟩) (by with_reducible assumption) ?rest150
  case hy150 => (intro V_ hSw; (try dsimp only at hSw); go_simp; (try with_reducible rfl))
  case' rest150 => skip
  try simp only [Act.put, List.setIfInBounds_toArray, List.set_cons_zero, List.set_cons_succ]
  refine wpAnyH_take (i := 13) (oi := ⟨some 156, _, _, _, _, none⟩) (v := ?v151) rfl (by kernel_rfl) (by kernel_rfl) (by kernel_rfl) (fun _ _ _ h => h) (Or.inl ⟨by rfl, ?hy151⟩) (by with_reducible assumption) ?rest151
  case hy151 => (intro V_ hSw; (try dsimp only at hSw); go_simp; (try with_reducible rfl))
  case' rest151 => skip
  try simp only [Act.put, List.setIfInBounds_toArray, List.set_cons_zero, List.set_cons_succ]
  refine wpAnyH_take (i := 14) (oi := ⟨some 157, _, _, _, _, some (13, true)⟩) (v := ?v152) rfl (by kernel_rfl) (by kernel_rfl) (by kernel_rfl) (fun _ _ _ h => h) (Or.inl ⟨by rfl, ?hy152⟩) (by with_reducible assumption) ?rest152
  case hy152 => (intro V_ hSw; (try dsimp only at hSw); go_simp; (try with_reducible rfl))
  case' rest152 => skip
  try simp only [Act.put, List.setIfInBounds_toArray, List.set_cons_zero, List.set_cons_succ]
  refine wpAnyH_take (i := 15) (oi := ⟨some 158, _, _, _, _, some (13, true)⟩) (v := ?v153) rfl (by kernel_rfl) (by kernel_rfl) (by kernel_rfl) (fun _ _ _ h => h) (Or.inl ⟨by rfl, ?hy153⟩) (by with_reducible assumption) ?rest153
  case hy153 => (intro V_ hSw; (try dsimp only at hSw); go_simp; (try with_reducible rfl))
  case' rest153 => skip
  try simp only [Act.put, List.setIfInBounds_toArray, List.set_cons_zero, List.set_cons_succ]
  refine wpAnyH_ready (rs := [16]) (by kernel_rfl) (by simp) ?_
  refine AllReadyH.cons (o := ⟨some 159, _, _, _, _, some (13, true)⟩) rfl (fun K hK => ?_) ?_
  · go_simp
    refine (scriptoriumlaw20_at.calls 10 10 0 _ rfl).mono ?_
    rintro e wq16 ⟨rfl, hb⟩
    have Sq16 := Aside0.mk (SD.out.step hb)
    refine hK.out _ _ Sq16.out.bx0 (fun hHeld => ?_)
    clear hK K
    try simp only [Act.put, List.setIfInBounds_toArray, List.set_cons_zero, List.set_cons_succ]
    refine wpAnyH_take (i := 17) (oi := ⟨some 160, _, _, _, _, some (13, true)⟩) (v := ?v154) rfl (by kernel_rfl) (by kernel_rfl) (by kernel_rfl) (fun _ _ _ h => h) (Or.inl ⟨by rfl, ?hy154⟩) (by with_reducible assumption) ?rest154
    case hy154 => (intro V_ hSw; (try dsimp only at hSw); go_simp; (try with_reducible rfl))
    case' rest154 => skip
    try simp only [Act.put, List.setIfInBounds_toArray, List.set_cons_zero, List.set_cons_succ]
    refine wpAnyH_take (i := 18) (oi := ⟨some 161, _, _, _, _, none⟩) (v := ?v155) rfl (by kernel_rfl) (by kernel_rfl) (by kernel_rfl) (fun _ _ _ h => h) (Or.inl ⟨by rfl, ?hy155⟩) (by with_reducible assumption) ?rest155
    case hy155 => (intro V_ hSw; (try dsimp only at hSw); go_simp; (try with_reducible rfl))
    case' rest155 => skip
    try simp only [Act.put, List.setIfInBounds_toArray, List.set_cons_zero, List.set_cons_succ]
    refine wpAnyH_take (i := 19) (oi := ⟨some 162, _, _, _, _, none⟩) (v := ?v156) rfl (by kernel_rfl) (by kernel_rfl) (by kernel_rfl) (fun _ _ _ h => h) (Or.inl ⟨by rfl, ?hy156⟩) (by with_reducible assumption) ?rest156
    case hy156 => (intro V_ hSw; (try dsimp only at hSw); go_simp; (try with_reducible rfl))
    case' rest156 => skip
    try simp only [Act.put, List.setIfInBounds_toArray, List.set_cons_zero, List.set_cons_succ]
    refine wpAnyH_take (i := 20) (oi := ⟨some 163, _, _, _, _, some (19, true)⟩) (v := ?v157) rfl (by kernel_rfl) (by kernel_rfl) (by kernel_rfl) (fun _ _ _ h => h) (Or.inl ⟨by rfl, ?hy157⟩) (by with_reducible assumption) ?rest157
    case hy157 => (intro V_ hSw; (try dsimp only at hSw); go_simp; (try with_reducible rfl))
    case' rest157 => skip
    try simp only [Act.put, List.setIfInBounds_toArray, List.set_cons_zero, List.set_cons_succ]
    refine wpAnyH_take (i := 21) (oi := ⟨some 164, _, _, _, _, some (19, true)⟩) (v := ?v158) rfl (by kernel_rfl) (by kernel_rfl) (by kernel_rfl) (fun _ _ _ h => h) (Or.inl ⟨by rfl, ?hy158⟩) (by with_reducible assumption) ?rest158
    case hy158 => (intro V_ hSw; (try dsimp only at hSw); go_simp; (try with_reducible rfl))
    case' rest158 => skip
    try simp only [Act.put, List.setIfInBounds_toArray, List.set_cons_zero, List.set_cons_succ]
    refine wpAnyH_take (i := 22) (oi := ⟨some 165, _, _, _, _, some (19, true)⟩) (v := ?v159) rfl (by kernel_rfl) (by kernel_rfl) (by kernel_rfl) (fun _ _ _ h => h) (Or.inl ⟨by rfl, ?hy159⟩) (by with_reducible assumption) ?rest159
    case hy159 => (intro V_ hSw; (try dsimp only at hSw); go_simp; (try with_reducible rfl))
    case' rest159 => skip
    try simp only [Act.put, List.setIfInBounds_toArray, List.set_cons_zero, List.set_cons_succ]
    refine wpAnyH_take (i := 23) (oi := ⟨some 166, _, _, _, _, some (19, true)⟩) (v := ?v160) rfl (by kernel_rfl) (by kernel_rfl) (by kernel_rfl) (fun _ _ _ h => h) (Or.inl ⟨by rfl, ?hy160⟩) (by with_reducible assumption) ?rest160
    case hy160 => (intro V_ hSw; (try dsimp only at hSw); go_simp; (try with_reducible rfl))
    case' rest160 => skip
    try simp only [Act.put, List.setIfInBounds_toArray, List.set_cons_zero, List.set_cons_succ]
    refine wpAnyH_take (i := 24) (oi := ⟨some 167, _, _, _, _, none⟩) (v := ?v161) rfl (by kernel_rfl) (by kernel_rfl) (by kernel_rfl) (fun _ _ _ h => h) (Or.inl ⟨by rfl, ?hy161⟩) (by with_reducible assumption) ?rest161
    case hy161 => (intro V_ hSw; (try dsimp only at hSw); go_simp; (try with_reducible rfl))
    case' rest161 => skip
    try simp only [Act.put, List.setIfInBounds_toArray, List.set_cons_zero, List.set_cons_succ]
    refine wpAnyH_take (i := 25) (oi := ⟨some 0, _, _, _, _, none⟩) (v := ?v162) rfl (by kernel_rfl) (by kernel_rfl) (by kernel_rfl) (fun _ _ _ h => h) (Or.inl ⟨by rfl, ?hy162⟩) (by with_reducible assumption) ?rest162
    case hy162 => (intro V_ hSw; (try dsimp only at hSw); go_simp; (try with_reducible rfl))
    case' rest162 => skip
    try simp only [Act.put, List.setIfInBounds_toArray, List.set_cons_zero, List.set_cons_succ]
    refine wpAnyH_done (by kernel_rfl) ?_ _
    refine NoPanic.normal ?_
    go_wp2_with fail
    go_ret
    exact ⟨rfl, Sq16.out.below⟩
  exact AllReadyH.nil
end Go.Proofs.Ythdmkacnkdmbiaa.PRecordStaged
