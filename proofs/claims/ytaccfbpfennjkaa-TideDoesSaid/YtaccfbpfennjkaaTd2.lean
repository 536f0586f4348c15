/- The tide (typed by hand): its row of reads: the search and the forgetting. -/
import Derived.Test.YtaccfbpfennjkaaTd
namespace Go.Proofs.Ytaccfbpfennjkaa.PTideDoes
open Go.RowKit Go.Proofs.YtaccfbpfennjkaaW.PrintWords Go.Proofs.YtaccfbpfennjkaaW.PrintLast Go.Proofs.YtaccfbpfennjkaaW.PrintMore
attribute [local go_sem] max2_int min2_int max_two min_two max_three min_three max_four min_four   -- for this text's walks alone
set_option linter.unusedVariables false
set_option linter.unusedSimpArgs false
/-- A whole struct is read at whatever address: in a plain region. -/
theorem wpList_load_at {P : Program} {ops : Array Oper} {rest : List Oper} {op : Oper} {a : Act} {w : World} {Q : Exit → Act → World → Prop} (hgd : op.guard = none) (ty : TypeId) (x : Operand) (ho : op.op = .load ty x)
    (p : Addr) (hx : a.eval x = .pointer (some p)) (cs : List Value) (d : TypeDesc) (hc : ∀ (j : Nat) (v : Value), cs[j]? = some v → w.cell? (p.add j) = some v)
    (hu : P.underlying ty = some d) (hd : d.isRow = true) (hi : (P.info? ty).map (·.size) = some cs.length)
    (h : wpList P ops Q rest (a.put op.dst (.agg cs.toArray)) w) : wpList P ops Q (op :: rest) a w := by
  have hl : (loadCells p cs.length).run P w = .ok cs.toArray w := run_loadCells_list (P := P) w p cs hc
  have hr : (loadVar ty p).run P w = .ok (.agg cs.toArray) w := by
    cases hq : P.info? ty with
    | none => simp [hq] at hi
    | some i =>
      have hs : i.size = cs.length := by simpa [hq] using hi
      have hagg : (isAgg ty).run P w = .ok true w := by
        unfold isAgg
        rw [Sem.run_bind, run_underlying hu w]
        cases d <;> simp_all
      simp [loadVar, Sem.run_bind, hagg, sizeOf, typeInfo, hq, hs, hl]
  refine wpList_plain hgd fun K hK => ?_
  unfold Oper.wp execOp
  simp only [ho, hx, Instr.loadAt, Instr.sureAddr, Sem.run_bind, Sem.run_pure, Result.andThen_ok, hr]
  exact hK _ _ h
def z63 : Rd S24 := ⟨z24, (0, 0), 0⟩
def rd_T63 (xs : List (Rd S24)) (i : Int) : Rd S24 := xs.getD i.toNat z63
theorem at_T63 {w : World} {A : Option Addr} {n : Nat} {xs : List (Rd S24)} (h : Kd.C k63 w A n xs) (i : Int) (h0 : 0 ≤ i) (h1 : i < n) : ∃ ad , A = some ad ∧ w.cell? (ad.add (i.toNat * 5)) = some (.string (rd_T63 xs i).s.f0) ∧ w.cell? ⟨(ad.add (i.toNat * 5)).block, (ad.add (i.toNat * 5)).off + 1, none⟩ = some (.string (rd_T63 xs i).s.f1) ∧ w.cell? ⟨(ad.add (i.toNat * 5)).block, (ad.add (i.toNat * 5)).off + 2, none⟩ = some (.int .i64 (rd_T63 xs i).at_.1) ∧ w.cell? ⟨(ad.add (i.toNat * 5)).block, (ad.add (i.toNat * 5)).off + 3, none⟩ = some (.int .i64 (rd_T63 xs i).at_.2) ∧ w.cell? ⟨(ad.add (i.toNat * 5)).block, (ad.add (i.toNat * 5)).off + 4, none⟩ = some (.int .i64 (rd_T63 xs i).o) := by
  obtain ⟨ad, c, e, _, hK, hc0⟩ := Kd.C_get h z63 i h0 h1
  have hc : ∀ j u, c[j]? = some u → w.cell? (ad.add (i.toNat * 5 + j)) = some u := hc0
  obtain rfl := k63_open hK
  exact ⟨ad, e, hc 0 _ rfl, by rw [← add_field _ _ 1 (by omega)]; exact hc 1 _ rfl, by rw [← add_field _ _ 2 (by omega)]; exact hc 2 _ rfl, by rw [← add_field _ _ 3 (by omega)]; exact hc 3 _ rfl, by rw [← add_field _ _ 4 (by omega)]; exact hc 4 _ rfl⟩
theorem ld_T63 {w : World} {A : Option Addr} {n : Nat} {xs : List (Rd S24)} (h : Kd.C k63 w A n xs) (i : Nat) (h1 : i < n) : ∃ ad, A = some ad ∧ ∃ x, xs.getD i z63 = x ∧ ∀ (j : Nat) (v : Value), ([.string x.s.f0, .string x.s.f1, .int .i64 x.at_.1, .int .i64 x.at_.2, .int .i64 x.o] : List Value)[j]? = some v → w.cell? ((ad.add (i * 5)).add j) = some v := by
  obtain ⟨ad, c, e, _, hK, hc0⟩ := Kd.C_get h z63 (i : Int) (by omega) (by omega)
  rw [Int.toNat_natCast] at hK hc0
  refine ⟨ad, e, _, rfl, fun j v hj => ?_⟩
  rw [add_add, ← k63_open hK] at *
  exact hc0 j v hj
def rdv (x : Rd S24) : Value := .agg #[.string x.s.f0, .string x.s.f1, .int .i64 x.at_.1, .int .i64 x.at_.2, .int .i64 x.o]
/-- r is the place of the first one of which p is true; -1: there is none. -/
def IsIdx (p : Rd S24 → Bool) (l : List (Rd S24)) (r : Int) : Prop := (r = -1 ∧ ∀ j, j < l.length → p (l.getD j z63) = false) ∨ (∃ i : Nat, i < l.length ∧ r = (i : Int) ∧ p (l.getD i z63) = true ∧ ∀ j, j < i → p (l.getD j z63) = false)
theorem IsIdx.hit {p : Rd S24 → Bool} {l : List (Rd S24)} {r : Int} (h : IsIdx p l r) {k : Nat} (hk : k < l.length) (hp : p (l.getD k z63) = true) (hb : ∀ j, j < k → p (l.getD j z63) = false) : (k : Int) = r := by
  rcases h with ⟨_, h⟩ | ⟨i, hi, rfl, h1, h2⟩
  · rw [h k hk] at hp; cases hp
  · have : i = k := by
      rcases Nat.lt_trichotomy i k with q | q | q
      · rw [hb i q] at h1; cases h1
      · exact q
      · rw [h2 k q] at hp; cases hp
    rw [this]
theorem IsIdx.miss {p : Rd S24 → Bool} {l : List (Rd S24)} {r : Int} (h : IsIdx p l r) (hb : ∀ j, j < l.length → p (l.getD j z63) = false) : (-1 : Int) = r := by
  rcases h with ⟨h, _⟩ | ⟨i, hi, rfl, h1, h2⟩
  · exact h.symm
  · rw [hb i hi] at h1; cases h1
set_option maxHeartbeats 16000000 in
set_option maxRecDepth 100000 in
theorem td_index35 (p : Rd S24 → Bool) (b5 b7 : Nat) (A : Option Addr) (c : Nat) (l : List (Rd S24)) (r : Int) (hr : IsIdx p l r) (W : World) (hC : Kd.C k63 W A l.length l)
    (hp : ∀ (V : World) (x : Rd S24), Below W.heap.size W V → Calls Try.prog 35 #[rdv x, .pointer (some ⟨b5, 0, none⟩), .pointer (some ⟨b7, 0, none⟩)] V fun e w' => e = .returned (.bool (p x)) ∧ Below V.heap.size V w') :
    Calls Try.prog 34 #[.slice A l.length c, .func (.func 35) #[] #[.pointer (some ⟨b5, 0, none⟩), .pointer (some ⟨b7, 0, none⟩)]] W fun e w' => e = .returned (.int .i64 r) ∧ Below W.heap.size W w' := by
  have HR := Aside0.mk hr
  have HC := Aside0.mk hC
  have HP := Aside0.mk hp
  have HM := Aside0.mk (Kd.C_max hC)
  clear hr hC hp
  go_enter Try.func34, Try.ntmps34
  go_wp2_with fail
  go_loopg [5, 8] (l.length + 1) (fun gg _ s8 wr => ∃ kk : Nat, s8 = .int .i64 (kk : Int) ∧ Aside0 (kk + gg = l.length + 1) ∧ Aside0 (Below W.heap.size W wr) ∧ Aside0 (∀ j, j < kk → p (l.getD j z63) = false))
  case atStart => exact ⟨0, rfl, ⟨by omega⟩, ⟨Below.refl _ _⟩, ⟨fun j hj => absurd hj (by omega)⟩⟩
  case round =>
    obtain ⟨kk, rfl, HK, HB, HA⟩ := hrel
    by_cases hlt : kk < l.length
    · have d1 : decide ((kk : Int) < (l.length : Int)) = true := decide_eq_true (by omega)
      have d1n : decide (kk < l.length) = true := decide_eq_true hlt
      obtain ⟨ad, e0, y, hy, hld⟩ := ld_T63 (Kd.C_below HC.out HB.out) kk hlt
      have hcall := HP.out wr y HB.out
      have HLD := Aside0.mk hld
      have HY := Aside0.mk hy
      have HLT := Aside0.mk hlt
      clear hld hy
      cases e0
      have p0 := eq_true (show (0 : Int) ≤ (kk : Int) by omega)
      have q0 := eq_true (show (kk : Int) < (l.length : Int) by omega)
      have hwi : Go.RowKit.wrap64 ((kk : Int) + 1) = ((kk + 1 : Nat) : Int) := by
        have := HM.out
        unfold Go.RowKit.wrap64
        omega
      have HWI := Aside0.mk hwi
      have HWI2 := Aside0.mk ((i64_w ((kk : Int) + 1)).trans hwi)
      clear hwi hlt
      unfold rdv at hcall
      obtain ⟨b, hb⟩ : ∃ b, p y = b := ⟨_, rfl⟩
      have HPB := Aside0.mk hb
      rw [hb] at hcall
      have HCALL := Aside0.mk hcall
      clear hb hcall
      go_wp2_with (refine wpList_load_at rfl 63 _ rfl _ (by rfl) _ _ HLD.out Try.underlying63 rfl (by kernel_rfl) ?_)
      refine HCALL.out.mono ?_
      rintro e w1 ⟨rfl, hb⟩
      have HB1 := Aside0.mk (below_step HB.out hb)
      clear hb
      cases b
      case true =>
        go_wp2_with fail
        go_ret
        exact ⟨congrArg (fun z => Ending.returned (Value.int .i64 z)) (HR.out.hit HLT.out (by rw [HY.out]; exact HPB.out) HA.out), HB1.out⟩
      case false =>
        go_wp2_with fail
        go_roundg (l.length - kk)
        case measure => have h1 := HK.out; have h2 := HLT.out; omega
        case rel => exact ⟨kk + 1, congrArg (Value.int .i64) (by first | exact HWI.out | exact HWI2.out | rfl | omega), ⟨by have h1 := HK.out; have h2 := HLT.out; omega⟩, HB1, ⟨fun j hj => by
          by_cases e : j = kk
          · subst e; rw [HY.out]; exact HPB.out
          · exact HA.out j (by omega)⟩⟩
    · have d1 : decide ((kk : Int) < (l.length : Int)) = false := decide_eq_false (by omega)
      have d1n : decide (kk < l.length) = false := decide_eq_false hlt
      have HN := Aside0.mk hlt
      clear hlt
      go_wp2_with fail
      go_ret
      exact ⟨congrArg (fun z => Ending.returned (Value.int .i64 z)) (HR.out.miss (fun j hj => HA.out j (by have := HN.out; omega))), HB.out⟩
set_option maxHeartbeats 16000000 in
set_option maxRecDepth 100000 in
theorem td_index47 (p : Rd S24 → Bool) (b5 : Nat) (A : Option Addr) (c : Nat) (l : List (Rd S24)) (r : Int) (hr : IsIdx p l r) (W : World) (hC : Kd.C k63 W A l.length l)
    (hp : ∀ (V : World) (x : Rd S24), Below W.heap.size W V → Calls Try.prog 47 #[rdv x, .pointer (some ⟨b5, 0, none⟩)] V fun e w' => e = .returned (.bool (p x)) ∧ Below V.heap.size V w') :
    Calls Try.prog 34 #[.slice A l.length c, .func (.func 47) #[] #[.pointer (some ⟨b5, 0, none⟩)]] W fun e w' => e = .returned (.int .i64 r) ∧ Below W.heap.size W w' := by
  have HR := Aside0.mk hr
  have HC := Aside0.mk hC
  have HP := Aside0.mk hp
  have HM := Aside0.mk (Kd.C_max hC)
  clear hr hC hp
  go_enter Try.func34, Try.ntmps34
  go_wp2_with fail
  go_loopg [5, 8] (l.length + 1) (fun gg _ s8 wr => ∃ kk : Nat, s8 = .int .i64 (kk : Int) ∧ Aside0 (kk + gg = l.length + 1) ∧ Aside0 (Below W.heap.size W wr) ∧ Aside0 (∀ j, j < kk → p (l.getD j z63) = false))
  case atStart => exact ⟨0, rfl, ⟨by omega⟩, ⟨Below.refl _ _⟩, ⟨fun j hj => absurd hj (by omega)⟩⟩
  case round =>
    obtain ⟨kk, rfl, HK, HB, HA⟩ := hrel
    by_cases hlt : kk < l.length
    · have d1 : decide ((kk : Int) < (l.length : Int)) = true := decide_eq_true (by omega)
      have d1n : decide (kk < l.length) = true := decide_eq_true hlt
      obtain ⟨ad, e0, y, hy, hld⟩ := ld_T63 (Kd.C_below HC.out HB.out) kk hlt
      have hcall := HP.out wr y HB.out
      have HLD := Aside0.mk hld
      have HY := Aside0.mk hy
      have HLT := Aside0.mk hlt
      clear hld hy
      cases e0
      have p0 := eq_true (show (0 : Int) ≤ (kk : Int) by omega)
      have q0 := eq_true (show (kk : Int) < (l.length : Int) by omega)
      have hwi : Go.RowKit.wrap64 ((kk : Int) + 1) = ((kk + 1 : Nat) : Int) := by
        have := HM.out
        unfold Go.RowKit.wrap64
        omega
      have HWI := Aside0.mk hwi
      have HWI2 := Aside0.mk ((i64_w ((kk : Int) + 1)).trans hwi)
      clear hwi hlt
      unfold rdv at hcall
      obtain ⟨b, hb⟩ : ∃ b, p y = b := ⟨_, rfl⟩
      have HPB := Aside0.mk hb
      rw [hb] at hcall
      have HCALL := Aside0.mk hcall
      clear hb hcall
      go_wp2_with (refine wpList_load_at rfl 63 _ rfl _ (by rfl) _ _ HLD.out Try.underlying63 rfl (by kernel_rfl) ?_)
      refine HCALL.out.mono ?_
      rintro e w1 ⟨rfl, hb⟩
      have HB1 := Aside0.mk (below_step HB.out hb)
      clear hb
      cases b
      case true =>
        go_wp2_with fail
        go_ret
        exact ⟨congrArg (fun z => Ending.returned (Value.int .i64 z)) (HR.out.hit HLT.out (by rw [HY.out]; exact HPB.out) HA.out), HB1.out⟩
      case false =>
        go_wp2_with fail
        go_roundg (l.length - kk)
        case measure => have h1 := HK.out; have h2 := HLT.out; omega
        case rel => exact ⟨kk + 1, congrArg (Value.int .i64) (by first | exact HWI.out | exact HWI2.out | rfl | omega), ⟨by have h1 := HK.out; have h2 := HLT.out; omega⟩, HB1, ⟨fun j hj => by
          by_cases e : j = kk
          · subst e; rw [HY.out]; exact HPB.out
          · exact HA.out j (by omega)⟩⟩
    · have d1 : decide ((kk : Int) < (l.length : Int)) = false := decide_eq_false (by omega)
      have d1n : decide (kk < l.length) = false := decide_eq_false hlt
      have HN := Aside0.mk hlt
      clear hlt
      go_wp2_with fail
      go_ret
      exact ⟨congrArg (fun z => Ending.returned (Value.int .i64 z)) (HR.out.miss (fun j hj => HA.out j (by have := HN.out; omega))), HB.out⟩
theorem k63_openM {w : World} {base : Nat} {ok : Nat → Prop} {x : Rd S24} {cs : List Value} (h : k63.M w base ok x cs) : cs = [.string x.s.f0, .string x.s.f1, .int .i64 x.at_.1, .int .i64 x.at_.2, .int .i64 x.o] := by
  obtain ⟨_, _, rfl, s0, ⟨_, _, rfl, s2, rfl⟩⟩ := h
  obtain rfl := k24_openM s0
  obtain rfl := k31_openM s2
  exact rfl
theorem td_row {w0 W : World} (h : Below w0.heap.size w0 W) {g : Nat} (hg : w0.heap.size ≤ g) (cs : Array Value) : Below w0.heap.size w0 (W.setRow g cs) := h.trans ⟨rfl, rfl, rfl, by simp [World.setRow], fun k hk => setRow_other W g k cs (by omega)⟩
theorem run_clear_rows {P : Program} (w : World) (t e ty : TypeId) (z : Value) (ht : P.underlying t = some (.slice e)) (hv : ∀ w, (zeroValue e).run P w = .ok z w) (b o n c : Nat) (hn : 0 < n)
    (h1 : ∀ q ∈ (Builtin.zeroCells z.cells n).toList, q.oneCell' = true)
    (hc : ∀ j, j < (Builtin.zeroCells z.cells n).toList.length → (w.cell? ⟨b, o + j, none⟩).isSome = true) (hf : ∀ j, j < (Builtin.zeroCells z.cells n).toList.length → w.frozen? ⟨b, o + j, none⟩ = false) :
    (Builtin.clear_ #[t] ty #[.slice (some ⟨b, o, none⟩) n c]).run P w = .ok (.tuple #[]) (w.setCells b o (Builtin.zeroCells z.cells n).toList) := by
  have hst := run_storeCells_cells (P := P) b o (Builtin.zeroCells z.cells n).toList 0 w (by simpa using hc) (by simpa using hf) h1
  simp only [Nat.add_zero] at hst
  obtain ⟨m, rfl⟩ : ∃ m, n = m + 1 := ⟨n - 1, by omega⟩
  simp [Builtin.clear_, run_underlying ht, hv, hst]
def zv63 : Value := .agg #[.string ⟨#[]⟩, .string ⟨#[]⟩, .int .i64 0, .int .i64 0, .int .i64 0]
theorem zc63_len (n : Nat) : (Builtin.zeroCells zv63.cells n).toList.length = n * 5 := by
  have h : zv63.cells.size = 5 := rfl
  simp [Builtin.zeroCells, h]
theorem zc63_one (n : Nat) : ∀ q ∈ (Builtin.zeroCells zv63.cells n).toList, q.oneCell' = true := by
  intro q hq
  simp only [Builtin.zeroCells, Array.toList_map, List.mem_map] at hq
  obtain ⟨i, _, rfl⟩ := hq
  have h : zv63.cells.size = 5 := rfl
  rw [h]
  have h5 : i % 5 < 5 := Nat.mod_lt _ (by omega)
  generalize i % 5 = j at h5
  have : j = 0 ∨ j = 1 ∨ j = 2 ∨ j = 3 ∨ j = 4 := by omega
  rcases this with rfl | rfl | rfl | rfl | rfl <;> rfl
/-- The cells behind the first i elements are cleared: the row cut to i reads as it did. -/
theorem td_cut {W : World} {base r n c : Nat} {l : List (Rd S24)} (h : Kd.R k63 63 W base (fun _ => True) (.slice (some ⟨r, 0, none⟩) n c) l) {i : Nat} (hi : i ≤ l.length) (vs : List Value) (hv : i * 5 + vs.length ≤ n * 5) :
    Kd.R k63 63 (W.setCells r (i * 5) vs) base (fun _ => True) (.slice (some ⟨r, 0, none⟩) i c) (l.take i) ∧ W.grownBy (W.setCells r (i * 5) vs) (some r) := by
  have hn := (Kd.R_reads' h).1
  obtain ⟨_, inner, ho, hr⟩ := Kd.R_take h hi
  obtain ⟨ho1, ho2⟩ := ho
  obtain ⟨s1, s2, s3, s4⟩ := setCells_same r vs (i * 5) W
  have hfar : ∀ k, k ≠ r → (W.setCells r (i * 5) vs).heap[k]? = W.heap[k]? := fun k hk => setCells_far vs _ k hk
  refine ⟨?_, s1, s2, s3, by rw [s4]; exact Nat.le_refl _, fun k _ hk => hfar k (fun e => hk (by rw [e]))⟩
  rcases ho2 with ⟨hv', _⟩ | ⟨g', cap', cur, hv', hb, hh, hnc, hcm, hcs, ht⟩
  · cases hv'
  injection hv' with ha hm hc
  injection ha with ha
  injection ha with hg
  subst hg; subst hc
  have h5 : k63.sz = 5 := rfl
  rw [h5] at hcs ht ho1
  have hnc0 : n ≤ c := (Kd.R_reads' h).2.1
  have hfit : i * 5 + vs.length ≤ cur.size := by rw [hcs]; exact Nat.le_trans hv (Nat.mul_le_mul_right _ hnc0)
  obtain ⟨cur', h3, h4, h6⟩ := setCells_row vs (i * 5) W cur hh hfit
  refine ⟨fun _ _ => trivial, inner, ⟨ho1, .inr ⟨r, c, cur', (by rw [← hm]), hb, h3, hnc, hcm, by rw [h4, hcs, h5], ?_⟩⟩, ?_⟩
  · rw [h5, ← ht, h6, ← hm, List.append_assoc, List.take_append_of_le_length (by rw [List.length_take, Array.length_toList]; omega), List.take_take, Nat.min_self]
  · exact hr.imp_ (fun x cs hx => by rw [k63_openM hx]; exact k63_mkM _ _ _ _)
theorem td_block {W : World} {base r n c : Nat} {l : List (Rd S24)} (h : Kd.R k63 63 W base (fun _ => True) (.slice (some ⟨r, 0, none⟩) n c) l) : ∃ cur : Array Value, W.heap[r]? = some (.cells cur 63 (0, 0)) ∧ cur.size = c * 5 ∧ n ≤ c := by
  obtain ⟨_, inner, ⟨_, ho2⟩, _⟩ := h
  rcases ho2 with ⟨hv', _⟩ | ⟨g', cap', cur, hv', hb, hh, hnc, hcm, hcs, ht⟩
  · cases hv'
  injection hv' with ha hm hc
  injection ha with ha
  injection ha with hg
  subst hg; subst hc
  exact ⟨cur, hh, hcs, by omega⟩
theorem td_clear {W : World} {base r n c : Nat} {l : List (Rd S24)} (h : Kd.R k63 63 W base (fun _ => True) (.slice (some ⟨r, 0, none⟩) n c) l) {i : Nat} (hi : i < n) (ty : TypeId) (cc : Nat) :
    (Builtin.clear_ #[56] ty #[.slice (some ⟨r, i * 5, none⟩) (n - i) cc]).run Try.prog W = .ok (.tuple #[]) (W.setCells r (i * 5) (Builtin.zeroCells zv63.cells (n - i)).toList) := by
  obtain ⟨cur, hh, hs, hnc⟩ := td_block h
  refine run_clear_rows W 56 63 ty zv63 Try.underlying56 (fun w => by kernel_rfl) r (i * 5) (n - i) cc (by omega) (zc63_one _) (fun j hj => ?_) (fun j hj => blk_frozen hh _)
  rw [zc63_len] at hj
  rw [blk_cell hh, Array.getElem?_eq_getElem (by omega)]
  rfl
theorem filter_snoc (q : Rd S24 → Bool) (l : List (Rd S24)) (j : Nat) (hj : j < l.length) : (l.take (j + 1)).filter q = (l.take j).filter q ++ (if q (l.getD j z63) = true then [l.getD j z63] else []) := by
  rw [List.take_succ_eq_append_getElem hj, List.filter_append, List.getD_eq_getElem?_getD, List.getElem?_eq_getElem hj]
  simp only [Option.getD_some, List.filter_cons, List.filter_nil]
/-- The rows between: the first i are what is kept of the first j, those from j on are as they were. -/
structure Kept63 (q : Rd S24 → Bool) (l l' : List (Rd S24)) (i j : Nat) : Prop where
  len : l'.length = l.length
  lt : i < j
  le : j ≤ l.length
  front : l'.take i = (l.take j).filter q
  back : l'.drop j = l.drop j
theorem Kept63.start {q : Rd S24 → Bool} {l : List (Rd S24)} {k : Nat} (hk : k < l.length) (h1 : q (l.getD k z63) = false) (h2 : ∀ j, j < k → q (l.getD j z63) = true) : Kept63 q l l k (k + 1) := by
  refine ⟨rfl, by omega, by omega, ?_, rfl⟩
  rw [filter_snoc q l k hk, h1, if_neg (by simp), List.append_nil]
  symm
  rw [List.filter_eq_self]
  intro x hx
  obtain ⟨j, hj, rfl⟩ := List.getElem_of_mem hx
  rw [List.length_take] at hj
  have := h2 j (by omega)
  rw [List.getD_eq_getElem?_getD, List.getElem?_eq_getElem (by omega)] at this
  rw [List.getElem_take]
  exact this
theorem Kept63.at_ {q : Rd S24 → Bool} {l l' : List (Rd S24)} {i j : Nat} (h : Kept63 q l l' i j) (hj : j < l.length) : l'.getD j z63 = l.getD j z63 := by
  have e := congrArg (fun t => t[0]?) h.back
  simp only [List.getElem?_drop, Nat.add_zero] at e
  rw [List.getD_eq_getElem?_getD, List.getD_eq_getElem?_getD, e]
theorem Kept63.skip {q : Rd S24 → Bool} {l l' : List (Rd S24)} {i j : Nat} (h : Kept63 q l l' i j) (hj : j < l.length) (hq : q (l.getD j z63) = false) : Kept63 q l l' i (j + 1) := by
  refine ⟨h.len, by have := h.lt; omega, hj, ?_, ?_⟩
  · rw [filter_snoc q l j hj, hq, if_neg (by simp), List.append_nil]; exact h.front
  · have e := congrArg (fun t => t.drop 1) h.back
    simpa [List.drop_drop] using e
theorem Kept63.keep {q : Rd S24 → Bool} {l l' : List (Rd S24)} {i j : Nat} (h : Kept63 q l l' i j) (hj : j < l.length) (hq : q (l.getD j z63) = true) : Kept63 q l (l'.set i (l.getD j z63)) (i + 1) (j + 1) := by
  have h1 := h.lt
  have h2 := h.len
  refine ⟨by rw [List.length_set, h.len], by omega, hj, ?_, ?_⟩
  · rw [filter_snoc q l j hj, if_pos hq, ← h.front, List.take_succ_eq_append_getElem (by rw [List.length_set]; omega), List.getElem_set_self, List.take_set_of_le (Nat.le_refl _)]
  · rw [List.drop_set_of_lt (by omega)]
    have e := congrArg (fun t => t.drop 1) h.back
    simpa [List.drop_drop] using e
theorem Kept63.done {q : Rd S24 → Bool} {l l' : List (Rd S24)} {i : Nat} (h : Kept63 q l l' i l.length) : l'.take i = l.filter q ∧ i = (l.filter q).length ∧ i < l.length := by
  have e := h.front
  rw [List.take_length] at e
  refine ⟨e, ?_, h.lt⟩
  rw [← e, List.length_take, h.len]
  have := h.lt
  omega
def DelPost (W : World) (base : Nat) (r c : Nat) (l : List (Rd S24)) (e : Ending) (w' : World) : Prop := e = .returned (.slice (some ⟨r, 0, none⟩) l.length c) ∧ Kd.R k63 63 w' base (fun _ => True) (.slice (some ⟨r, 0, none⟩) l.length c) l ∧ W.grownBy w' (some r)
set_option maxHeartbeats 16000000 in
set_option maxRecDepth 100000 in
theorem td_delete0 (p : Rd S24 → Bool) (b5 : Nat) (A : Option Addr) (c : Nat) (l : List (Rd S24)) (hall : ∀ j, j < l.length → p (l.getD j z63) = false) (W : World) (hC : Kd.C k63 W A l.length l)
    (hp : ∀ (V : World) (x : Rd S24), Below W.heap.size W V → Calls Try.prog 47 #[rdv x, .pointer (some ⟨b5, 0, none⟩)] V fun e w' => e = .returned (.bool (p x)) ∧ Below V.heap.size V w') :
    Calls Try.prog 46 #[.slice A l.length c, .func (.func 47) #[] #[.pointer (some ⟨b5, 0, none⟩)]] W fun e w' => e = .returned (.slice A l.length c) ∧ Below W.heap.size W w' := by
  have HC := Aside0.mk hC
  have HP := Aside0.mk hp
  have HI := Aside0.mk (show IsIdx p l (-1) from .inl ⟨rfl, hall⟩)
  clear hC hp hall
  go_enter Try.func46, Try.ntmps46
  go_wp2_with fail
  refine (td_index47 p b5 A c l (-1) HI.out W HC.out HP.out).mono ?_
  rintro e w1 ⟨rfl, hb⟩
  have HB := Aside0.mk hb
  clear hb
  go_wp2_with fail
  go_ret
  exact ⟨rfl, HB.out⟩
set_option maxHeartbeats 16000000 in
set_option maxRecDepth 100000 in
theorem td_delete1 (p : Rd S24 → Bool) (b5 r c k : Nat) (l : List (Rd S24)) (hk : k < l.length) (hk1 : p (l.getD k z63) = true) (hk2 : ∀ j, j < k → p (l.getD j z63) = false) (W : World) (base : Nat) (hb : base ≤ W.heap.size) (hR : Kd.R k63 63 W base (fun _ => True) (.slice (some ⟨r, 0, none⟩) l.length c) l)
    (hp : ∀ (V : World) (x : Rd S24), W.grownBy V (some r) → Calls Try.prog 47 #[rdv x, .pointer (some ⟨b5, 0, none⟩)] V fun e w' => e = .returned (.bool (p x)) ∧ Below V.heap.size V w') :
    Calls Try.prog 46 #[.slice (some ⟨r, 0, none⟩) l.length c, .func (.func 47) #[] #[.pointer (some ⟨b5, 0, none⟩)]] W (DelPost W base r c (l.filter fun x => !p x)) := by
  have HR0 := Aside0.mk hR
  have HP := Aside0.mk hp
  have HBS := Aside0.mk hb
  have HRB := Aside0.mk (Kd.R_base hR r rfl)
  have HI := Aside0.mk (show IsIdx p l (k : Int) from .inr ⟨k, hk, rfl, hk1, hk2⟩)
  have HK0 := Aside0.mk (Kept63.start (q := fun x => !p x) hk (by rw [hk1]; rfl) (fun j hj => by rw [hk2 j hj]; rfl))
  have HM := Aside0.mk (Kd.C_max (Kd.R_reads' hR).2.2)
  have HLC := Aside0.mk (Kd.R_reads' hR).2.1
  have HK := Aside0.mk hk
  have hq0 := hk2
  clear hR hp hb hk1 hk2 hq0
  have e1 : ((k : Int) == -1) = false := beq_eq_false_iff_ne.2 (by omega)
  have w1 : Go.RowKit.wrap64 ((k : Int) + 1) = ((k + 1 : Nat) : Int) := by
    have := HM.out
    unfold Go.RowKit.wrap64
    omega
  have HW1 := Aside0.mk w1
  have HW2 := Aside0.mk ((i64_w ((k : Int) + 1)).trans w1)
  clear w1 hk
  go_enter Try.func46, Try.ntmps46
  go_wp2_with fail
  refine (td_index47 p b5 _ c l (k : Int) HI.out W (Kd.R_reads' HR0.out).2.2 (fun V x hb => HP.out V x (grown_of_below hb _))).mono ?_
  rintro e w1 ⟨rfl, hb1⟩
  have HG0 := Aside0.mk (grown_of_below hb1 (some r))
  have HR := Aside0.mk (Kd.R_below HR0.out hb1)
  clear hb1
  go_wp2_with fail
  go_loopg [5, 6, 7] (l.length - k) (fun gg s5 s6 s7 wr => ∃ (i j : Nat) (l' : List (Rd S24)), s5 = .int .i64 (i : Int) ∧ s6 = .int .i64 (j : Int) ∧ Aside0 (j + gg = l.length + 1) ∧ Aside0 (Kept63 (fun x => !p x) l l' i j) ∧ Aside0 (W.grownBy wr (some r)) ∧ Aside0 (Kd.R k63 63 wr base (fun _ => True) (.slice (some ⟨r, 0, none⟩) l.length c) l'))
  case atStart => exact ⟨k, k + 1, l, rfl, congrArg (Value.int .i64) (by first | exact HW1.out | exact HW2.out | rfl | omega), ⟨by have := HK.out; omega⟩, HK0, HG0, HR⟩
  case round =>
    obtain ⟨i, j, l', rfl, rfl, HJ, HQ, HG, HR⟩ := hrel
    by_cases hlt : j < l.length
    · have d1 : decide ((j : Int) < (l.length : Int)) = true := decide_eq_true (by omega)
      have d1n : decide (j < l.length) = true := decide_eq_true hlt
      obtain ⟨ad, e0, y, hy, hld⟩ := ld_T63 (Kd.R_reads' HR.out).2.2 j (by rw [HQ.out.len]; exact hlt)
      rw [HQ.out.at_ hlt] at hy
      cases e0
      rw [add_plain] at hld
      have HY := Aside0.mk hy
      have HLD := Aside0.mk hld
      have HLT := Aside0.mk hlt
      have p0 := eq_true (show (0 : Int) ≤ (j : Int) by omega)
      have q0 := eq_true (show (j : Int) < (l.length : Int) by omega)
      clear hy hld hlt
      go_upto_region 8 with (first | (refine wpList_load_at rfl 63 _ rfl _ (by rfl) _ _ HLD.out Try.underlying63 rfl (by kernel_rfl) ?_) | (refine wpList_store_row rfl 63 _ _ rfl wr.heap.size _ (by rfl) (by rfl) _ _ (blk_new _ _) (by kernel_rfl) (by rfl) (by kernel_rfl) ?_))
      generalize hw : World.setRow _ _ _ = w2
      have HE := Aside0.mk (show w2.heap[wr.heap.size]? = some (.cells #[.string y.s.f0, .string y.s.f1, .int .i64 y.at_.1, .int .i64 y.at_.2, .int .i64 y.o] 63 (0, 0)) from by rw [← hw]; exact setRow_heap _ _ _ _ _ _ (blk_new _ _))
      have HB2 := Aside0.mk (show Below wr.heap.size wr w2 from by rw [← hw]; exact td_row (td_alloc _ _) (Nat.le_refl _) _)
      clear hw HLD
      generalize wr.heap.size = gv at HE ⊢
      go_wp2_with (refine wpList_load_row rfl 63 _ rfl gv (by rfl) _ _ (0, 0) _ HE.out Try.underlying63 rfl (by kernel_rfl) ?_)
      refine (HP.out w2 y (HG.out.trans (grown_of_below HB2.out _))).mono ?_
      rintro e w3 ⟨rfl, hb3⟩
      have HE3 := Aside0.mk (td_kept HE.out hb3)
      have HG3 := Aside0.mk ((HG.out.trans (grown_of_below HB2.out _)).trans (grown_of_below hb3 (some r)))
      have HR3 := Aside0.mk (Kd.R_below (Kd.R_below HR.out HB2.out) hb3)
      clear HE HB2 HR HG hb3
      have hwi : Go.RowKit.wrap64 ((i : Int) + 1) = ((i + 1 : Nat) : Int) := by
        have := HM.out
        have := HQ.out.lt
        have := HLT.out
        unfold Go.RowKit.wrap64
        omega
      have hwj : Go.RowKit.wrap64 ((j : Int) + 1) = ((j + 1 : Nat) : Int) := by
        have := HM.out
        have := HLT.out
        unfold Go.RowKit.wrap64
        omega
      have HWI := Aside0.mk hwi
      have HWI2 := Aside0.mk ((i64_w ((i : Int) + 1)).trans hwi)
      have HWJ := Aside0.mk hwj
      have HWJ2 := Aside0.mk ((i64_w ((j : Int) + 1)).trans hwj)
      clear hwi hwj
      obtain ⟨b, hb⟩ : ∃ b, p y = b := ⟨_, rfl⟩
      rw [hb]
      have HPB := Aside0.mk hb
      clear hb
      cases b
      case true =>
        go_wp2_with fail
        go_roundg (l.length - j)
        case measure => have h1 := HJ.out; have h2 := HLT.out; omega
        case rel => exact ⟨i, j + 1, l', rfl, congrArg (Value.int .i64) (by first | exact HWJ.out | exact HWJ2.out | rfl | omega), ⟨by have h1 := HJ.out; have h2 := HLT.out; omega⟩, ⟨HQ.out.skip HLT.out (by rw [HY.out]; show (!p y) = false; rw [HPB.out]; rfl)⟩, HG3, HR3⟩
      case false =>
        have HIL := Aside0.mk (show i < l.length from by have h1 := HQ.out.lt; have h2 := HQ.out.le; omega)
        have p1 := eq_true (show (0 : Int) ≤ (i : Int) by omega)
        have q1 := eq_true (show (i : Int) < (l.length : Int) by have := HIL.out; omega)
        obtain ⟨cc, hcl, hcM, hcc, hcf⟩ := Kd.R_elem HR3.out z63 (i : Int) (by omega) (by have := HIL.out; omega)
        have HCC := Aside0.mk hcc
        have HCL := Aside0.mk hcl
        clear hcl hcM hcc hcf
        go_upto_region 10 with (first | (refine wpList_load_row rfl 63 _ rfl gv (by rfl) _ _ (0, 0) _ HE3.out Try.underlying63 rfl (by kernel_rfl) ?_) | (refine Kd.R_store k63 (w0 := W) base rfl rfl 63 _ _ rfl 63 (i : Int) 0 l' y (.agg #[.string y.s.f0, .string y.s.f1, .int .i64 y.at_.1, .int .i64 y.at_.2, .int .i64 y.o]) [.string y.s.f0, .string y.s.f1, .int .i64 y.at_.1, .int .i64 y.at_.2, .int .i64 y.o] cc (fun _ => True) (fun k_ => k_ ≠ r) (by rfl) ?aoff (by rfl) (by rfl) (by kernel_rfl) ?aone HR3.out (by omega) (by have := HIL.out; omega) HCL.out HCC.out ?aj ?aM (fun k_ h => ⟨trivial, h⟩) ?aB ?_))
        case aoff => rw [Int.toNat_natCast]; rfl
        case aone => intro q hq; simp only [List.mem_cons, List.not_mem_nil, or_false] at hq; rcases hq with rfl | rfl | rfl | rfl | rfl <;> rfl
        case aj => exact Nat.le_refl 5
        case aM => rw [List.drop_eq_nil_of_le (by rw [HCL.out]; exact Nat.le_refl 5)]; exact k63_mkM _ _ _ y
        case aB => exact (Below.refl base W).grown HG3.out HBS.out (fun k_ e => by injection e with e; subst e; exact HRB.out)
        intro w4 ho4 hb4 hg4
        have HR4 := Aside0.mk ho4
        have HG4 := Aside0.mk (HG3.out.trans hg4)
        clear ho4 hb4 hg4 HR3 HG3 HE3
        go_wp2_with fail
        go_roundg (l.length - j)
        case measure => have h1 := HJ.out; have h2 := HLT.out; omega
        case rel => exact ⟨i + 1, j + 1, l'.set i y, congrArg (Value.int .i64) (by first | exact HWI.out | exact HWI2.out | rfl | omega), congrArg (Value.int .i64) (by first | exact HWJ.out | exact HWJ2.out | rfl | omega), ⟨by have h1 := HJ.out; have h2 := HLT.out; omega⟩, ⟨by have h := HQ.out.keep HLT.out (by rw [HY.out]; show (!p y) = true; rw [HPB.out]; rfl); rw [HY.out] at h; exact h⟩, HG4, ⟨by have h := HR4.out; rw [Int.toNat_natCast] at h; exact h⟩⟩
    · have d1 : decide ((j : Int) < (l.length : Int)) = false := decide_eq_false (by omega)
      have d1n : decide (j < l.length) = false := decide_eq_false hlt
      have ej : j = l.length := by have h := HQ.out.le; omega
      obtain ⟨h1, h2, h3⟩ := (ej ▸ HQ.out).done
      have H1 := Aside0.mk h1
      have H2 := Aside0.mk h2
      have HIL := Aside0.mk h3
      have HN := Aside0.mk (Kd.R_reads' HR.out).1
      have p1 := eq_true (show (0 : Int) ≤ (i : Int) by omega)
      have q1 := eq_true (show (i : Int) ≤ (l.length : Int) by have := HIL.out; omega)
      have HCUT := Aside0.mk (td_cut (vs := (Builtin.zeroCells zv63.cells (l.length - i)).toList) HR.out (i := i) (by have := HIL.out; have := HN.out; omega) (by rw [zc63_len]; have := HIL.out; omega))
      have hclr := fun ty cc => td_clear HR.out (show i < l.length from HIL.out) ty cc
      generalize hvs : (Builtin.zeroCells zv63.cells (l.length - i)).toList = vs at HCUT hclr
      have hci : ¬ c = i := by have := HIL.out; have := HLC.out; omega
      have hci2 : ¬ i = c := by omega
      have q2 := eq_true (show (i : Int) ≤ (c : Int) by have := HIL.out; have := HLC.out; omega)
      have HR5 := Aside0.mk HCUT.out.1
      have HG5 := Aside0.mk (HG.out.trans HCUT.out.2)
      clear h1 h2 h3 hlt ej hvs HCUT HR
      go_wp2_with fail
      go_ret
      refine ⟨?_, ?_, HG5.out⟩
      · rw [← H2.out]; rfl
      · have h := HR5.out
        rw [H1.out] at h
        rw [← H2.out]
        exact h
end Go.Proofs.Ytaccfbpfennjkaa.PTideDoes

