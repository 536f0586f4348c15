/- The walk of the law RecordAlive (typed by hand, over the walks of RecordStaged's texts). -/
import Derived.Test.YthdmkacnkdmbiaaPRecordStagedx0
import Derived.Test.YthdmkacnkdmbiaaPRecordStagedx1
import Derived.Test.YthdmkacnkdmbiaaPRecordStagedx3
import Derived.Test.YthdmkacnkdmbiaaPRecordStagedx6
import Derived.Test.YthdmkacnkdmbiaaPRecordStagedx12
import Derived.Test.YthdmkacnkdmbiaaPRecordStagedx13
import Derived.Test.YthdmkacnkdmbiaaPRecordStagedx14
namespace Go.Proofs.Ythdmkacnkdmbiaa.PRecordStaged
open Go.RowKit Go.Proofs.YthdmkacnkdmbiaaW.PrintWords Go.Proofs.YthdmkacnkdmbiaaW.PrintLast Go.Proofs.YthdmkacnkdmbiaaW.PrintMore
attribute [local go_sem] max2_int min2_int max_two min_two max_three min_three max_four min_four   -- for this text's walks alone
attribute [local go_sem] str_gtr str_leq str_geq
set_option linter.unusedVariables false
set_option linter.unusedSimpArgs false

/-! ### the law RecordAlive -/
/-- A whole struct is read at whatever address: in a plain region. -/
theorem wpList_load_at {P : Program} {ops : Array Oper} {rest : List Oper} {op : Oper} {a : Act} {w : World} {Q : Exit → Act → World → Prop} (hgd : op.guard = none) (ty : TypeId) (x : Operand) (ho : op.op = .load ty x)
    (p : Addr) (hx : a.eval x = .pointer (some p)) (cs : List Value) (d : TypeDesc) (hc : ∀ (j : Nat) (v : Value), cs[j]? = some v → w.cell? (p.add j) = some v)
    (hu : P.underlying ty = some d) (hd : d.isRow = true) (hi : (P.info? ty).map (·.size) = some cs.length)
    (h : wpList P ops Q rest (a.put op.dst (.agg cs.toArray)) w) : wpList P ops Q (op :: rest) a w := by
  have hl : (loadCells p cs.length).run P w = .ok cs.toArray w := run_loadCells_list (P := P) w p cs hc
  have hr : (loadVar ty p).run P w = .ok (.agg cs.toArray) w := by
    cases hq : P.info? ty with
    | none => simp [hq] at hi
    | some i =>
      have hs : i.size = cs.length := by simpa [hq] using hi
      have hagg : (isAgg ty).run P w = .ok true w := by
        unfold isAgg
        rw [Sem.run_bind, run_underlying hu w]
        cases d <;> simp_all
      simp [loadVar, Sem.run_bind, hagg, sizeOf, typeInfo, hq, hs, hl]
  refine wpList_plain hgd fun K hK => ?_
  unfold Oper.wp execOp
  simp only [ho, hx, Instr.loadAt, Instr.sureAddr, Sem.run_bind, Sem.run_pure, Result.andThen_ok, hr]
  exact hK _ _ h
theorem add_add (ad : Addr) (m j : Nat) : (ad.add m).add j = ad.add (m + j) := by
  rcases Nat.eq_zero_or_pos j with rfl | hj
  · simp [Addr.add]
  · rw [add_field ad m j hj]; unfold Addr.add; rw [if_neg (Nat.ne_of_gt hj)]
/-- A deed brought near; what comes of it. -/
def nearS (d : S33) : Option S33 := (scriptoriumlaw20_near.f d.f0 d.f1 d.f2 d.f3 d.f4.f0 d.f4.f1 d.f4.f2 d.f4.f3 d.f4.f4.f0 d.f4.f4.f1 d.f4.f5.f0 d.f4.f5.f1 d.f4.f6.f0 d.f4.f6.f1 d.f4.f7.f0 d.f4.f7.f1 d.f5.f0 d.f5.f1 d.f5.f2 d.f5.f3 d.f5.f4 d.f5.f5.f0 d.f5.f5.f1 d.f5.f6.f0 d.f5.f6.f1 d.f5.f7 d.f6 d.f7.f0 d.f7.f1 d.f8.f0 d.f8.f1).map fun t => ⟨t.1, t.2.1, t.2.2.1, t.2.2.2.1, ⟨t.2.2.2.2.1, t.2.2.2.2.2.1, t.2.2.2.2.2.2.1, t.2.2.2.2.2.2.2.1, ⟨t.2.2.2.2.2.2.2.2.1, t.2.2.2.2.2.2.2.2.2.1⟩, ⟨t.2.2.2.2.2.2.2.2.2.2.1, t.2.2.2.2.2.2.2.2.2.2.2.1⟩, ⟨t.2.2.2.2.2.2.2.2.2.2.2.2.1, t.2.2.2.2.2.2.2.2.2.2.2.2.2.1⟩, ⟨t.2.2.2.2.2.2.2.2.2.2.2.2.2.2.1, t.2.2.2.2.2.2.2.2.2.2.2.2.2.2.2.1⟩⟩, ⟨t.2.2.2.2.2.2.2.2.2.2.2.2.2.2.2.2.1, t.2.2.2.2.2.2.2.2.2.2.2.2.2.2.2.2.2.1, t.2.2.2.2.2.2.2.2.2.2.2.2.2.2.2.2.2.2.1, t.2.2.2.2.2.2.2.2.2.2.2.2.2.2.2.2.2.2.2.1, t.2.2.2.2.2.2.2.2.2.2.2.2.2.2.2.2.2.2.2.2.1, ⟨t.2.2.2.2.2.2.2.2.2.2.2.2.2.2.2.2.2.2.2.2.2.1, t.2.2.2.2.2.2.2.2.2.2.2.2.2.2.2.2.2.2.2.2.2.2.1⟩, ⟨t.2.2.2.2.2.2.2.2.2.2.2.2.2.2.2.2.2.2.2.2.2.2.2.1, t.2.2.2.2.2.2.2.2.2.2.2.2.2.2.2.2.2.2.2.2.2.2.2.2.1⟩, t.2.2.2.2.2.2.2.2.2.2.2.2.2.2.2.2.2.2.2.2.2.2.2.2.2.1⟩, t.2.2.2.2.2.2.2.2.2.2.2.2.2.2.2.2.2.2.2.2.2.2.2.2.2.2.1, ⟨t.2.2.2.2.2.2.2.2.2.2.2.2.2.2.2.2.2.2.2.2.2.2.2.2.2.2.2.1, t.2.2.2.2.2.2.2.2.2.2.2.2.2.2.2.2.2.2.2.2.2.2.2.2.2.2.2.2.1⟩, ⟨t.2.2.2.2.2.2.2.2.2.2.2.2.2.2.2.2.2.2.2.2.2.2.2.2.2.2.2.2.2.1, t.2.2.2.2.2.2.2.2.2.2.2.2.2.2.2.2.2.2.2.2.2.2.2.2.2.2.2.2.2.2⟩⟩
def doesS (k : Nat) (d : S33) (r : S27) (has : Bool) : Option (S27 × Int) := (scriptoriumlaw20_Deed_does.f k d.f0 d.f1 d.f2 d.f3 d.f4.f0 d.f4.f1 d.f4.f2 d.f4.f3 d.f4.f4.f0 d.f4.f4.f1 d.f4.f5.f0 d.f4.f5.f1 d.f4.f6.f0 d.f4.f6.f1 d.f4.f7.f0 d.f4.f7.f1 d.f5.f0 d.f5.f1 d.f5.f2 d.f5.f3 d.f5.f4 d.f5.f5.f0 d.f5.f5.f1 d.f5.f6.f0 d.f5.f6.f1 d.f5.f7 d.f6 d.f7.f0 d.f7.f1 d.f8.f0 d.f8.f1 r.f0 r.f1 r.f2 r.f3 r.f4 r.f5.f0 r.f5.f1 r.f6.f0 r.f6.f1 r.f7 has).map fun t => (⟨t.1, t.2.1, t.2.2.1, t.2.2.2.1, t.2.2.2.2.1, ⟨t.2.2.2.2.2.1, t.2.2.2.2.2.2.1⟩, ⟨t.2.2.2.2.2.2.2.1, t.2.2.2.2.2.2.2.2.1⟩, t.2.2.2.2.2.2.2.2.2.1⟩, t.2.2.2.2.2.2.2.2.2.2)
def nearPost (d : S33) (w : World) (e : Ending) (w' : World) : Prop := ∃ (A : Option Addr) (a : Nat) (B : Option Addr) (b : Nat), e = .returned (.agg #[.int .i64 d.f0, .int .i64 d.f1, .int .i64 d.f2, .bool d.f3, .int .i64 d.f4.f0, .int .i64 d.f4.f1, .int .i64 d.f4.f2, .string d.f4.f3, .int .i64 d.f4.f4.f0, .int .i64 d.f4.f4.f1, .int .i64 d.f4.f5.f0, .int .i64 d.f4.f5.f1, .int .i64 d.f4.f6.f0, .int .i64 d.f4.f6.f1, .int .i64 d.f4.f7.f0, .int .i64 d.f4.f7.f1, .int .i64 d.f5.f0, .int .i64 d.f5.f1, .int .i64 d.f5.f2, .int .i64 d.f5.f3, .string d.f5.f4, .int .i64 d.f5.f5.f0, .int .i64 d.f5.f5.f1, .int .i64 d.f5.f6.f0, .int .i64 d.f5.f6.f1, .slice A d.f5.f7.length a, .slice B d.f6.length b, .int .i64 d.f7.f0, .int .i64 d.f7.f1, .int .i64 d.f8.f0, .int .i64 d.f8.f1]) ∧ Kd.R k44 44 w' w.heap.size (fun _ => True) (.slice A d.f5.f7.length a) d.f5.f7 ∧ Kd.R k44 44 w' w.heap.size (fun _ => True) (.slice B d.f6.length b) d.f6 ∧ Below w.heap.size w w'
def doesPost (x : S27) (err : Int) (w : World) (e : Ending) (w' : World) : Prop := ∃ (A : Option Addr) (a : Nat), e = .returned (.tuple #[.agg #[.int .i64 x.f0, .int .i64 x.f1, .int .i64 x.f2, .int .i64 x.f3, .string x.f4, .int .i64 x.f5.f0, .int .i64 x.f5.f1, .int .i64 x.f6.f0, .int .i64 x.f6.f1, .slice A x.f7.length a], .int .i64 err]) ∧ Kd.R k44 44 w' w.heap.size (fun _ => True) (.slice A x.f7.length a) x.f7 ∧ Below w.heap.size w w'
theorem near_calls (d d' : S33) (A : Option Addr) (a : Nat) (B : Option Addr) (b : Nat) (w : World) (h1 : Kd.C k44 w A d.f5.f7.length d.f5.f7) (h2 : d.f5.f7.length ≤ a) (h3 : Kd.C k44 w B d.f6.length d.f6) (h4 : d.f6.length ≤ b) (h : nearS d = some d') :
    Calls Try.prog 8 #[.agg #[.int .i64 d.f0, .int .i64 d.f1, .int .i64 d.f2, .bool d.f3, .int .i64 d.f4.f0, .int .i64 d.f4.f1, .int .i64 d.f4.f2, .string d.f4.f3, .int .i64 d.f4.f4.f0, .int .i64 d.f4.f4.f1, .int .i64 d.f4.f5.f0, .int .i64 d.f4.f5.f1, .int .i64 d.f4.f6.f0, .int .i64 d.f4.f6.f1, .int .i64 d.f4.f7.f0, .int .i64 d.f4.f7.f1, .int .i64 d.f5.f0, .int .i64 d.f5.f1, .int .i64 d.f5.f2, .int .i64 d.f5.f3, .string d.f5.f4, .int .i64 d.f5.f5.f0, .int .i64 d.f5.f5.f1, .int .i64 d.f5.f6.f0, .int .i64 d.f5.f6.f1, .slice A d.f5.f7.length a, .slice B d.f6.length b, .int .i64 d.f7.f0, .int .i64 d.f7.f1, .int .i64 d.f8.f0, .int .i64 d.f8.f1]] w (nearPost d' w) := by
  unfold nearS at h
  obtain ⟨t, ht, rfl⟩ := Option.map_eq_some_iff.mp h
  refine (scriptoriumlaw20_near.calls d.f0 d.f1 d.f2 d.f3 d.f4.f0 d.f4.f1 d.f4.f2 d.f4.f3 d.f4.f4.f0 d.f4.f4.f1 d.f4.f5.f0 d.f4.f5.f1 d.f4.f6.f0 d.f4.f6.f1 d.f4.f7.f0 d.f4.f7.f1 d.f5.f0 d.f5.f1 d.f5.f2 d.f5.f3 d.f5.f4 d.f5.f5.f0 d.f5.f5.f1 d.f5.f6.f0 d.f5.f6.f1 A a d.f5.f7 B b d.f6 d.f7.f0 d.f7.f1 d.f8.f0 d.f8.f1 _ _ _ _ _ _ _ _ _ _ _ _ _ _ _ _ _ _ _ _ _ _ _ _ _ _ _ _ _ _ _ w h1 h2 h3 h4 ht).mono ?_
  rintro e w' ⟨v25, v26, rfl, g1, g2, hb⟩
  obtain ⟨A1, a1, rfl⟩ := Kd.R_slice g1
  obtain ⟨B1, b1, rfl⟩ := Kd.R_slice g2
  exact ⟨A1, a1, B1, b1, rfl, Kd.R_mono g1 (fun _ _ => trivial), Kd.R_mono g2 (fun _ _ => trivial), hb⟩
theorem does_calls (k : Nat) (d : S33) (r : S27) (has : Bool) (x : S27) (err : Int) (A : Option Addr) (a : Nat) (B : Option Addr) (b : Nat) (C : Option Addr) (c : Nat) (w : World) (h1 : Kd.C k44 w A d.f5.f7.length d.f5.f7) (h2 : d.f5.f7.length ≤ a) (h3 : Kd.C k44 w B d.f6.length d.f6) (h4 : d.f6.length ≤ b) (h5 : Kd.C k44 w C r.f7.length r.f7) (h6 : r.f7.length ≤ c) (h : doesS k d r has = some (x, err)) :
    Calls Try.prog 9 #[.agg #[.int .i64 d.f0, .int .i64 d.f1, .int .i64 d.f2, .bool d.f3, .int .i64 d.f4.f0, .int .i64 d.f4.f1, .int .i64 d.f4.f2, .string d.f4.f3, .int .i64 d.f4.f4.f0, .int .i64 d.f4.f4.f1, .int .i64 d.f4.f5.f0, .int .i64 d.f4.f5.f1, .int .i64 d.f4.f6.f0, .int .i64 d.f4.f6.f1, .int .i64 d.f4.f7.f0, .int .i64 d.f4.f7.f1, .int .i64 d.f5.f0, .int .i64 d.f5.f1, .int .i64 d.f5.f2, .int .i64 d.f5.f3, .string d.f5.f4, .int .i64 d.f5.f5.f0, .int .i64 d.f5.f5.f1, .int .i64 d.f5.f6.f0, .int .i64 d.f5.f6.f1, .slice A d.f5.f7.length a, .slice B d.f6.length b, .int .i64 d.f7.f0, .int .i64 d.f7.f1, .int .i64 d.f8.f0, .int .i64 d.f8.f1], .agg #[.int .i64 r.f0, .int .i64 r.f1, .int .i64 r.f2, .int .i64 r.f3, .string r.f4, .int .i64 r.f5.f0, .int .i64 r.f5.f1, .int .i64 r.f6.f0, .int .i64 r.f6.f1, .slice C r.f7.length c], .bool has] w (doesPost x err w) := by
  unfold doesS at h
  obtain ⟨t, ht, h⟩ := Option.map_eq_some_iff.mp h
  simp only [Prod.mk.injEq] at h
  obtain ⟨rfl, rfl⟩ := h
  refine (scriptoriumlaw20_Deed_does.calls k d.f0 d.f1 d.f2 d.f3 d.f4.f0 d.f4.f1 d.f4.f2 d.f4.f3 d.f4.f4.f0 d.f4.f4.f1 d.f4.f5.f0 d.f4.f5.f1 d.f4.f6.f0 d.f4.f6.f1 d.f4.f7.f0 d.f4.f7.f1 d.f5.f0 d.f5.f1 d.f5.f2 d.f5.f3 d.f5.f4 d.f5.f5.f0 d.f5.f5.f1 d.f5.f6.f0 d.f5.f6.f1 A a d.f5.f7 B b d.f6 d.f7.f0 d.f7.f1 d.f8.f0 d.f8.f1 r.f0 r.f1 r.f2 r.f3 r.f4 r.f5.f0 r.f5.f1 r.f6.f0 r.f6.f1 C c r.f7 has _ _ _ _ _ _ _ _ _ _ _ w h1 h2 h3 h4 h5 h6 ht).mono ?_
  rintro e w' ⟨v9, rfl, g1, hb⟩
  obtain ⟨A1, a1, rfl⟩ := Kd.R_slice g1
  exact ⟨A1, a1, rfl, g1, hb⟩
attribute [local go_sem high] eqA24
theorem field_rec (n : S33) (A : Option Addr) (a : Nat) (B : Option Addr) (b : Nat) (V : World) : (Instr.field 33 (.agg #[.int .i64 n.f0, .int .i64 n.f1, .int .i64 n.f2, .bool n.f3, .int .i64 n.f4.f0, .int .i64 n.f4.f1, .int .i64 n.f4.f2, .string n.f4.f3, .int .i64 n.f4.f4.f0, .int .i64 n.f4.f4.f1, .int .i64 n.f4.f5.f0, .int .i64 n.f4.f5.f1, .int .i64 n.f4.f6.f0, .int .i64 n.f4.f6.f1, .int .i64 n.f4.f7.f0, .int .i64 n.f4.f7.f1, .int .i64 n.f5.f0, .int .i64 n.f5.f1, .int .i64 n.f5.f2, .int .i64 n.f5.f3, .string n.f5.f4, .int .i64 n.f5.f5.f0, .int .i64 n.f5.f5.f1, .int .i64 n.f5.f6.f0, .int .i64 n.f5.f6.f1, .slice A n.f5.f7.length a, .slice B n.f6.length b, .int .i64 n.f7.f0, .int .i64 n.f7.f1, .int .i64 n.f8.f0, .int .i64 n.f8.f1]) 5).run Try.prog V = .ok (.agg #[.int .i64 n.f5.f0, .int .i64 n.f5.f1, .int .i64 n.f5.f2, .int .i64 n.f5.f3, .string n.f5.f4, .int .i64 n.f5.f5.f0, .int .i64 n.f5.f5.f1, .int .i64 n.f5.f6.f0, .int .i64 n.f5.f6.f1, .slice A n.f5.f7.length a]) V := by kernel_rfl
def aliveGood (k : Nat) (r : S27) (d : S33) : Prop := ∃ d1 n0 t x e b0, nearS (⟨2, d.f1, d.f2, d.f3, ⟨d.f4.f0, d.f4.f1, d.f4.f2, d.f4.f3, ⟨d.f4.f4.f0, d.f4.f4.f1⟩, ⟨d.f4.f5.f0, d.f4.f5.f1⟩, ⟨d.f4.f6.f0, d.f4.f6.f1⟩, ⟨d.f4.f7.f0, d.f4.f7.f1⟩⟩, ⟨d.f5.f0, d.f5.f1, d.f5.f2, d.f5.f3, d.f5.f4, ⟨d.f5.f5.f0, d.f5.f5.f1⟩, ⟨d.f5.f6.f0, d.f5.f6.f1⟩, d.f5.f7⟩, d.f6, ⟨d.f7.f0, d.f7.f1⟩, ⟨d.f8.f0, d.f8.f1⟩⟩) = some d1 ∧ nearS (⟨0, 0, 0, false, ⟨0, 0, 0, ⟨#[]⟩, ⟨0, 0⟩, ⟨0, 0⟩, ⟨0, 0⟩, ⟨0, 0⟩⟩, ⟨r.f0, r.f1, r.f2, r.f3, r.f4, ⟨r.f5.f0, r.f5.f1⟩, ⟨r.f6.f0, r.f6.f1⟩, r.f7⟩, [], ⟨0, 0⟩, ⟨0, 0⟩⟩) = some n0 ∧ scriptoriumref00_Bring.f r.f3 9 = some t ∧ doesS k (⟨d1.f0, d1.f1, d1.f2, d1.f3, ⟨d1.f4.f0, d1.f4.f1, d1.f4.f2, d1.f4.f3, ⟨d1.f4.f4.f0, d1.f4.f4.f1⟩, ⟨d1.f4.f5.f0, d1.f4.f5.f1⟩, ⟨d1.f4.f6.f0, d1.f4.f6.f1⟩, ⟨d1.f4.f7.f0, d1.f4.f7.f1⟩⟩, ⟨d1.f5.f0, n0.f5.f1, d1.f5.f2, d1.f5.f3, d1.f5.f4, ⟨d1.f5.f5.f0, d1.f5.f5.f1⟩, ⟨n0.f5.f6.f0, n0.f5.f6.f1⟩, d1.f5.f7⟩, d1.f6, ⟨d1.f7.f0, d1.f7.f1⟩, ⟨d1.f8.f0, d1.f8.f1⟩⟩) (⟨n0.f5.f0, n0.f5.f1, n0.f5.f2, (Go.RowKit.wrap64 (1 + t)), n0.f5.f4, ⟨n0.f5.f5.f0, n0.f5.f5.f1⟩, ⟨n0.f5.f6.f0, n0.f5.f6.f1⟩, n0.f5.f7⟩) true = some (x, e) ∧
    stamp_Less.f k d1.f7.f0 d1.f7.f1 n0.f5.f5.f0 n0.f5.f5.f1 = some b0 ∧
    (Go.RowKit.wrap64 (n0.f5.f6.f0 + 50) < d1.f8.f0 → e = 0 ∧ ((d1.f3 = false ∧ b0 = true) ∨ x.f2 = 4)) ∧
    (¬ Go.RowKit.wrap64 (n0.f5.f6.f0 + 50) < d1.f8.f0 → (Go.RowKit.wrap64 (1 + t)) < d1.f2 → e = 0 ∧ (d1.f3 = true → x.f2 = 4) ∧ (d1.f3 = false → x.f2 ≠ 4 ∧ stamp_Less.f k d1.f7.f0 d1.f7.f1 x.f5.f0 x.f5.f1 = some true)) ∧
    (¬ Go.RowKit.wrap64 (n0.f5.f6.f0 + 50) < d1.f8.f0 → ¬ (Go.RowKit.wrap64 (1 + t)) < d1.f2 → d1.f3 = false → b0 = true → e = 0 ∧ x.f2 = 1 ∧ x.f5 = n0.f5.f5) ∧
    (¬ Go.RowKit.wrap64 (n0.f5.f6.f0 + 50) < d1.f8.f0 → ¬ (Go.RowKit.wrap64 (1 + t)) < d1.f2 → (d1.f3 = true ∨ b0 = false) → e = 120 ∧ scriptoriumref11_SameRecord.f k x.f0 x.f1 x.f2 x.f3 x.f4 x.f5.f0 x.f5.f1 x.f6.f0 x.f6.f1 x.f7 n0.f5.f0 n0.f5.f1 n0.f5.f2 (Go.RowKit.wrap64 (1 + t)) n0.f5.f4 n0.f5.f5.f0 n0.f5.f5.f1 n0.f5.f6.f0 n0.f5.f6.f1 n0.f5.f7 = some true)
open Classical in
noncomputable def scriptoriumlaw20_RecordAlive.f (k : Nat) (r : S27) (d : S33) : Option (Bool) := if aliveGood k r d then some true else none
set_option maxHeartbeats 16000000 in
set_option maxRecDepth 100000 in
theorem scriptoriumlaw20_RecordAlive.calls (k : Nat) (r : S27) (A : Option Addr) (a : Nat) (d : S33) (A25 : Option Addr) (c25 : Nat) (A26 : Option Addr) (c26 : Nat) (r_ : Bool) (w : World) (hr : Kd.C k44 w A r.f7.length r.f7) (hc : r.f7.length ≤ a) (h25 : Kd.C k44 w A25 d.f5.f7.length d.f5.f7) (hc25 : d.f5.f7.length ≤ c25) (h26 : Kd.C k44 w A26 d.f6.length d.f6) (hc26 : d.f6.length ≤ c26) (h : scriptoriumlaw20_RecordAlive.f k r d = some r_) (hrt : r_ = true) :
    Calls Try.prog 6 #[.agg #[.int .i64 r.f0, .int .i64 r.f1, .int .i64 r.f2, .int .i64 r.f3, .string r.f4, .int .i64 r.f5.f0, .int .i64 r.f5.f1, .int .i64 r.f6.f0, .int .i64 r.f6.f1, .slice A r.f7.length a], .agg #[.int .i64 d.f0, .int .i64 d.f1, .int .i64 d.f2, .bool d.f3, .int .i64 d.f4.f0, .int .i64 d.f4.f1, .int .i64 d.f4.f2, .string d.f4.f3, .int .i64 d.f4.f4.f0, .int .i64 d.f4.f4.f1, .int .i64 d.f4.f5.f0, .int .i64 d.f4.f5.f1, .int .i64 d.f4.f6.f0, .int .i64 d.f4.f6.f1, .int .i64 d.f4.f7.f0, .int .i64 d.f4.f7.f1, .int .i64 d.f5.f0, .int .i64 d.f5.f1, .int .i64 d.f5.f2, .int .i64 d.f5.f3, .string d.f5.f4, .int .i64 d.f5.f5.f0, .int .i64 d.f5.f5.f1, .int .i64 d.f5.f6.f0, .int .i64 d.f5.f6.f1, .slice A25 d.f5.f7.length c25, .slice A26 d.f6.length c26, .int .i64 d.f7.f0, .int .i64 d.f7.f1, .int .i64 d.f8.f0, .int .i64 d.f8.f1]] w fun e w' => e = .returned (.bool r_) ∧ Below w.heap.size w w' := by
  subst hrt
  have hg : aliveGood k r d := by
    unfold scriptoriumlaw20_RecordAlive.f at h
    by_cases hg : aliveGood k r d
    · exact hg
    · rw [if_neg hg] at h; exact absurd h (by simp)
  obtain ⟨d1, n0, t, x, e, b0, q1, q2, q3, q4, q5, q6, q7, q8, q9⟩ := hg
  have Q1 := Aside0.mk q1
  have Q2 := Aside0.mk q2
  have Q3 := Aside0.mk q3
  have Q4 := Aside0.mk q4
  have Q5 := Aside0.mk q5
  have Q6 := Aside0.mk q6
  have Q7 := Aside0.mk q7
  have Q8 := Aside0.mk q8
  have Q9 := Aside0.mk q9
  have HR := Aside0.mk hr
  have HC := Aside0.mk hc
  have H25 := Aside0.mk h25
  have HC25 := Aside0.mk hc25
  have H26 := Aside0.mk h26
  have HC26 := Aside0.mk hc26
  clear h q1 q2 q3 q4 q5 q6 q7 q8 q9 hr hc h25 hc25 h26 hc26
  have hu33 := Try.underlying33
  have hu27 := Try.underlying27
  have hu24 := Try.underlying24
  go_enter Try.func6, Try.ntmps6
  go_upto_region 1 with fail
  obtain ⟨w0, hw0, hM0⟩ := Mem.two w #[.int .i64 r.f0, .int .i64 r.f1, .int .i64 r.f2, .int .i64 r.f3, .string r.f4, .int .i64 r.f5.f0, .int .i64 r.f5.f1, .int .i64 r.f6.f0, .int .i64 r.f6.f1, .slice A r.f7.length a] #[.int .i64 d.f0, .int .i64 d.f1, .int .i64 d.f2, .bool d.f3, .int .i64 d.f4.f0, .int .i64 d.f4.f1, .int .i64 d.f4.f2, .string d.f4.f3, .int .i64 d.f4.f4.f0, .int .i64 d.f4.f4.f1, .int .i64 d.f4.f5.f0, .int .i64 d.f4.f5.f1, .int .i64 d.f4.f6.f0, .int .i64 d.f4.f6.f1, .int .i64 d.f4.f7.f0, .int .i64 d.f4.f7.f1, .int .i64 d.f5.f0, .int .i64 d.f5.f1, .int .i64 d.f5.f2, .int .i64 d.f5.f3, .string d.f5.f4, .int .i64 d.f5.f5.f0, .int .i64 d.f5.f5.f1, .int .i64 d.f5.f6.f0, .int .i64 d.f5.f6.f1, .slice A25 d.f5.f7.length c25, .slice A26 d.f6.length c26, .int .i64 d.f7.f0, .int .i64 d.f7.f1, .int .i64 d.f8.f0, .int .i64 d.f8.f1] 27 33
  rw [hw0]
  clear hw0
  have S0 := Aside0.mk hM0
  clear hM0
  obtain ⟨g, hg⟩ : ∃ g, w.heap.size = g := ⟨_, rfl⟩
  rw [hg] at S0
  try rw [hg]
  obtain ⟨gd, hgd⟩ : ∃ q, g + 1 = q := ⟨_, rfl⟩
  rw [hgd] at S0
  try rw [hgd]
  have HG := Aside0.mk hg
  have HGD := Aside0.mk hgd
  clear hg hgd
  have x0 : w0.cell? ⟨gd, 0, none⟩ = some (.int .i64 d.f0) := (blk_cell S0.out.bx0 0).trans rfl
  have y0 := blk_frozen S0.out.bx0 0
  go_upto_region 2 with fail
  clear x0 y0
  generalize hw : World.setCell w0 _ _ = w1
  have S1 := Aside0.mk ((S0.out.set0 (cs' := #[.int .i64 2, .int .i64 d.f1, .int .i64 d.f2, .bool d.f3, .int .i64 d.f4.f0, .int .i64 d.f4.f1, .int .i64 d.f4.f2, .string d.f4.f3, .int .i64 d.f4.f4.f0, .int .i64 d.f4.f4.f1, .int .i64 d.f4.f5.f0, .int .i64 d.f4.f5.f1, .int .i64 d.f4.f6.f0, .int .i64 d.f4.f6.f1, .int .i64 d.f4.f7.f0, .int .i64 d.f4.f7.f1, .int .i64 d.f5.f0, .int .i64 d.f5.f1, .int .i64 d.f5.f2, .int .i64 d.f5.f3, .string d.f5.f4, .int .i64 d.f5.f5.f0, .int .i64 d.f5.f5.f1, .int .i64 d.f5.f6.f0, .int .i64 d.f5.f6.f1, .slice A25 d.f5.f7.length c25, .slice A26 d.f6.length c26, .int .i64 d.f7.f0, .int .i64 d.f7.f1, .int .i64 d.f8.f0, .int .i64 d.f8.f1]) (by decide) rfl).gen hw)
  clear hw S0
  go_wp2_with ((refine wpList_load_row rfl 33 _ rfl gd (by rfl) _ _ (0, 0) _ S1.out.bx0 Try.underlying33 rfl (by kernel_rfl) ?_))
  refine (near_calls (⟨2, d.f1, d.f2, d.f3, ⟨d.f4.f0, d.f4.f1, d.f4.f2, d.f4.f3, ⟨d.f4.f4.f0, d.f4.f4.f1⟩, ⟨d.f4.f5.f0, d.f4.f5.f1⟩, ⟨d.f4.f6.f0, d.f4.f6.f1⟩, ⟨d.f4.f7.f0, d.f4.f7.f1⟩⟩, ⟨d.f5.f0, d.f5.f1, d.f5.f2, d.f5.f3, d.f5.f4, ⟨d.f5.f5.f0, d.f5.f5.f1⟩, ⟨d.f5.f6.f0, d.f5.f6.f1⟩, d.f5.f7⟩, d.f6, ⟨d.f7.f0, d.f7.f1⟩, ⟨d.f8.f0, d.f8.f1⟩⟩) d1 A25 c25 A26 c26 _ (Kd.C_below H25.out S1.out.below) HC25.out (Kd.C_below H26.out S1.out.below) HC26.out Q1.out).mono ?_
  rintro e1 w2 ⟨A1, a1, B1, b1, rfl, R1, R2, hb⟩
  have S2 := Aside0.mk (((S1.out.step hb).row' R2 rfl S1.out.below.size).row' R1 rfl S1.out.below.size)
  clear R1 R2 hb S1
  go_upto_region 3 with ((refine wpList_store_row rfl 33 _ _ rfl gd _ (by rfl) (by rfl) _ _ S2.out.bx0 (by kernel_rfl) (by rfl) (by kernel_rfl) ?_))
  generalize hw : World.setRow _ _ _ = w3
  have S3 := Aside0.mk ((S2.out.put0 (by decide) _).gen hw)
  clear hw S2
  go_wp2_with ((refine wpList_load_row rfl 27 _ rfl g (by rfl) _ _ (0, 0) _ S3.out.bx1 Try.underlying27 rfl (by kernel_rfl) ?_))
  refine (near_calls (⟨0, 0, 0, false, ⟨0, 0, 0, ⟨#[]⟩, ⟨0, 0⟩, ⟨0, 0⟩, ⟨0, 0⟩, ⟨0, 0⟩⟩, ⟨r.f0, r.f1, r.f2, r.f3, r.f4, ⟨r.f5.f0, r.f5.f1⟩, ⟨r.f6.f0, r.f6.f1⟩, r.f7⟩, [], ⟨0, 0⟩, ⟨0, 0⟩⟩) n0 A a none 0 _ (Kd.C_below HR.out S3.out.below) HC.out (Kd.C_nil' _ _ _) (Nat.zero_le _) Q2.out).mono ?_
  rintro e1 w4 ⟨A3, a3, B3, b3, rfl, R1, R2, hb⟩
  have hfr := field_rec n0 A3 a3 B3 b3 w4
  have S4 := Aside0.mk ((S3.out.step hb).row' R1 rfl S3.out.below.size)
  clear R1 R2 hb S3
  go_upto_region 4 with ((refine wpList_store_row rfl 27 _ _ rfl w4.heap.size _ (by rfl) (by rfl) _ _ (blk_new _ _) (by kernel_rfl) (by rfl) (by kernel_rfl) ?_))
  first
    | (generalize hw : World.setRow _ _ _ = w5; have S5 := Aside0.mk ((S4.out.new _ _ (by decide) _).gen hw); clear hw)
    | (generalize hw : World.alloc _ _ = w5; have S5 := Aside0.mk ((S4.out.alloc _ _).gen hw); clear hw)
  clear S4 hfr
  generalize w4.heap.size = gn at *
  have x3 : w5.cell? ⟨g, 3, none⟩ = some (.int .i64 r.f3) := (blk_cell S5.out.bx2 3).trans rfl
  go_wp2_with fail
  refine (scriptoriumref00_Bring.calls _ 9 t _ Q3.out).mono ?_
  rintro e1 w6 ⟨rfl, hb⟩
  have S6 := Aside0.mk (S5.out.step hb.below)
  clear hb S5 x3
  have x3 : w6.cell? ⟨gn, 3, none⟩ = some (.int .i64 n0.f5.f3) := (blk_cell S6.out.bx0 3).trans rfl
  have y3 := blk_frozen S6.out.bx0 3
  go_upto_region 5 with fail
  clear x3 y3
  generalize hw : World.setCell w6 _ _ = w7
  have S7 := Aside0.mk ((S6.out.set0 (cs' := #[.int .i64 n0.f5.f0, .int .i64 n0.f5.f1, .int .i64 n0.f5.f2, .int .i64 (Go.RowKit.wrap64 (1 + t)), .string n0.f5.f4, .int .i64 n0.f5.f5.f0, .int .i64 n0.f5.f5.f1, .int .i64 n0.f5.f6.f0, .int .i64 n0.f5.f6.f1, .slice A3 n0.f5.f7.length a3]) (by decide) rfl).gen hw)
  clear hw S6
  have x7 : w7.cell? ⟨gn, 7, none⟩ = some (.int .i64 n0.f5.f6.f0) := (blk_cell S7.out.bx0 7).trans rfl
  have x8 : w7.cell? ⟨gn, 8, none⟩ = some (.int .i64 n0.f5.f6.f1) := (blk_cell S7.out.bx0 8).trans rfl
  have z23 : w7.cell? ⟨gd, 23, none⟩ = some (.int .i64 d1.f5.f6.f0) := (blk_cell S7.out.bx1 23).trans rfl
  have z24 : w7.cell? ⟨gd, 24, none⟩ = some (.int .i64 d1.f5.f6.f1) := (blk_cell S7.out.bx1 24).trans rfl
  have y23 := blk_frozen S7.out.bx1 23
  have y24 := blk_frozen S7.out.bx1 24
  go_upto_region 6 with fail
  clear x7 x8 z23 z24 y23 y24
  generalize hw : World.setCell (World.setCell w7 _ _) _ _ = w8
  have S8 := Aside0.mk (((S7.out.set1 (cs' := #[.int .i64 d1.f0, .int .i64 d1.f1, .int .i64 d1.f2, .bool d1.f3, .int .i64 d1.f4.f0, .int .i64 d1.f4.f1, .int .i64 d1.f4.f2, .string d1.f4.f3, .int .i64 d1.f4.f4.f0, .int .i64 d1.f4.f4.f1, .int .i64 d1.f4.f5.f0, .int .i64 d1.f4.f5.f1, .int .i64 d1.f4.f6.f0, .int .i64 d1.f4.f6.f1, .int .i64 d1.f4.f7.f0, .int .i64 d1.f4.f7.f1, .int .i64 d1.f5.f0, .int .i64 d1.f5.f1, .int .i64 d1.f5.f2, .int .i64 d1.f5.f3, .string d1.f5.f4, .int .i64 d1.f5.f5.f0, .int .i64 d1.f5.f5.f1, .int .i64 n0.f5.f6.f0, .int .i64 d1.f5.f6.f1, .slice A1 d1.f5.f7.length a1, .slice B1 d1.f6.length b1, .int .i64 d1.f7.f0, .int .i64 d1.f7.f1, .int .i64 d1.f8.f0, .int .i64 d1.f8.f1]) (by decide) rfl).set1 (cs' := #[.int .i64 d1.f0, .int .i64 d1.f1, .int .i64 d1.f2, .bool d1.f3, .int .i64 d1.f4.f0, .int .i64 d1.f4.f1, .int .i64 d1.f4.f2, .string d1.f4.f3, .int .i64 d1.f4.f4.f0, .int .i64 d1.f4.f4.f1, .int .i64 d1.f4.f5.f0, .int .i64 d1.f4.f5.f1, .int .i64 d1.f4.f6.f0, .int .i64 d1.f4.f6.f1, .int .i64 d1.f4.f7.f0, .int .i64 d1.f4.f7.f1, .int .i64 d1.f5.f0, .int .i64 d1.f5.f1, .int .i64 d1.f5.f2, .int .i64 d1.f5.f3, .string d1.f5.f4, .int .i64 d1.f5.f5.f0, .int .i64 d1.f5.f5.f1, .int .i64 n0.f5.f6.f0, .int .i64 n0.f5.f6.f1, .slice A1 d1.f5.f7.length a1, .slice B1 d1.f6.length b1, .int .i64 d1.f7.f0, .int .i64 d1.f7.f1, .int .i64 d1.f8.f0, .int .i64 d1.f8.f1]) (by decide) rfl).gen hw)
  clear hw S7
  have x1 : w8.cell? ⟨gn, 1, none⟩ = some (.int .i64 n0.f5.f1) := (blk_cell S8.out.bx0 1).trans rfl
  have z17 : w8.cell? ⟨gd, 17, none⟩ = some (.int .i64 d1.f5.f1) := (blk_cell S8.out.bx1 17).trans rfl
  have y17 := blk_frozen S8.out.bx1 17
  go_upto_region 7 with fail
  clear x1 z17 y17
  generalize hw : World.setCell w8 _ _ = w9
  have S9 := Aside0.mk ((S8.out.set1 (cs' := #[.int .i64 d1.f0, .int .i64 d1.f1, .int .i64 d1.f2, .bool d1.f3, .int .i64 d1.f4.f0, .int .i64 d1.f4.f1, .int .i64 d1.f4.f2, .string d1.f4.f3, .int .i64 d1.f4.f4.f0, .int .i64 d1.f4.f4.f1, .int .i64 d1.f4.f5.f0, .int .i64 d1.f4.f5.f1, .int .i64 d1.f4.f6.f0, .int .i64 d1.f4.f6.f1, .int .i64 d1.f4.f7.f0, .int .i64 d1.f4.f7.f1, .int .i64 d1.f5.f0, .int .i64 n0.f5.f1, .int .i64 d1.f5.f2, .int .i64 d1.f5.f3, .string d1.f5.f4, .int .i64 d1.f5.f5.f0, .int .i64 d1.f5.f5.f1, .int .i64 n0.f5.f6.f0, .int .i64 n0.f5.f6.f1, .slice A1 d1.f5.f7.length a1, .slice B1 d1.f6.length b1, .int .i64 d1.f7.f0, .int .i64 d1.f7.f1, .int .i64 d1.f8.f0, .int .i64 d1.f8.f1]) (by decide) rfl).gen hw)
  clear hw S8
  go_wp2_with (first | (refine wpList_load_row rfl 33 _ rfl gd (by rfl) _ _ (0, 0) _ S9.out.bx1 Try.underlying33 rfl (by kernel_rfl) ?_) | (refine wpList_load_row rfl 27 _ rfl gn (by rfl) _ _ (0, 0) _ S9.out.bx0 Try.underlying27 rfl (by kernel_rfl) ?_))
  refine (does_calls k (⟨d1.f0, d1.f1, d1.f2, d1.f3, ⟨d1.f4.f0, d1.f4.f1, d1.f4.f2, d1.f4.f3, ⟨d1.f4.f4.f0, d1.f4.f4.f1⟩, ⟨d1.f4.f5.f0, d1.f4.f5.f1⟩, ⟨d1.f4.f6.f0, d1.f4.f6.f1⟩, ⟨d1.f4.f7.f0, d1.f4.f7.f1⟩⟩, ⟨d1.f5.f0, n0.f5.f1, d1.f5.f2, d1.f5.f3, d1.f5.f4, ⟨d1.f5.f5.f0, d1.f5.f5.f1⟩, ⟨n0.f5.f6.f0, n0.f5.f6.f1⟩, d1.f5.f7⟩, d1.f6, ⟨d1.f7.f0, d1.f7.f1⟩, ⟨d1.f8.f0, d1.f8.f1⟩⟩) (⟨n0.f5.f0, n0.f5.f1, n0.f5.f2, (Go.RowKit.wrap64 (1 + t)), n0.f5.f4, ⟨n0.f5.f5.f0, n0.f5.f5.f1⟩, ⟨n0.f5.f6.f0, n0.f5.f6.f1⟩, n0.f5.f7⟩) true x e A1 a1 B1 b1 A3 a3 _ (S9.out.rd (.tail _ (.head _))).1 (S9.out.rd (.tail _ (.head _))).2 (S9.out.rd (.tail _ (.tail _ (.head _)))).1 (S9.out.rd (.tail _ (.tail _ (.head _)))).2 (S9.out.rd (.head _)).1 (S9.out.rd (.head _)).2 Q4.out).mono ?_
  rintro e2 w10 ⟨A2, a2, rfl, R3, hb⟩
  have S10 := Aside0.mk ((S9.out.step hb).row' R3 rfl S9.out.below.size)
  clear R3 hb S9
  go_upto_region 8 with ((refine wpList_store_row rfl 27 _ _ rfl w10.heap.size _ (by rfl) (by rfl) _ _ (blk_new _ _) (by kernel_rfl) (by rfl) (by kernel_rfl) ?_))
  first
    | (generalize hw : World.setRow _ _ _ = w11; have S11 := Aside0.mk ((S10.out.new _ _ (by decide) _).gen hw); clear hw)
    | (generalize hw : World.alloc _ _ = w11; have S11 := Aside0.mk ((S10.out.alloc _ _).gen hw); clear hw)
  clear S10
  generalize w10.heap.size = gx at *
  have d29 : w11.cell? ⟨gd, 29, none⟩ = some (.int .i64 d1.f8.f0) := (blk_cell S11.out.bx2 29).trans rfl
  have n7 : w11.cell? ⟨gn, 7, none⟩ = some (.int .i64 n0.f5.f6.f0) := (blk_cell S11.out.bx1 7).trans rfl
  by_cases c1 : Go.RowKit.wrap64 (n0.f5.f6.f0 + 50) < d1.f8.f0
  case pos =>
    have c1' : decide (Go.RowKit.wrap64 (n0.f5.f6.f0 + 50) < d1.f8.f0) = true := decide_eq_true c1
    obtain ⟨g1, g2⟩ := Q6.out (by omega)
    have G1 := Aside0.mk g1
    have G2 := Aside0.mk g2
    clear g1 g2
    go_upto_region 9 with fail
    clear d29 n7 c1 c1'
    have d3 : w11.cell? ⟨gd, 3, none⟩ = some (.bool d1.f3) := (blk_cell S11.out.bx2 3).trans rfl
    have d27 : w11.cell? ⟨gd, 27, none⟩ = some (.int .i64 d1.f7.f0) := (blk_cell S11.out.bx2 27).trans rfl
    have d28 : w11.cell? ⟨gd, 28, none⟩ = some (.int .i64 d1.f7.f1) := (blk_cell S11.out.bx2 28).trans rfl
    have n5 : w11.cell? ⟨gn, 5, none⟩ = some (.int .i64 n0.f5.f5.f0) := (blk_cell S11.out.bx1 5).trans rfl
    have n6 : w11.cell? ⟨gn, 6, none⟩ = some (.int .i64 n0.f5.f5.f1) := (blk_cell S11.out.bx1 6).trans rfl
    have x2 : w11.cell? ⟨gx, 2, none⟩ = some (.int .i64 x.f2) := (blk_cell S11.out.bx0 2).trans rfl
    obtain hfl | hfl : d1.f3 = true ∨ d1.f3 = false := by cases d1.f3 <;> simp
    case inl =>
      have h4 : x.f2 = 4 := by
        rcases G2.out with ⟨h, _⟩ | h
        · rw [hfl] at h; exact absurd h (by simp)
        · exact h
      have h4' : (x.f2 == 4) = true := beq_iff_eq.mpr h4
      have ge : (e == 0) = true := beq_iff_eq.mpr G1.out
      clear h4
      go_wp2_with fail
      refine (scriptoriumlaw20_awake.calls true _ rfl).mono ?_
      rintro e9 w12 ⟨rfl, hb⟩
      go_wp2_with fail
      go_ret
      exact ⟨rfl, (S11.out.step hb).below⟩
    go_wp2_with fail
    refine (stamp_Less.calls k d1.f7.f0 d1.f7.f1 n0.f5.f5.f0 n0.f5.f5.f1 _ _ Q5.out).mono ?_
    rintro e3 w12 ⟨rfl, hb⟩
    have S12 := Aside0.mk (S11.out.step hb)
    clear hb S11
    clear d3 d27 d28 n5 n6 x2
    have x2 : w12.cell? ⟨gx, 2, none⟩ = some (.int .i64 x.f2) := (blk_cell S12.out.bx0 2).trans rfl
    have ge : (e == 0) = true := beq_iff_eq.mpr G1.out
    cases b0
    case true =>
      go_wp2_with fail
      refine (scriptoriumlaw20_awake.calls true _ rfl).mono ?_
      rintro e9 w13 ⟨rfl, hb⟩
      go_wp2_with fail
      go_ret
      exact ⟨rfl, (S12.out.step hb).below⟩
    have h4 : x.f2 = 4 := by
      rcases G2.out with ⟨_, h⟩ | h
      · exact absurd h (by simp)
      · exact h
    have h4' : (x.f2 == 4) = true := beq_iff_eq.mpr h4
    clear h4
    go_wp2_with fail
    refine (scriptoriumlaw20_awake.calls true _ rfl).mono ?_
    rintro e9 w13 ⟨rfl, hb⟩
    go_wp2_with fail
    go_ret
    exact ⟨rfl, (S12.out.step hb).below⟩
  have c1' : decide (Go.RowKit.wrap64 (n0.f5.f6.f0 + 50) < d1.f8.f0) = false := decide_eq_false c1
  have G7 := Aside0.mk (Q7.out (by omega))
  have G8 := Aside0.mk (Q8.out (by omega))
  have G9 := Aside0.mk (Q9.out (by omega))
  go_upto_region 11 with fail
  clear d29 n7 c1 c1'
  have d2 : w11.cell? ⟨gd, 2, none⟩ = some (.int .i64 d1.f2) := (blk_cell S11.out.bx2 2).trans rfl
  have n3 : w11.cell? ⟨gn, 3, none⟩ = some (.int .i64 (Go.RowKit.wrap64 (1 + t))) := (blk_cell S11.out.bx1 3).trans rfl
  by_cases c2 : (Go.RowKit.wrap64 (1 + t)) < d1.f2
  case pos =>
    have c2' : decide ((Go.RowKit.wrap64 (1 + t)) < d1.f2) = true := decide_eq_true c2
    obtain ⟨g1, g2, g3⟩ := G7.out (by omega)
    have G1 := Aside0.mk g1
    have G2 := Aside0.mk g2
    have G3 := Aside0.mk g3
    clear g1 g2 g3
    go_upto_region 12 with fail
    clear d2 n3 c2 c2'
    have ge : (e == 0) = true := beq_iff_eq.mpr G1.out
    have d3 : w11.cell? ⟨gd, 3, none⟩ = some (.bool d1.f3) := (blk_cell S11.out.bx2 3).trans rfl
    have d27 : w11.cell? ⟨gd, 27, none⟩ = some (.int .i64 d1.f7.f0) := (blk_cell S11.out.bx2 27).trans rfl
    have d28 : w11.cell? ⟨gd, 28, none⟩ = some (.int .i64 d1.f7.f1) := (blk_cell S11.out.bx2 28).trans rfl
    have x2 : w11.cell? ⟨gx, 2, none⟩ = some (.int .i64 x.f2) := (blk_cell S11.out.bx0 2).trans rfl
    have x5 : w11.cell? ⟨gx, 5, none⟩ = some (.int .i64 x.f5.f0) := (blk_cell S11.out.bx0 5).trans rfl
    have x6 : w11.cell? ⟨gx, 6, none⟩ = some (.int .i64 x.f5.f1) := (blk_cell S11.out.bx0 6).trans rfl
    obtain hfl | hfl : d1.f3 = true ∨ d1.f3 = false := by cases d1.f3 <;> simp
    case inl =>
      have h4' : (x.f2 == 4) = true := beq_iff_eq.mpr (G2.out hfl)
      go_wp2_with fail
      refine (scriptoriumlaw20_awake.calls true _ rfl).mono ?_
      rintro e9 w12 ⟨rfl, hb⟩
      go_wp2_with fail
      go_ret
      exact ⟨rfl, (S11.out.step hb).below⟩
    obtain ⟨h5, h6⟩ := G3.out hfl
    have h4' : (x.f2 == 4) = false := beq_eq_false_iff_ne.mpr h5
    have H6 := Aside0.mk h6
    clear h5 h6
    go_wp2_with fail
    refine (stamp_Less.calls k d1.f7.f0 d1.f7.f1 x.f5.f0 x.f5.f1 _ _ H6.out).mono ?_
    rintro e3 w12 ⟨rfl, hb⟩
    have S12 := Aside0.mk (S11.out.step hb)
    clear hb S11
    clear d3 d27 d28 x2 x5 x6
    go_wp2_with fail
    refine (scriptoriumlaw20_awake.calls true _ rfl).mono ?_
    rintro e9 w13 ⟨rfl, hb⟩
    go_wp2_with fail
    go_ret
    exact ⟨rfl, (S12.out.step hb).below⟩
  have c2' : decide ((Go.RowKit.wrap64 (1 + t)) < d1.f2) = false := decide_eq_false c2
  have GC := Aside0.mk (G8.out (by omega))
  have GD := Aside0.mk (G9.out (by omega))
  go_upto_region 13 with fail
  clear d2 n3 c2 c2'
  have d3 : w11.cell? ⟨gd, 3, none⟩ = some (.bool d1.f3) := (blk_cell S11.out.bx2 3).trans rfl
  have d27 : w11.cell? ⟨gd, 27, none⟩ = some (.int .i64 d1.f7.f0) := (blk_cell S11.out.bx2 27).trans rfl
  have d28 : w11.cell? ⟨gd, 28, none⟩ = some (.int .i64 d1.f7.f1) := (blk_cell S11.out.bx2 28).trans rfl
  have n5 : w11.cell? ⟨gn, 5, none⟩ = some (.int .i64 n0.f5.f5.f0) := (blk_cell S11.out.bx1 5).trans rfl
  have n6 : w11.cell? ⟨gn, 6, none⟩ = some (.int .i64 n0.f5.f5.f1) := (blk_cell S11.out.bx1 6).trans rfl
  obtain hfl | hfl : d1.f3 = true ∨ d1.f3 = false := by cases d1.f3 <;> simp
  case inl =>
    go_upto_region 15 with fail
    clear d3 d27 d28 n5 n6
    obtain ⟨g1, g2⟩ := GD.out (.inl hfl)
    have ge : (e == 120) = true := beq_iff_eq.mpr g1
    have G2 := Aside0.mk g2
    clear g1 g2
    obtain ⟨xc0, xc1, xc2, xc3, xc4, xc5, xc6, xc7, xc8, xc9⟩ := cells10 S11.out.bx0
    obtain ⟨nc0, nc1, nc2, nc3, nc4, nc5, nc6, nc7, nc8, nc9⟩ := cells10 S11.out.bx1
    go_wp2_with fail
    refine (scriptoriumref11_SameRecord.calls k x.f0 x.f1 x.f2 x.f3 x.f4 x.f5.f0 x.f5.f1 x.f6.f0 x.f6.f1 A2 a2 x.f7 n0.f5.f0 n0.f5.f1 n0.f5.f2 (Go.RowKit.wrap64 (1 + t)) n0.f5.f4 n0.f5.f5.f0 n0.f5.f5.f1 n0.f5.f6.f0 n0.f5.f6.f1 A3 a3 n0.f5.f7 true _ (S11.out.rd (.head _)).1 (S11.out.rd (.head _)).2 (S11.out.rd (.tail _ (.head _))).1 (S11.out.rd (.tail _ (.head _))).2 G2.out).mono ?_
    rintro e3 w12 ⟨rfl, hb⟩
    have S12 := Aside0.mk (S11.out.step hb)
    clear hb S11
    clear xc0 xc1 xc2 xc3 xc4 xc5 xc6 xc7 xc8 xc9 nc0 nc1 nc2 nc3 nc4 nc5 nc6 nc7 nc8 nc9
    go_wp2_with fail
    refine (scriptoriumlaw20_awake.calls true _ rfl).mono ?_
    rintro e9 w13 ⟨rfl, hb⟩
    go_wp2_with fail
    go_ret
    exact ⟨rfl, (S12.out.step hb).below⟩
  go_wp2_with fail
  refine (stamp_Less.calls k d1.f7.f0 d1.f7.f1 n0.f5.f5.f0 n0.f5.f5.f1 _ _ Q5.out).mono ?_
  rintro e3 w12 ⟨rfl, hb⟩
  have S12 := Aside0.mk (S11.out.step hb)
  clear hb S11
  clear d3 d27 d28 n5 n6
  cases b0
  case false =>
    obtain ⟨g1, g2⟩ := GD.out (.inr rfl)
    have ge : (e == 120) = true := beq_iff_eq.mpr g1
    have G2 := Aside0.mk g2
    clear g1 g2
    go_upto_region 15 with fail
    obtain ⟨xc0, xc1, xc2, xc3, xc4, xc5, xc6, xc7, xc8, xc9⟩ := cells10 S12.out.bx0
    obtain ⟨nc0, nc1, nc2, nc3, nc4, nc5, nc6, nc7, nc8, nc9⟩ := cells10 S12.out.bx1
    go_wp2_with fail
    refine (scriptoriumref11_SameRecord.calls k x.f0 x.f1 x.f2 x.f3 x.f4 x.f5.f0 x.f5.f1 x.f6.f0 x.f6.f1 A2 a2 x.f7 n0.f5.f0 n0.f5.f1 n0.f5.f2 (Go.RowKit.wrap64 (1 + t)) n0.f5.f4 n0.f5.f5.f0 n0.f5.f5.f1 n0.f5.f6.f0 n0.f5.f6.f1 A3 a3 n0.f5.f7 true _ (S12.out.rd (.head _)).1 (S12.out.rd (.head _)).2 (S12.out.rd (.tail _ (.head _))).1 (S12.out.rd (.tail _ (.head _))).2 G2.out).mono ?_
    rintro e3 w13 ⟨rfl, hb⟩
    have S13 := Aside0.mk (S12.out.step hb)
    clear hb S12
    clear xc0 xc1 xc2 xc3 xc4 xc5 xc6 xc7 xc8 xc9 nc0 nc1 nc2 nc3 nc4 nc5 nc6 nc7 nc8 nc9
    go_wp2_with fail
    refine (scriptoriumlaw20_awake.calls true _ rfl).mono ?_
    rintro e9 w14 ⟨rfl, hb⟩
    go_wp2_with fail
    go_ret
    exact ⟨rfl, (S13.out.step hb).below⟩
  obtain ⟨g1, g2, g3⟩ := GC.out hfl rfl
  have ge : (e == 0) = true := beq_iff_eq.mpr g1
  have h1' : (x.f2 == 1) = true := beq_iff_eq.mpr g2
  have f2 : (x.f5.f0 == n0.f5.f5.f0) = true := beq_iff_eq.mpr (congrArg S24.f0 g3)
  have f3 : (x.f5.f1 == n0.f5.f5.f1) = true := beq_iff_eq.mpr (congrArg S24.f1 g3)
  clear g1 g2 g3
  have x2 : w12.cell? ⟨gx, 2, none⟩ = some (.int .i64 x.f2) := (blk_cell S12.out.bx0 2).trans rfl
  have x5 : w12.cell? ⟨gx, 5, none⟩ = some (.int .i64 x.f5.f0) := (blk_cell S12.out.bx0 5).trans rfl
  have x6 : w12.cell? ⟨gx, 6, none⟩ = some (.int .i64 x.f5.f1) := (blk_cell S12.out.bx0 6).trans rfl
  have n5 : w12.cell? ⟨gn, 5, none⟩ = some (.int .i64 n0.f5.f5.f0) := (blk_cell S12.out.bx1 5).trans rfl
  have n6 : w12.cell? ⟨gn, 6, none⟩ = some (.int .i64 n0.f5.f5.f1) := (blk_cell S12.out.bx1 6).trans rfl
  go_wp2_with fail
  refine (scriptoriumlaw20_awake.calls true _ rfl).mono ?_
  rintro e9 w13 ⟨rfl, hb⟩
  go_wp2_with fail
  go_ret
  exact ⟨rfl, (S12.out.step hb).below⟩
def scriptoriumlaw20_RecordAlive.Pure : Prop := ∀ (a0 : S27) (a1 : S33), ((Lit.int .i64 a0.f0).wf = true ∧ (Lit.int .i64 a0.f1).wf = true ∧ (Lit.int .i64 a0.f2).wf = true ∧ (Lit.int .i64 a0.f3).wf = true ∧ a0.f4.size ≤ 140737488351232 ∧ ((Lit.int .i64 a0.f5.f0).wf = true ∧ (Lit.int .i64 a0.f5.f1).wf = true) ∧ ((Lit.int .i64 a0.f6.f0).wf = true ∧ (Lit.int .i64 a0.f6.f1).wf = true) ∧ (a0.f7.length ≤ maxLen ∧ a0.f7.length * 24 ≤ 140737488351232 ∧ ∀ y0 ∈ a0.f7, (y0.f0.size ≤ 140737488351232 ∧ (Lit.int .i64 y0.f1).wf = true))) → ((Lit.int .i64 a1.f0).wf = true ∧ (Lit.int .i64 a1.f1).wf = true ∧ (Lit.int .i64 a1.f2).wf = true ∧ True ∧ ((Lit.int .i64 a1.f4.f0).wf = true ∧ (Lit.int .i64 a1.f4.f1).wf = true ∧ (Lit.int .i64 a1.f4.f2).wf = true ∧ a1.f4.f3.size ≤ 140737488351232 ∧ ((Lit.int .i64 a1.f4.f4.f0).wf = true ∧ (Lit.int .i64 a1.f4.f4.f1).wf = true) ∧ ((Lit.int .i64 a1.f4.f5.f0).wf = true ∧ (Lit.int .i64 a1.f4.f5.f1).wf = true) ∧ ((Lit.int .i64 a1.f4.f6.f0).wf = true ∧ (Lit.int .i64 a1.f4.f6.f1).wf = true) ∧ ((Lit.int .i64 a1.f4.f7.f0).wf = true ∧ (Lit.int .i64 a1.f4.f7.f1).wf = true)) ∧ ((Lit.int .i64 a1.f5.f0).wf = true ∧ (Lit.int .i64 a1.f5.f1).wf = true ∧ (Lit.int .i64 a1.f5.f2).wf = true ∧ (Lit.int .i64 a1.f5.f3).wf = true ∧ a1.f5.f4.size ≤ 140737488351232 ∧ ((Lit.int .i64 a1.f5.f5.f0).wf = true ∧ (Lit.int .i64 a1.f5.f5.f1).wf = true) ∧ ((Lit.int .i64 a1.f5.f6.f0).wf = true ∧ (Lit.int .i64 a1.f5.f6.f1).wf = true) ∧ (a1.f5.f7.length ≤ maxLen ∧ a1.f5.f7.length * 24 ≤ 140737488351232 ∧ ∀ y0 ∈ a1.f5.f7, (y0.f0.size ≤ 140737488351232 ∧ (Lit.int .i64 y0.f1).wf = true))) ∧ (a1.f6.length ≤ maxLen ∧ a1.f6.length * 24 ≤ 140737488351232 ∧ ∀ y0 ∈ a1.f6, (y0.f0.size ≤ 140737488351232 ∧ (Lit.int .i64 y0.f1).wf = true)) ∧ ((Lit.int .i64 a1.f7.f0).wf = true ∧ (Lit.int .i64 a1.f7.f1).wf = true) ∧ ((Lit.int .i64 a1.f8.f0).wf = true ∧ (Lit.int .i64 a1.f8.f1).wf = true)) → ∃ k, scriptoriumlaw20_RecordAlive.f k a0 a1 = some true
theorem scriptoriumlaw20_RecordAlive.walk (P : scriptoriumlaw20_RecordAlive.Pure) (a0 : S27) (a1 : S33) (A0_9 : Option Addr) (c0_9 : Nat) (A1_25 : Option Addr) (c1_25 : Nat) (A1_26 : Option Addr) (c1_26 : Nat) (w : World) (w0 : ((Lit.int .i64 a0.f0).wf = true ∧ (Lit.int .i64 a0.f1).wf = true ∧ (Lit.int .i64 a0.f2).wf = true ∧ (Lit.int .i64 a0.f3).wf = true ∧ a0.f4.size ≤ 140737488351232 ∧ ((Lit.int .i64 a0.f5.f0).wf = true ∧ (Lit.int .i64 a0.f5.f1).wf = true) ∧ ((Lit.int .i64 a0.f6.f0).wf = true ∧ (Lit.int .i64 a0.f6.f1).wf = true) ∧ (a0.f7.length ≤ maxLen ∧ a0.f7.length * 24 ≤ 140737488351232 ∧ ∀ y0 ∈ a0.f7, (y0.f0.size ≤ 140737488351232 ∧ (Lit.int .i64 y0.f1).wf = true)))) (w1 : ((Lit.int .i64 a1.f0).wf = true ∧ (Lit.int .i64 a1.f1).wf = true ∧ (Lit.int .i64 a1.f2).wf = true ∧ True ∧ ((Lit.int .i64 a1.f4.f0).wf = true ∧ (Lit.int .i64 a1.f4.f1).wf = true ∧ (Lit.int .i64 a1.f4.f2).wf = true ∧ a1.f4.f3.size ≤ 140737488351232 ∧ ((Lit.int .i64 a1.f4.f4.f0).wf = true ∧ (Lit.int .i64 a1.f4.f4.f1).wf = true) ∧ ((Lit.int .i64 a1.f4.f5.f0).wf = true ∧ (Lit.int .i64 a1.f4.f5.f1).wf = true) ∧ ((Lit.int .i64 a1.f4.f6.f0).wf = true ∧ (Lit.int .i64 a1.f4.f6.f1).wf = true) ∧ ((Lit.int .i64 a1.f4.f7.f0).wf = true ∧ (Lit.int .i64 a1.f4.f7.f1).wf = true)) ∧ ((Lit.int .i64 a1.f5.f0).wf = true ∧ (Lit.int .i64 a1.f5.f1).wf = true ∧ (Lit.int .i64 a1.f5.f2).wf = true ∧ (Lit.int .i64 a1.f5.f3).wf = true ∧ a1.f5.f4.size ≤ 140737488351232 ∧ ((Lit.int .i64 a1.f5.f5.f0).wf = true ∧ (Lit.int .i64 a1.f5.f5.f1).wf = true) ∧ ((Lit.int .i64 a1.f5.f6.f0).wf = true ∧ (Lit.int .i64 a1.f5.f6.f1).wf = true) ∧ (a1.f5.f7.length ≤ maxLen ∧ a1.f5.f7.length * 24 ≤ 140737488351232 ∧ ∀ y0 ∈ a1.f5.f7, (y0.f0.size ≤ 140737488351232 ∧ (Lit.int .i64 y0.f1).wf = true))) ∧ (a1.f6.length ≤ maxLen ∧ a1.f6.length * 24 ≤ 140737488351232 ∧ ∀ y0 ∈ a1.f6, (y0.f0.size ≤ 140737488351232 ∧ (Lit.int .i64 y0.f1).wf = true)) ∧ ((Lit.int .i64 a1.f7.f0).wf = true ∧ (Lit.int .i64 a1.f7.f1).wf = true) ∧ ((Lit.int .i64 a1.f8.f0).wf = true ∧ (Lit.int .i64 a1.f8.f1).wf = true))) (hr0_9 : Kd.C k44 w A0_9 a0.f7.length a0.f7) (hc0_9 : a0.f7.length ≤ c0_9) (hr1_25 : Kd.C k44 w A1_25 a1.f5.f7.length a1.f5.f7) (hc1_25 : a1.f5.f7.length ≤ c1_25) (hr1_26 : Kd.C k44 w A1_26 a1.f6.length a1.f6) (hc1_26 : a1.f6.length ≤ c1_26) :
  Calls Try.prog 6 #[.agg #[.int .i64 a0.f0, .int .i64 a0.f1, .int .i64 a0.f2, .int .i64 a0.f3, .string a0.f4, .int .i64 a0.f5.f0, .int .i64 a0.f5.f1, .int .i64 a0.f6.f0, .int .i64 a0.f6.f1, .slice A0_9 a0.f7.length c0_9], .agg #[.int .i64 a1.f0, .int .i64 a1.f1, .int .i64 a1.f2, .bool a1.f3, .int .i64 a1.f4.f0, .int .i64 a1.f4.f1, .int .i64 a1.f4.f2, .string a1.f4.f3, .int .i64 a1.f4.f4.f0, .int .i64 a1.f4.f4.f1, .int .i64 a1.f4.f5.f0, .int .i64 a1.f4.f5.f1, .int .i64 a1.f4.f6.f0, .int .i64 a1.f4.f6.f1, .int .i64 a1.f4.f7.f0, .int .i64 a1.f4.f7.f1, .int .i64 a1.f5.f0, .int .i64 a1.f5.f1, .int .i64 a1.f5.f2, .int .i64 a1.f5.f3, .string a1.f5.f4, .int .i64 a1.f5.f5.f0, .int .i64 a1.f5.f5.f1, .int .i64 a1.f5.f6.f0, .int .i64 a1.f5.f6.f1, .slice A1_25 a1.f5.f7.length c1_25, .slice A1_26 a1.f6.length c1_26, .int .i64 a1.f7.f0, .int .i64 a1.f7.f1, .int .i64 a1.f8.f0, .int .i64 a1.f8.f1]] w fun e w' => e = .returned (.bool true) ∧ Below w.heap.size w w' := by
 obtain ⟨k, h⟩ := P a0 a1 w0 w1
 refine (scriptoriumlaw20_RecordAlive.calls k a0 A0_9 c0_9 a1 A1_25 c1_25 A1_26 c1_26 true w hr0_9 hc0_9 hr1_25 hc1_25 hr1_26 hc1_26 h rfl).mono ?_
 rintro e w' ⟨rfl, hd⟩
 exact ⟨rfl, hd⟩

end Go.Proofs.Ythdmkacnkdmbiaa.PRecordStaged
