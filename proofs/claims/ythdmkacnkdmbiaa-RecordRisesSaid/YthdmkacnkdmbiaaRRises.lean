/- The walk of the law RecordRises (typed by hand, over the walks of RecordStaged's texts). -/
import Derived.Test.YthdmkacnkdmbiaaPRecordStagedx0
import Derived.Test.YthdmkacnkdmbiaaPRecordStagedx1
import Derived.Test.YthdmkacnkdmbiaaPRecordStagedx3
import Derived.Test.YthdmkacnkdmbiaaPRecordStagedx6
import Derived.Test.YthdmkacnkdmbiaaPRecordStagedx12
import Derived.Test.YthdmkacnkdmbiaaPRecordStagedx13
import Derived.Test.YthdmkacnkdmbiaaPRecordStagedx14
namespace Go.Proofs.Ythdmkacnkdmbiaa.PRecordStaged
open Go.RowKit Go.Proofs.YthdmkacnkdmbiaaW.PrintWords Go.Proofs.YthdmkacnkdmbiaaW.PrintLast Go.Proofs.YthdmkacnkdmbiaaW.PrintMore
attribute [local go_sem] max2_int min2_int max_two min_two max_three min_three max_four min_four   -- for this text's walks alone
attribute [local go_sem] str_gtr str_leq str_geq
set_option linter.unusedVariables false
set_option linter.unusedSimpArgs false

/-! ### the law RecordRises -/
/-- A whole struct is read at whatever address: in a plain region. -/
theorem wpList_load_at {P : Program} {ops : Array Oper} {rest : List Oper} {op : Oper} {a : Act} {w : World} {Q : Exit → Act → World → Prop} (hgd : op.guard = none) (ty : TypeId) (x : Operand) (ho : op.op = .load ty x)
    (p : Addr) (hx : a.eval x = .pointer (some p)) (cs : List Value) (d : TypeDesc) (hc : ∀ (j : Nat) (v : Value), cs[j]? = some v → w.cell? (p.add j) = some v)
    (hu : P.underlying ty = some d) (hd : d.isRow = true) (hi : (P.info? ty).map (·.size) = some cs.length)
    (h : wpList P ops Q rest (a.put op.dst (.agg cs.toArray)) w) : wpList P ops Q (op :: rest) a w := by
  have hl : (loadCells p cs.length).run P w = .ok cs.toArray w := run_loadCells_list (P := P) w p cs hc
  have hr : (loadVar ty p).run P w = .ok (.agg cs.toArray) w := by
    cases hq : P.info? ty with
    | none => simp [hq] at hi
    | some i =>
      have hs : i.size = cs.length := by simpa [hq] using hi
      have hagg : (isAgg ty).run P w = .ok true w := by
        unfold isAgg
        rw [Sem.run_bind, run_underlying hu w]
        cases d <;> simp_all
      simp [loadVar, Sem.run_bind, hagg, sizeOf, typeInfo, hq, hs, hl]
  refine wpList_plain hgd fun K hK => ?_
  unfold Oper.wp execOp
  simp only [ho, hx, Instr.loadAt, Instr.sureAddr, Sem.run_bind, Sem.run_pure, Result.andThen_ok, hr]
  exact hK _ _ h
theorem add_add (ad : Addr) (m j : Nat) : (ad.add m).add j = ad.add (m + j) := by
  rcases Nat.eq_zero_or_pos j with rfl | hj
  · simp [Addr.add]
  · rw [add_field ad m j hj]; unfold Addr.add; rw [if_neg (Nat.ne_of_gt hj)]
/-- A deed brought near; what comes of it. -/
def nearS (d : S33) : Option S33 := (scriptoriumlaw20_near.f d.f0 d.f1 d.f2 d.f3 d.f4.f0 d.f4.f1 d.f4.f2 d.f4.f3 d.f4.f4.f0 d.f4.f4.f1 d.f4.f5.f0 d.f4.f5.f1 d.f4.f6.f0 d.f4.f6.f1 d.f4.f7.f0 d.f4.f7.f1 d.f5.f0 d.f5.f1 d.f5.f2 d.f5.f3 d.f5.f4 d.f5.f5.f0 d.f5.f5.f1 d.f5.f6.f0 d.f5.f6.f1 d.f5.f7 d.f6 d.f7.f0 d.f7.f1 d.f8.f0 d.f8.f1).map fun t => ⟨t.1, t.2.1, t.2.2.1, t.2.2.2.1, ⟨t.2.2.2.2.1, t.2.2.2.2.2.1, t.2.2.2.2.2.2.1, t.2.2.2.2.2.2.2.1, ⟨t.2.2.2.2.2.2.2.2.1, t.2.2.2.2.2.2.2.2.2.1⟩, ⟨t.2.2.2.2.2.2.2.2.2.2.1, t.2.2.2.2.2.2.2.2.2.2.2.1⟩, ⟨t.2.2.2.2.2.2.2.2.2.2.2.2.1, t.2.2.2.2.2.2.2.2.2.2.2.2.2.1⟩, ⟨t.2.2.2.2.2.2.2.2.2.2.2.2.2.2.1, t.2.2.2.2.2.2.2.2.2.2.2.2.2.2.2.1⟩⟩, ⟨t.2.2.2.2.2.2.2.2.2.2.2.2.2.2.2.2.1, t.2.2.2.2.2.2.2.2.2.2.2.2.2.2.2.2.2.1, t.2.2.2.2.2.2.2.2.2.2.2.2.2.2.2.2.2.2.1, t.2.2.2.2.2.2.2.2.2.2.2.2.2.2.2.2.2.2.2.1, t.2.2.2.2.2.2.2.2.2.2.2.2.2.2.2.2.2.2.2.2.1, ⟨t.2.2.2.2.2.2.2.2.2.2.2.2.2.2.2.2.2.2.2.2.2.1, t.2.2.2.2.2.2.2.2.2.2.2.2.2.2.2.2.2.2.2.2.2.2.1⟩, ⟨t.2.2.2.2.2.2.2.2.2.2.2.2.2.2.2.2.2.2.2.2.2.2.2.1, t.2.2.2.2.2.2.2.2.2.2.2.2.2.2.2.2.2.2.2.2.2.2.2.2.1⟩, t.2.2.2.2.2.2.2.2.2.2.2.2.2.2.2.2.2.2.2.2.2.2.2.2.2.1⟩, t.2.2.2.2.2.2.2.2.2.2.2.2.2.2.2.2.2.2.2.2.2.2.2.2.2.2.1, ⟨t.2.2.2.2.2.2.2.2.2.2.2.2.2.2.2.2.2.2.2.2.2.2.2.2.2.2.2.1, t.2.2.2.2.2.2.2.2.2.2.2.2.2.2.2.2.2.2.2.2.2.2.2.2.2.2.2.2.1⟩, ⟨t.2.2.2.2.2.2.2.2.2.2.2.2.2.2.2.2.2.2.2.2.2.2.2.2.2.2.2.2.2.1, t.2.2.2.2.2.2.2.2.2.2.2.2.2.2.2.2.2.2.2.2.2.2.2.2.2.2.2.2.2.2⟩⟩
def doesS (k : Nat) (d : S33) (r : S27) (has : Bool) : Option (S27 × Int) := (scriptoriumlaw20_Deed_does.f k d.f0 d.f1 d.f2 d.f3 d.f4.f0 d.f4.f1 d.f4.f2 d.f4.f3 d.f4.f4.f0 d.f4.f4.f1 d.f4.f5.f0 d.f4.f5.f1 d.f4.f6.f0 d.f4.f6.f1 d.f4.f7.f0 d.f4.f7.f1 d.f5.f0 d.f5.f1 d.f5.f2 d.f5.f3 d.f5.f4 d.f5.f5.f0 d.f5.f5.f1 d.f5.f6.f0 d.f5.f6.f1 d.f5.f7 d.f6 d.f7.f0 d.f7.f1 d.f8.f0 d.f8.f1 r.f0 r.f1 r.f2 r.f3 r.f4 r.f5.f0 r.f5.f1 r.f6.f0 r.f6.f1 r.f7 has).map fun t => (⟨t.1, t.2.1, t.2.2.1, t.2.2.2.1, t.2.2.2.2.1, ⟨t.2.2.2.2.2.1, t.2.2.2.2.2.2.1⟩, ⟨t.2.2.2.2.2.2.2.1, t.2.2.2.2.2.2.2.2.1⟩, t.2.2.2.2.2.2.2.2.2.1⟩, t.2.2.2.2.2.2.2.2.2.2)
def nearPost (d : S33) (w : World) (e : Ending) (w' : World) : Prop := ∃ (A : Option Addr) (a : Nat) (B : Option Addr) (b : Nat), e = .returned (.agg #[.int .i64 d.f0, .int .i64 d.f1, .int .i64 d.f2, .bool d.f3, .int .i64 d.f4.f0, .int .i64 d.f4.f1, .int .i64 d.f4.f2, .string d.f4.f3, .int .i64 d.f4.f4.f0, .int .i64 d.f4.f4.f1, .int .i64 d.f4.f5.f0, .int .i64 d.f4.f5.f1, .int .i64 d.f4.f6.f0, .int .i64 d.f4.f6.f1, .int .i64 d.f4.f7.f0, .int .i64 d.f4.f7.f1, .int .i64 d.f5.f0, .int .i64 d.f5.f1, .int .i64 d.f5.f2, .int .i64 d.f5.f3, .string d.f5.f4, .int .i64 d.f5.f5.f0, .int .i64 d.f5.f5.f1, .int .i64 d.f5.f6.f0, .int .i64 d.f5.f6.f1, .slice A d.f5.f7.length a, .slice B d.f6.length b, .int .i64 d.f7.f0, .int .i64 d.f7.f1, .int .i64 d.f8.f0, .int .i64 d.f8.f1]) ∧ Kd.R k44 44 w' w.heap.size (fun _ => True) (.slice A d.f5.f7.length a) d.f5.f7 ∧ Kd.R k44 44 w' w.heap.size (fun _ => True) (.slice B d.f6.length b) d.f6 ∧ Below w.heap.size w w'
def doesPost (x : S27) (err : Int) (w : World) (e : Ending) (w' : World) : Prop := ∃ (A : Option Addr) (a : Nat), e = .returned (.tuple #[.agg #[.int .i64 x.f0, .int .i64 x.f1, .int .i64 x.f2, .int .i64 x.f3, .string x.f4, .int .i64 x.f5.f0, .int .i64 x.f5.f1, .int .i64 x.f6.f0, .int .i64 x.f6.f1, .slice A x.f7.length a], .int .i64 err]) ∧ Kd.R k44 44 w' w.heap.size (fun _ => True) (.slice A x.f7.length a) x.f7 ∧ Below w.heap.size w w'
theorem near_calls (d d' : S33) (A : Option Addr) (a : Nat) (B : Option Addr) (b : Nat) (w : World) (h1 : Kd.C k44 w A d.f5.f7.length d.f5.f7) (h2 : d.f5.f7.length ≤ a) (h3 : Kd.C k44 w B d.f6.length d.f6) (h4 : d.f6.length ≤ b) (h : nearS d = some d') :
    Calls Try.prog 8 #[.agg #[.int .i64 d.f0, .int .i64 d.f1, .int .i64 d.f2, .bool d.f3, .int .i64 d.f4.f0, .int .i64 d.f4.f1, .int .i64 d.f4.f2, .string d.f4.f3, .int .i64 d.f4.f4.f0, .int .i64 d.f4.f4.f1, .int .i64 d.f4.f5.f0, .int .i64 d.f4.f5.f1, .int .i64 d.f4.f6.f0, .int .i64 d.f4.f6.f1, .int .i64 d.f4.f7.f0, .int .i64 d.f4.f7.f1, .int .i64 d.f5.f0, .int .i64 d.f5.f1, .int .i64 d.f5.f2, .int .i64 d.f5.f3, .string d.f5.f4, .int .i64 d.f5.f5.f0, .int .i64 d.f5.f5.f1, .int .i64 d.f5.f6.f0, .int .i64 d.f5.f6.f1, .slice A d.f5.f7.length a, .slice B d.f6.length b, .int .i64 d.f7.f0, .int .i64 d.f7.f1, .int .i64 d.f8.f0, .int .i64 d.f8.f1]] w (nearPost d' w) := by
  unfold nearS at h
  obtain ⟨t, ht, rfl⟩ := Option.map_eq_some_iff.mp h
  refine (scriptoriumlaw20_near.calls d.f0 d.f1 d.f2 d.f3 d.f4.f0 d.f4.f1 d.f4.f2 d.f4.f3 d.f4.f4.f0 d.f4.f4.f1 d.f4.f5.f0 d.f4.f5.f1 d.f4.f6.f0 d.f4.f6.f1 d.f4.f7.f0 d.f4.f7.f1 d.f5.f0 d.f5.f1 d.f5.f2 d.f5.f3 d.f5.f4 d.f5.f5.f0 d.f5.f5.f1 d.f5.f6.f0 d.f5.f6.f1 A a d.f5.f7 B b d.f6 d.f7.f0 d.f7.f1 d.f8.f0 d.f8.f1 _ _ _ _ _ _ _ _ _ _ _ _ _ _ _ _ _ _ _ _ _ _ _ _ _ _ _ _ _ _ _ w h1 h2 h3 h4 ht).mono ?_
  rintro e w' ⟨v25, v26, rfl, g1, g2, hb⟩
  obtain ⟨A1, a1, rfl⟩ := Kd.R_slice g1
  obtain ⟨B1, b1, rfl⟩ := Kd.R_slice g2
  exact ⟨A1, a1, B1, b1, rfl, Kd.R_mono g1 (fun _ _ => trivial), Kd.R_mono g2 (fun _ _ => trivial), hb⟩
theorem does_calls (k : Nat) (d : S33) (r : S27) (has : Bool) (x : S27) (err : Int) (A : Option Addr) (a : Nat) (B : Option Addr) (b : Nat) (C : Option Addr) (c : Nat) (w : World) (h1 : Kd.C k44 w A d.f5.f7.length d.f5.f7) (h2 : d.f5.f7.length ≤ a) (h3 : Kd.C k44 w B d.f6.length d.f6) (h4 : d.f6.length ≤ b) (h5 : Kd.C k44 w C r.f7.length r.f7) (h6 : r.f7.length ≤ c) (h : doesS k d r has = some (x, err)) :
    Calls Try.prog 9 #[.agg #[.int .i64 d.f0, .int .i64 d.f1, .int .i64 d.f2, .bool d.f3, .int .i64 d.f4.f0, .int .i64 d.f4.f1, .int .i64 d.f4.f2, .string d.f4.f3, .int .i64 d.f4.f4.f0, .int .i64 d.f4.f4.f1, .int .i64 d.f4.f5.f0, .int .i64 d.f4.f5.f1, .int .i64 d.f4.f6.f0, .int .i64 d.f4.f6.f1, .int .i64 d.f4.f7.f0, .int .i64 d.f4.f7.f1, .int .i64 d.f5.f0, .int .i64 d.f5.f1, .int .i64 d.f5.f2, .int .i64 d.f5.f3, .string d.f5.f4, .int .i64 d.f5.f5.f0, .int .i64 d.f5.f5.f1, .int .i64 d.f5.f6.f0, .int .i64 d.f5.f6.f1, .slice A d.f5.f7.length a, .slice B d.f6.length b, .int .i64 d.f7.f0, .int .i64 d.f7.f1, .int .i64 d.f8.f0, .int .i64 d.f8.f1], .agg #[.int .i64 r.f0, .int .i64 r.f1, .int .i64 r.f2, .int .i64 r.f3, .string r.f4, .int .i64 r.f5.f0, .int .i64 r.f5.f1, .int .i64 r.f6.f0, .int .i64 r.f6.f1, .slice C r.f7.length c], .bool has] w (doesPost x err w) := by
  unfold doesS at h
  obtain ⟨t, ht, h⟩ := Option.map_eq_some_iff.mp h
  simp only [Prod.mk.injEq] at h
  obtain ⟨rfl, rfl⟩ := h
  refine (scriptoriumlaw20_Deed_does.calls k d.f0 d.f1 d.f2 d.f3 d.f4.f0 d.f4.f1 d.f4.f2 d.f4.f3 d.f4.f4.f0 d.f4.f4.f1 d.f4.f5.f0 d.f4.f5.f1 d.f4.f6.f0 d.f4.f6.f1 d.f4.f7.f0 d.f4.f7.f1 d.f5.f0 d.f5.f1 d.f5.f2 d.f5.f3 d.f5.f4 d.f5.f5.f0 d.f5.f5.f1 d.f5.f6.f0 d.f5.f6.f1 A a d.f5.f7 B b d.f6 d.f7.f0 d.f7.f1 d.f8.f0 d.f8.f1 r.f0 r.f1 r.f2 r.f3 r.f4 r.f5.f0 r.f5.f1 r.f6.f0 r.f6.f1 C c r.f7 has _ _ _ _ _ _ _ _ _ _ _ w h1 h2 h3 h4 h5 h6 ht).mono ?_
  rintro e w' ⟨v9, rfl, g1, hb⟩
  obtain ⟨A1, a1, rfl⟩ := Kd.R_slice g1
  exact ⟨A1, a1, rfl, g1, hb⟩
attribute [local go_sem high] eqA24
/-- What the law leans on: a property of the record that stands, which each deed keeps, and by which the test goes through. -/
def risesGood (k : Nat) (l : List S33) : Prop := ∃ Inv : S27 → Bool → Prop, Inv z27 false ∧ ∀ d ∈ l, ∀ r has, Inv r has → ∃ d' x e, nearS d = some d' ∧ doesS k d' r has = some (x, e) ∧ (e = 0 → Inv x true ∧ (∃ t, scriptoriumref00_Bring.f d'.f0 4 = some t ∧ (has = true → ¬ x.f1 < r.f1 ∧ (t ≠ 0 → stamp_Less.f k x.f6.f0 x.f6.f1 r.f6.f0 r.f6.f1 = some false) ∧ (r.f2 = 1 → x.f2 = 1 → stamp_Less.f k x.f5.f0 x.f5.f1 r.f5.f0 r.f5.f1 = some false))))
open Classical in
noncomputable def scriptoriumlaw20_RecordRises.f (k : Nat) (l0 : List (S33)) : Option (Bool) := if risesGood k l0 then some true else none
set_option maxHeartbeats 16000000 in
set_option maxRecDepth 100000 in
theorem scriptoriumlaw20_RecordRises.calls (k : Nat) (A0 : Option Addr) (c0 : Nat) (l0 : List (S33)) (r : Bool) (w : World) (hr0 : Kd.C k33 w A0 l0.length l0) (hc0 : l0.length ≤ c0) (h : scriptoriumlaw20_RecordRises.f k l0 = some r) (hrt : r = true) :
    Calls Try.prog 5 #[.slice A0 l0.length c0] w fun e w' => e = .returned (.bool r) ∧ Below w.heap.size w w' := by
  subst hrt
  have hg : risesGood k l0 := by
    unfold scriptoriumlaw20_RecordRises.f at h
    by_cases hg : risesGood k l0
    · exact hg
    · rw [if_neg hg] at h; exact absurd h (by simp)
  obtain ⟨Inv, hi0, hstep⟩ := hg
  have HI0 := Aside0.mk hi0
  have HST := Aside0.mk hstep
  have HR0 := Aside0.mk hr0
  have HC0 := Aside0.mk hc0
  clear h hi0 hstep hr0 hc0
  go_enter Try.func5, Try.ntmps5
  go_wp2_with fail
  have S0 := Aside0.mk ((((Mem.nil (Below.refl w.heap.size w)).alloc #[.int .i64 0, .int .i64 0, .int .i64 0, .int .i64 0, .string ⟨#[]⟩, .int .i64 0, .int .i64 0, .int .i64 0, .int .i64 0, .slice none 0 0] 27).row' (Kd.R_nil k44 44 _ w.heap.size (fun _ => True)) rfl (Nat.le_refl _)))
  generalize hw0 : w.alloc _ = w0 at S0 ⊢
  clear hw0
  obtain ⟨g, hg⟩ : ∃ g, w.heap.size = g := ⟨_, rfl⟩
  rw [hg] at S0
  try rw [hg]
  have HG := Aside0.mk hg
  clear hg
  go_loopg [4, 5] 101 (fun kq v4 v5 w' => ∃ (has : Bool) (i : Nat) (r : S27) (A : Option Addr) (a : Nat), v4 = .bool has ∧ v5 = .int .i64 (i : Int) ∧ Aside0 (Inv r has) ∧ Aside0 (i + kq = 101) ∧ Aside0 (Mem w w' [(g, #[.int .i64 r.f0, .int .i64 r.f1, .int .i64 r.f2, .int .i64 r.f3, .string r.f4, .int .i64 r.f5.f0, .int .i64 r.f5.f1, .int .i64 r.f6.f0, .int .i64 r.f6.f1, .slice A r.f7.length a], 27)] [(A, a, r.f7)]))
  case atStart => exact ⟨false, 0, z27, none, 0, rfl, rfl, HI0, ⟨rfl⟩, S0⟩
  case round =>
    obtain ⟨has, i, r, A, a, rfl, rfl, HI, HK, S⟩ := hrel
    by_cases h1 : i < l0.length
    case neg =>
      have d1 : decide ((i : Int) < (l0.length : Int)) = false := decide_eq_false (by omega)
      go_wp2_with fail
      refine (scriptoriumlaw20_awake.calls true _ rfl).mono ?_
      rintro e w1 ⟨rfl, hb⟩
      go_wp2_with fail
      go_ret
      exact ⟨rfl, (S.out.step hb).below⟩
    have d1 : decide ((i : Int) < (l0.length : Int)) = true := decide_eq_true (by omega)
    by_cases h2 : i < 100
    case neg =>
      have d2 : decide ((i : Int) < 100) = false := decide_eq_false (by omega)
      go_wp2_with fail
      refine (scriptoriumlaw20_awake.calls true _ rfl).mono ?_
      rintro e w1 ⟨rfl, hb⟩
      go_wp2_with fail
      go_ret
      exact ⟨rfl, (S.out.step hb).below⟩
    have d2 : decide ((i : Int) < 100) = true := decide_eq_true (by omega)
    have hwr : Go.RowKit.wrap64 ((i : Int) + 1) = ((i + 1 : Nat) : Int) := by
      unfold Go.RowKit.wrap64
      omega
    have HWR := Aside0.mk hwr
    clear hwr
    obtain ⟨ad, cs, e0, _, hK, hc0⟩ := Kd.C_get (Kd.C_below HR0.out S.out.below) z33 (i : Int) (by omega) (by omega)
    have hmem : l0.getD (i : Int).toNat z33 ∈ l0 := by
      rw [Int.toNat_natCast, List.getD_eq_getElem?_getD, List.getElem?_eq_getElem h1]
      exact List.getElem_mem h1
    generalize l0.getD (i : Int).toNat z33 = d at hK hmem
    obtain ⟨d', x, e, hn, hdo, hok⟩ := HST.out d hmem r has HI.out
    have HN := Aside0.mk hn
    have HD := Aside0.mk hdo
    have HOK := Aside0.mk hok
    obtain ⟨A25, c25, A26, c26, rfl, l25, g25, l26, g26⟩ := k33_open hK
    have HL25 := Aside0.mk l25
    have HG25 := Aside0.mk g25
    have HL26 := Aside0.mk l26
    have HG26 := Aside0.mk g26
    have HC := Aside0.mk (fun (j : Nat) (v : Value) (h : [.int .i64 d.f0, .int .i64 d.f1, .int .i64 d.f2, .bool d.f3, .int .i64 d.f4.f0, .int .i64 d.f4.f1, .int .i64 d.f4.f2, .string d.f4.f3, .int .i64 d.f4.f4.f0, .int .i64 d.f4.f4.f1, .int .i64 d.f4.f5.f0, .int .i64 d.f4.f5.f1, .int .i64 d.f4.f6.f0, .int .i64 d.f4.f6.f1, .int .i64 d.f4.f7.f0, .int .i64 d.f4.f7.f1, .int .i64 d.f5.f0, .int .i64 d.f5.f1, .int .i64 d.f5.f2, .int .i64 d.f5.f3, .string d.f5.f4, .int .i64 d.f5.f5.f0, .int .i64 d.f5.f5.f1, .int .i64 d.f5.f6.f0, .int .i64 d.f5.f6.f1, .slice A25 d.f5.f7.length c25, .slice A26 d.f6.length c26, .int .i64 d.f7.f0, .int .i64 d.f7.f1, .int .i64 d.f8.f0, .int .i64 d.f8.f1][j]? = some v) => (add_add ad ((i : Int).toNat * 31) j ▸ hc0 j v h))
    have HH1 := Aside0.mk h1
    have HH2 := Aside0.mk h2
    have p0 := eq_true (show (0 : Int) ≤ (i : Int) by omega)
    have q0 := eq_true (show (i : Int) < (l0.length : Int) by omega)
    clear hc0 hn hdo hok hK hmem l25 g25 l26 g26
    cases e0
    go_wp2_with (refine wpList_load_at rfl 33 _ rfl _ (by rfl) _ _ HC.out Try.underlying33 rfl (by kernel_rfl) ?_)
    refine (near_calls d d' A25 c25 A26 c26 _ HG25.out HL25.out HG26.out HL26.out HN.out).mono ?_
    rintro e1 w1 ⟨A1, a1, B1, b1, rfl, R1, R2, hb⟩
    have S1 := Aside0.mk (((S.out.step hb).row' R2 rfl S.out.below.size).row' R1 rfl S.out.below.size)
    clear R1 R2 hb S HC HG25 HL25 HG26 HL26
    go_upto_region 7 with ((refine wpList_store_row rfl 33 _ _ rfl w1.heap.size _ (by rfl) (by rfl) _ _ (blk_new _ _) (by kernel_rfl) (by rfl) (by kernel_rfl) ?_))
    generalize hw : World.setRow _ _ _ = w2
    have S2 := Aside0.mk ((S1.out.new _ _ (by decide) _).gen hw)
    clear hw S1
    generalize w1.heap.size = gd at *
    go_wp2_with (first | (refine wpList_load_row rfl 33 _ rfl gd (by rfl) _ _ (0, 0) _ S2.out.bx0 Try.underlying33 rfl (by kernel_rfl) ?_) | (refine wpList_load_row rfl 27 _ rfl g (by rfl) _ _ (0, 0) _ S2.out.bx1 Try.underlying27 rfl (by kernel_rfl) ?_))
    refine (does_calls k d' r has x e A1 a1 B1 b1 A a _ (S2.out.rd (.head _)).1 (S2.out.rd (.head _)).2 (S2.out.rd (.tail _ (.head _))).1 (S2.out.rd (.tail _ (.head _))).2 (S2.out.rd (.tail _ (.tail _ (.head _)))).1 (S2.out.rd (.tail _ (.tail _ (.head _)))).2 HD.out).mono ?_
    rintro e2 w3 ⟨A2, a2, rfl, R3, hb⟩
    have S3 := Aside0.mk ((S2.out.step hb).row' R3 rfl S2.out.below.size)
    clear R3 hb S2
    go_upto_region 8 with ((refine wpList_store_row rfl 27 _ _ rfl w3.heap.size _ (by rfl) (by rfl) _ _ (blk_new _ _) (by kernel_rfl) (by rfl) (by kernel_rfl) ?_))
    first
      | (generalize hw : World.setRow _ _ _ = w4; have S4 := Aside0.mk ((S3.out.new _ _ (by decide) _).gen hw); clear hw)
      | (generalize hw : World.alloc _ _ = w4; have S4 := Aside0.mk ((S3.out.alloc _ _).gen hw); clear hw)
    clear S3
    generalize w3.heap.size = gx at *
    by_cases q8 : e = 0
    case neg =>
      have d8 : (e != 0) = true := bne_iff_ne.mpr q8
      clear q8
      go_wp2_with fail
      go_roundg (100 - i)
      case measure => have h1 := HK.out; have h2 := HH2.out; omega
      case rel => exact ⟨has, i + 1, r, A, a, rfl, congrArg (Value.int .i64) (by first | exact HWR.out | rfl | omega), HI, ⟨by have h1 := HK.out; have h2 := HH2.out; omega⟩, ⟨S4.out.sub (.cons _ (.cons _ (List.Sublist.refl _))) (fun r q => by simp only [List.mem_singleton] at q; subst q; simp)⟩⟩
    have d8 : (e != 0) = false := bne_eq_false_iff_eq.mpr q8
    obtain ⟨hx, t, ht, hte⟩ := HOK.out q8
    have HX := Aside0.mk hx
    have HT := Aside0.mk ht
    have HTE := Aside0.mk hte
    clear q8 hx ht hte
    have y0 : w4.cell? ⟨gd, 0, none⟩ = some (.int .i64 d'.f0) := (blk_cell S4.out.bx1 0).trans rfl
    go_wp2_with fail
    refine (scriptoriumref00_Bring.calls _ 4 t _ HT.out).mono ?_
    rintro e3 w5 ⟨rfl, hb⟩
    have S5 := Aside0.mk (S4.out.step hb.below)
    clear hb S4 y0
    go_upto_region 10 with fail
    go_cut [10] (fun v_ wc => ∃ b : Bool, v_ = .bool b ∧ Aside0 (b = true → r.f2 = 1 ∧ x.f2 = 1) ∧ Aside0 (Mem w wc [(gx, #[.int .i64 x.f0, .int .i64 x.f1, .int .i64 x.f2, .int .i64 x.f3, .string x.f4, .int .i64 x.f5.f0, .int .i64 x.f5.f1, .int .i64 x.f6.f0, .int .i64 x.f6.f1, .slice A2 x.f7.length a2], 27), (gd, #[.int .i64 d'.f0, .int .i64 d'.f1, .int .i64 d'.f2, .bool d'.f3, .int .i64 d'.f4.f0, .int .i64 d'.f4.f1, .int .i64 d'.f4.f2, .string d'.f4.f3, .int .i64 d'.f4.f4.f0, .int .i64 d'.f4.f4.f1, .int .i64 d'.f4.f5.f0, .int .i64 d'.f4.f5.f1, .int .i64 d'.f4.f6.f0, .int .i64 d'.f4.f6.f1, .int .i64 d'.f4.f7.f0, .int .i64 d'.f4.f7.f1, .int .i64 d'.f5.f0, .int .i64 d'.f5.f1, .int .i64 d'.f5.f2, .int .i64 d'.f5.f3, .string d'.f5.f4, .int .i64 d'.f5.f5.f0, .int .i64 d'.f5.f5.f1, .int .i64 d'.f5.f6.f0, .int .i64 d'.f5.f6.f1, .slice A1 d'.f5.f7.length a1, .slice B1 d'.f6.length b1, .int .i64 d'.f7.f0, .int .i64 d'.f7.f1, .int .i64 d'.f8.f0, .int .i64 d'.f8.f1], 33), (g, #[.int .i64 r.f0, .int .i64 r.f1, .int .i64 r.f2, .int .i64 r.f3, .string r.f4, .int .i64 r.f5.f0, .int .i64 r.f5.f1, .int .i64 r.f6.f0, .int .i64 r.f6.f1, .slice A r.f7.length a], 27)] [(A2, a2, x.f7), (A1, a1, d'.f5.f7), (B1, b1, d'.f6), (A, a, r.f7)]))
    case first =>
      have y2 : w5.cell? ⟨g, 2, none⟩ = some (.int .i64 r.f2) := (blk_cell S5.out.bx2 2).trans rfl
      have y3 : w5.cell? ⟨gx, 2, none⟩ = some (.int .i64 x.f2) := (blk_cell S5.out.bx0 2).trans rfl
      by_cases q1 : r.f2 = 1
      case neg =>
        have d1_ : (r.f2 == 1) = false := beq_eq_false_iff_ne.mpr q1
        go_wp2_with fail
        go_meet
        case rel => exact ⟨false, rfl, ⟨fun h => absurd h (by simp)⟩, S5⟩
      have d1_ : (r.f2 == 1) = true := beq_iff_eq.mpr q1
      by_cases q2 : x.f2 = 1
      case neg =>
        have d2_ : (x.f2 == 1) = false := beq_eq_false_iff_ne.mpr q2
        have HQ := Aside0.mk q1
        clear q1
        go_wp2_with fail
        go_meet
        case rel => exact ⟨false, rfl, ⟨fun h => absurd h (by simp)⟩, S5⟩
      have d2_ : (x.f2 == 1) = true := beq_iff_eq.mpr q2
      have HQ := Aside0.mk (And.intro q1 q2)
      clear q1 q2
      go_wp2_with fail
      go_meet
      case rel => exact ⟨true, rfl, ⟨fun _ => HQ.out⟩, S5⟩
    case rest =>
      obtain ⟨b, rfl, HB, S6⟩ := hcut
      rename World => w6
      clear S5
      go_upto_region 11 with fail
      go_cut [4, 9, 10, 75] (fun v4_ v9_ v10_ v_ wc => v4_ = .bool has ∧ v_ = .bool false ∧ Aside0 (Mem w wc [(gx, #[.int .i64 x.f0, .int .i64 x.f1, .int .i64 x.f2, .int .i64 x.f3, .string x.f4, .int .i64 x.f5.f0, .int .i64 x.f5.f1, .int .i64 x.f6.f0, .int .i64 x.f6.f1, .slice A2 x.f7.length a2], 27), (gd, #[.int .i64 d'.f0, .int .i64 d'.f1, .int .i64 d'.f2, .bool d'.f3, .int .i64 d'.f4.f0, .int .i64 d'.f4.f1, .int .i64 d'.f4.f2, .string d'.f4.f3, .int .i64 d'.f4.f4.f0, .int .i64 d'.f4.f4.f1, .int .i64 d'.f4.f5.f0, .int .i64 d'.f4.f5.f1, .int .i64 d'.f4.f6.f0, .int .i64 d'.f4.f6.f1, .int .i64 d'.f4.f7.f0, .int .i64 d'.f4.f7.f1, .int .i64 d'.f5.f0, .int .i64 d'.f5.f1, .int .i64 d'.f5.f2, .int .i64 d'.f5.f3, .string d'.f5.f4, .int .i64 d'.f5.f5.f0, .int .i64 d'.f5.f5.f1, .int .i64 d'.f5.f6.f0, .int .i64 d'.f5.f6.f1, .slice A1 d'.f5.f7.length a1, .slice B1 d'.f6.length b1, .int .i64 d'.f7.f0, .int .i64 d'.f7.f1, .int .i64 d'.f8.f0, .int .i64 d'.f8.f1], 33), (g, #[.int .i64 r.f0, .int .i64 r.f1, .int .i64 r.f2, .int .i64 r.f3, .string r.f4, .int .i64 r.f5.f0, .int .i64 r.f5.f1, .int .i64 r.f6.f0, .int .i64 r.f6.f1, .slice A r.f7.length a], 27)] [(A2, a2, x.f7), (A1, a1, d'.f5.f7), (B1, b1, d'.f6), (A, a, r.f7)]))
      case first =>
        cases has
        case false =>
          go_wp2_with fail
          go_meet
          case rel => exact ⟨rfl, rfl, S6⟩
        obtain ⟨hz1, hz2, hz3⟩ := HTE.out rfl
        have HZ2 := Aside0.mk hz2
        have HZ3 := Aside0.mk hz3
        have dz : decide (x.f1 < r.f1) = false := decide_eq_false (by omega)
        clear hz1 hz2 hz3
        have xa1 : w6.cell? ⟨gx, 1, none⟩ = some (.int .i64 x.f1) := (blk_cell S6.out.bx0 1).trans rfl
        have ra1 : w6.cell? ⟨g, 1, none⟩ = some (.int .i64 r.f1) := (blk_cell S6.out.bx2 1).trans rfl
        have xa5 : w6.cell? ⟨gx, 5, none⟩ = some (.int .i64 x.f5.f0) := (blk_cell S6.out.bx0 5).trans rfl
        have ra5 : w6.cell? ⟨g, 5, none⟩ = some (.int .i64 r.f5.f0) := (blk_cell S6.out.bx2 5).trans rfl
        have xa6 : w6.cell? ⟨gx, 6, none⟩ = some (.int .i64 x.f5.f1) := (blk_cell S6.out.bx0 6).trans rfl
        have ra6 : w6.cell? ⟨g, 6, none⟩ = some (.int .i64 r.f5.f1) := (blk_cell S6.out.bx2 6).trans rfl
        have xa7 : w6.cell? ⟨gx, 7, none⟩ = some (.int .i64 x.f6.f0) := (blk_cell S6.out.bx0 7).trans rfl
        have ra7 : w6.cell? ⟨g, 7, none⟩ = some (.int .i64 r.f6.f0) := (blk_cell S6.out.bx2 7).trans rfl
        have xa8 : w6.cell? ⟨gx, 8, none⟩ = some (.int .i64 x.f6.f1) := (blk_cell S6.out.bx0 8).trans rfl
        have ra8 : w6.cell? ⟨g, 8, none⟩ = some (.int .i64 r.f6.f1) := (blk_cell S6.out.bx2 8).trans rfl
        by_cases q : t = 0
        case pos =>
          have dq : (t == 0) = true := beq_iff_eq.mpr q
          clear q
          cases b
          case false =>
            go_wp2_with fail
            go_meet
            case rel => exact ⟨rfl, rfl, S6⟩
          obtain ⟨y1, y2⟩ := HB.out rfl
          have HL := Aside0.mk (HZ3.out y1 y2)
          clear y1 y2
          go_wp2_with fail
          refine (stamp_Less.calls k x.f5.f0 x.f5.f1 r.f5.f0 r.f5.f1 false _ HL.out).mono ?_
          rintro e3 w7 ⟨rfl, hb⟩
          have S7 := Aside0.mk (S6.out.step hb)
          clear hb S6
          go_wp2_with fail
          go_meet
          case rel => exact ⟨rfl, rfl, S7⟩
        have dq : (t == 0) = false := beq_eq_false_iff_ne.mpr q
        have HL2 := Aside0.mk (HZ2.out q)
        clear q
        cases b
        case false =>
          go_wp2_with fail
          refine (stamp_Less.calls k x.f6.f0 x.f6.f1 r.f6.f0 r.f6.f1 false _ HL2.out).mono ?_
          rintro e3 w7 ⟨rfl, hb⟩
          have S7 := Aside0.mk (S6.out.step hb)
          clear hb S6
          go_wp2_with fail
          go_meet
          case rel => exact ⟨rfl, rfl, S7⟩
        obtain ⟨y1, y2⟩ := HB.out rfl
        have HL := Aside0.mk (HZ3.out y1 y2)
        clear y1 y2
        go_wp2_with fail
        refine (stamp_Less.calls k x.f6.f0 x.f6.f1 r.f6.f0 r.f6.f1 false _ HL2.out).mono ?_
        rintro e3 w7 ⟨rfl, hb⟩
        have S7 := Aside0.mk (S6.out.step hb)
        clear hb S6
        clear xa1 ra1 xa5 ra5 xa6 ra6 xa7 ra7 xa8 ra8
        have xa1 : w7.cell? ⟨gx, 1, none⟩ = some (.int .i64 x.f1) := (blk_cell S7.out.bx0 1).trans rfl
        have ra1 : w7.cell? ⟨g, 1, none⟩ = some (.int .i64 r.f1) := (blk_cell S7.out.bx2 1).trans rfl
        have xa5 : w7.cell? ⟨gx, 5, none⟩ = some (.int .i64 x.f5.f0) := (blk_cell S7.out.bx0 5).trans rfl
        have ra5 : w7.cell? ⟨g, 5, none⟩ = some (.int .i64 r.f5.f0) := (blk_cell S7.out.bx2 5).trans rfl
        have xa6 : w7.cell? ⟨gx, 6, none⟩ = some (.int .i64 x.f5.f1) := (blk_cell S7.out.bx0 6).trans rfl
        have ra6 : w7.cell? ⟨g, 6, none⟩ = some (.int .i64 r.f5.f1) := (blk_cell S7.out.bx2 6).trans rfl
        have xa7 : w7.cell? ⟨gx, 7, none⟩ = some (.int .i64 x.f6.f0) := (blk_cell S7.out.bx0 7).trans rfl
        have ra7 : w7.cell? ⟨g, 7, none⟩ = some (.int .i64 r.f6.f0) := (blk_cell S7.out.bx2 7).trans rfl
        have xa8 : w7.cell? ⟨gx, 8, none⟩ = some (.int .i64 x.f6.f1) := (blk_cell S7.out.bx0 8).trans rfl
        have ra8 : w7.cell? ⟨g, 8, none⟩ = some (.int .i64 r.f6.f1) := (blk_cell S7.out.bx2 8).trans rfl
        go_wp2_with fail
        refine (stamp_Less.calls k x.f5.f0 x.f5.f1 r.f5.f0 r.f5.f1 false _ HL.out).mono ?_
        rintro e3 w8 ⟨rfl, hb⟩
        have S8 := Aside0.mk (S7.out.step hb)
        clear hb S7
        go_wp2_with fail
        go_meet
        case rel => exact ⟨rfl, rfl, S8⟩
      case rest =>
        obtain ⟨rfl, rfl, S7⟩ := hcut
        rename World => w7
        clear S6
        go_upto_region 13 with fail
        go_upto_region 14 with (first | (refine wpList_load_row rfl 27 _ rfl gx (by rfl) _ _ (0, 0) _ S7.out.bx0 Try.underlying27 rfl (by kernel_rfl) ?_) | (refine wpList_store_row rfl 27 _ _ rfl g _ (by rfl) (by rfl) _ _ S7.out.bx2 (by kernel_rfl) (by rfl) (by kernel_rfl) ?_))
        generalize hw : World.setRow _ _ _ = w9
        have S9 := Aside0.mk ((S7.out.put2 (by decide) _).gen hw)
        clear hw
        go_wp2_with fail
        go_roundg (100 - i)
        case measure => have h1 := HK.out; have h2 := HH2.out; omega
        case rel => exact ⟨true, i + 1, x, A2, a2, rfl, congrArg (Value.int .i64) (by first | exact HWR.out | rfl | omega), HX, ⟨by have h1 := HK.out; have h2 := HH2.out; omega⟩, ⟨S9.out.sub (.cons _ (.cons _ (List.Sublist.refl _))) (fun r q => by simp only [List.mem_singleton] at q; subst q; simp)⟩⟩
def scriptoriumlaw20_RecordRises.Pure : Prop := ∀ (a0 : List (S33)), (a0.length ≤ maxLen ∧ a0.length * 296 ≤ 140737488351232 ∧ ∀ y0 ∈ a0, ((Lit.int .i64 y0.f0).wf = true ∧ (Lit.int .i64 y0.f1).wf = true ∧ (Lit.int .i64 y0.f2).wf = true ∧ True ∧ ((Lit.int .i64 y0.f4.f0).wf = true ∧ (Lit.int .i64 y0.f4.f1).wf = true ∧ (Lit.int .i64 y0.f4.f2).wf = true ∧ y0.f4.f3.size ≤ 140737488351232 ∧ ((Lit.int .i64 y0.f4.f4.f0).wf = true ∧ (Lit.int .i64 y0.f4.f4.f1).wf = true) ∧ ((Lit.int .i64 y0.f4.f5.f0).wf = true ∧ (Lit.int .i64 y0.f4.f5.f1).wf = true) ∧ ((Lit.int .i64 y0.f4.f6.f0).wf = true ∧ (Lit.int .i64 y0.f4.f6.f1).wf = true) ∧ ((Lit.int .i64 y0.f4.f7.f0).wf = true ∧ (Lit.int .i64 y0.f4.f7.f1).wf = true)) ∧ ((Lit.int .i64 y0.f5.f0).wf = true ∧ (Lit.int .i64 y0.f5.f1).wf = true ∧ (Lit.int .i64 y0.f5.f2).wf = true ∧ (Lit.int .i64 y0.f5.f3).wf = true ∧ y0.f5.f4.size ≤ 140737488351232 ∧ ((Lit.int .i64 y0.f5.f5.f0).wf = true ∧ (Lit.int .i64 y0.f5.f5.f1).wf = true) ∧ ((Lit.int .i64 y0.f5.f6.f0).wf = true ∧ (Lit.int .i64 y0.f5.f6.f1).wf = true) ∧ (y0.f5.f7.length ≤ maxLen ∧ y0.f5.f7.length * 24 ≤ 140737488351232 ∧ ∀ y1 ∈ y0.f5.f7, (y1.f0.size ≤ 140737488351232 ∧ (Lit.int .i64 y1.f1).wf = true))) ∧ (y0.f6.length ≤ maxLen ∧ y0.f6.length * 24 ≤ 140737488351232 ∧ ∀ y1 ∈ y0.f6, (y1.f0.size ≤ 140737488351232 ∧ (Lit.int .i64 y1.f1).wf = true)) ∧ ((Lit.int .i64 y0.f7.f0).wf = true ∧ (Lit.int .i64 y0.f7.f1).wf = true) ∧ ((Lit.int .i64 y0.f8.f0).wf = true ∧ (Lit.int .i64 y0.f8.f1).wf = true))) → ∃ k, scriptoriumlaw20_RecordRises.f k a0 = some true
theorem scriptoriumlaw20_RecordRises.walk (P : scriptoriumlaw20_RecordRises.Pure) (a0 : List (S33)) (A0 : Option Addr) (c0 : Nat) (w : World) (w0 : (a0.length ≤ maxLen ∧ a0.length * 296 ≤ 140737488351232 ∧ ∀ y0 ∈ a0, ((Lit.int .i64 y0.f0).wf = true ∧ (Lit.int .i64 y0.f1).wf = true ∧ (Lit.int .i64 y0.f2).wf = true ∧ True ∧ ((Lit.int .i64 y0.f4.f0).wf = true ∧ (Lit.int .i64 y0.f4.f1).wf = true ∧ (Lit.int .i64 y0.f4.f2).wf = true ∧ y0.f4.f3.size ≤ 140737488351232 ∧ ((Lit.int .i64 y0.f4.f4.f0).wf = true ∧ (Lit.int .i64 y0.f4.f4.f1).wf = true) ∧ ((Lit.int .i64 y0.f4.f5.f0).wf = true ∧ (Lit.int .i64 y0.f4.f5.f1).wf = true) ∧ ((Lit.int .i64 y0.f4.f6.f0).wf = true ∧ (Lit.int .i64 y0.f4.f6.f1).wf = true) ∧ ((Lit.int .i64 y0.f4.f7.f0).wf = true ∧ (Lit.int .i64 y0.f4.f7.f1).wf = true)) ∧ ((Lit.int .i64 y0.f5.f0).wf = true ∧ (Lit.int .i64 y0.f5.f1).wf = true ∧ (Lit.int .i64 y0.f5.f2).wf = true ∧ (Lit.int .i64 y0.f5.f3).wf = true ∧ y0.f5.f4.size ≤ 140737488351232 ∧ ((Lit.int .i64 y0.f5.f5.f0).wf = true ∧ (Lit.int .i64 y0.f5.f5.f1).wf = true) ∧ ((Lit.int .i64 y0.f5.f6.f0).wf = true ∧ (Lit.int .i64 y0.f5.f6.f1).wf = true) ∧ (y0.f5.f7.length ≤ maxLen ∧ y0.f5.f7.length * 24 ≤ 140737488351232 ∧ ∀ y1 ∈ y0.f5.f7, (y1.f0.size ≤ 140737488351232 ∧ (Lit.int .i64 y1.f1).wf = true))) ∧ (y0.f6.length ≤ maxLen ∧ y0.f6.length * 24 ≤ 140737488351232 ∧ ∀ y1 ∈ y0.f6, (y1.f0.size ≤ 140737488351232 ∧ (Lit.int .i64 y1.f1).wf = true)) ∧ ((Lit.int .i64 y0.f7.f0).wf = true ∧ (Lit.int .i64 y0.f7.f1).wf = true) ∧ ((Lit.int .i64 y0.f8.f0).wf = true ∧ (Lit.int .i64 y0.f8.f1).wf = true)))) (hr0 : Kd.C k33 w A0 a0.length a0) (hc0 : a0.length ≤ c0) :
  Calls Try.prog 5 #[.slice A0 a0.length c0] w fun e w' => e = .returned (.bool true) ∧ Below w.heap.size w w' := by
 obtain ⟨k, h⟩ := P a0 w0
 refine (scriptoriumlaw20_RecordRises.calls k A0 c0 a0 true w hr0 hc0 h rfl).mono ?_
 rintro e w' ⟨rfl, hd⟩
 exact ⟨rfl, hd⟩

end Go.Proofs.Ythdmkacnkdmbiaa.PRecordStaged
