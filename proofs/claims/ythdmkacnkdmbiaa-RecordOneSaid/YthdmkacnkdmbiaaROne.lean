/- The walk of the law RecordOne (typed by hand, over the walks of RecordStaged's texts). -/
import Derived.Test.YthdmkacnkdmbiaaPRecordStagedx0
import Derived.Test.YthdmkacnkdmbiaaPRecordStagedx1
import Derived.Test.YthdmkacnkdmbiaaPRecordStagedx3
import Derived.Test.YthdmkacnkdmbiaaPRecordStagedx6
import Derived.Test.YthdmkacnkdmbiaaPRecordStagedx12
import Derived.Test.YthdmkacnkdmbiaaPRecordStagedx13
import Derived.Test.YthdmkacnkdmbiaaPRecordStagedx14
namespace Go.Proofs.Ythdmkacnkdmbiaa.PRecordStaged
open Go.RowKit Go.Proofs.YthdmkacnkdmbiaaW.PrintWords Go.Proofs.YthdmkacnkdmbiaaW.PrintLast Go.Proofs.YthdmkacnkdmbiaaW.PrintMore
attribute [local go_sem] max2_int min2_int max_two min_two max_three min_three max_four min_four   -- for this text's walks alone
attribute [local go_sem] str_gtr str_leq str_geq
set_option linter.unusedVariables false
set_option linter.unusedSimpArgs false

/-! ### the law RecordOne -/
/-- A whole struct is read at whatever address: in a plain region. -/
theorem wpList_load_at {P : Program} {ops : Array Oper} {rest : List Oper} {op : Oper} {a : Act} {w : World} {Q : Exit → Act → World → Prop} (hgd : op.guard = none) (ty : TypeId) (x : Operand) (ho : op.op = .load ty x)
    (p : Addr) (hx : a.eval x = .pointer (some p)) (cs : List Value) (d : TypeDesc) (hc : ∀ (j : Nat) (v : Value), cs[j]? = some v → w.cell? (p.add j) = some v)
    (hu : P.underlying ty = some d) (hd : d.isRow = true) (hi : (P.info? ty).map (·.size) = some cs.length)
    (h : wpList P ops Q rest (a.put op.dst (.agg cs.toArray)) w) : wpList P ops Q (op :: rest) a w := by
  have hl : (loadCells p cs.length).run P w = .ok cs.toArray w := run_loadCells_list (P := P) w p cs hc
  have hr : (loadVar ty p).run P w = .ok (.agg cs.toArray) w := by
    cases hq : P.info? ty with
    | none => simp [hq] at hi
    | some i =>
      have hs : i.size = cs.length := by simpa [hq] using hi
      have hagg : (isAgg ty).run P w = .ok true w := by
        unfold isAgg
        rw [Sem.run_bind, run_underlying hu w]
        cases d <;> simp_all
      simp [loadVar, Sem.run_bind, hagg, sizeOf, typeInfo, hq, hs, hl]
  refine wpList_plain hgd fun K hK => ?_
  unfold Oper.wp execOp
  simp only [ho, hx, Instr.loadAt, Instr.sureAddr, Sem.run_bind, Sem.run_pure, Result.andThen_ok, hr]
  exact hK _ _ h
theorem add_add (ad : Addr) (m j : Nat) : (ad.add m).add j = ad.add (m + j) := by
  rcases Nat.eq_zero_or_pos j with rfl | hj
  · simp [Addr.add]
  · rw [add_field ad m j hj]; unfold Addr.add; rw [if_neg (Nat.ne_of_gt hj)]
/-- A deed brought near; what comes of it. -/
def nearS (d : S33) : Option S33 := (scriptoriumlaw20_near.f d.f0 d.f1 d.f2 d.f3 d.f4.f0 d.f4.f1 d.f4.f2 d.f4.f3 d.f4.f4.f0 d.f4.f4.f1 d.f4.f5.f0 d.f4.f5.f1 d.f4.f6.f0 d.f4.f6.f1 d.f4.f7.f0 d.f4.f7.f1 d.f5.f0 d.f5.f1 d.f5.f2 d.f5.f3 d.f5.f4 d.f5.f5.f0 d.f5.f5.f1 d.f5.f6.f0 d.f5.f6.f1 d.f5.f7 d.f6 d.f7.f0 d.f7.f1 d.f8.f0 d.f8.f1).map fun t => ⟨t.1, t.2.1, t.2.2.1, t.2.2.2.1, ⟨t.2.2.2.2.1, t.2.2.2.2.2.1, t.2.2.2.2.2.2.1, t.2.2.2.2.2.2.2.1, ⟨t.2.2.2.2.2.2.2.2.1, t.2.2.2.2.2.2.2.2.2.1⟩, ⟨t.2.2.2.2.2.2.2.2.2.2.1, t.2.2.2.2.2.2.2.2.2.2.2.1⟩, ⟨t.2.2.2.2.2.2.2.2.2.2.2.2.1, t.2.2.2.2.2.2.2.2.2.2.2.2.2.1⟩, ⟨t.2.2.2.2.2.2.2.2.2.2.2.2.2.2.1, t.2.2.2.2.2.2.2.2.2.2.2.2.2.2.2.1⟩⟩, ⟨t.2.2.2.2.2.2.2.2.2.2.2.2.2.2.2.2.1, t.2.2.2.2.2.2.2.2.2.2.2.2.2.2.2.2.2.1, t.2.2.2.2.2.2.2.2.2.2.2.2.2.2.2.2.2.2.1, t.2.2.2.2.2.2.2.2.2.2.2.2.2.2.2.2.2.2.2.1, t.2.2.2.2.2.2.2.2.2.2.2.2.2.2.2.2.2.2.2.2.1, ⟨t.2.2.2.2.2.2.2.2.2.2.2.2.2.2.2.2.2.2.2.2.2.1, t.2.2.2.2.2.2.2.2.2.2.2.2.2.2.2.2.2.2.2.2.2.2.1⟩, ⟨t.2.2.2.2.2.2.2.2.2.2.2.2.2.2.2.2.2.2.2.2.2.2.2.1, t.2.2.2.2.2.2.2.2.2.2.2.2.2.2.2.2.2.2.2.2.2.2.2.2.1⟩, t.2.2.2.2.2.2.2.2.2.2.2.2.2.2.2.2.2.2.2.2.2.2.2.2.2.1⟩, t.2.2.2.2.2.2.2.2.2.2.2.2.2.2.2.2.2.2.2.2.2.2.2.2.2.2.1, ⟨t.2.2.2.2.2.2.2.2.2.2.2.2.2.2.2.2.2.2.2.2.2.2.2.2.2.2.2.1, t.2.2.2.2.2.2.2.2.2.2.2.2.2.2.2.2.2.2.2.2.2.2.2.2.2.2.2.2.1⟩, ⟨t.2.2.2.2.2.2.2.2.2.2.2.2.2.2.2.2.2.2.2.2.2.2.2.2.2.2.2.2.2.1, t.2.2.2.2.2.2.2.2.2.2.2.2.2.2.2.2.2.2.2.2.2.2.2.2.2.2.2.2.2.2⟩⟩
def doesS (k : Nat) (d : S33) (r : S27) (has : Bool) : Option (S27 × Int) := (scriptoriumlaw20_Deed_does.f k d.f0 d.f1 d.f2 d.f3 d.f4.f0 d.f4.f1 d.f4.f2 d.f4.f3 d.f4.f4.f0 d.f4.f4.f1 d.f4.f5.f0 d.f4.f5.f1 d.f4.f6.f0 d.f4.f6.f1 d.f4.f7.f0 d.f4.f7.f1 d.f5.f0 d.f5.f1 d.f5.f2 d.f5.f3 d.f5.f4 d.f5.f5.f0 d.f5.f5.f1 d.f5.f6.f0 d.f5.f6.f1 d.f5.f7 d.f6 d.f7.f0 d.f7.f1 d.f8.f0 d.f8.f1 r.f0 r.f1 r.f2 r.f3 r.f4 r.f5.f0 r.f5.f1 r.f6.f0 r.f6.f1 r.f7 has).map fun t => (⟨t.1, t.2.1, t.2.2.1, t.2.2.2.1, t.2.2.2.2.1, ⟨t.2.2.2.2.2.1, t.2.2.2.2.2.2.1⟩, ⟨t.2.2.2.2.2.2.2.1, t.2.2.2.2.2.2.2.2.1⟩, t.2.2.2.2.2.2.2.2.2.1⟩, t.2.2.2.2.2.2.2.2.2.2)
def nearPost (d : S33) (w : World) (e : Ending) (w' : World) : Prop := ∃ (A : Option Addr) (a : Nat) (B : Option Addr) (b : Nat), e = .returned (.agg #[.int .i64 d.f0, .int .i64 d.f1, .int .i64 d.f2, .bool d.f3, .int .i64 d.f4.f0, .int .i64 d.f4.f1, .int .i64 d.f4.f2, .string d.f4.f3, .int .i64 d.f4.f4.f0, .int .i64 d.f4.f4.f1, .int .i64 d.f4.f5.f0, .int .i64 d.f4.f5.f1, .int .i64 d.f4.f6.f0, .int .i64 d.f4.f6.f1, .int .i64 d.f4.f7.f0, .int .i64 d.f4.f7.f1, .int .i64 d.f5.f0, .int .i64 d.f5.f1, .int .i64 d.f5.f2, .int .i64 d.f5.f3, .string d.f5.f4, .int .i64 d.f5.f5.f0, .int .i64 d.f5.f5.f1, .int .i64 d.f5.f6.f0, .int .i64 d.f5.f6.f1, .slice A d.f5.f7.length a, .slice B d.f6.length b, .int .i64 d.f7.f0, .int .i64 d.f7.f1, .int .i64 d.f8.f0, .int .i64 d.f8.f1]) ∧ Kd.R k44 44 w' w.heap.size (fun _ => True) (.slice A d.f5.f7.length a) d.f5.f7 ∧ Kd.R k44 44 w' w.heap.size (fun _ => True) (.slice B d.f6.length b) d.f6 ∧ Below w.heap.size w w'
def doesPost (x : S27) (err : Int) (w : World) (e : Ending) (w' : World) : Prop := ∃ (A : Option Addr) (a : Nat), e = .returned (.tuple #[.agg #[.int .i64 x.f0, .int .i64 x.f1, .int .i64 x.f2, .int .i64 x.f3, .string x.f4, .int .i64 x.f5.f0, .int .i64 x.f5.f1, .int .i64 x.f6.f0, .int .i64 x.f6.f1, .slice A x.f7.length a], .int .i64 err]) ∧ Kd.R k44 44 w' w.heap.size (fun _ => True) (.slice A x.f7.length a) x.f7 ∧ Below w.heap.size w w'
theorem near_calls (d d' : S33) (A : Option Addr) (a : Nat) (B : Option Addr) (b : Nat) (w : World) (h1 : Kd.C k44 w A d.f5.f7.length d.f5.f7) (h2 : d.f5.f7.length ≤ a) (h3 : Kd.C k44 w B d.f6.length d.f6) (h4 : d.f6.length ≤ b) (h : nearS d = some d') :
    Calls Try.prog 8 #[.agg #[.int .i64 d.f0, .int .i64 d.f1, .int .i64 d.f2, .bool d.f3, .int .i64 d.f4.f0, .int .i64 d.f4.f1, .int .i64 d.f4.f2, .string d.f4.f3, .int .i64 d.f4.f4.f0, .int .i64 d.f4.f4.f1, .int .i64 d.f4.f5.f0, .int .i64 d.f4.f5.f1, .int .i64 d.f4.f6.f0, .int .i64 d.f4.f6.f1, .int .i64 d.f4.f7.f0, .int .i64 d.f4.f7.f1, .int .i64 d.f5.f0, .int .i64 d.f5.f1, .int .i64 d.f5.f2, .int .i64 d.f5.f3, .string d.f5.f4, .int .i64 d.f5.f5.f0, .int .i64 d.f5.f5.f1, .int .i64 d.f5.f6.f0, .int .i64 d.f5.f6.f1, .slice A d.f5.f7.length a, .slice B d.f6.length b, .int .i64 d.f7.f0, .int .i64 d.f7.f1, .int .i64 d.f8.f0, .int .i64 d.f8.f1]] w (nearPost d' w) := by
  unfold nearS at h
  obtain ⟨t, ht, rfl⟩ := Option.map_eq_some_iff.mp h
  refine (scriptoriumlaw20_near.calls d.f0 d.f1 d.f2 d.f3 d.f4.f0 d.f4.f1 d.f4.f2 d.f4.f3 d.f4.f4.f0 d.f4.f4.f1 d.f4.f5.f0 d.f4.f5.f1 d.f4.f6.f0 d.f4.f6.f1 d.f4.f7.f0 d.f4.f7.f1 d.f5.f0 d.f5.f1 d.f5.f2 d.f5.f3 d.f5.f4 d.f5.f5.f0 d.f5.f5.f1 d.f5.f6.f0 d.f5.f6.f1 A a d.f5.f7 B b d.f6 d.f7.f0 d.f7.f1 d.f8.f0 d.f8.f1 _ _ _ _ _ _ _ _ _ _ _ _ _ _ _ _ _ _ _ _ _ _ _ _ _ _ _ _ _ _ _ w h1 h2 h3 h4 ht).mono ?_
  rintro e w' ⟨v25, v26, rfl, g1, g2, hb⟩
  obtain ⟨A1, a1, rfl⟩ := Kd.R_slice g1
  obtain ⟨B1, b1, rfl⟩ := Kd.R_slice g2
  exact ⟨A1, a1, B1, b1, rfl, Kd.R_mono g1 (fun _ _ => trivial), Kd.R_mono g2 (fun _ _ => trivial), hb⟩
theorem does_calls (k : Nat) (d : S33) (r : S27) (has : Bool) (x : S27) (err : Int) (A : Option Addr) (a : Nat) (B : Option Addr) (b : Nat) (C : Option Addr) (c : Nat) (w : World) (h1 : Kd.C k44 w A d.f5.f7.length d.f5.f7) (h2 : d.f5.f7.length ≤ a) (h3 : Kd.C k44 w B d.f6.length d.f6) (h4 : d.f6.length ≤ b) (h5 : Kd.C k44 w C r.f7.length r.f7) (h6 : r.f7.length ≤ c) (h : doesS k d r has = some (x, err)) :
    Calls Try.prog 9 #[.agg #[.int .i64 d.f0, .int .i64 d.f1, .int .i64 d.f2, .bool d.f3, .int .i64 d.f4.f0, .int .i64 d.f4.f1, .int .i64 d.f4.f2, .string d.f4.f3, .int .i64 d.f4.f4.f0, .int .i64 d.f4.f4.f1, .int .i64 d.f4.f5.f0, .int .i64 d.f4.f5.f1, .int .i64 d.f4.f6.f0, .int .i64 d.f4.f6.f1, .int .i64 d.f4.f7.f0, .int .i64 d.f4.f7.f1, .int .i64 d.f5.f0, .int .i64 d.f5.f1, .int .i64 d.f5.f2, .int .i64 d.f5.f3, .string d.f5.f4, .int .i64 d.f5.f5.f0, .int .i64 d.f5.f5.f1, .int .i64 d.f5.f6.f0, .int .i64 d.f5.f6.f1, .slice A d.f5.f7.length a, .slice B d.f6.length b, .int .i64 d.f7.f0, .int .i64 d.f7.f1, .int .i64 d.f8.f0, .int .i64 d.f8.f1], .agg #[.int .i64 r.f0, .int .i64 r.f1, .int .i64 r.f2, .int .i64 r.f3, .string r.f4, .int .i64 r.f5.f0, .int .i64 r.f5.f1, .int .i64 r.f6.f0, .int .i64 r.f6.f1, .slice C r.f7.length c], .bool has] w (doesPost x err w) := by
  unfold doesS at h
  obtain ⟨t, ht, h⟩ := Option.map_eq_some_iff.mp h
  simp only [Prod.mk.injEq] at h
  obtain ⟨rfl, rfl⟩ := h
  refine (scriptoriumlaw20_Deed_does.calls k d.f0 d.f1 d.f2 d.f3 d.f4.f0 d.f4.f1 d.f4.f2 d.f4.f3 d.f4.f4.f0 d.f4.f4.f1 d.f4.f5.f0 d.f4.f5.f1 d.f4.f6.f0 d.f4.f6.f1 d.f4.f7.f0 d.f4.f7.f1 d.f5.f0 d.f5.f1 d.f5.f2 d.f5.f3 d.f5.f4 d.f5.f5.f0 d.f5.f5.f1 d.f5.f6.f0 d.f5.f6.f1 A a d.f5.f7 B b d.f6 d.f7.f0 d.f7.f1 d.f8.f0 d.f8.f1 r.f0 r.f1 r.f2 r.f3 r.f4 r.f5.f0 r.f5.f1 r.f6.f0 r.f6.f1 C c r.f7 has _ _ _ _ _ _ _ _ _ _ _ w h1 h2 h3 h4 h5 h6 ht).mono ?_
  rintro e w' ⟨v9, rfl, g1, hb⟩
  obtain ⟨A1, a1, rfl⟩ := Kd.R_slice g1
  exact ⟨A1, a1, rfl, g1, hb⟩
attribute [local go_sem high] eqA24
/-- What the law leans on: a property of what stands, which each deed keeps, and by which the test goes through. -/
def oneGood (k : Nat) (l : List S33) : Prop := ∃ Inv : S27 → S24 → Bool → Bool → Prop, Inv z27 ⟨0, 0⟩ false false ∧ ∀ d ∈ l, ∀ r s has told, Inv r s has told → ∃ d' x e, nearS d = some d' ∧ doesS k d' r has = some (x, e) ∧
    (x.f2 = 3 → (told = true → x.f5 = s) ∧ (e = 0 → Inv x x.f5 true true) ∧ (e ≠ 0 → Inv r x.f5 has true)) ∧ (x.f2 ≠ 3 → (x.f2 = 4 → told = false) ∧ (e = 0 → Inv x s true told) ∧ (e ≠ 0 → Inv r s has told))
open Classical in
noncomputable def scriptoriumlaw20_RecordOne.f (k : Nat) (l0 : List (S33)) : Option (Bool) := if oneGood k l0 then some true else none
set_option maxHeartbeats 16000000 in
set_option maxRecDepth 100000 in
theorem scriptoriumlaw20_RecordOne.calls (k : Nat) (A0 : Option Addr) (c0 : Nat) (l0 : List (S33)) (r : Bool) (w : World) (hr0 : Kd.C k33 w A0 l0.length l0) (hc0 : l0.length ≤ c0) (h : scriptoriumlaw20_RecordOne.f k l0 = some r) (hrt : r = true) :
    Calls Try.prog 7 #[.slice A0 l0.length c0] w fun e w' => e = .returned (.bool r) ∧ Below w.heap.size w w' := by
  subst hrt
  have hg : oneGood k l0 := by
    unfold scriptoriumlaw20_RecordOne.f at h
    by_cases hg : oneGood k l0
    · exact hg
    · rw [if_neg hg] at h; exact absurd h (by simp)
  obtain ⟨Inv, hi0, hstep⟩ := hg
  have HI0 := Aside0.mk hi0
  have HST := Aside0.mk hstep
  have HR0 := Aside0.mk hr0
  have HC0 := Aside0.mk hc0
  clear h hi0 hstep hr0 hc0
  go_enter Try.func7, Try.ntmps7
  go_wp2_with fail
  obtain ⟨w0, hw0, hM0⟩ := Mem.two w #[.int .i64 0, .int .i64 0, .int .i64 0, .int .i64 0, .string ⟨#[]⟩, .int .i64 0, .int .i64 0, .int .i64 0, .int .i64 0, .slice none 0 0] #[.int .i64 0, .int .i64 0] 27 24
  have S0 := Aside0.mk ((hM0.row' (Kd.R_nil k44 44 _ w.heap.size (fun _ => True)) rfl (Nat.le_refl _)))
  rw [hw0]
  clear hw0 hM0
  obtain ⟨g, hg⟩ : ∃ g, w.heap.size = g := ⟨_, rfl⟩
  rw [hg] at S0
  try rw [hg]
  obtain ⟨gs, hge⟩ : ∃ q, g + 1 = q := ⟨_, rfl⟩
  rw [hge] at S0
  try rw [hge]
  have HG := Aside0.mk hg
  have HGE := Aside0.mk hge
  clear hg hge
  go_loopg [4, 5, 7] 101 (fun kq v5 v6 v7 w' => ∃ (has told : Bool) (i : Nat) (r : S27) (s : S24) (A : Option Addr) (a : Nat), v5 = .bool has ∧ v6 = .bool told ∧ v7 = .int .i64 (i : Int) ∧ Aside0 (Inv r s has told) ∧ Aside0 (i + kq = 101) ∧ Aside0 (Mem w w' [(gs, #[.int .i64 s.f0, .int .i64 s.f1], 24), (g, #[.int .i64 r.f0, .int .i64 r.f1, .int .i64 r.f2, .int .i64 r.f3, .string r.f4, .int .i64 r.f5.f0, .int .i64 r.f5.f1, .int .i64 r.f6.f0, .int .i64 r.f6.f1, .slice A r.f7.length a], 27)] [(A, a, r.f7)]))
  case atStart => exact ⟨false, false, 0, z27, ⟨0, 0⟩, none, 0, rfl, rfl, rfl, HI0, ⟨rfl⟩, S0⟩
  case round =>
    obtain ⟨has, told, i, r, s, A, a, rfl, rfl, rfl, HI, HK, S⟩ := hrel
    by_cases h1 : i < l0.length
    case neg =>
      have d1 : decide ((i : Int) < (l0.length : Int)) = false := decide_eq_false (by omega)
      go_wp2_with fail
      refine (scriptoriumlaw20_awake.calls true _ rfl).mono ?_
      rintro e w1 ⟨rfl, hb⟩
      go_wp2_with fail
      go_ret
      exact ⟨rfl, (S.out.step hb).below⟩
    have d1 : decide ((i : Int) < (l0.length : Int)) = true := decide_eq_true (by omega)
    by_cases h2 : i < 100
    case neg =>
      have d2 : decide ((i : Int) < 100) = false := decide_eq_false (by omega)
      go_wp2_with fail
      refine (scriptoriumlaw20_awake.calls true _ rfl).mono ?_
      rintro e w1 ⟨rfl, hb⟩
      go_wp2_with fail
      go_ret
      exact ⟨rfl, (S.out.step hb).below⟩
    have d2 : decide ((i : Int) < 100) = true := decide_eq_true (by omega)
    have hwr : Go.RowKit.wrap64 ((i : Int) + 1) = ((i + 1 : Nat) : Int) := by
      unfold Go.RowKit.wrap64
      omega
    have HWR := Aside0.mk hwr
    clear hwr
    obtain ⟨ad, cs, e0, _, hK, hc0⟩ := Kd.C_get (Kd.C_below HR0.out S.out.below) z33 (i : Int) (by omega) (by omega)
    have hmem : l0.getD (i : Int).toNat z33 ∈ l0 := by
      rw [Int.toNat_natCast, List.getD_eq_getElem?_getD, List.getElem?_eq_getElem h1]
      exact List.getElem_mem h1
    generalize l0.getD (i : Int).toNat z33 = d at hK hmem
    obtain ⟨d', x, e, hn, hdo, hok⟩ := HST.out d hmem r s has told HI.out
    have HN := Aside0.mk hn
    have HD := Aside0.mk hdo
    have HOK := Aside0.mk hok
    obtain ⟨A25, c25, A26, c26, rfl, l25, g25, l26, g26⟩ := k33_open hK
    have HL25 := Aside0.mk l25
    have HG25 := Aside0.mk g25
    have HL26 := Aside0.mk l26
    have HG26 := Aside0.mk g26
    have HC := Aside0.mk (fun (j : Nat) (v : Value) (h : [.int .i64 d.f0, .int .i64 d.f1, .int .i64 d.f2, .bool d.f3, .int .i64 d.f4.f0, .int .i64 d.f4.f1, .int .i64 d.f4.f2, .string d.f4.f3, .int .i64 d.f4.f4.f0, .int .i64 d.f4.f4.f1, .int .i64 d.f4.f5.f0, .int .i64 d.f4.f5.f1, .int .i64 d.f4.f6.f0, .int .i64 d.f4.f6.f1, .int .i64 d.f4.f7.f0, .int .i64 d.f4.f7.f1, .int .i64 d.f5.f0, .int .i64 d.f5.f1, .int .i64 d.f5.f2, .int .i64 d.f5.f3, .string d.f5.f4, .int .i64 d.f5.f5.f0, .int .i64 d.f5.f5.f1, .int .i64 d.f5.f6.f0, .int .i64 d.f5.f6.f1, .slice A25 d.f5.f7.length c25, .slice A26 d.f6.length c26, .int .i64 d.f7.f0, .int .i64 d.f7.f1, .int .i64 d.f8.f0, .int .i64 d.f8.f1][j]? = some v) => (add_add ad ((i : Int).toNat * 31) j ▸ hc0 j v h))
    have HH1 := Aside0.mk h1
    have HH2 := Aside0.mk h2
    have p0 := eq_true (show (0 : Int) ≤ (i : Int) by omega)
    have q0 := eq_true (show (i : Int) < (l0.length : Int) by omega)
    clear hc0 hn hdo hok hK hmem l25 g25 l26 g26
    cases e0
    go_upto_region 7 with fail
    go_cut [8, 9] (fun v8 v9 wc => ∃ (A2 : Option Addr) (a2 gx : Nat), v8 = .pointer (some ⟨gx, 0, none⟩) ∧ v9 = .int .i64 e ∧ Aside0 (Mem w wc [(gx, #[.int .i64 x.f0, .int .i64 x.f1, .int .i64 x.f2, .int .i64 x.f3, .string x.f4, .int .i64 x.f5.f0, .int .i64 x.f5.f1, .int .i64 x.f6.f0, .int .i64 x.f6.f1, .slice A2 x.f7.length a2], 27), (gs, #[.int .i64 s.f0, .int .i64 s.f1], 24), (g, #[.int .i64 r.f0, .int .i64 r.f1, .int .i64 r.f2, .int .i64 r.f3, .string r.f4, .int .i64 r.f5.f0, .int .i64 r.f5.f1, .int .i64 r.f6.f0, .int .i64 r.f6.f1, .slice A r.f7.length a], 27)] [(A2, a2, x.f7), (A, a, r.f7)]))
    case first =>
      refine wp_region_noPanic ?_
      have hb0 := below_drew1 (Below.refl wr.heap.size wr)
      have S0_ := Aside0.mk S.out.drew
      have L0 := Aside0.mk (Lies.step HC.out hb0)
      refine wp_region_held_drew (S := (fun V => Lies ad ((i : Int).toNat * 31) [.int .i64 d.f0, .int .i64 d.f1, .int .i64 d.f2, .bool d.f3, .int .i64 d.f4.f0, .int .i64 d.f4.f1, .int .i64 d.f4.f2, .string d.f4.f3, .int .i64 d.f4.f4.f0, .int .i64 d.f4.f4.f1, .int .i64 d.f4.f5.f0, .int .i64 d.f4.f5.f1, .int .i64 d.f4.f6.f0, .int .i64 d.f4.f6.f1, .int .i64 d.f4.f7.f0, .int .i64 d.f4.f7.f1, .int .i64 d.f5.f0, .int .i64 d.f5.f1, .int .i64 d.f5.f2, .int .i64 d.f5.f3, .string d.f5.f4, .int .i64 d.f5.f5.f0, .int .i64 d.f5.f5.f1, .int .i64 d.f5.f6.f0, .int .i64 d.f5.f6.f1, .slice A25 d.f5.f7.length c25, .slice A26 d.f6.length c26, .int .i64 d.f7.f0, .int .i64 d.f7.f1, .int .i64 d.f8.f0, .int .i64 d.f8.f1] V ∧ V.heap[g]? = some (.cells #[.int .i64 r.f0, .int .i64 r.f1, .int .i64 r.f2, .int .i64 r.f3, .string r.f4, .int .i64 r.f5.f0, .int .i64 r.f5.f1, .int .i64 r.f6.f0, .int .i64 r.f6.f1, .slice A r.f7.length a] 27 (0, 0)))) (by kernel_rfl) ⟨L0.out, S0_.out.bx1⟩ (fun hHeld => ?_)
      generalize hwd : World.drew wr = wd at hHeld S0_ L0 hb0 ⊢
      have HBWwd := Aside0.mk hb0
      clear hb0 hwd
      refine wpAnyH_take (i := 0) (oi := ⟨some 21, _, _, _, _, none⟩) (v := ?v1) rfl (by kernel_rfl) (by kernel_rfl) (by kernel_rfl) (fun _ _ _ h => h) (Or.inl ⟨by rfl, ?hy1⟩) (by with_reducible assumption) ?rest1
      case hy1 => (intro V_ hSw; (try dsimp only at hSw); go_simp; (try with_reducible rfl))
      case' rest1 => skip
      try simp only [Act.put, List.setIfInBounds_toArray, List.set_cons_zero, List.set_cons_succ]
      refine wpAnyH_take (i := 1) (oi := ⟨some 22, _, _, _, _, none⟩) (v := ?v2) rfl (by kernel_rfl) (by kernel_rfl) (by kernel_rfl) (fun _ _ _ h => h) (Or.inl ⟨by rfl, ?hy2⟩) (by with_reducible assumption) ?rest2
      case hy2 => (intro V_ hSw; (try dsimp only at hSw); go_simp; (try with_reducible rfl))
      case' rest2 => skip
      try simp only [Act.put, List.setIfInBounds_toArray, List.set_cons_zero, List.set_cons_succ]
      refine wpAnyH_take (i := 2) (oi := ⟨some 23, _, _, _, _, none⟩) (v := ?v3) rfl (by kernel_rfl) (by kernel_rfl) (by kernel_rfl) (fun _ _ _ h => h) (Or.inl ⟨by rfl, ?hy3⟩) (by with_reducible assumption) ?rest3
      case hy3 => (intro V_ hSw; (try dsimp only at hSw); go_simp; (try with_reducible rfl))
      case' rest3 => skip
      try simp only [Act.put, List.setIfInBounds_toArray, List.set_cons_zero, List.set_cons_succ]
      refine wpAnyH_take (i := 3) (oi := ⟨some 24, _, _, _, _, none⟩) (v := _) rfl (by kernel_rfl) (by kernel_rfl) (by kernel_rfl) (fun _ _ _ h => h) (yieldsIf_load_at (by rfl) 33 _ rfl _ rfl _ _ (fun V h => h.1) Try.underlying33 rfl (by kernel_rfl)) (by with_reducible assumption) ?_
      try simp only [Act.put, List.setIfInBounds_toArray, List.set_cons_zero, List.set_cons_succ]
      refine wpAnyH_take (i := 5) (oi := ⟨some 26, _, _, _, _, none⟩) (v := _) rfl (by kernel_rfl) (by kernel_rfl) (by kernel_rfl) (fun _ _ _ h => h) (yieldsIf_load_row (by rfl) 27 _ rfl g rfl _ _ (0, 0) _ (fun V h => h.2) Try.underlying27 rfl (by kernel_rfl)) (by with_reducible assumption) ?_
      try simp only [Act.put, List.setIfInBounds_toArray, List.set_cons_zero, List.set_cons_succ]
      refine wpAnyH_take (i := 6) (oi := ⟨some 27, _, _, _, _, none⟩) (v := ?v4) rfl (by kernel_rfl) (by kernel_rfl) (by kernel_rfl) (fun _ _ _ h => h) (Or.inl ⟨by rfl, ?hy4⟩) (by with_reducible assumption) ?rest4
      case hy4 => (intro V_ hSw; (try dsimp only at hSw); go_simp; (try with_reducible rfl))
      case' rest4 => skip
      try simp only [Act.put, List.setIfInBounds_toArray, List.set_cons_zero, List.set_cons_succ]
      refine wpAnyH_ready (rs := [4, 11]) (by kernel_rfl) (by simp) ?_
      refine AllReadyH.cons (o := ⟨some 25, _, _, _, _, none⟩) rfl (fun K hK => ?_) ?_
      · go_simp
        refine (near_calls d d' A25 c25 A26 c26 _ (Kd.C_below HG25.out HBWwd.out) HL25.out (Kd.C_below HG26.out HBWwd.out) HL26.out HN.out).mono ?_
        rintro e1 w1 ⟨A1, a1, B1, b1, rfl, R1, R2, hb⟩
        have S1 := Aside0.mk (((S0_.out.step hb).row' R2 rfl S0_.out.below.size).row' R1 rfl S0_.out.below.size)
        have L1 := Aside0.mk (Lies.step L0.out hb)
        clear R1 R2 hb
        refine hK.out _ _ ⟨L1.out, S1.out.bx1⟩ (fun hHeld => ?_)
        clear hK K
        try simp only [Act.put, List.setIfInBounds_toArray, List.set_cons_zero, List.set_cons_succ]
        refine wpAnyH_ready (rs := [7, 11]) (by kernel_rfl) (by simp) ?_
        refine AllReadyH.cons (o := ⟨some 28, _, _, _, _, none⟩) rfl (fun K hK => ?_) ?_
        · go_simp
          refine (does_calls k d' r has x e A1 a1 B1 b1 A a _ (S1.out.rd (.head _)).1 (S1.out.rd (.head _)).2 (S1.out.rd (.tail _ (.head _))).1 (S1.out.rd (.tail _ (.head _))).2 (S1.out.rd (.tail _ (.tail _ (.head _)))).1 (S1.out.rd (.tail _ (.tail _ (.head _)))).2 HD.out).mono ?_
          rintro e2 w2 ⟨A2, a2, rfl, R3, hb⟩
          have S2 := Aside0.mk ((S1.out.step hb).row' R3 rfl S1.out.below.size)
          have L2 := Aside0.mk (Lies.step L1.out hb)
          clear R3 hb
          refine hK.out _ _ ⟨L2.out, S2.out.bx1⟩ (fun hHeld => ?_)
          clear hK K
          try simp only [Act.put, List.setIfInBounds_toArray, List.set_cons_zero, List.set_cons_succ]
          refine wpAnyH_take (i := 8) (oi := ⟨some 20, _, _, _, _, none⟩) (v := ?v5) rfl (by kernel_rfl) (by kernel_rfl) (by kernel_rfl) (fun _ _ _ h => h) (Or.inl ⟨by rfl, ?hy5⟩) (by with_reducible assumption) ?rest5
          case hy5 => (intro V_ hSw; (try dsimp only at hSw); go_simp; (try with_reducible rfl))
          case' rest5 => skip
          try simp only [Act.put, List.setIfInBounds_toArray, List.set_cons_zero, List.set_cons_succ]
          refine wpAnyH_take (i := 9) (oi := ⟨some 29, _, _, _, _, none⟩) (v := ?v6) rfl (by kernel_rfl) (by kernel_rfl) (by kernel_rfl) (fun _ _ _ h => h) (Or.inl ⟨by rfl, ?hy6⟩) (by with_reducible assumption) ?rest6
          case hy6 => (intro V_ hSw; (try dsimp only at hSw); go_simp; (try with_reducible rfl))
          case' rest6 => skip
          try simp only [Act.put, List.setIfInBounds_toArray, List.set_cons_zero, List.set_cons_succ]
          refine wpAnyH_take (i := 10) (oi := ⟨some 30, _, _, _, _, none⟩) (v := ?v7) rfl (by kernel_rfl) (by kernel_rfl) (by kernel_rfl) (fun _ _ _ h => h) (Or.inl ⟨by rfl, ?hy7⟩) (by with_reducible assumption) ?rest7
          case hy7 => (intro V_ hSw; (try dsimp only at hSw); go_simp; (try with_reducible rfl))
          case' rest7 => skip
          try simp only [Act.put, List.setIfInBounds_toArray, List.set_cons_zero, List.set_cons_succ]
          refine wpAnyH_ready (rs := [11]) (by kernel_rfl) (by simp) ?_
          refine AllReadyH.cons (o := ⟨some 8, _, _, _, _, none⟩) rfl (fun K hK => ?_) ?_
          · go_simp
            have hbA := below_alloc (Below.refl w2.heap.size w2) (.cells #[.int .i64 0, .int .i64 0, .int .i64 0, .int .i64 0, .string ⟨#[]⟩, .int .i64 0, .int .i64 0, .int .i64 0, .int .i64 0, .slice none 0 0] 27)
            refine hK.out _ _ ⟨Lies.step L2.out hbA, blk_alloc S2.out.bx1 _⟩ (fun hHeld => ?_)
            clear hK K hbA
            try simp only [Act.put, List.setIfInBounds_toArray, List.set_cons_zero, List.set_cons_succ]
            refine wpAnyH_ready (rs := [12]) (by kernel_rfl) (by simp) ?_
            refine AllReadyH.cons (o := ⟨none, _, _, _, _, none⟩) rfl (fun K hK => ?_) ?_
            · go_simp
              have hbA := below_alloc (Below.refl w2.heap.size w2) (.cells #[.int .i64 x.f0, .int .i64 x.f1, .int .i64 x.f2, .int .i64 x.f3, .string x.f4, .int .i64 x.f5.f0, .int .i64 x.f5.f1, .int .i64 x.f6.f0, .int .i64 x.f6.f1, .slice A2 x.f7.length a2] 27)
              have hMA := S2.out.alloc #[.int .i64 x.f0, .int .i64 x.f1, .int .i64 x.f2, .int .i64 x.f3, .string x.f4, .int .i64 x.f5.f0, .int .i64 x.f5.f1, .int .i64 x.f6.f0, .int .i64 x.f6.f1, .slice A2 x.f7.length a2] 27
              generalize hwa : World.alloc w2 _ = w5 at hbA hMA ⊢
              have S5 := Aside0.mk hMA
              have L5 := Aside0.mk (Lies.step L2.out hbA)
              clear hbA hwa hMA
              refine hK.out _ _ ⟨L5.out, S5.out.bx2⟩ (fun hHeld => ?_)
              clear hK K
              try simp only [Act.put, List.setIfInBounds_toArray, List.set_cons_zero, List.set_cons_succ]
              refine wpAnyH_take (i := 13) (oi := ⟨some 9, _, _, _, _, none⟩) (v := ?v8) rfl (by kernel_rfl) (by kernel_rfl) (by kernel_rfl) (fun _ _ _ h => h) (Or.inl ⟨by rfl, ?hy8⟩) (by with_reducible assumption) ?rest8
              case hy8 => (intro V_ hSw; (try dsimp only at hSw); go_simp; (try with_reducible rfl))
              case' rest8 => skip
              try simp only [Act.put, List.setIfInBounds_toArray, List.set_cons_zero, List.set_cons_succ]
              refine wpAnyH_done (by kernel_rfl) ?_ _
              refine NoPanic.normal ?_
              go_wp2_with fail
              go_meet
              case rel => exact ⟨_, _, _, rfl, rfl, ⟨S5.out.sub (List.Sublist.refl _) (fun r q => by rcases List.mem_cons.1 q with rfl | q; exact .head _; exact .tail _ (.tail _ (.tail _ q)))⟩⟩
            exact AllReadyH.nil
          exact AllReadyH.nil
        refine AllReadyH.cons (o := ⟨some 8, _, _, _, _, none⟩) rfl (fun K hK => ?_) ?_
        · go_simp
          have hbA := below_alloc (Below.refl w1.heap.size w1) (.cells #[.int .i64 0, .int .i64 0, .int .i64 0, .int .i64 0, .string ⟨#[]⟩, .int .i64 0, .int .i64 0, .int .i64 0, .int .i64 0, .slice none 0 0] 27)
          have hMA := S1.out.alloc #[.int .i64 0, .int .i64 0, .int .i64 0, .int .i64 0, .string ⟨#[]⟩, .int .i64 0, .int .i64 0, .int .i64 0, .int .i64 0, .slice none 0 0] 27
          have hne := Nat.ne_of_lt (World.block_lt_of_cell? w1 _ (L1.out 0 _ rfl))
          generalize hwa : World.alloc w1 _ = wa at hbA hMA ⊢
          have SA := Aside0.mk hMA
          have LA := Aside0.mk (Lies.step L1.out hbA)
          have HBWa := Aside0.mk hbA
          clear hbA hwa hMA
          generalize w1.heap.size = gx at hne SA ⊢
          have HNE := Aside0.mk hne
          clear hne
          refine hK.out _ _ ⟨LA.out, SA.out.bx2⟩ (fun hHeld => ?_)
          clear hK K
          try simp only [Act.put, List.setIfInBounds_toArray, List.set_cons_zero, List.set_cons_succ]
          refine wpAnyH_ready (rs := [7]) (by kernel_rfl) (by simp) ?_
          refine AllReadyH.cons (o := ⟨some 28, _, _, _, _, none⟩) rfl (fun K hK => ?_) ?_
          · go_simp
            refine (does_calls k d' r has x e A1 a1 B1 b1 A a _ (SA.out.rd (.head _)).1 (SA.out.rd (.head _)).2 (SA.out.rd (.tail _ (.head _))).1 (SA.out.rd (.tail _ (.head _))).2 (SA.out.rd (.tail _ (.tail _ (.head _)))).1 (SA.out.rd (.tail _ (.tail _ (.head _)))).2 HD.out).mono ?_
            rintro e2 w2 ⟨A2, a2, rfl, R3, hb⟩
            have S2 := Aside0.mk ((SA.out.step hb).row' R3 rfl SA.out.below.size)
            have L2 := Aside0.mk (Lies.step LA.out hb)
            clear R3 hb
            refine hK.out _ _ ⟨L2.out, S2.out.bx2⟩ (fun hHeld => ?_)
            clear hK K
            try simp only [Act.put, List.setIfInBounds_toArray, List.set_cons_zero, List.set_cons_succ]
            refine wpAnyH_take (i := 8) (oi := ⟨some 20, _, _, _, _, none⟩) (v := ?v9) rfl (by kernel_rfl) (by kernel_rfl) (by kernel_rfl) (fun _ _ _ h => h) (Or.inl ⟨by rfl, ?hy9⟩) (by with_reducible assumption) ?rest9
            case hy9 => (intro V_ hSw; (try dsimp only at hSw); go_simp; (try with_reducible rfl))
            case' rest9 => skip
            try simp only [Act.put, List.setIfInBounds_toArray, List.set_cons_zero, List.set_cons_succ]
            refine wpAnyH_take (i := 9) (oi := ⟨some 29, _, _, _, _, none⟩) (v := ?v10) rfl (by kernel_rfl) (by kernel_rfl) (by kernel_rfl) (fun _ _ _ h => h) (Or.inl ⟨by rfl, ?hy10⟩) (by with_reducible assumption) ?rest10
            case hy10 => (intro V_ hSw; (try dsimp only at hSw); go_simp; (try with_reducible rfl))
            case' rest10 => skip
            try simp only [Act.put, List.setIfInBounds_toArray, List.set_cons_zero, List.set_cons_succ]
            refine wpAnyH_take (i := 10) (oi := ⟨some 30, _, _, _, _, none⟩) (v := ?v11) rfl (by kernel_rfl) (by kernel_rfl) (by kernel_rfl) (fun _ _ _ h => h) (Or.inl ⟨by rfl, ?hy11⟩) (by with_reducible assumption) ?rest11
            case hy11 => (intro V_ hSw; (try dsimp only at hSw); go_simp; (try with_reducible rfl))
            case' rest11 => skip
            try simp only [Act.put, List.setIfInBounds_toArray, List.set_cons_zero, List.set_cons_succ]
            refine wpAnyH_ready (rs := [12]) (by kernel_rfl) (by simp) ?_
            refine AllReadyH.cons (o := ⟨none, _, _, _, _, none⟩) rfl (fun K hK => ?_) ?_
            · obtain ⟨z0, z1, z2, z3, z4, z5, z6, z7, z8, z9⟩ := cells10 S2.out.bx0
              obtain ⟨fz0, fz1, fz2, fz3, fz4, fz5, fz6, fz7, fz8, fz9⟩ := frozen10 S2.out.bx0
              go_simp
              clear z0 z1 z2 z3 z4 z5 z6 z7 z8 z9 fz0 fz1 fz2 fz3 fz4 fz5 fz6 fz7 fz8 fz9
              have S5 := Aside0.mk (S2.out.ten0 (.int .i64 x.f0) (.int .i64 x.f1) (.int .i64 x.f2) (.int .i64 x.f3) (.string x.f4) (.int .i64 x.f5.f0) (.int .i64 x.f5.f1) (.int .i64 x.f6.f0) (.int .i64 x.f6.f1) (.slice A2 x.f7.length a2) (by decide))
              have L5 := Aside0.mk (Lies.ten L2.out HNE.out (.int .i64 x.f0) (.int .i64 x.f1) (.int .i64 x.f2) (.int .i64 x.f3) (.string x.f4) (.int .i64 x.f5.f0) (.int .i64 x.f5.f1) (.int .i64 x.f6.f0) (.int .i64 x.f6.f1) (.slice A2 x.f7.length a2))
              refine hK.out _ _ ⟨L5.out, S5.out.bx2⟩ (fun hHeld => ?_)
              clear hK K
              try simp only [Act.put, List.setIfInBounds_toArray, List.set_cons_zero, List.set_cons_succ]
              refine wpAnyH_take (i := 13) (oi := ⟨some 9, _, _, _, _, none⟩) (v := ?v12) rfl (by kernel_rfl) (by kernel_rfl) (by kernel_rfl) (fun _ _ _ h => h) (Or.inl ⟨by rfl, ?hy12⟩) (by with_reducible assumption) ?rest12
              case hy12 => (intro V_ hSw; (try dsimp only at hSw); go_simp; (try with_reducible rfl))
              case' rest12 => skip
              try simp only [Act.put, List.setIfInBounds_toArray, List.set_cons_zero, List.set_cons_succ]
              refine wpAnyH_done (by kernel_rfl) ?_ _
              refine NoPanic.normal ?_
              go_wp2_with fail
              go_meet
              case rel => exact ⟨_, _, _, rfl, rfl, ⟨S5.out.sub (List.Sublist.refl _) (fun r q => by rcases List.mem_cons.1 q with rfl | q; exact .head _; exact .tail _ (.tail _ (.tail _ q)))⟩⟩
            exact AllReadyH.nil
          exact AllReadyH.nil
        exact AllReadyH.nil
      refine AllReadyH.cons (o := ⟨some 8, _, _, _, _, none⟩) rfl (fun K hK => ?_) ?_
      · go_simp
        have hbA := below_alloc (Below.refl wd.heap.size wd) (.cells #[.int .i64 0, .int .i64 0, .int .i64 0, .int .i64 0, .string ⟨#[]⟩, .int .i64 0, .int .i64 0, .int .i64 0, .int .i64 0, .slice none 0 0] 27)
        have hMA := S0_.out.alloc #[.int .i64 0, .int .i64 0, .int .i64 0, .int .i64 0, .string ⟨#[]⟩, .int .i64 0, .int .i64 0, .int .i64 0, .int .i64 0, .slice none 0 0] 27
        have hne := Nat.ne_of_lt (World.block_lt_of_cell? wd _ (L0.out 0 _ rfl))
        generalize hwa : World.alloc wd _ = wa at hbA hMA ⊢
        have SA := Aside0.mk hMA
        have LA := Aside0.mk (Lies.step L0.out hbA)
        have HBWa := Aside0.mk (below_step HBWwd.out hbA)
        clear hbA hwa hMA
        generalize wd.heap.size = gx at hne SA ⊢
        have HNE := Aside0.mk hne
        clear hne
        refine hK.out _ _ ⟨LA.out, SA.out.bx2⟩ (fun hHeld => ?_)
        clear hK K
        try simp only [Act.put, List.setIfInBounds_toArray, List.set_cons_zero, List.set_cons_succ]
        refine wpAnyH_ready (rs := [4]) (by kernel_rfl) (by simp) ?_
        refine AllReadyH.cons (o := ⟨some 25, _, _, _, _, none⟩) rfl (fun K hK => ?_) ?_
        · go_simp
          refine (near_calls d d' A25 c25 A26 c26 _ (Kd.C_below HG25.out HBWa.out) HL25.out (Kd.C_below HG26.out HBWa.out) HL26.out HN.out).mono ?_
          rintro e1 w1 ⟨A1, a1, B1, b1, rfl, R1, R2, hb⟩
          have S1 := Aside0.mk (((SA.out.step hb).row' R2 rfl SA.out.below.size).row' R1 rfl SA.out.below.size)
          have L1 := Aside0.mk (Lies.step LA.out hb)
          clear R1 R2 hb
          refine hK.out _ _ ⟨L1.out, S1.out.bx2⟩ (fun hHeld => ?_)
          clear hK K
          try simp only [Act.put, List.setIfInBounds_toArray, List.set_cons_zero, List.set_cons_succ]
          refine wpAnyH_ready (rs := [7]) (by kernel_rfl) (by simp) ?_
          refine AllReadyH.cons (o := ⟨some 28, _, _, _, _, none⟩) rfl (fun K hK => ?_) ?_
          · go_simp
            refine (does_calls k d' r has x e A1 a1 B1 b1 A a _ (S1.out.rd (.head _)).1 (S1.out.rd (.head _)).2 (S1.out.rd (.tail _ (.head _))).1 (S1.out.rd (.tail _ (.head _))).2 (S1.out.rd (.tail _ (.tail _ (.head _)))).1 (S1.out.rd (.tail _ (.tail _ (.head _)))).2 HD.out).mono ?_
            rintro e2 w2 ⟨A2, a2, rfl, R3, hb⟩
            have S2 := Aside0.mk ((S1.out.step hb).row' R3 rfl S1.out.below.size)
            have L2 := Aside0.mk (Lies.step L1.out hb)
            clear R3 hb
            refine hK.out _ _ ⟨L2.out, S2.out.bx2⟩ (fun hHeld => ?_)
            clear hK K
            try simp only [Act.put, List.setIfInBounds_toArray, List.set_cons_zero, List.set_cons_succ]
            refine wpAnyH_take (i := 8) (oi := ⟨some 20, _, _, _, _, none⟩) (v := ?v13) rfl (by kernel_rfl) (by kernel_rfl) (by kernel_rfl) (fun _ _ _ h => h) (Or.inl ⟨by rfl, ?hy13⟩) (by with_reducible assumption) ?rest13
            case hy13 => (intro V_ hSw; (try dsimp only at hSw); go_simp; (try with_reducible rfl))
            case' rest13 => skip
            try simp only [Act.put, List.setIfInBounds_toArray, List.set_cons_zero, List.set_cons_succ]
            refine wpAnyH_take (i := 9) (oi := ⟨some 29, _, _, _, _, none⟩) (v := ?v14) rfl (by kernel_rfl) (by kernel_rfl) (by kernel_rfl) (fun _ _ _ h => h) (Or.inl ⟨by rfl, ?hy14⟩) (by with_reducible assumption) ?rest14
            case hy14 => (intro V_ hSw; (try dsimp only at hSw); go_simp; (try with_reducible rfl))
            case' rest14 => skip
            try simp only [Act.put, List.setIfInBounds_toArray, List.set_cons_zero, List.set_cons_succ]
            refine wpAnyH_take (i := 10) (oi := ⟨some 30, _, _, _, _, none⟩) (v := ?v15) rfl (by kernel_rfl) (by kernel_rfl) (by kernel_rfl) (fun _ _ _ h => h) (Or.inl ⟨by rfl, ?hy15⟩) (by with_reducible assumption) ?rest15
            case hy15 => (intro V_ hSw; (try dsimp only at hSw); go_simp; (try with_reducible rfl))
            case' rest15 => skip
            try simp only [Act.put, List.setIfInBounds_toArray, List.set_cons_zero, List.set_cons_succ]
            refine wpAnyH_ready (rs := [12]) (by kernel_rfl) (by simp) ?_
            refine AllReadyH.cons (o := ⟨none, _, _, _, _, none⟩) rfl (fun K hK => ?_) ?_
            · obtain ⟨z0, z1, z2, z3, z4, z5, z6, z7, z8, z9⟩ := cells10 S2.out.bx0
              obtain ⟨fz0, fz1, fz2, fz3, fz4, fz5, fz6, fz7, fz8, fz9⟩ := frozen10 S2.out.bx0
              go_simp
              clear z0 z1 z2 z3 z4 z5 z6 z7 z8 z9 fz0 fz1 fz2 fz3 fz4 fz5 fz6 fz7 fz8 fz9
              have S5 := Aside0.mk (S2.out.ten0 (.int .i64 x.f0) (.int .i64 x.f1) (.int .i64 x.f2) (.int .i64 x.f3) (.string x.f4) (.int .i64 x.f5.f0) (.int .i64 x.f5.f1) (.int .i64 x.f6.f0) (.int .i64 x.f6.f1) (.slice A2 x.f7.length a2) (by decide))
              have L5 := Aside0.mk (Lies.ten L2.out HNE.out (.int .i64 x.f0) (.int .i64 x.f1) (.int .i64 x.f2) (.int .i64 x.f3) (.string x.f4) (.int .i64 x.f5.f0) (.int .i64 x.f5.f1) (.int .i64 x.f6.f0) (.int .i64 x.f6.f1) (.slice A2 x.f7.length a2))
              refine hK.out _ _ ⟨L5.out, S5.out.bx2⟩ (fun hHeld => ?_)
              clear hK K
              try simp only [Act.put, List.setIfInBounds_toArray, List.set_cons_zero, List.set_cons_succ]
              refine wpAnyH_take (i := 13) (oi := ⟨some 9, _, _, _, _, none⟩) (v := ?v16) rfl (by kernel_rfl) (by kernel_rfl) (by kernel_rfl) (fun _ _ _ h => h) (Or.inl ⟨by rfl, ?hy16⟩) (by with_reducible assumption) ?rest16
              case hy16 => (intro V_ hSw; (try dsimp only at hSw); go_simp; (try with_reducible rfl))
              case' rest16 => skip
              try simp only [Act.put, List.setIfInBounds_toArray, List.set_cons_zero, List.set_cons_succ]
              refine wpAnyH_done (by kernel_rfl) ?_ _
              refine NoPanic.normal ?_
              go_wp2_with fail
              go_meet
              case rel => exact ⟨_, _, _, rfl, rfl, ⟨S5.out.sub (List.Sublist.refl _) (fun r q => by rcases List.mem_cons.1 q with rfl | q; exact .head _; exact .tail _ (.tail _ (.tail _ q)))⟩⟩
            exact AllReadyH.nil
          exact AllReadyH.nil
        exact AllReadyH.nil
      exact AllReadyH.nil
    case rest =>
      obtain ⟨A2, a2, gx, rfl, rfl, S4⟩ := hcut
      rename World => w4
      clear S HC HG25 HG26 HL25 HL26
      have y2 : w4.cell? ⟨gx, 2, none⟩ = some (.int .i64 x.f2) := (blk_cell S4.out.bx0 2).trans rfl
      go_upto_if 33 with fail
      go_cut [5] (fun v5_ wc => ∃ (told1 : Bool) (s1 : S24), v5_ = .bool told1 ∧ Aside0 ((x.f2 = 4 → told1 = false) ∧ (e = 0 → Inv x s1 true told1) ∧ (e ≠ 0 → Inv r s1 has told1)) ∧ Aside0 (Mem w wc [(gx, #[.int .i64 x.f0, .int .i64 x.f1, .int .i64 x.f2, .int .i64 x.f3, .string x.f4, .int .i64 x.f5.f0, .int .i64 x.f5.f1, .int .i64 x.f6.f0, .int .i64 x.f6.f1, .slice A2 x.f7.length a2], 27), (gs, #[.int .i64 s1.f0, .int .i64 s1.f1], 24), (g, #[.int .i64 r.f0, .int .i64 r.f1, .int .i64 r.f2, .int .i64 r.f3, .string r.f4, .int .i64 r.f5.f0, .int .i64 r.f5.f1, .int .i64 r.f6.f0, .int .i64 r.f6.f1, .slice A r.f7.length a], 27)] [(A2, a2, x.f7), (A, a, r.f7)]))
      case first =>
        by_cases q : x.f2 = 3
        case neg =>
          have dq : (x.f2 == 3) = false := beq_eq_false_iff_ne.mpr q
          have HC1 := Aside0.mk (HOK.out.2 q)
          clear q
          go_wp2_with fail
          go_meet
          case rel => exact ⟨told, s, rfl, HC1, S4⟩
        have dq : (x.f2 == 3) = true := beq_iff_eq.mpr q
        obtain ⟨hz1, hz2⟩ := HOK.out.1 q
        have HZ1 := Aside0.mk hz1
        have HZ2 := Aside0.mk (And.intro (fun h : x.f2 = 4 => (absurd (q.symm.trans h) (by decide) : true = false)) hz2)
        clear q hz1 hz2
        have y5 : w4.cell? ⟨gx, 5, none⟩ = some (.int .i64 x.f5.f0) := (blk_cell S4.out.bx0 5).trans rfl
        have y6 : w4.cell? ⟨gx, 6, none⟩ = some (.int .i64 x.f5.f1) := (blk_cell S4.out.bx0 6).trans rfl
        have s0_ : w4.cell? ⟨gs, 0, none⟩ = some (.int .i64 s.f0) := (blk_cell S4.out.bx1 0).trans rfl
        have s1_ : w4.cell? ⟨gs, 1, none⟩ = some (.int .i64 s.f1) := (blk_cell S4.out.bx1 1).trans rfl
        cases told
        case false =>
          go_upto_region 11 with fail
          go_upto_region 12 with ((refine wpList_store_row rfl 24 _ _ rfl gs _ (by rfl) (by rfl) _ _ S4.out.bx1 (by kernel_rfl) (by rfl) (by kernel_rfl) ?_))
          clear y5 y6 s0_ s1_ y2
          generalize hw : World.setRow _ _ _ = w9
          have S9 := Aside0.mk ((S4.out.put1 (by decide) _).gen hw)
          clear hw
          go_wp2_with fail
          go_meet
          case rel => exact ⟨true, x.f5, rfl, HZ2, S9⟩
        have he := HZ1.out rfl
        have f2 : (x.f5.f0 == s.f0) = true := beq_iff_eq.mpr (congrArg S24.f0 he)
        have f3 : (x.f5.f1 == s.f1) = true := beq_iff_eq.mpr (congrArg S24.f1 he)
        clear he
        go_upto_region 11 with fail
        go_upto_region 12 with ((refine wpList_store_row rfl 24 _ _ rfl gs _ (by rfl) (by rfl) _ _ S4.out.bx1 (by kernel_rfl) (by rfl) (by kernel_rfl) ?_))
        clear y5 y6 s0_ s1_ y2
        generalize hw : World.setRow _ _ _ = w9
        have S9 := Aside0.mk ((S4.out.put1 (by decide) _).gen hw)
        clear hw
        go_wp2_with fail
        go_meet
        case rel => exact ⟨true, x.f5, rfl, HZ2, S9⟩
      case rest =>
        obtain ⟨told1, s1, rfl, HC1, S5⟩ := hcut
        rename World => w5
        clear S4 y2
        go_upto_region 13 with fail
        go_cut [5, 48] (fun v5_ v_ wc => v5_ = .bool told1 ∧ v_ = .bool false ∧ Aside0 (Mem w wc [(gx, #[.int .i64 x.f0, .int .i64 x.f1, .int .i64 x.f2, .int .i64 x.f3, .string x.f4, .int .i64 x.f5.f0, .int .i64 x.f5.f1, .int .i64 x.f6.f0, .int .i64 x.f6.f1, .slice A2 x.f7.length a2], 27), (gs, #[.int .i64 s1.f0, .int .i64 s1.f1], 24), (g, #[.int .i64 r.f0, .int .i64 r.f1, .int .i64 r.f2, .int .i64 r.f3, .string r.f4, .int .i64 r.f5.f0, .int .i64 r.f5.f1, .int .i64 r.f6.f0, .int .i64 r.f6.f1, .slice A r.f7.length a], 27)] [(A2, a2, x.f7), (A, a, r.f7)]))
        case first =>
          have y2 : w5.cell? ⟨gx, 2, none⟩ = some (.int .i64 x.f2) := (blk_cell S5.out.bx0 2).trans rfl
          by_cases q : x.f2 = 4
          case neg =>
            have dq : (x.f2 == 4) = false := beq_eq_false_iff_ne.mpr q
            clear q
            go_wp2_with fail
            go_meet
            case rel => exact ⟨rfl, rfl, S5⟩
          have dq : (x.f2 == 4) = true := beq_iff_eq.mpr q
          have ht := HC1.out.1 q
          subst ht
          clear q
          go_wp2_with fail
          go_meet
          case rel => exact ⟨rfl, rfl, S5⟩
        case rest =>
          obtain ⟨rfl, rfl, S6⟩ := hcut
          rename World => w6
          clear S5
          by_cases q : e = 0
          case neg =>
            have dq : (e == 0) = false := beq_eq_false_iff_ne.mpr q
            have HI2 := Aside0.mk (HC1.out.2.2 q)
            clear q
            go_wp2_with fail
            go_roundg (100 - i)
            case measure => have h1 := HK.out; have h2 := HH2.out; omega
            case rel => exact ⟨has, told1, i + 1, r, s1, A, a, rfl, rfl, congrArg (Value.int .i64) (by first | exact HWR.out | rfl | omega), HI2, ⟨by have h1 := HK.out; have h2 := HH2.out; omega⟩, ⟨S6.out.sub (.cons _ (List.Sublist.refl _)) (fun r q => .tail _ q)⟩⟩
          have dq : (e == 0) = true := beq_iff_eq.mpr q
          have HI2 := Aside0.mk (HC1.out.2.1 q)
          clear q
          go_upto_region 16 with fail
          go_upto_region 17 with (first | (refine wpList_load_row rfl 27 _ rfl gx (by rfl) _ _ (0, 0) _ S6.out.bx0 Try.underlying27 rfl (by kernel_rfl) ?_) | (refine wpList_store_row rfl 27 _ _ rfl g _ (by rfl) (by rfl) _ _ S6.out.bx2 (by kernel_rfl) (by rfl) (by kernel_rfl) ?_))
          generalize hw : World.setRow _ _ _ = w9
          have S9 := Aside0.mk ((S6.out.put2 (by decide) _).gen hw)
          clear hw
          go_wp2_with fail
          go_roundg (100 - i)
          case measure => have h1 := HK.out; have h2 := HH2.out; omega
          case rel => exact ⟨true, told1, i + 1, x, s1, A2, a2, rfl, rfl, congrArg (Value.int .i64) (by first | exact HWR.out | rfl | omega), HI2, ⟨by have h1 := HK.out; have h2 := HH2.out; omega⟩, ⟨S9.out.sub (.cons _ (List.Sublist.refl _)) (fun r q => by simp only [List.mem_cons, List.not_mem_nil, or_false] at q ⊢; rcases q with rfl <;> simp)⟩⟩
def scriptoriumlaw20_RecordOne.Pure : Prop := ∀ (a0 : List (S33)), (a0.length ≤ maxLen ∧ a0.length * 296 ≤ 140737488351232 ∧ ∀ y0 ∈ a0, ((Lit.int .i64 y0.f0).wf = true ∧ (Lit.int .i64 y0.f1).wf = true ∧ (Lit.int .i64 y0.f2).wf = true ∧ True ∧ ((Lit.int .i64 y0.f4.f0).wf = true ∧ (Lit.int .i64 y0.f4.f1).wf = true ∧ (Lit.int .i64 y0.f4.f2).wf = true ∧ y0.f4.f3.size ≤ 140737488351232 ∧ ((Lit.int .i64 y0.f4.f4.f0).wf = true ∧ (Lit.int .i64 y0.f4.f4.f1).wf = true) ∧ ((Lit.int .i64 y0.f4.f5.f0).wf = true ∧ (Lit.int .i64 y0.f4.f5.f1).wf = true) ∧ ((Lit.int .i64 y0.f4.f6.f0).wf = true ∧ (Lit.int .i64 y0.f4.f6.f1).wf = true) ∧ ((Lit.int .i64 y0.f4.f7.f0).wf = true ∧ (Lit.int .i64 y0.f4.f7.f1).wf = true)) ∧ ((Lit.int .i64 y0.f5.f0).wf = true ∧ (Lit.int .i64 y0.f5.f1).wf = true ∧ (Lit.int .i64 y0.f5.f2).wf = true ∧ (Lit.int .i64 y0.f5.f3).wf = true ∧ y0.f5.f4.size ≤ 140737488351232 ∧ ((Lit.int .i64 y0.f5.f5.f0).wf = true ∧ (Lit.int .i64 y0.f5.f5.f1).wf = true) ∧ ((Lit.int .i64 y0.f5.f6.f0).wf = true ∧ (Lit.int .i64 y0.f5.f6.f1).wf = true) ∧ (y0.f5.f7.length ≤ maxLen ∧ y0.f5.f7.length * 24 ≤ 140737488351232 ∧ ∀ y1 ∈ y0.f5.f7, (y1.f0.size ≤ 140737488351232 ∧ (Lit.int .i64 y1.f1).wf = true))) ∧ (y0.f6.length ≤ maxLen ∧ y0.f6.length * 24 ≤ 140737488351232 ∧ ∀ y1 ∈ y0.f6, (y1.f0.size ≤ 140737488351232 ∧ (Lit.int .i64 y1.f1).wf = true)) ∧ ((Lit.int .i64 y0.f7.f0).wf = true ∧ (Lit.int .i64 y0.f7.f1).wf = true) ∧ ((Lit.int .i64 y0.f8.f0).wf = true ∧ (Lit.int .i64 y0.f8.f1).wf = true))) → ∃ k, scriptoriumlaw20_RecordOne.f k a0 = some true
theorem scriptoriumlaw20_RecordOne.walk (P : scriptoriumlaw20_RecordOne.Pure) (a0 : List (S33)) (A0 : Option Addr) (c0 : Nat) (w : World) (w0 : (a0.length ≤ maxLen ∧ a0.length * 296 ≤ 140737488351232 ∧ ∀ y0 ∈ a0, ((Lit.int .i64 y0.f0).wf = true ∧ (Lit.int .i64 y0.f1).wf = true ∧ (Lit.int .i64 y0.f2).wf = true ∧ True ∧ ((Lit.int .i64 y0.f4.f0).wf = true ∧ (Lit.int .i64 y0.f4.f1).wf = true ∧ (Lit.int .i64 y0.f4.f2).wf = true ∧ y0.f4.f3.size ≤ 140737488351232 ∧ ((Lit.int .i64 y0.f4.f4.f0).wf = true ∧ (Lit.int .i64 y0.f4.f4.f1).wf = true) ∧ ((Lit.int .i64 y0.f4.f5.f0).wf = true ∧ (Lit.int .i64 y0.f4.f5.f1).wf = true) ∧ ((Lit.int .i64 y0.f4.f6.f0).wf = true ∧ (Lit.int .i64 y0.f4.f6.f1).wf = true) ∧ ((Lit.int .i64 y0.f4.f7.f0).wf = true ∧ (Lit.int .i64 y0.f4.f7.f1).wf = true)) ∧ ((Lit.int .i64 y0.f5.f0).wf = true ∧ (Lit.int .i64 y0.f5.f1).wf = true ∧ (Lit.int .i64 y0.f5.f2).wf = true ∧ (Lit.int .i64 y0.f5.f3).wf = true ∧ y0.f5.f4.size ≤ 140737488351232 ∧ ((Lit.int .i64 y0.f5.f5.f0).wf = true ∧ (Lit.int .i64 y0.f5.f5.f1).wf = true) ∧ ((Lit.int .i64 y0.f5.f6.f0).wf = true ∧ (Lit.int .i64 y0.f5.f6.f1).wf = true) ∧ (y0.f5.f7.length ≤ maxLen ∧ y0.f5.f7.length * 24 ≤ 140737488351232 ∧ ∀ y1 ∈ y0.f5.f7, (y1.f0.size ≤ 140737488351232 ∧ (Lit.int .i64 y1.f1).wf = true))) ∧ (y0.f6.length ≤ maxLen ∧ y0.f6.length * 24 ≤ 140737488351232 ∧ ∀ y1 ∈ y0.f6, (y1.f0.size ≤ 140737488351232 ∧ (Lit.int .i64 y1.f1).wf = true)) ∧ ((Lit.int .i64 y0.f7.f0).wf = true ∧ (Lit.int .i64 y0.f7.f1).wf = true) ∧ ((Lit.int .i64 y0.f8.f0).wf = true ∧ (Lit.int .i64 y0.f8.f1).wf = true)))) (hr0 : Kd.C k33 w A0 a0.length a0) (hc0 : a0.length ≤ c0) :
  Calls Try.prog 7 #[.slice A0 a0.length c0] w fun e w' => e = .returned (.bool true) ∧ Below w.heap.size w w' := by
 obtain ⟨k, h⟩ := P a0 w0
 refine (scriptoriumlaw20_RecordOne.calls k A0 c0 a0 true w hr0 hc0 h rfl).mono ?_
 rintro e w' ⟨rfl, hd⟩
 exact ⟨rfl, hd⟩

end Go.Proofs.Ythdmkacnkdmbiaa.PRecordStaged
