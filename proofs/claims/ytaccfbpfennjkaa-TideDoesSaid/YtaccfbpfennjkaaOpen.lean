/- What a law's arguments read as, opened down to the rows that the printed walks speak of: any nesting of whole numbers, bools, texts, structs and slices. With what the row's weights and its bulk tell. -/
import Derived.Test.YtaccfbpfennjkaaRows
import Derived.Test.YtaccfbpfennjkaaWMore
import Derived.Deep.Slices
import Derived.SizedLaws
import Derived.OpenShut
import Derived.WideShapes
import Derived.JoinedCond
import Derived.Deep.CondSized
set_option linter.unusedVariables false
set_option linter.unusedSimpArgs false
namespace Go.Proofs.Ytaccfbpfennjkaa
open Go.RowKit Go.Proofs.YtaccfbpfennjkaaW.PrintWords Go.ChangeShapes Go.WideShapes
/-- Whatever reads at a type is a value of this kind; with what holds of it, and how much there is of it. -/
def Opn {H α : Type} (enc : TypeId × Value → H) (P : Program) (t : TypeId) (d : Kd α) (wf : α → Prop) (mu : α → Nat) : Prop :=
  ∀ (W : World) (fuel : Nat) (cs : List Value) (x : DataW H × List MemPlace), DataW.trod enc P W 0 (fun _ => true) true fuel t cs = some x → (∀ b ∈ DataW.weights P t x.1, b ≤ reachBytes) → ∃ a, d.K W a cs ∧ wf a ∧ mu a ≤ Rows.uptoBulk x.1
section
variable {H : Type} {enc : TypeId × Value → H} {P : Program} {t : TypeId}
theorem opn_int {k : IntKind} (hu : P.underlying t = some (.int k)) : Opn enc P t (Kd.int k) (fun a => (Lit.int k a).wf = true) (fun _ => 1) := by
  intro W fuel cs x h _
  obtain ⟨n, rfl, rfl, hw⟩ := DataW.trod_int hu h
  exact ⟨n, rfl, hw, Nat.le_refl _⟩
theorem opn_bool (hu : P.underlying t = some .bool) : Opn enc P t Kd.bool (fun _ => True) (fun _ => 1) := by
  intro W fuel cs x h _
  obtain ⟨n, rfl, rfl⟩ := DataW.trod_bool hu h
  exact ⟨n, rfl, trivial, Nat.le_refl _⟩
theorem opn_string (hu : P.underlying t = some .string) : Opn enc P t Kd.string (fun s => s.size ≤ 140737488351232) (fun s => s.size + 1) := by
  intro W fuel cs x h hw
  obtain ⟨s, rfl, rfl, _⟩ := DataW.trod_string hu h
  have h1 := hw s.data.toList.length (by simp [DataW.weights])
  have e : s.data.toList.length = s.size := by rw [Array.length_toList]; rfl
  rw [e] at h1
  refine ⟨s, rfl, h1, ?_⟩
  show _ ≤ Rows.uptoBulk (DataW.lit (.string s.data.toList))
  unfold Rows.uptoBulk
  rw [e]
  exact Nat.le_refl _
theorem weights_all {e : TypeId} {l : List (DataW H)} {d : DataW H} (h : d ∈ l) : ∀ b ∈ DataW.weights P e d, b ∈ DataW.weightsAll P e l := by
  induction l with
  | nil => cases h
  | cons x r ih =>
    intro b hb
    unfold DataW.weightsAll
    rw [List.mem_append]
    rcases List.mem_cons.1 h with rfl | h
    · exact .inl hb
    · exact .inr (ih h b hb)
theorem bulkAll_map {α : Type} (mu : α → Nat) (l : List α) (D : Nat → DataW H) (hD : ∀ i a, l[i]? = some a → mu a ≤ Rows.uptoBulk (D i)) : ∀ (n : Nat), n ≤ l.length → ((l.take n).map mu).sum ≤ Rows.uptoBulkAll ((List.range n).map D) := by
  intro n
  induction n with
  | zero => intro _; exact Nat.zero_le _
  | succ n ih =>
    intro hn
    have h := ih (by omega)
    have ha : ∀ (a b : List (DataW H)), Rows.uptoBulkAll (a ++ b) = Rows.uptoBulkAll a + Rows.uptoBulkAll b := by
      intro a b
      induction a with
      | nil => simp [Rows.uptoBulkAll]
      | cons x a ih => simp only [List.cons_append, Rows.uptoBulkAll, ih]; omega
    rw [List.take_succ_eq_append_getElem (by omega), List.range_succ, List.map_append, List.map_append, List.sum_append, ha]
    have h1 := hD n _ (List.getElem?_eq_getElem (by omega))
    have e : Rows.uptoBulkAll (List.map D [n]) = Rows.uptoBulk (D n) + 0 := rfl
    rw [e]
    simp only [List.map_cons, List.map_nil, List.sum_cons, List.sum_nil]
    omega
theorem opn_slice {α : Type} {e : TypeId} {d : Kd α} {wf : α → Prop} {mu : α → Nat} {B : Nat} (hu : P.underlying t = some (.slice e)) (z : α) (hc : P.cellsOf e = d.sz) (hB : P.bytesOf e = B) (h : Opn enc P e d wf mu) :
    Opn enc P t (Kd.slice e d) (fun l => l.length ≤ maxLen ∧ l.length * B ≤ 140737488351232 ∧ ∀ a ∈ l, wf a) (fun l => (l.map mu).sum + 1) := by
  intro W fuel cs x hx hw
  rcases Deep.open_slice hu hx with ⟨rfl, rfl⟩ | ⟨a, len, cap, m, n, D, Pl, rfl, _, hl, hm, hmm, rfl, hel⟩
  · exact ⟨[], ⟨none, 0, rfl, Nat.le_refl _, rfl, Nat.zero_le _, fun h => absurd h (Nat.lt_irrefl 0)⟩, ⟨Nat.zero_le _, by simp, fun a ha => by cases ha⟩, Nat.le_refl _⟩
  · have hmc : m = cap := hmm
    subst hmc
    haveI : Inhabited α := ⟨z⟩
    have hww : ∀ i, i < len → ∀ b ∈ DataW.weights P e (D i), b ≤ reachBytes := by
      intro i hi b hb
      refine hw b ?_
      show b ∈ DataW.weights P t (DataW.slice _ _)
      unfold DataW.weights
      rw [hu]
      refine List.mem_cons_of_mem _ (List.mem_append_left _ ?_)
      exact weights_all (List.mem_map.2 ⟨i, List.mem_range.2 hi, rfl⟩) b hb
    obtain ⟨L, hL⟩ := Deep.choose_lt (α := α) (n := len) (p := fun i y => ∃ cs', W.cells? 0 (a.add (i * P.cellsOf e)) (P.cellsOf e) = some cs' ∧ d.K W y cs' ∧ wf y ∧ mu y ≤ Rows.uptoBulk (D i)) (fun i hi => by
      obtain ⟨cs', h1, h2⟩ := hel i (by omega)
      obtain ⟨y, h3, h4, h5⟩ := h W n cs' _ h2 (hww i hi)
      exact ⟨y, cs', h1, h3, h4, h5⟩)
    have hlen : ((List.range len).map L).length = len := by simp
    have hget : ∀ (j : Nat) p, ((List.range len).map L)[j]? = some p → j < len ∧ p = L j := by
      intro j p hj
      rw [List.getElem?_map] at hj
      by_cases hjl : j < len
      · rw [List.getElem?_range hjl] at hj
        exact ⟨hjl, (Option.some.inj hj).symm⟩
      · rw [List.getElem?_eq_none (by simpa using hjl)] at hj
        cases hj
    refine ⟨(List.range len).map L, ⟨some a, m, by rw [hlen], by rw [hlen]; exact hl, ?_⟩, ⟨by rw [hlen]; omega, ?_, ?_⟩, ?_⟩
    · rw [hlen]
      refine ⟨hlen, Nat.le_trans hl (Nat.le_trans hm (by decide)), fun _ => ⟨a, rfl, fun j p hj => ?_⟩⟩
      obtain ⟨hjl, rfl⟩ := hget j p hj
      obtain ⟨cs', h1, h3, _⟩ := hL j hjl
      refine ⟨cs', d.K_len h3, h3, fun i u hi => ?_⟩
      obtain ⟨_, hlen2, hcell⟩ := World.cells?_some h1
      have hil : i < P.cellsOf e := by
        have := (List.getElem?_eq_some_iff.1 hi).1
        omega
      have h4 := hcell i hil
      rw [← hc, ← Deep.add_add, h4, hi]
    · rw [hlen]
      have h1 := hw ((len + (m - len)) * P.bytesOf e) (by
        show _ ∈ DataW.weights P t (DataW.slice _ _)
        unfold DataW.weights
        rw [hu]
        refine List.mem_cons.2 (.inl ?_)
        simp)
      rw [hB] at h1
      have h2 : len * B ≤ (len + (m - len)) * B := Nat.mul_le_mul_right _ (by omega)
      exact Nat.le_trans h2 h1
    · intro y hy
      obtain ⟨i, hi, rfl⟩ := List.mem_map.1 hy
      obtain ⟨_, _, _, h4, _⟩ := hL i (List.mem_range.1 hi)
      exact h4
    · show _ ≤ Rows.uptoBulk (DataW.slice _ _)
      have h1 := bulkAll_map mu ((List.range len).map L) D (fun i y hi => by
        obtain ⟨hjl, rfl⟩ := hget i y hi
        obtain ⟨_, _, _, _, h5⟩ := hL i hjl
        exact h5) len (by rw [hlen]; exact Nat.le_refl _)
      rw [List.take_of_length_le (by rw [hlen]; exact Nat.le_refl _)] at h1
      unfold Rows.uptoBulk
      show (List.map mu (List.map L (List.range len))).sum + 1 ≤ _
      omega
/-- The fields of a struct, from one on. -/
def OpnF {H β : Type} (enc : TypeId × Value → H) (P : Program) (fs : List Field) (off N : Nat) (d : Kd β) (wf : β → Prop) (mu : β → Nat) : Prop :=
  ∀ (W : World) (n : Nat) (cs : List Value) (xs : List (DataW H × List MemPlace)), cs.length = N → xs.length = fs.length →
    (∀ (i : Nat) (f : Field), fs[i]? = some f → DataW.trod enc P W 0 (fun _ => true) true n f.type ((cs.drop f.offset).take (P.cellsOf f.type)) = xs[i]?) →
    (∀ b ∈ DataW.weightsEach P (fs.map (·.type)) (xs.map (·.1)), b ≤ reachBytes) → ∃ b, d.K W b (cs.drop off) ∧ wf b ∧ mu b ≤ Rows.uptoBulkAll (xs.map (·.1))
theorem opnF_one {β : Type} {f : Field} {off N : Nat} {d : Kd β} {wf : β → Prop} {mu : β → Nat} (ho : f.offset = off) (hs : P.cellsOf f.type = d.sz) (hN : N = off + d.sz) (h : Opn enc P f.type d wf mu) : OpnF enc P [f] off N d wf mu := by
  intro W n cs xs hl hx hf hw
  match xs, hx with
  | [y], _ =>
    have h0 := hf 0 f rfl
    rw [ho, hs, List.take_of_length_le (by rw [List.length_drop]; omega)] at h0
    obtain ⟨b, h1, h2, h3⟩ := h W n _ y h0 (fun b hb => hw b (DataW.weights_mem_each (j := 0) rfl rfl b hb))
    refine ⟨b, h1, h2, ?_⟩
    show mu b ≤ Rows.uptoBulkAll [y.1]
    unfold Rows.uptoBulkAll
    omega
theorem opnF_cons {α β : Type} {f : Field} {fs : List Field} {off N : Nat} {d1 : Kd α} {d2 : Kd β} {wf1 : α → Prop} {mu1 : α → Nat} {wf2 : β → Prop} {mu2 : β → Nat} (ho : f.offset = off) (hs : P.cellsOf f.type = d1.sz)
    (h1 : Opn enc P f.type d1 wf1 mu1) (h2 : OpnF enc P fs (off + d1.sz) N d2 wf2 mu2) : OpnF enc P (f :: fs) off N (Kd.pair d1 d2) (fun p => wf1 p.1 ∧ wf2 p.2) (fun p => mu1 p.1 + mu2 p.2) := by
  intro W n cs xs hl hx hf hw
  match xs, hx with
  | y :: ys, hx =>
    have h0 := hf 0 f rfl
    rw [ho, hs] at h0
    obtain ⟨a, q1, q2, q3⟩ := h1 W n _ y h0 (fun b hb => hw b (DataW.weights_mem_each (j := 0) rfl rfl b hb))
    obtain ⟨b, r1, r2, r3⟩ := h2 W n cs ys hl (by simpa using hx) (fun i g hg => hf (i + 1) g hg) (fun b hb => hw b (by
      show b ∈ DataW.weightsEach P (f.type :: fs.map (·.type)) (y.1 :: ys.map (·.1))
      unfold DataW.weightsEach
      exact List.mem_append_right _ hb))
    refine ⟨(a, b), ⟨(cs.drop off).take d1.sz, cs.drop (off + d1.sz), ?_, q1, r1⟩, ⟨q2, r2⟩, ?_⟩
    · rw [← List.drop_drop, List.take_append_drop]
    · show mu1 a + mu2 b ≤ Rows.uptoBulkAll (y.1 :: ys.map (·.1))
      unfold Rows.uptoBulkAll
      omega
theorem opn_struct {α β : Type} {fs : Array Field} {N : Nat} {d : Kd β} {wf : β → Prop} {mu : β → Nat} {f : α → β} (hu : P.underlying t = some (.struct fs)) (hN : P.cellsOf t = N) (h : OpnF enc P fs.toList 0 N d wf mu)
    (g : β → α) (hfg : ∀ b, f (g b) = b) : Opn enc P t (Kd.iso d f) (fun a => wf (f a)) (fun a => mu (f a) + 1) := by
  intro W fuel cs x hx hw
  obtain ⟨xs, n, _, rfl, hl, hlen, hf⟩ := DataW.trod_struct hu hx
  obtain ⟨b, h1, h2, h3⟩ := h W n cs xs (hl.trans hN) (by rw [hlen]; simp) (fun i f hi => hf i f (by rw [← hi]; simp)) (fun b hb => hw b (by
    show b ∈ DataW.weights P t (DataW.agg _)
    unfold DataW.weights
    rw [hu]
    exact hb))
  rw [List.drop_zero] at h1
  refine ⟨g b, ?_, ?_, ?_⟩
  · show d.K W (f (g b)) cs
    rw [hfg]; exact h1
  · show wf (f (g b))
    rw [hfg]; exact h2
  · show mu (f (g b)) + 1 ≤ Rows.uptoBulk (DataW.agg _)
    rw [hfg]
    unfold Rows.uptoBulk
    omega
/-- A struct that comes in. -/
theorem opn_agg {α : Type} {fs : Array Field} {d : Kd α} {wf : α → Prop} {mu : α → Nat} {W : World} {base : Nat} {r : Reach} {v : Value} {x : DataW H} {ps : List MemPlace} (hu : P.underlying t = some (.struct fs)) (ho : Opn enc P t d wf mu)
    (hv : Value.okWide P W r base t v) (h : DataW.Trod enc P W 0 (fun _ => true) true t v x ps) (hw : ∀ b ∈ DataW.weights P t x, b ≤ reachBytes) : ∃ a cs, v = .agg cs ∧ d.K W a cs.toList ∧ wf a ∧ mu a ≤ Rows.uptoBulk x := by
  obtain ⟨cs, rfl, _⟩ := okWide_struct hu hv
  obtain ⟨fuel, hf⟩ := h
  have e : (Value.agg cs).cells.toList = cs.toList := by simp [Value.cells]
  rw [e] at hf
  obtain ⟨a, h1, h2, h3⟩ := ho W fuel _ _ hf hw
  exact ⟨a, cs, rfl, h1, h2, h3⟩
theorem weights_same {e : TypeId} : ∀ (ts : List TypeId) (ds : List (DataW H)), (∀ t ∈ ts, t = e) → ∀ b ∈ DataW.weightsEach P ts ds, b ∈ DataW.weightsAll P e ds
  | [], _, _, b, hb => by simp [DataW.weightsEach] at hb
  | _ :: _, [], _, b, hb => by simp [DataW.weightsEach] at hb
  | t :: ts, d :: ds, h, b, hb => by
    obtain rfl : t = e := h t (List.mem_cons_self ..)
    unfold DataW.weightsEach at hb
    unfold DataW.weightsAll
    rcases List.mem_append.1 hb with hb | hb
    · exact List.mem_append_left _ hb
    · exact List.mem_append_right _ (weights_same ts ds (fun t' ht' => h t' (List.mem_cons_of_mem _ ht')) b hb)
/-- An array of a few elements, told as a struct. -/
theorem opn_arr {α β : Type} {e : TypeId} {n c : Nat} {fs : List Field} {N : Nat} {d : Kd β} {wf : β → Prop} {mu : β → Nat} {f : α → β} (hu : P.underlying t = some (.array n e)) (hN : P.cellsOf t = N) (hc : P.cellsOf e = c) (hl : fs.length = n)
    (hfs : ∀ (i : Nat) (g : Field), fs[i]? = some g → g.type = e ∧ g.offset = i * c) (h : OpnF enc P fs 0 N d wf mu)
    (g : β → α) (hfg : ∀ b, f (g b) = b) : Opn enc P t (Kd.iso d f) (fun a => wf (f a)) (fun a => mu (f a) + 1) := by
  intro W fuel cs x hx hw
  obtain ⟨xs, m, _, rfl, hlc, hlen, hf⟩ := DataW.trod_array hu hx
  obtain ⟨b, h1, h2, h3⟩ := h W m cs xs (hlc.trans hN) (by rw [hlen, hl]) (fun i q hi => by
    obtain ⟨ht, ho⟩ := hfs i q hi
    have hin : i < n := by rw [← hl]; exact (List.getElem?_eq_some_iff.1 hi).1
    rw [ht, ho, ← hc]
    exact hf i hin) (fun b hb => hw b (by
    show b ∈ DataW.weights P t (DataW.agg _)
    unfold DataW.weights
    rw [hu]
    refine weights_same _ _ (fun t' ht' => ?_) b hb
    obtain ⟨q, hq, rfl⟩ := List.mem_map.1 ht'
    obtain ⟨i, hi⟩ := List.getElem?_of_mem hq
    exact (hfs i q hi).1))
  rw [List.drop_zero] at h1
  refine ⟨g b, ?_, ?_, ?_⟩
  · show d.K W (f (g b)) cs
    rw [hfg]; exact h1
  · show wf (f (g b))
    rw [hfg]; exact h2
  · show mu (f (g b)) + 1 ≤ Rows.uptoBulk (DataW.agg _)
    rw [hfg]
    unfold Rows.uptoBulk
    omega
theorem okWide_array {W : World} {base : Nat} {r : Reach} {v : Value} {n : Nat} {e : TypeId} (ht : P.underlying t = some (.array n e)) (h : Value.okWide P W r base t v) : ∃ cs, v = .agg cs ∧ cs.size = P.cellsOf t := by
  simp only [Value.okWide, ht] at h
  obtain ⟨cs, h1, h2, _⟩ := h
  exact ⟨cs, h1, h2⟩
/-- An array that comes in. -/
theorem opn_aggA {α : Type} {n : Nat} {e : TypeId} {d : Kd α} {wf : α → Prop} {mu : α → Nat} {W : World} {base : Nat} {r : Reach} {v : Value} {x : DataW H} {ps : List MemPlace} (hu : P.underlying t = some (.array n e)) (ho : Opn enc P t d wf mu)
    (hv : Value.okWide P W r base t v) (h : DataW.Trod enc P W 0 (fun _ => true) true t v x ps) (hw : ∀ b ∈ DataW.weights P t x, b ≤ reachBytes) : ∃ a cs, v = .agg cs ∧ d.K W a cs.toList ∧ wf a ∧ mu a ≤ Rows.uptoBulk x := by
  obtain ⟨cs, rfl, _⟩ := okWide_array hu hv
  obtain ⟨fuel, hf⟩ := h
  have e : (Value.agg cs).cells.toList = cs.toList := by simp [Value.cells]
  rw [e] at hf
  obtain ⟨a, h1, h2, h3⟩ := ho W fuel _ _ hf hw
  exact ⟨a, cs, rfl, h1, h2, h3⟩
/-- A slice that comes in. -/
theorem opn_row {α : Type} {e : TypeId} {d : Kd α} {wf : List α → Prop} {mu : List α → Nat} {W : World} {base : Nat} {r : Reach} {v : Value} {x : DataW H} {ps : List MemPlace} (hu : P.underlying t = some (.slice e)) (ho : Opn enc P t (Kd.slice e d) wf mu)
    (hv : Value.okWide P W r base t v) (h : DataW.Trod enc P W 0 (fun _ => true) true t v x ps) (hw : ∀ b ∈ DataW.weights P t x, b ≤ reachBytes) :
    ∃ l A c, v = .slice A l.length c ∧ Kd.C d W A l.length l ∧ l.length ≤ c ∧ wf l ∧ mu l ≤ Rows.uptoBulk x := by
  obtain ⟨a, len, cap, rfl⟩ := okWide_slice hu hv
  obtain ⟨fuel, hf⟩ := h
  have e : (Value.slice a len cap).cells.toList = [.slice a len cap] := by simp [Value.cells]
  rw [e] at hf
  obtain ⟨l, ⟨A, c, h1, h2, h3⟩, h4, h5⟩ := ho W fuel _ _ hf hw
  have h1 := (List.cons.inj h1).1
  exact ⟨l, A, c, h1, h3, h2, h4, h5⟩
theorem weights_of {ts : List TypeId} {ds : List (DataW H)} {j : Nat} {t : TypeId} {d : DataW H} (h : (DataW.weightsEach P ts ds).all (· ≤ reachBytes) = true) (ht : ts[j]? = some t) (hd : ds[j]? = some d) : ∀ b ∈ DataW.weights P t d, b ≤ reachBytes := by
  intro b hb
  have := List.all_eq_true.1 h _ (DataW.weights_mem_each ht hd b hb)
  simpa using this
/-- The bound, as the second form hands it over. -/
theorem bulk_of {l : List (DataW H)} (hk : Rows.uptoSmall H l = true) : Rows.uptoBulkAll l ≤ 1048576 := of_decide_eq_true hk
end
end Go.Proofs.Ytaccfbpfennjkaa
