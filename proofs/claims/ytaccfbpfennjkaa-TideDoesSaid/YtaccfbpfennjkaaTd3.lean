/- The tide (typed by hand): what its methods leave alone; forget. -/
import Derived.Test.YtaccfbpfennjkaaTd2
namespace Go.Proofs.Ytaccfbpfennjkaa.PTideDoes
open Go.RowKit Go.Proofs.YtaccfbpfennjkaaW.PrintWords Go.Proofs.YtaccfbpfennjkaaW.PrintLast Go.Proofs.YtaccfbpfennjkaaW.PrintMore
attribute [local go_sem] max2_int min2_int max_two min_two max_three min_three max_four min_four   -- for this text's walks alone
set_option linter.unusedVariables false
set_option linter.unusedSimpArgs false
/-- What a tide's method turns: its own block g, and rows of the type ty from block B on. -/
structure Tn (B : Nat) (g : Option Nat) (ty : Nat) (W W' : World) : Prop where
  os : W'.os = W.os
  tape : W'.tape = W.tape
  output : W'.output = W.output
  size : W.heap.size ≤ W'.heap.size
  keep : ∀ b, b < W.heap.size → (b < B ∨ (some b ≠ g ∧ ∀ cs fr, W.heap[b]? ≠ some (.cells cs ty fr))) → W'.heap[b]? = W.heap[b]?
theorem Tn.of_below {B : Nat} {g : Option Nat} {ty : Nat} {W W' : World} (h : Below W.heap.size W W') : Tn B g ty W W' := ⟨h.os, h.tape, h.output, h.size, fun b hb _ => h.block b hb⟩
theorem Tn.trans {B : Nat} {g : Option Nat} {ty : Nat} {a b c : World} (h : Tn B g ty a b) (k : Tn B g ty b c) : Tn B g ty a c :=
  ⟨k.os.trans h.os, k.tape.trans h.tape, k.output.trans h.output, Nat.le_trans h.size k.size, fun x hx hc => by
    have e := h.keep x hx hc
    refine (k.keep x (Nat.lt_of_lt_of_le hx h.size) ?_).trans e
    rcases hc with hc | ⟨h1, h2⟩
    · exact .inl hc
    · exact .inr ⟨h1, fun cs fr he => h2 cs fr (e ▸ he)⟩⟩
theorem Tn.below {B : Nat} {g : Option Nat} {ty : Nat} {W0 W W' : World} (h : Tn B g ty W W') (hb : Below B W0 W) (hs : B ≤ W.heap.size) : Below B W0 W' :=
  hb.trans ⟨h.os, h.tape, h.output, h.size, fun k hk => h.keep k (by omega) (.inl hk)⟩
theorem Tn.blk {B : Nat} {g : Option Nat} {ty : Nat} {W W' : World} (h : Tn B g ty W W') {b : Nat} {cs : Array Value} {t : TypeId} {fr : Nat × Nat} (hb : W.heap[b]? = some (.cells cs t fr)) (hg : some b ≠ g) (ht : t ≠ ty) : W'.heap[b]? = some (.cells cs t fr) :=
  (h.keep b (Array.getElem?_eq_some_iff.1 hb).1 (.inr ⟨hg, fun cs' fr' he => by
    rw [hb] at he
    injection he with he
    injection he with h1 h2
    exact ht h2⟩)).trans hb
theorem Tn.any {B g : Nat} {ty : Nat} {W W' : World} (h : Tn B none ty W W') : Tn B (some g) ty W W' := ⟨h.os, h.tape, h.output, h.size, fun b hb hc => h.keep b hb (hc.imp id (fun h => ⟨by simp, h.2⟩))⟩
theorem Tn.of_grown {B r : Nat} {g : Option Nat} {ty : Nat} {W W' : World} (h : W.grownBy W' (some r)) (hr : B ≤ r) {cs : Array Value} {fr : Nat × Nat} (hc : W.heap[r]? = some (.cells cs ty fr)) : Tn B g ty W W' :=
  ⟨h.os, h.tape, h.output, h.size, fun b hb hk => h.block b hb (by
    rintro e
    injection e with e
    subst e
    rcases hk with hk | ⟨_, hk⟩
    · omega
    · exact hk _ _ hc)⟩
theorem Tn.set {B g : Nat} {ty : Nat} {W : World} (hg : B ≤ g) (i : Nat) (v : Value) : Tn B (some g) ty W (W.setCell ⟨g, i, none⟩ v) :=
  ⟨rfl, rfl, rfl, by simp [World.setCell], fun b hb hk => Below.heap_setCell W _ v b (by
    rintro e
    rcases hk with hk | ⟨hk, _⟩
    · have : b = g := e
      omega
    · exact hk (congrArg some e))⟩
theorem Tn.row {B : Nat} {g : Option Nat} {ty : Nat} {W W' : World} {α : Type} {d : Kd α} {e base : Nat} {v : Value} {l : List α} (h : Tn B g ty W W') (hr : Kd.R d e W base (fun _ => True) v l) (hne : ∀ q, q ∈ e :: d.E → q ≠ ty) (hg : ∀ b cs q, some b = g → W.heap[b]? = some (.cells cs q (0, 0)) → q ∉ e :: d.E) : Kd.R d e W' base (fun _ => True) v l := by
  refine Kd.R_mono (Kd.R_step (Kd.R_bound hr) (fun k hk hlt => ?_)) (fun _ _ => trivial)
  obtain ⟨_, _, _, q, hq, cells, hc⟩ := hk
  refine h.keep k hlt (.inr ⟨fun e => hg k cells q e hc hq, fun cs fr he => ?_⟩)
  rw [hc] at he
  injection he with he
  injection he with h1 h2
  exact hne q hq h2
/-- A tide is not turned by what turns another one (its rows are of another type), nor by what makes memory. -/
theorem TdAt.turn {W0 W W' : World} {g : Nat} {t : Td S24} (h : TdAt W0 W g t) {g' : Option Nat} {ty : Nat} (hn : Tn W0.heap.size g' ty W W') (h1 : some g ≠ g') (h2 : ty ≠ 58) (h3 : ty ≠ 63) (h4 : ∀ b cs q, some b = g' → W.heap[b]? = some (.cells cs q (0, 0)) → q ≠ 63) : TdAt W0 W' g t := by
  obtain ⟨a1, a2, A, c, a3, a4⟩ := h
  refine ⟨hn.below a1 a1.size, a2, A, c, hn.blk a3 h1 (Ne.symm h2), hn.row a4 (fun q hq => ?_) (fun b cs q e he hq => ?_)⟩
  · have hq' : q ∈ [63] := hq
    rw [List.mem_singleton.1 hq']; exact Ne.symm h3
  · have hq' : q ∈ [63] := hq
    exact h4 b cs q e he (List.mem_singleton.1 hq')
theorem TdAt.lt {W0 W : World} {g : Nat} {t : Td S24} (h : TdAt W0 W g t) : g < W.heap.size := by
  obtain ⟨_, _, A, c, h3, _⟩ := h
  exact blk_lt h3
/-- That a read is forgotten. -/
def oldP (low : Int × Int) (x : Rd S24) : Bool := !decide (tlt low x.at_)
def DelPost2 (W0 W : World) (l : List (Rd S24)) (e : Ending) (w' : World) : Prop := ∃ (A : Option Addr) (c : Nat), e = .returned (.slice A l.length c) ∧ Kd.R k63 63 w' W0.heap.size (fun _ => True) (.slice A l.length c) l ∧ Tn W0.heap.size none 63 W w'
theorem first_hit (p : Rd S24 → Bool) : ∀ (l : List (Rd S24)), (∀ j, j < l.length → p (l.getD j z63) = false) ∨ ∃ k, k < l.length ∧ p (l.getD k z63) = true ∧ ∀ j, j < k → p (l.getD j z63) = false
  | [] => .inl (fun j hj => absurd hj (Nat.not_lt_zero _))
  | x :: l => by
    cases hx : p x with
    | true => exact .inr ⟨0, by simp, by simpa using hx, fun j hj => absurd hj (Nat.not_lt_zero _)⟩
    | false =>
      rcases first_hit p l with h | ⟨k, h1, h2, h3⟩
      · refine .inl (fun j hj => ?_)
        cases j with
        | zero => simpa using hx
        | succ j => simpa using h j (by simpa using hj)
      · refine .inr ⟨k + 1, by simpa using h1, by simpa using h2, fun j hj => ?_⟩
        cases j with
        | zero => simpa using hx
        | succ j => simpa using h3 j (by omega)
theorem filter_all (p : Rd S24 → Bool) (l : List (Rd S24)) (h : ∀ j, j < l.length → p (l.getD j z63) = false) : (l.filter fun x => !p x) = l := by
  rw [List.filter_eq_self]
  intro x hx
  obtain ⟨j, hj, rfl⟩ := List.getElem_of_mem hx
  have := h j hj
  rw [List.getD_eq_getElem?_getD, List.getElem?_eq_getElem hj] at this
  show (!p _) = true
  rw [show p l[j] = false from this]
  rfl
theorem forget_filter (low : Int × Int) (l : List (Rd S24)) : (l.filter fun x => !oldP low x) = l.filter (fun r => decide (tlt low r.at_)) := by
  refine List.filter_congr (fun x _ => ?_)
  unfold oldP
  rw [Bool.not_not]
theorem td_del (W0 W : World) (g b : Nat) (low : Int × Int) (cs : Array Value) (A : Option Addr) (c : Nat) (l : List (Rd S24)) (hb : W.heap[b]? = some (.cells #[.pointer (some ⟨g, 0, none⟩)] 26 (0, 0))) (hg : W.heap[g]? = some (.cells cs 58 (0, 0))) (h1 : cs[1]? = some (.int .i64 low.1)) (h2 : cs[2]? = some (.int .i64 low.2))
    (hr : Kd.R k63 63 W W0.heap.size (fun _ => True) (.slice A l.length c) l) (hs : W0.heap.size ≤ W.heap.size) :
    Calls Try.prog 46 #[.slice A l.length c, .func (.func 47) #[] #[.pointer (some ⟨b, 0, none⟩)]] W (DelPost2 W0 W (l.filter (fun r => decide (tlt low r.at_)))) := by
  have hp : ∀ (V : World) (x : Rd S24), V.heap[b]? = some (.cells #[.pointer (some ⟨g, 0, none⟩)] 26 (0, 0)) → V.heap[g]? = some (.cells cs 58 (0, 0)) → Calls Try.prog 47 #[rdv x, .pointer (some ⟨b, 0, none⟩)] V fun e w' => e = .returned (.bool (oldP low x)) ∧ Below V.heap.size V w' := fun V x q1 q2 => td_old low x b g cs V q1 q2 h1 h2
  rcases first_hit (oldP low) l with hall | ⟨k, k1, k2, k3⟩
  · have e := filter_all _ _ hall
    rw [forget_filter] at e
    refine (td_delete0 (oldP low) b A c l hall W (Kd.R_reads' hr).2.2 (fun V x hV => hp V x (td_kept hb hV) (td_kept hg hV))).mono ?_
    rintro e' w' ⟨rfl, hw⟩
    rw [e]
    exact ⟨A, c, rfl, Kd.R_below hr hw, Tn.of_below hw⟩
  · obtain ⟨r, cap, e, hbr, hlt, cells, hcell⟩ := Kd.R_form hr (by omega)
    injection e with e1 _ e2
    subst e1; subst e2
    have hne : ∀ (x : Nat) (cs' : Array Value) (q : TypeId), q ≠ 63 → W.heap[x]? = some (.cells cs' q (0, 0)) → some x ≠ some r := by
      rintro x cs' q hq hx e
      injection e with e
      subst e
      rw [hcell] at hx
      injection hx with hx
      injection hx with _ hx
      exact hq hx.symm
    refine (td_delete1 (oldP low) b r c k l k1 k2 k3 W W0.heap.size hs hr (fun V x hV => hp V x ((hV.block b (blk_lt hb) (hne b _ 26 (by decide) hb)).trans hb) ((hV.block g (blk_lt hg) (hne g _ 58 (by decide) hg)).trans hg))).mono ?_
    rintro e' w' ⟨rfl, hR, hG⟩
    rw [forget_filter] at hR ⊢
    exact ⟨_, c, rfl, hR, Tn.of_grown hG hbr hcell⟩
/-- What a method leaves: its answer, the tide anew, and what it did not turn. -/
def TdPost (W0 W : World) (g : Nat) (t : Td S24) (r : Ending) (e : Ending) (w' : World) : Prop := e = r ∧ TdAt W0 w' g t ∧ Tn W0.heap.size (some g) 63 W w'
theorem k63_ne {q : Nat} (h : q ∈ 63 :: k63.E) {t : Nat} (ht : t ≠ 63) : q ≠ t := by
  have hq' : q ∈ [63] := h
  rw [List.mem_singleton.1 hq']; exact Ne.symm ht
theorem td_set3 {W0 w3 : World} {g : Nat} {t : Td S24} {A A3 : Option Addr} {c c3 : Nat} {l3 : List (Rd S24)} (hb : Below W0.heap.size W0 w3) (hown : W0.heap.size ≤ g) (hG : w3.heap[g]? = some (.cells (t.cells A c) 58 (0, 0))) (hR : Kd.R k63 63 w3 W0.heap.size (fun _ => True) (.slice A3 l3.length c3) l3) :
    TdAt W0 (w3.setCell ⟨g, 3, none⟩ (.slice A3 l3.length c3)) g { low := t.low, l := l3 } :=
  ⟨hb.setCell (p := ⟨g, 3, none⟩) hown _, hown, A3, c3, blk_put (cs := t.cells A c) hG 3 _ rfl, Kd.R_set hR hG (fun q hq => k63_ne hq (by decide)) 3 _⟩
theorem td_set12 {W0 w3 : World} {g : Nat} {t : Td S24} {A : Option Addr} {c : Nat} (a : Int × Int) (hb : Below W0.heap.size W0 w3) (hown : W0.heap.size ≤ g) (hG : w3.heap[g]? = some (.cells (t.cells A c) 58 (0, 0))) (hR : Kd.R k63 63 w3 W0.heap.size (fun _ => True) (.slice A t.l.length c) t.l) :
    TdAt W0 ((w3.setCell ⟨g, 1, none⟩ (.int .i64 a.1)).setCell ⟨g, 2, none⟩ (.int .i64 a.2)) g { low := a, l := t.l } := by
  have h1 : (w3.setCell ⟨g, 1, none⟩ (.int .i64 a.1)).heap[g]? = some (.cells #[.bool true, .int .i64 a.1, .int .i64 t.low.2, .slice A t.l.length c] 58 (0, 0)) := blk_put (cs := t.cells A c) hG 1 _ rfl
  exact ⟨(hb.setCell (p := ⟨g, 1, none⟩) hown _).setCell (p := ⟨g, 2, none⟩) hown _, hown, A, c, blk_put h1 2 _ rfl, Kd.R_set (Kd.R_set hR hG (fun q hq => k63_ne hq (by decide)) 1 _) h1 (fun q hq => k63_ne hq (by decide)) 2 _⟩
set_option maxHeartbeats 16000000 in
set_option maxRecDepth 100000 in
theorem td_forget (W0 W : World) (g : Nat) (t : Td S24) (h : TdAt W0 W g t) : Calls Try.prog 36 #[.pointer (some ⟨g, 0, none⟩)] W (TdPost W0 W g t.forget (.returned (.tuple #[]))) := by
  obtain ⟨hw0, hown, A, c, hG, hR⟩ := h
  have HW0 := Aside0.mk hw0
  have HOWN := Aside0.mk hown
  have HG := Aside0.mk hG
  have HR := Aside0.mk hR
  clear hw0 hown hG hR
  go_enter Try.func36, Try.ntmps36
  go_upto_region 1 with fail
  generalize hw1 : World.alloc W _ = w1
  have HB1 := Aside0.mk (show Below W.heap.size W w1 from by rw [← hw1]; exact td_alloc W _)
  have HBn := Aside0.mk (show w1.heap[W.heap.size]? = some (.cells #[.pointer (some ⟨g, 0, none⟩)] 26 (0, 0)) from by rw [← hw1]; exact blk_new W _)
  have HNE := Aside0.mk (show W.heap.size ≠ g from (Nat.ne_of_lt (blk_lt HG.out)).symm)
  have HG1 := Aside0.mk (td_kept HG.out HB1.out)
  have HR1 := Aside0.mk (Kd.R_below HR.out HB1.out)
  have HN1 := Aside0.mk (Tn.of_below (B := W0.heap.size) (g := some g) (ty := 63) HB1.out)
  clear hw1 HB1 HG HR
  generalize W.heap.size = n at HBn HNE ⊢
  refine wp_region_noPanic ?_
  refine wp_region_held_drew (S := (fun V => V.cell? ⟨n, 0, none⟩ = some (.pointer (some ⟨g, 0, none⟩)))) (by kernel_rfl) ((blk_cell (td_kept HBn.out (below_drew1 (Below.refl _ _))) 0).trans rfl) (fun hHeld => ?_)
  generalize hwd : World.drew _ = wd at hHeld ⊢
  have hbd : Below w1.heap.size w1 wd := by rw [← hwd]; exact below_drew1 (Below.refl _ _)
  have HBd := Aside0.mk (td_kept HBn.out hbd)
  have HGd := Aside0.mk (td_kept HG1.out hbd)
  have HRd := Aside0.mk (Kd.R_below HR1.out hbd)
  have HNd := Aside0.mk (HN1.out.trans (Tn.of_below hbd))
  have HSd := Aside0.mk (Nat.le_trans HW0.out.size HNd.out.size)
  clear hwd hbd
  refine wpAnyH_take (i := 0) (oi := ⟨some 2, _, _, _, _, none⟩) (v := ?v0_1) rfl (by kernel_rfl) (by kernel_rfl) (by kernel_rfl) (fun _ _ _ h => h) (Or.inl ⟨by rfl, ?hy0_1⟩) (by with_reducible assumption) ?rest0_1
  case hy0_1 => (intro V_ hSw; (try dsimp only at hSw); go_simp; (try with_reducible rfl))
  case' rest0_1 => skip
  try simp only [Act.put, List.setIfInBounds_toArray, List.set_cons_zero, List.set_cons_succ]
  refine wpAnyH_take (i := 1) (oi := ⟨some 3, _, _, _, _, none⟩) (v := ?v1_2) rfl (by kernel_rfl) (by kernel_rfl) (by kernel_rfl) (fun _ _ _ h => h) (Or.inl ⟨by rfl, ?hy1_2⟩) (by with_reducible assumption) ?rest1_2
  case hy1_2 => (intro V_ hSw; (try dsimp only at hSw); go_simp; (try with_reducible rfl))
  case' rest1_2 => skip
  try simp only [Act.put, List.setIfInBounds_toArray, List.set_cons_zero, List.set_cons_succ]
  refine wpAnyH_take (i := 2) (oi := ⟨some 4, _, _, _, _, none⟩) (v := ?v2_3) rfl (by kernel_rfl) (by kernel_rfl) (by kernel_rfl) (fun _ _ _ h => h) (Or.inl ⟨by rfl, ?hy2_3⟩) (by with_reducible assumption) ?rest2_3
  case hy2_3 => (intro V_ hSw; (try dsimp only at hSw); go_simp; (try with_reducible rfl))
  case' rest2_3 => skip
  try simp only [Act.put, List.setIfInBounds_toArray, List.set_cons_zero, List.set_cons_succ]
  refine wpAnyH_take (i := 3) (oi := ⟨some 5, _, _, _, _, none⟩) (v := ?v3_4) rfl (by kernel_rfl) (by kernel_rfl) (by kernel_rfl) (fun _ _ _ h => h) (Or.inl ⟨by rfl, ?hy3_4⟩) (by with_reducible assumption) ?rest3_4
  case hy3_4 => (intro V_ hSw; (try dsimp only at hSw); go_simp; (try with_reducible rfl))
  case' rest3_4 => skip
  try simp only [Act.put, List.setIfInBounds_toArray, List.set_cons_zero, List.set_cons_succ]
  refine wpAnyH_take (i := 5) (oi := ⟨some 7, _, _, _, _, none⟩) (v := ?v5_5) rfl (by kernel_rfl) (by kernel_rfl) (by kernel_rfl) (fun _ _ _ h => h) (Or.inl ⟨by rfl, ?hy5_5⟩) (by with_reducible assumption) ?rest5_5
  case hy5_5 => (intro V_ hSw; (try dsimp only at hSw); go_simp; (try with_reducible rfl))
  case' rest5_5 => skip
  try simp only [Act.put, List.setIfInBounds_toArray, List.set_cons_zero, List.set_cons_succ]
  refine wpAnyH_ready (rs := [4]) (by kernel_rfl) (by simp) ?_
  refine AllReadyH.cons (o := ⟨some 6, _, _, _, _, none⟩) rfl (fun K hK => ?_) ?_
  · have x3 : wd.cell? ⟨g, 3, none⟩ = some (.slice A t.l.length c) := (blk_cell HGd.out 3).trans rfl
    go_simp
    clear x3
    refine hK.out _ _ hHeld (fun hHeld => ?_)
    clear hK K
    try simp only [Act.put, List.setIfInBounds_toArray, List.set_cons_zero, List.set_cons_succ]
    refine wpAnyH_ready (rs := [6]) (by kernel_rfl) (by simp) ?_
    refine AllReadyH.cons (o := ⟨some 8, _, _, _, _, none⟩) rfl (fun K hK => ?_) ?_
    · go_simp
      refine (td_del W0 wd g n t.low _ A c t.l HBd.out HGd.out rfl rfl HRd.out HSd.out).mono ?_
      rintro e w3 ⟨A3, c3, rfl, hr3, hn3⟩
      have HR3 := Aside0.mk hr3
      have HN3 := Aside0.mk hn3
      clear hr3 hn3
      have HG3 := Aside0.mk (HN3.out.blk HGd.out (by simp) (by decide))
      have HB3 := Aside0.mk (HN3.out.blk HBd.out (by simp) (by decide))
      refine hK.out _ _ ((blk_cell HB3.out 0).trans rfl) (fun hHeld => ?_)
      clear hK K
      try simp only [Act.put, List.setIfInBounds_toArray, List.set_cons_zero, List.set_cons_succ]
      refine wpAnyH_take (i := 7) (oi := ⟨some 9, _, _, _, _, none⟩) (v := ?v7_6) rfl (by kernel_rfl) (by kernel_rfl) (by kernel_rfl) (fun _ _ _ h => h) (Or.inl ⟨by rfl, ?hy7_6⟩) (by with_reducible assumption) ?rest7_6
      case hy7_6 => (intro V_ hSw; (try dsimp only at hSw); go_simp; (try with_reducible rfl))
      case' rest7_6 => skip
      try simp only [Act.put, List.setIfInBounds_toArray, List.set_cons_zero, List.set_cons_succ]
      refine wpAnyH_take (i := 8) (oi := ⟨some 10, _, _, _, _, none⟩) (v := ?v8_7) rfl (by kernel_rfl) (by kernel_rfl) (by kernel_rfl) (fun _ _ _ h => h) (Or.inl ⟨by rfl, ?hy8_7⟩) (by with_reducible assumption) ?rest8_7
      case hy8_7 => (intro V_ hSw; (try dsimp only at hSw); go_simp; (try with_reducible rfl))
      case' rest8_7 => skip
      try simp only [Act.put, List.setIfInBounds_toArray, List.set_cons_zero, List.set_cons_succ]
      refine wpAnyH_ready (rs := [9]) (by kernel_rfl) (by simp) ?_
      refine AllReadyH.cons (o := ⟨none, _, _, _, _, none⟩) rfl (fun K hK => ?_) ?_
      · have y3 : w3.cell? ⟨g, 3, none⟩ = some (.slice A t.l.length c) := (blk_cell HG3.out 3).trans rfl
        have f3 := blk_frozen HG3.out 3
        go_simp
        clear y3 f3
        refine hK.out _ _ ((blk_cell (blk_far HB3.out (p := ⟨g, 3, none⟩) HNE.out _) 0).trans rfl) (fun hHeld => ?_)
        clear hK K
        try simp only [Act.put, List.setIfInBounds_toArray, List.set_cons_zero, List.set_cons_succ]
        refine wpAnyH_done (by kernel_rfl) ?_ _
        refine NoPanic.normal ?_
        go_wp2
        go_end0
        exact ⟨rfl, td_set3 ((HNd.out.trans HN3.out.any).below HW0.out HW0.out.size) HOWN.out HG3.out HR3.out, (HNd.out.trans HN3.out.any).trans (Tn.set HOWN.out 3 _)⟩
      exact AllReadyH.nil
    exact AllReadyH.nil
  exact AllReadyH.nil
end Go.Proofs.Ytaccfbpfennjkaa.PTideDoes

