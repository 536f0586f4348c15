/- The document's tide (typed by hand): its small functions, forget, Raise. -/
import Derived.Test.YtaccfbpfennjkaaTd8
import Derived.Sort.Walk0
namespace Go.Proofs.Ytaccfbpfennjkaa.PTideDoes
open Go.RowKit Go.Proofs.YtaccfbpfennjkaaW.PrintWords Go.Proofs.YtaccfbpfennjkaaW.PrintLast Go.Proofs.YtaccfbpfennjkaaW.PrintMore
attribute [local go_sem] max2_int min2_int max_two min_two max_three min_three max_four min_four   -- for this text's walks alone
set_option linter.unusedVariables false
set_option linter.unusedSimpArgs false
theorem rl_chk (a : Int × Int) (w : World) : Calls Try.prog 37 #[.agg #[.int .i64 a.1, .int .i64 a.2]] w fun e w' => e = .returned (.int .i64 (if sok a = true then 0 else 9)) ∧ Below w.heap.size w w' := (scriptoriumref05_Check.calls a.1 a.2 _ w (check_td a)).mono fun e w' ⟨h1, h2⟩ => ⟨h1, h2⟩
theorem rless_f (a b : Int × Int) : scriptoriumref05_Less.f a.1 a.2 b.1 b.2 = some (decide (tlt a b)) := by
  unfold scriptoriumref05_Less.f
  by_cases h1 : a.1 < b.1
  · rw [if_pos h1, decide_eq_true (show tlt a b from .inl h1)]
  · rw [if_neg h1]
    by_cases h2 : a.1 = b.1
    · rw [if_pos h2]
      refine congrArg some ?_
      rw [Bool.eq_iff_iff, decide_eq_true_iff, decide_eq_true_iff]
      unfold tlt
      omega
    · rw [if_neg h2, decide_eq_false (show ¬ tlt a b from by unfold tlt; omega)]
theorem rl_less (a b : Int × Int) (w : World) : Calls Try.prog 42 #[.agg #[.int .i64 a.1, .int .i64 a.2], .agg #[.int .i64 b.1, .int .i64 b.2]] w fun e w' => e = .returned (.bool (decide (tlt a b))) ∧ Below w.heap.size w w' := scriptoriumref05_Less.calls a.1 a.2 b.1 b.2 _ w (rless_f a b)
theorem rl_two (a b : Int × Int) (w : World) : Calls Try.prog 38 #[.agg #[.int .i64 a.1, .int .i64 a.2], .agg #[.int .i64 b.1, .int .i64 b.2]] w fun e w' => e = .returned (.agg #[.int .i64 (tmx a b).1, .int .i64 (tmx a b).2]) ∧ Below w.heap.size w w' := scriptoriumref05_Two.calls a.1 a.2 b.1 b.2 _ _ w (by
  unfold scriptoriumref05_Two.f tmx
  rw [rless_f]
  by_cases h : tlt a b
  · rw [decide_eq_true h, Option.bind_some, if_pos rfl, if_pos h]
  · rw [decide_eq_false h, Option.bind_some, if_neg (by decide), if_neg h])
theorem rspErr_f (s : S24) : scriptoriumref16_Check.f 9 s.f0 s.f1 = some (spErr s) := by
  unfold scriptoriumref16_Check.f spErr
  by_cases h1 : (s.f0.size : Int) > 33
  · rw [if_pos h1, if_pos (.inl h1)]; rfl
  · rw [if_neg h1]
    by_cases h2 : (s.f1.size : Int) > 33
    · rw [if_pos (.inr h2), decide_eq_true h2]; rfl
    · rw [if_neg (by intro h; rcases h with h | h <;> contradiction), decide_eq_false h2]
      rw [show scriptoriumref16_Check.j0 9 false s.f0 s.f1 = (if Op.bytesLess s.f0.toList s.f1.toList = true then some 0 else some 2) from rfl]
      split <;> rfl
theorem rl_sp (s : S24) (w : World) : Calls Try.prog 40 #[.agg #[.string s.f0, .string s.f1]] w fun e w' => e = .returned (.int .i64 (spErr s)) ∧ Below w.heap.size w w' := scriptoriumref16_Check.calls 9 s.f0 s.f1 _ w (rspErr_f s)
theorem rl_own (o : Int) (w : World) : Calls Try.prog 41 #[.int .i64 o] w fun e w' => e = .returned (.bool (own o)) ∧ Below w.heap.size w w' := (scriptoriumref17_owner.calls o _ w (own_f o)).mono fun e w' ⟨h1, h2⟩ => ⟨h1, by obtain ⟨n, rfl⟩ := h2.out; exact pw_below_drewN (Below.refl _ _) _⟩
theorem lt_tri (x y : List UInt8) (h1 : ¬ x < y) (h2 : ¬ y < x) : x = y := List.le_antisymm (List.not_lt.1 h2) (List.not_lt.1 h1)
theorem rmeets_f (a b : S24) : scriptoriumref16_Meets.f a.f0 a.f1 b.f0 b.f1 = some (meets a b) := by
  unfold scriptoriumref16_Meets.f scriptoriumref16_Has.f meets
  simp only [Go.Proofs.bytesLess_eq, ba_toList, decide_eq_true_eq]
  have hmin : ∀ k x y : ByteArray, (k.data.toList < (Lib.minS x y).data.toList) ↔ (k.data.toList < x.data.toList ∧ k.data.toList < y.data.toList) := by
    intro k x y
    unfold Lib.minS
    split
    · rename_i h
      refine ⟨fun q => ⟨q, ?_⟩, fun q => q.1⟩
      rcases h with h | h
      · exact List.lt_trans q h
      · rw [← h]; exact q
    · rename_i h
      refine ⟨fun q => ⟨?_, q⟩, fun q => q.2⟩
      by_cases c : k.data.toList < x.data.toList
      · exact c
      · exfalso
        have h1 : ¬ x.data.toList < y.data.toList := fun e => h (.inl e)
        have h2 : ¬ x.data.toList = y.data.toList := fun e => h (.inr e)
        have h3 : y.data.toList < x.data.toList := by
          by_cases c2 : y.data.toList < x.data.toList
          · exact c2
          · exact absurd (lt_tri _ _ h1 c2) h2
        exact c (List.lt_trans q h3)
  unfold Lib.maxS
  by_cases h : a.f0.data.toList < b.f0.data.toList
  · rw [if_pos h, if_pos h]
    have e : ∀ q : Bool, (decide (b.f0.data.toList < (Lib.minS a.f1 b.f1).data.toList) = q) ↔ (decide (b.f0.data.toList < a.f1.data.toList ∧ b.f0.data.toList < b.f1.data.toList) = q) := fun q => by rw [decide_eq_decide.2 (hmin b.f0 a.f1 b.f1)]
    rw [if_neg (fun q => List.lt_irrefl _ (List.lt_trans h q)), Option.bind_some, if_neg (List.lt_irrefl _), (e _).2 rfl]
    by_cases c : b.f0.data.toList < a.f1.data.toList
    · rw [if_pos (by simpa using c)]; simp [c]
    · rw [if_neg (by simpa using c)]; simp [c]
  · rw [if_neg h, if_neg h]
    have e : ∀ q : Bool, (decide (a.f0.data.toList < (Lib.minS a.f1 b.f1).data.toList) = q) ↔ (decide (a.f0.data.toList < a.f1.data.toList ∧ a.f0.data.toList < b.f1.data.toList) = q) := fun q => by rw [decide_eq_decide.2 (hmin a.f0 a.f1 b.f1)]
    rw [if_neg (List.lt_irrefl _), Option.bind_some, if_neg h, (e _).2 rfl]
    by_cases c : a.f0.data.toList < a.f1.data.toList
    · rw [if_pos (by simpa using c)]; simp [c]
    · rw [if_neg (by simpa using c)]; simp [c]
theorem rl_meets (a b : S24) (w : World) : Calls Try.prog 43 #[.agg #[.string a.f0, .string a.f1], .agg #[.string b.f0, .string b.f1]] w fun e w' => e = .returned (.bool (meets a b)) ∧ Below w.heap.size w w' := (scriptoriumref16_Meets.calls a.f0 a.f1 b.f0 b.f1 _ w (rmeets_f a b)).mono fun e w' ⟨h1, h2⟩ => ⟨h1, h2⟩
def Td.rcells (t : Td S24) (A : Option Addr) (c : Nat) : Array Value := #[.int .i64 t.low.1, .int .i64 t.low.2, .slice A t.l.length c]
/-- The document's tide in a block of its own, its reads in a row of its own. -/
structure RtA (W0 W : World) (g : Nat) (t : Td S24) (A : Option Addr) (c : Nat) : Prop where
  below : Below W0.heap.size W0 W
  own : W0.heap.size ≤ g
  box : W.heap[g]? = some (.cells (t.rcells A c) 50 (0, 0))
  row : Kd.R k63 67 W W0.heap.size (fun _ => True) (.slice A t.l.length c) t.l
def RtAt (W0 W : World) (g : Nat) (t : Td S24) : Prop := ∃ A c, RtA W0 W g t A c
theorem RtA.step {W0 W W' : World} {g : Nat} {t : Td S24} {A : Option Addr} {c : Nat} (h : RtA W0 W g t A c) (hb : Below W.heap.size W W') : RtA W0 W' g t A c := ⟨below_step h.below hb, h.own, td_kept h.box hb, Kd.R_below h.row hb⟩
theorem RtAt.step {W0 W W' : World} {g : Nat} {t : Td S24} (h : RtAt W0 W g t) (hb : Below W.heap.size W W') : RtAt W0 W' g t := by
  obtain ⟨A, c, h⟩ := h
  exact ⟨A, c, h.step hb⟩
theorem RtA.lt {W0 W : World} {g : Nat} {t : Td S24} {A : Option Addr} {c : Nat} (h : RtA W0 W g t A c) : g < W.heap.size := blk_lt h.box
theorem RtAt.lt {W0 W : World} {g : Nat} {t : Td S24} (h : RtAt W0 W g t) : g < W.heap.size := by obtain ⟨A, c, h⟩ := h; exact h.lt
theorem RtAt.below {W0 W : World} {g : Nat} {t : Td S24} (h : RtAt W0 W g t) : Below W0.heap.size W0 W := by obtain ⟨A, c, h⟩ := h; exact h.below
theorem RtAt.own {W0 W : World} {g : Nat} {t : Td S24} (h : RtAt W0 W g t) : W0.heap.size ≤ g := by obtain ⟨A, c, h⟩ := h; exact RtA.own h
theorem q67_ne {q : Nat} (h : q ∈ 67 :: k63.E) {t : Nat} (ht : t ≠ 67) : q ≠ t := by
  have hq' : q ∈ [67] := h
  rw [List.mem_singleton.1 hq']; exact Ne.symm ht
theorem RtA.far {W0 W : World} {g : Nat} {t : Td S24} {A : Option Addr} {c : Nat} (h : RtA W0 W g t A c) {b i : Nat} {cs : Array Value} {ty : TypeId} (hb : W.heap[b]? = some (.cells cs ty (0, 0))) (ht : ty ≠ 67) (h0 : W0.heap.size ≤ b) (hg : g ≠ b) (v : Value) : RtA W0 (W.setCell ⟨b, i, none⟩ v) g t A c :=
  ⟨h.below.setCell (p := ⟨b, i, none⟩) h0 _, h.own, blk_far h.box hg _, Kd.R_set h.row hb (fun q hq => q67_ne hq ht) i v⟩
/-- What the program's tide turns leaves the document's one alone, and the other way round. -/
theorem RtAt.turn {W0 B0 W W' : World} {g g' : Nat} {t : Td S24} (h : RtAt W0 W g t) (hn : Tn B0.heap.size (some g') 63 W W') (hB : Below W0.heap.size W0 W') (h1 : g ≠ g') (hg' : ∀ cs q, W.heap[g']? = some (.cells cs q (0, 0)) → q = 58) : RtAt W0 W' g t := by
  obtain ⟨A, c, a1, a2, a3, a4⟩ := h
  refine ⟨A, c, hB, a2, hn.blk a3 (fun e => h1 (Option.some.inj e)) (by decide), hn.row a4 (fun q hq => q67_ne hq (by decide)) (fun b cs q e he hq => ?_)⟩
  injection e with e
  subst e
  have := hg' cs q he
  subst this
  have hq' : 58 ∈ [67] := hq
  exact absurd (List.mem_singleton.1 hq') (by decide)
theorem TdAt.rturn {W0 B0 W W' : World} {g g' : Nat} {t : Td S24} (h : TdAt W0 W g t) (hn : Tn B0.heap.size (some g') 67 W W') (hB : Below W0.heap.size W0 W') (h1 : g ≠ g') (hg' : ∀ cs q, W.heap[g']? = some (.cells cs q (0, 0)) → q = 50) : TdAt W0 W' g t := by
  obtain ⟨a1, a2, A, c, a3, a4⟩ := h
  refine ⟨hB, a2, A, c, hn.blk a3 (fun e => h1 (Option.some.inj e)) (by decide), hn.row a4 (fun q hq => k63_ne hq (by decide)) (fun b cs q e he hq => ?_)⟩
  injection e with e
  subst e
  have := hg' cs q he
  subst this
  have hq' : 50 ∈ [63] := hq
  exact absurd (List.mem_singleton.1 hq') (by decide)
theorem rt_setl {W0 w3 : World} {g : Nat} {t : Td S24} {A A3 : Option Addr} {c c3 : Nat} {l3 : List (Rd S24)} (hb : Below W0.heap.size W0 w3) (hown : W0.heap.size ≤ g) (hG : w3.heap[g]? = some (.cells (t.rcells A c) 50 (0, 0))) (hR : Kd.R k63 67 w3 W0.heap.size (fun _ => True) (.slice A3 l3.length c3) l3) :
    RtA W0 (w3.setCell ⟨g, 2, none⟩ (.slice A3 l3.length c3)) g { low := t.low, l := l3 } A3 c3 :=
  ⟨hb.setCell (p := ⟨g, 2, none⟩) hown _, hown, blk_put (cs := t.rcells A c) hG 2 _ rfl, Kd.R_set hR hG (fun q hq => q67_ne hq (by decide)) 2 _⟩
theorem rt_setlow {W0 w3 : World} {g : Nat} {t : Td S24} {A : Option Addr} {c : Nat} (a : Int × Int) (h : RtA W0 w3 g t A c) :
    RtA W0 ((w3.setCell ⟨g, 0, none⟩ (.int .i64 a.1)).setCell ⟨g, 1, none⟩ (.int .i64 a.2)) g { low := a, l := t.l } A c := by
  have h1 : (w3.setCell ⟨g, 0, none⟩ (.int .i64 a.1)).heap[g]? = some (.cells #[.int .i64 a.1, .int .i64 t.low.2, .slice A t.l.length c] 50 (0, 0)) := blk_put (cs := t.rcells A c) h.box 0 _ rfl
  exact ⟨(h.below.setCell (p := ⟨g, 0, none⟩) h.own _).setCell (p := ⟨g, 1, none⟩) h.own _, h.own, blk_put h1 1 _ rfl, Kd.R_set (Kd.R_set h.row h.box (fun q hq => q67_ne hq (by decide)) 0 _) h1 (fun q hq => q67_ne hq (by decide)) 1 _⟩
def RtPost (W0 W : World) (g : Nat) (t : Td S24) (r : Ending) (e : Ending) (w' : World) : Prop := e = r ∧ RtAt W0 w' g t ∧ Tn W0.heap.size (some g) 67 W w'
theorem info67 : (Try.prog.info? 67).map (fun i => (i.zero, i.size, i.bytes)) = some (some (.agg #[.string ⟨#[]⟩, .string ⟨#[]⟩, .int .i64 0, .int .i64 0, .int .i64 0]), 5, 56) := by kernel_rfl
theorem take_filter (q : Rd S24 → Bool) (l : List (Rd S24)) (j : Nat) (hj : j < l.length) : (l.take (j + 1)).filter q = (l.take j).filter q ++ (if q (l.getD j z63) = true then [l.getD j z63] else []) := filter_snoc q l j hj
set_option maxHeartbeats 16000000 in
set_option maxRecDepth 100000 in
theorem rt_forget (W0 W : World) (g : Nat) (t : Td S24) (h : RtAt W0 W g t) (hlen : t.l.length ≤ 65) : Calls Try.prog 39 #[.pointer (some ⟨g, 0, none⟩)] W (RtPost W0 W g t.forget (.returned (.tuple #[]))) := by
  obtain ⟨A, c, h⟩ := h
  have HW0 := Aside0.mk h.below
  have HOWN := Aside0.mk h.own
  have HGBOX := Aside0.mk h.box
  have HGLT := Aside0.mk h.lt
  have HROW0 := Aside0.mk h.row
  have HT := Aside0.mk h
  have HLEN := Aside0.mk hlen
  have HLM := Aside0.mk (Kd.C_max (Kd.R_reads' h.row).2.2)
  clear h hlen
  go_enter Try.func39, Try.ntmps39
  go_wp2_with fail
  go_loopg [2, 3] (t.l.length + 1) (fun gg v2 v3 wr => ∃ (i : Nat) (out : List (Rd S24)) (B : Option Addr) (cb : Nat), v2 = .slice B out.length cb ∧ v3 = .int .i64 (i : Int) ∧ Aside0 (i + gg = t.l.length + 1) ∧ Aside0 (i ≤ t.l.length) ∧ Aside0 (out = (t.l.take i).filter (fun x => decide (tlt t.low x.at_))) ∧ Aside0 (RtA W0 wr g t A c) ∧ Aside0 (Below W.heap.size W wr) ∧ Aside0 (Tn W0.heap.size (some g) 67 W wr) ∧ Aside0 (Kd.R k63 67 wr W.heap.size (fun _ => True) (.slice B out.length cb) out))
  case atStart => exact ⟨0, [], none, 0, rfl, rfl, ⟨by omega⟩, ⟨Nat.zero_le _⟩, ⟨rfl⟩, HT, ⟨Below.refl _ _⟩, ⟨Tn.of_below (Below.refl _ _)⟩, ⟨Kd.R_nil _ _ _ _ _⟩⟩
  case round =>
    clear HT
    obtain ⟨i, out, B, cb, rfl, rfl, HK, HIL, HF, HT, HB, HN, HR⟩ := hrel
    by_cases hlt : i < t.l.length
    case neg =>
      have d1 : decide ((i : Int) < (t.l.length : Int)) = false := decide_eq_false (by omega)
      have d1n : decide (i < t.l.length) = false := decide_eq_false hlt
      have ei : i = t.l.length := by have := HIL.out; omega
      have hf := HF.out
      rw [ei, List.take_length] at hf
      have HFF := Aside0.mk (show out = t.forget.l from hf)
      have g2 : wr.cell? ⟨g, 2, none⟩ = some (.slice A t.l.length c) := (blk_cell HT.out.box 2).trans rfl
      have f2 := blk_frozen HT.out.box 2
      clear hf ei hlt
      go_wp2_with fail
      go_end0
      have hz := rt_setl (t := t) HT.out.below HT.out.own HT.out.box (Kd.R_lower HR.out HW0.out.size)
      exact ⟨rfl, ⟨_, _, by have q := hz; rw [HFF.out] at q ⊢; exact q⟩, HN.out.trans (Tn.set HOWN.out 2 _)⟩
    case pos =>
      have d1 : decide ((i : Int) < (t.l.length : Int)) = true := decide_eq_true (by omega)
      have d1n : decide (i < t.l.length) = true := decide_eq_true hlt
      obtain ⟨ad, ea, y, hy, hld⟩ := ld_T63 (Kd.R_reads' HROW0.out).2.2 i hlt
      cases ea
      have HLE := Aside0.mk (fun (V : World) (hV : Below W.heap.size W V) (j : Nat) (v : Value) (hj : ([.string y.s.f0, .string y.s.f1, .int .i64 y.at_.1, .int .i64 y.at_.2, .int .i64 y.o] : List Value)[j]? = some v) => (hV.cell (World.block_lt_of_cell? W _ (hld j v hj))).trans (hld j v hj))
      have HLC := Aside0.mk (fun (V : World) (hV : Below W.heap.size W V) => And.intro (show V.cell? ⟨(ad.add (i * 5)).block, (ad.add (i * 5)).off + 2, none⟩ = some (.int .i64 y.at_.1) from by have q := HLE.out V hV 2 _ rfl; rw [add_field _ _ 2 (by omega)] at q; exact q) (show V.cell? ⟨(ad.add (i * 5)).block, (ad.add (i * 5)).off + 3, none⟩ = some (.int .i64 y.at_.2) from by have q := HLE.out V hV 3 _ rfl; rw [add_field _ _ 3 (by omega)] at q; exact q))
      have HY := Aside0.mk hy
      have HLT := Aside0.mk hlt
      have p0 := eq_true (show (0 : Int) ≤ (i : Int) by omega)
      have q0 := eq_true (show (i : Int) < (t.l.length : Int) by omega)
      have q0n := eq_true hlt
      have g2 : wr.cell? ⟨g, 2, none⟩ = some (.slice (some ad) t.l.length c) := (blk_cell HT.out.box 2).trans rfl
      have hwi : Go.RowKit.wrap64 ((i : Int) + 1) = ((i + 1 : Nat) : Int) := by
        have := HLM.out
        unfold Go.RowKit.wrap64
        omega
      have HWI := Aside0.mk hwi
      have HWI2 := Aside0.mk ((i64_w ((i : Int) + 1)).trans hwi)
      clear hwi
      clear hy hld hlt
      go_upto_region 4 with fail
      clear g2
      refine wp_region_noPanic ?_
      refine wp_region_held_drew (S := (fun V => V.cell? ⟨g, 0, none⟩ = some (.int .i64 t.low.1) ∧ V.cell? ⟨g, 1, none⟩ = some (.int .i64 t.low.2) ∧ V.cell? ⟨g, 2, none⟩ = some (.slice (some ad) t.l.length c) ∧ V.cell? ⟨(ad.add (i * 5)).block, (ad.add (i * 5)).off + 2, none⟩ = some (.int .i64 y.at_.1) ∧ V.cell? ⟨(ad.add (i * 5)).block, (ad.add (i * 5)).off + 3, none⟩ = some (.int .i64 y.at_.2))) (by kernel_rfl) ⟨(blk_cell (td_kept HT.out.box (below_drew1 (Below.refl _ _))) 0).trans rfl, (blk_cell (td_kept HT.out.box (below_drew1 (Below.refl _ _))) 1).trans rfl, (blk_cell (td_kept HT.out.box (below_drew1 (Below.refl _ _))) 2).trans rfl, HLC.out _ (below_step HB.out (below_drew1 (Below.refl _ _)))⟩ (fun hHeld => ?_)
      generalize hwd : World.drew _ = wd at hHeld ⊢
      have hb : Below wr.heap.size wr wd := by rw [← hwd]; exact below_drew1 (Below.refl _ _)
      clear hwd
      have HT_ := Aside0.mk (HT.out.step hb)
      clear HT
      have HT := Aside0.mk HT_.out
      clear HT_
      have HB_ := Aside0.mk (below_step HB.out hb)
      clear HB
      have HB := Aside0.mk HB_.out
      clear HB_
      have HR_ := Aside0.mk (Kd.R_below HR.out hb)
      clear HR
      have HR := Aside0.mk HR_.out
      clear HR_
      have HN_ := Aside0.mk (HN.out.trans (Tn.of_below hb))
      clear HN
      have HN := Aside0.mk HN_.out
      clear HN_
      clear hb
      refine wpAnyH_take (i := 0) (oi := ⟨some 13, _, _, _, _, none⟩) (v := ?v0_1) rfl (by kernel_rfl) (by kernel_rfl) (by kernel_rfl) (fun _ _ _ h => h) (Or.inl ⟨by rfl, ?hy0_1⟩) (by with_reducible assumption) ?rest0_1
      case hy0_1 => (intro V_ hSw; (try dsimp only at hSw); go_simp; (try with_reducible rfl))
      case' rest0_1 => skip
      try simp only [Act.put, List.setIfInBounds_toArray, List.set_cons_zero, List.set_cons_succ]
      refine wpAnyH_take (i := 1) (oi := ⟨some 14, _, _, _, _, none⟩) (v := ?v1_2) rfl (by kernel_rfl) (by kernel_rfl) (by kernel_rfl) (fun _ _ _ h => h) (Or.inl ⟨by rfl, ?hy1_2⟩) (by with_reducible assumption) ?rest1_2
      case hy1_2 => (intro V_ hSw; (try dsimp only at hSw); go_simp; (try with_reducible rfl))
      case' rest1_2 => skip
      try simp only [Act.put, List.setIfInBounds_toArray, List.set_cons_zero, List.set_cons_succ]
      refine wpAnyH_take (i := 2) (oi := ⟨some 15, _, _, _, _, none⟩) (v := ?v2_3) rfl (by kernel_rfl) (by kernel_rfl) (by kernel_rfl) (fun _ _ _ h => h) (Or.inl ⟨by rfl, ?hy2_3⟩) (by with_reducible assumption) ?rest2_3
      case hy2_3 => (intro V_ hSw; (try dsimp only at hSw); go_simp; (try with_reducible rfl))
      case' rest2_3 => skip
      try simp only [Act.put, List.setIfInBounds_toArray, List.set_cons_zero, List.set_cons_succ]
      refine wpAnyH_take (i := 3) (oi := ⟨some 16, _, _, _, _, none⟩) (v := ?v3_4) rfl (by kernel_rfl) (by kernel_rfl) (by kernel_rfl) (fun _ _ _ h => h) (Or.inl ⟨by rfl, ?hy3_4⟩) (by with_reducible assumption) ?rest3_4
      case hy3_4 => (intro V_ hSw; (try dsimp only at hSw); go_simp; (try with_reducible rfl))
      case' rest3_4 => skip
      try simp only [Act.put, List.setIfInBounds_toArray, List.set_cons_zero, List.set_cons_succ]
      refine wpAnyH_take (i := 4) (oi := ⟨some 17, _, _, _, _, none⟩) (v := ?v4_5) rfl (by kernel_rfl) (by kernel_rfl) (by kernel_rfl) (fun _ _ _ h => h) (Or.inl ⟨by rfl, ?hy4_5⟩) (by with_reducible assumption) ?rest4_5
      case hy4_5 => (intro V_ hSw; (try dsimp only at hSw); go_simp; (try with_reducible rfl))
      case' rest4_5 => skip
      try simp only [Act.put, List.setIfInBounds_toArray, List.set_cons_zero, List.set_cons_succ]
      refine wpAnyH_take (i := 5) (oi := ⟨some 18, _, _, _, _, none⟩) (v := ?v5_6) rfl (by kernel_rfl) (by kernel_rfl) (by kernel_rfl) (fun _ _ _ h => h) (Or.inl ⟨by rfl, ?hy5_6⟩) (by with_reducible assumption) ?rest5_6
      case hy5_6 => (intro V_ hSw; (try dsimp only at hSw); go_simp; (try with_reducible rfl))
      case' rest5_6 => skip
      try simp only [Act.put, List.setIfInBounds_toArray, List.set_cons_zero, List.set_cons_succ]
      refine wpAnyH_take (i := 6) (oi := ⟨some 19, _, _, _, _, none⟩) (v := ?v6_7) rfl (by kernel_rfl) (by kernel_rfl) (by kernel_rfl) (fun _ _ _ h => h) (Or.inl ⟨by rfl, ?hy6_7⟩) (by with_reducible assumption) ?rest6_7
      case hy6_7 => (intro V_ hSw; (try dsimp only at hSw); go_simp; (try with_reducible rfl))
      case' rest6_7 => skip
      try simp only [Act.put, List.setIfInBounds_toArray, List.set_cons_zero, List.set_cons_succ]
      refine wpAnyH_take (i := 7) (oi := ⟨some 20, _, _, _, _, none⟩) (v := ?v7_8) rfl (by kernel_rfl) (by kernel_rfl) (by kernel_rfl) (fun _ _ _ h => h) (Or.inl ⟨by rfl, ?hy7_8⟩) (by with_reducible assumption) ?rest7_8
      case hy7_8 => (intro V_ hSw; (try dsimp only at hSw); go_simp; (try with_reducible rfl))
      case' rest7_8 => skip
      try simp only [Act.put, List.setIfInBounds_toArray, List.set_cons_zero, List.set_cons_succ]
      refine wpAnyH_take (i := 8) (oi := ⟨some 21, _, _, _, _, none⟩) (v := ?v8_9) rfl (by kernel_rfl) (by kernel_rfl) (by kernel_rfl) (fun _ _ _ h => h) (Or.inl ⟨by rfl, ?hy8_9⟩) (by with_reducible assumption) ?rest8_9
      case hy8_9 => (intro V_ hSw; (try dsimp only at hSw); go_simp; (try with_reducible rfl))
      case' rest8_9 => skip
      try simp only [Act.put, List.setIfInBounds_toArray, List.set_cons_zero, List.set_cons_succ]
      refine wpAnyH_take (i := 9) (oi := ⟨some 22, _, _, _, _, none⟩) (v := ?v9_10) rfl (by kernel_rfl) (by kernel_rfl) (by kernel_rfl) (fun _ _ _ h => h) (Or.inl ⟨by rfl, ?hy9_10⟩) (by with_reducible assumption) ?rest9_10
      case hy9_10 => (intro V_ hSw; (try dsimp only at hSw); go_simp; (try with_reducible rfl))
      case' rest9_10 => skip
      try simp only [Act.put, List.setIfInBounds_toArray, List.set_cons_zero, List.set_cons_succ]
      refine wpAnyH_take (i := 10) (oi := ⟨some 23, _, _, _, _, none⟩) (v := ?v10_11) rfl (by kernel_rfl) (by kernel_rfl) (by kernel_rfl) (fun _ _ _ h => h) (Or.inl ⟨by rfl, ?hy10_11⟩) (by with_reducible assumption) ?rest10_11
      case hy10_11 => (intro V_ hSw; (try dsimp only at hSw); go_simp; (try with_reducible rfl))
      case' rest10_11 => skip
      try simp only [Act.put, List.setIfInBounds_toArray, List.set_cons_zero, List.set_cons_succ]
      refine wpAnyH_take (i := 11) (oi := ⟨some 24, _, _, _, _, none⟩) (v := ?v11_12) rfl (by kernel_rfl) (by kernel_rfl) (by kernel_rfl) (fun _ _ _ h => h) (Or.inl ⟨by rfl, ?hy11_12⟩) (by with_reducible assumption) ?rest11_12
      case hy11_12 => (intro V_ hSw; (try dsimp only at hSw); go_simp; (try with_reducible rfl))
      case' rest11_12 => skip
      try simp only [Act.put, List.setIfInBounds_toArray, List.set_cons_zero, List.set_cons_succ]
      refine wpAnyH_ready (rs := [12]) (by kernel_rfl) (by simp) ?_
      refine AllReadyH.cons (o := ⟨some 25, _, _, _, _, none⟩) rfl (fun K hK => ?_) ?_
      · go_simp
        refine (rl_less t.low y.at_ _).mono ?_
        rintro e w4 ⟨rfl, hb⟩
        have HT_ := Aside0.mk (HT.out.step hb)
        clear HT
        have HT := Aside0.mk HT_.out
        clear HT_
        have HB_ := Aside0.mk (below_step HB.out hb)
        clear HB
        have HB := Aside0.mk HB_.out
        clear HB_
        have HR_ := Aside0.mk (Kd.R_below HR.out hb)
        clear HR
        have HR := Aside0.mk HR_.out
        clear HR_
        have HN_ := Aside0.mk (HN.out.trans (Tn.of_below hb))
        clear HN
        have HN := Aside0.mk HN_.out
        clear HN_
        clear hb
        refine hK.out _ _ ⟨(blk_cell (td_kept HT.out.box (Below.refl _ _)) 0).trans rfl, (blk_cell (td_kept HT.out.box (Below.refl _ _)) 1).trans rfl, (blk_cell (td_kept HT.out.box (Below.refl _ _)) 2).trans rfl, HLC.out _ (below_step HB.out (Below.refl _ _))⟩ (fun hHeld => ?_)
        clear hK K
        try simp only [Act.put, List.setIfInBounds_toArray, List.set_cons_zero, List.set_cons_succ]
        refine wpAnyH_done (by kernel_rfl) ?_ _
        refine NoPanic.normal ?_
        clear hHeld
        obtain ⟨bq, hbq⟩ : ∃ bq, decide (tlt t.low y.at_) = bq := ⟨_, rfl⟩
        rw [hbq]
        have HQ := Aside0.mk hbq
        clear hbq
        cases bq
        case false =>
          go_wp2_with fail
          go_roundg (t.l.length - i)
          case measure => have h1 := HK.out; have h2 := HLT.out; omega
          case rel => exact ⟨i + 1, out, B, cb, (by first | rfl | (rw [List.length_append]; rfl)), congrArg (Value.int .i64) (by first | exact HWI.out | exact HWI2.out | rfl | omega), ⟨by have h1 := HK.out; have h2 := HLT.out; omega⟩, ⟨HLT.out⟩, ⟨by have h := take_filter (fun x => decide (tlt t.low x.at_)) t.l i HLT.out; rw [HY.out, HQ.out, if_neg (by decide), List.append_nil] at h; rw [h, ← HF.out]⟩, HT, HB, HN, HR⟩
        case true =>
          have HLO := Aside0.mk (show out.length ≤ t.l.length from by rw [HF.out]; exact Nat.le_trans (List.length_filter_le _ _) (Nat.le_trans (List.length_take_le _ _) (Nat.le_of_lt HLT.out)))
          have g2 : w4.cell? ⟨g, 2, none⟩ = some (.slice (some ad) t.l.length c) := (blk_cell HT.out.box 2).trans rfl
          have HLD := Aside0.mk (HLE.out _ HB.out)
          have hb4 := below_step HB.out (Below.refl w4.heap.size w4)
          clear hb4
          go_upto_region 3 with (first
          | (refine wpList_load_at rfl 67 _ rfl _ (by rfl) _ _ HLD.out Try.underlying67 rfl (by kernel_rfl) ?_)
          | (refine Kd.R_lit k63 (w0 := w4) w4.heap.size 67 rfl (N := 34) rfl (xs := [y]) (inner := [.string y.s.f0, .string y.s.f1, .int .i64 y.at_.1, .int .i64 y.at_.2, .int .i64 y.o]) (ok := fun _ => True) (okp := fun _ => True) ?hr ?hp (fun _ hk => hk) trivial (Below.refl _ _) (Nat.le_refl _) (by simp) ?_; (case hr => first | (go_simp; done) | (go_simp; rfl)); (case hp => exact Reps.c5 (k63_mkM _ _ _ y) (Reps.none _ _)); intro vy wl hoy hb hgy hny; obtain ⟨Ay, cy, ey⟩ := Kd.R_slice hoy; subst ey; have HCY := Aside0.mk (Kd.R_reads' hoy).2.2; have HRl := Aside0.mk (Kd.R_below HR.out hb); have HBl := Aside0.mk (below_step HB.out hb); have HTl := Aside0.mk (HT.out.step hb); have HNl := Aside0.mk (HN.out.trans (Tn.of_below hb)); clear hoy hb hgy hny HR HB HT HN)
          | (refine Kd.R_append_rows k63 (Rr := k63.K wl) (w0 := W) W.heap.size rfl (.tmp 26) (.tmp 34) 48 67 _ 56 rfl Try.underlying48 info67 rfl (show 0 < 5 by omega) (by omega) (.slice B out.length cb) out [y] Ay 1 cy (fun _ => True) (fun _ => False) rfl rfl HRl.out HCY.out (fun x cs h => by rw [k63_open h]; exact k63_mkM _ _ _ x) (fun _ h => h.elim) (fun _ _ => trivial) HBl.out HBl.out.size (by have h1 := HLO.out; have h2 := HLEN.out; omega) ?_; intro v5 w5 ho5 hb5 hg5 hat5; obtain ⟨A5, c5, e5⟩ := Kd.R_slice ho5; subst e5))
          have hn5 := hb5
          have HT := Aside0.mk (show RtA W0 w5 g t (some ad) c from ⟨HW0.out.trans (hb5.mono HW0.out.size), HOWN.out, hb5.block g (by have := HGLT.out; omega) |>.trans HGBOX.out, Kd.R_step (Kd.R_bound HROW0.out) (fun k hk hlt => hb5.block k hk.2.2.1) |> fun q => Kd.R_mono q (fun _ _ => trivial)⟩)
          have HB := Aside0.mk hb5
          have HN := Aside0.mk (Tn.of_below (B := W0.heap.size) (g := some g) (ty := 67) hb5)
          have HR := Aside0.mk ho5
          clear hn5 hb5 ho5 hg5 hat5 g2 HLD HRl HBl HTl HNl HCY
          go_wp2_with fail
          go_roundg (t.l.length - i)
          case measure => have h1 := HK.out; have h2 := HLT.out; omega
          case rel => exact ⟨i + 1, out ++ [y], A5, c5, (by first | rfl | (rw [List.length_append]; rfl)), congrArg (Value.int .i64) (by first | exact HWI.out | exact HWI2.out | rfl | omega), ⟨by have h1 := HK.out; have h2 := HLT.out; omega⟩, ⟨HLT.out⟩, ⟨by have h := take_filter (fun x => decide (tlt t.low x.at_)) t.l i HLT.out; rw [HY.out, HQ.out, if_pos rfl] at h; rw [h, ← HF.out]⟩, HT, HB, HN, HR⟩
      exact AllReadyH.nil
end Go.Proofs.Ytaccfbpfennjkaa.PTideDoes

