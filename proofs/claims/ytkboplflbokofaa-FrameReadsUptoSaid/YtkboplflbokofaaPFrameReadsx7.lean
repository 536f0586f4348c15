/- Written by xprint.py, a program of these sessions (over the print of the kit, with leaves typed by hand): one Lean function for each Go function, and the proof that the Go code comes to its answers. -/
import Derived.Test.YtkboplflbokofaaPFrameReadsx0
import Derived.Test.YtkboplflbokofaaPFrameReadsx1
import Derived.Test.YtkboplflbokofaaPFrameReadsx3
import Derived.Test.YtkboplflbokofaaPFrameReadsx4
import Derived.Test.YtkboplflbokofaaPFrameReadsx6
namespace Go.Proofs.Ytkboplflbokofaa.PFrameReads
open Go.RowKit Go.Proofs.YtkboplflbokofaaW.PrintWords Go.Proofs.YtkboplflbokofaaW.PrintLast Go.Proofs.YtkboplflbokofaaW.PrintMore
attribute [local go_sem] max2_int min2_int max_two min_two max_three min_three max_four min_four   -- for this text's walks alone
set_option linter.unusedVariables false
set_option linter.unusedSimpArgs false

/-! ### scriptoriumlaw04_FrameReads: function 7 (a leaf, by hand) -/
/-- The records that bytes begin with, one by one. -/
def recs (k : Nat) : Nat → List Int → Option (List (List Int))
  | 0, _ => none
  | m + 1, l => (frame_Next.f k l).bind fun t => if t.2.2 = 0 then (if 0 < t.2.1 ∧ t.2.1 ≤ (l.length : Int) then (recs k m (l.drop t.2.1.toNat)).bind fun r => some (t.1 :: r) else none) else some []
def lenOf : Value → Nat
  | .slice _ n _ => n
  | _ => 0
section
attribute [local go_sem] Oper.semAt_some
set_option maxHeartbeats 8000000 in
set_option maxRecDepth 100000 in
theorem all_iterates (k m : Nat) (A0 : Option Addr) (c0 : Nat) (l0 : List Int) (r : List (List Int)) (w0 w : World) (hr0 : Kd.C (Kd.int .u8) w0 A0 l0.length l0) (hc0 : l0.length ≤ c0) (h : recs k m l0 = some r)
    (hB : Below w0.heap.size w0 w) (gb : Nat) (hcell : w.cell? ⟨gb, 0, none⟩ = some (.slice A0 l0.length c0)) :
    Iterates (α := Value × List Int) Try.prog 34 #[.pointer (some ⟨gb, 0, none⟩)] (fun x => x.1) (fun x b W => Kd.R (Kd.int .u8) 5 W b (fun _ => True) x.1 x.2) w0.heap.size
      (fun xs => xs.map Prod.snd = r) (fun pre => ∃ rest, r = pre.map Prod.snd ++ rest) w := by
  intro l J Jx W hW hY h0
  have HR0 := Aside0.mk hr0
  have HRC := Aside0.mk h
  have HC0 := Aside0.mk hc0
  have HB0 := Aside0.mk (hB.trans (hW.mono hB.size))
  have hc := (hW.cell (World.block_lt_of_cell? w _ hcell)).trans hcell
  have HY := Aside0.mk hY
  clear hr0 h hc0 hB hcell hW hY
  refine callsIn_of_wp Try.func34 rfl trivial ?_ rfl
  simp only [Try.ntmps34, List.size_toArray, List.length_cons, List.length_nil, Nat.reduceAdd, Nat.reduceSub, Array.replicate_succ, Array.replicate_zero, List.push_toArray, List.append_toArray, List.nil_append, List.cons_append]
  gi_wp2
  gi_loopw [3] (fun p wr => ∃ (pre : List (Value × List Int)) (rest : List (List Int)) (A : Option Addr) (c : Nat) (li : List Int) (m' : Nat), p = .slice A li.length c ∧ Aside0 (recs k m' li = some rest) ∧ Aside0 (r = pre.map Prod.snd ++ rest) ∧ Aside0 (Kd.C (Kd.int .u8) w0 A li.length li) ∧ Aside0 (li.length ≤ c) ∧ Aside0 (J pre wr) ∧ Aside0 (Below w0.heap.size w0 wr))
    (fun p _ => lenOf p)
  case atStart => exact ⟨[], r, A0, c0, l0, m, rfl, HRC, ⟨rfl⟩, HR0, HC0, ⟨h0⟩, HB0⟩
  case round =>
    clear hc HR0 HRC HC0 HB0 h0
    obtain ⟨pre, rest, A, c, li, m', rfl, HRC, HRE, HR, HC, HJ, HB⟩ := hrel
    cases m' with
    | zero => exact absurd HRC.out (by simp [recs])
    | succ m' =>
      have H := HRC.out
      clear HRC
      simp only [recs] at H
      obtain ⟨⟨p1, n1, e1⟩, hN, H⟩ := Option.bind_eq_some_iff.mp H
      dsimp only at H
      have HN := Aside0.mk hN
      clear hN
      by_cases c1 : e1 = 0
      · rw [if_pos c1] at H
        subst c1
        by_cases c2 : 0 < n1 ∧ n1 ≤ (li.length : Int)
        · rw [if_pos c2] at H
          obtain ⟨r1, hr1, H⟩ := Option.bind_eq_some_iff.mp H
          obtain rfl := Option.some.inj H
          have HR1 := Aside0.mk hr1
          have HP := Aside0.mk c2
          clear hr1 c2 H
          gi_wp2_with (refine ⟨trivial, rfl, ?_⟩; gi_at_call 18; refine (callsIn_wide.2 (frame_Next.calls k A c li p1 n1 0 _ (Kd.C_below HR.out HB.out) HC.out HN.out)).mono ?_; rintro e w2 ⟨v, rfl, ho, hb⟩; obtain ⟨fn, tmps, assign, body, hy, hRD⟩ := HY.out pre (v, p1) wr w2 HJ.out hb ho ⟨r1, by rw [HRE.out]; simp⟩; dsimp only at hy)
          refine ⟨rfl, ?_⟩
          refine hRD.mono ?_
          have hb1 := hb
          obtain ⟨i0, hi, hz0, hz1, hz2⟩ := info_parts info5
          obtain ⟨A', hcut, hA', hC'⟩ := print_drop_of (P := Try.prog) (Value.int .u8) 0 22 5 .i64 Try.underlying22 hi hz1 A c li n1 (by have := HP.out; omega) HP.out.2 HC.out
          have HCC := Aside0.mk hC'
          have HAA := Aside0.mk (Kd.C_of_reads (h1 := fun _ => rfl) (hA' _ (Kd.reads_of_C HR.out)))
          clear hA' hC' hi hz0 hz1 hz2
          rintro e W3 (⟨rfl, hJ3, hk3⟩ | ⟨rfl, hJx3⟩)
          · have HB3 := Aside0.mk ((HB.out.trans (hb1.mono HB.out.size)).trans hk3)
            have HJ3 := Aside0.mk hJ3
            clear hk3 hJ3 hb hb1 ho hy
            gi_wp2
            go_roundw
            case rel => exact ⟨pre ++ [(v, p1)], r1, A', c - n1.toNat, li.drop n1.toNat, m', by rw [List.length_drop], HR1, ⟨by rw [HRE.out]; simp⟩, HAA, HCC, HJ3, HB3⟩
            case measure => have h1 := HP.out; simp [lenOf]; omega
          · clear hb hb1 ho hy
            gi_wp2
            refine bodyPost_ret (results_none rfl _ _ _) rfl ?_
            exact ⟨⟨_, rfl⟩, .inr ⟨pre ++ [(v, p1)], W3, ⟨r1, by rw [HRE.out]; simp⟩, hJx3, Below.refl _ _⟩⟩
        · rw [if_neg c2] at H
          exact absurd H (by simp)
      · rw [if_neg c1] at H
        obtain rfl := Option.some.inj H
        have q1 : (e1 != 0) = true := bne_iff_ne.mpr c1
        clear c1 H
        gi_wp2_with (refine ⟨trivial, rfl, ?_⟩; gi_at_call 18; refine (callsIn_wide.2 (frame_Next.calls k A c li p1 n1 e1 _ (Kd.C_below HR.out HB.out) HC.out HN.out)).mono ?_; rintro e w2 ⟨v, rfl, ho, hb⟩)
        refine ⟨fun _ h => (by cases h), ?_⟩
        gi_wp2
        refine bodyPost_ret (results_none rfl _ _ _) rfl ?_
        exact ⟨⟨_, rfl⟩, .inl ⟨pre, wr, by rw [HRE.out]; simp, HJ.out, hb⟩⟩
end
set_option maxHeartbeats 8000000 in
set_option maxRecDepth 100000 in
theorem frame_All.calls (A0 : Option Addr) (n c0 : Nat) (w : World) : Calls Try.prog 20 #[.slice A0 n c0] w fun e w' => e = .returned (.func (.func 34) #[] #[.pointer (some ⟨w.heap.size, 0, none⟩)]) ∧ w' = w.alloc (.cells #[.slice A0 n c0] 22) := by
  go_enter Try.func20, Try.ntmps20
  go_wp2
  go_ret
  exact ⟨rfl, rfl⟩
theorem run_equalIn_func {P : Program} (d : Nat) (t : TypeId) (ps rs : Array TypeId) (v : Bool) (h : P.underlying t = some (.func ps rs v)) (f : Nat) (ys : Array Value) (W : World) : (Op.equalIn (d + 1) t (.func (.func f) #[] ys) .nilFunc).run P W = .ok false W := by
  simp [Op.equalIn, run_underlying h]
theorem not_nil_func (f : Nat) (ys : Array Value) (W : World) : (binOp .eql 37 (.func (.func f) #[] ys) .nilFunc).run Try.prog W = .ok (.bool false) W := by
  have h : (Op.equal 37 (.func (.func f) #[] ys) .nilFunc).run Try.prog W = .ok false W := run_equalIn_func 9999 _ _ _ _ Try.underlying37 f ys W
  simp only [binOp]
  simp [h]
theorem results_cell_bool {P : Program} {fn : Func} {p : Tmp} {ty : TypeId} (h : fn.results = #[.cell p ty]) (tmps : Array Value) (w : World) (g : Nat) (b : Bool)
    (hp : tmps.getD p undef = .pointer (some ⟨g, 0, none⟩)) (hu : P.underlying ty = some .bool) (hc : w.cell? ⟨g, 0, none⟩ = some (.bool b)) : (results fn tmps).run P w = .ok (.bool b) w := by
  have hp' : tmps[p]?.getD undef = .pointer (some ⟨g, 0, none⟩) := by simpa using hp
  simp [results, h, hp', asAddr, loadVar, isAgg, run_underlying hu, hc, go_sem]
theorem reads_facts (wr V0 V w5 w6 : World) (Ap : Option Addr) (cp : Nat) (xl : List Int) (vl : Value) (hsz : wr.heap.size + 4 < V0.heap.size ∧ V0.heap.size ≤ V.heap.size) (hgv : V.heap[wr.heap.size + 1]? = some (.cells #[vl] 39 (0, 0)))
    (hr : Kd.R (Kd.int .u8) 5 V V0.heap.size (fun _ => True) (.slice Ap xl.length cp) xl) (hvl : ∀ k, vl.ownBlock = some k → wr.heap.size + 4 < k ∧ k < V0.heap.size) (hb5 : Below V.heap.size V w5) (hb6 : Below wr.heap.size V w6) (hg6 : w5.grownBy w6 vl.ownBlock) :
    w6.heap[wr.heap.size + 1]? = some (.cells #[vl] 39 (0, 0)) ∧ Kd.R (Kd.int .u8) 5 w6 V0.heap.size (fun _ => True) (.slice Ap xl.length cp) xl ∧ Below wr.heap.size V w6 ∧
    w6.heap[wr.heap.size + 3]? = V.heap[wr.heap.size + 3]? ∧ w6.heap[wr.heap.size + 3 + 1]? = V.heap[wr.heap.size + 3 + 1]? := by
  have h5 := hb5.size
  have far : ∀ k, k < V.heap.size → some k ≠ vl.ownBlock → w6.heap[k]? = V.heap[k]? := fun k hk hne => (hg6.block k (by omega) hne).trans (hb5.block k hk)
  have low : ∀ k, k ≤ wr.heap.size + 4 → w6.heap[k]? = V.heap[k]? := fun k hk => far k (by omega) (fun e => by have := hvl k e.symm; omega)
  exact ⟨(low _ (by omega)).trans hgv, Kd.R_mono (Kd.R_step (Kd.R_bound hr) (fun k hk hk2 => far k hk2 (fun e => by have := hvl k e.symm; have := hk.2.1; omega))) (fun _ _ => trivial), hb6, low _ (by omega), low _ (by omega)⟩
theorem of_if {c : Prop} [Decidable c] {A B : Prop} (hc : c) (h : if c then A else B) : A := by rwa [if_pos hc] at h
theorem op_in (l : Nat) {P : Program} {o : Oper} {a : Act} {w : World} {K : Act → World → Prop} {Q : Exit → Act → World → Prop} (hd : ∀ c, o.op ≠ .defer c) (h : Oper.wp P o a w K Q) : Oper.wpIn (Fence.wide.inRound l) 0 P o a w K Q := by
  refine ⟨fun _ _ => trivial, ?_⟩
  have hs : Oper.semAt (Fence.wide.inRound l).round a.eval o = execOp a.eval o := Oper.semAt_some l _ o hd
  rw [hs]
  exact upon_in l (fun _ _ h => h) _ h
def atNormal (p : Act → World → Prop) : Exit → Act → World → Prop
  | .normal, a, w => p a w
  | _, _, _ => False
theorem list_op_in (l : Nat) {N : Tmp} {P : Program} {ops : Array Oper} {o : Oper} {rest : List Oper} {Q : Exit → Act → World → Prop} {a : Act} {w : World} (_hN : o.dst = some N) (hd : ∀ c, o.op ≠ .defer c) (hw : Region.wanted o (yielded ops a.tmps) = true)
    (h : Oper.wp P o a w (fun a' w' => wpListIn (Fence.wide.inRound l) 0 P ops Q rest a' w') Q) : wpListIn (Fence.wide.inRound l) 0 P ops Q (o :: rest) a w := by
  unfold wpListIn
  rw [if_pos hw]
  exact op_in l hd h
/-- What the walk leans on: what is told is the same as the document's, and what is copied, and compared with itself, is itself. -/
def scriptoriumlaw04_FrameReads.f (k : Nat) (l0 : List Int) : Option Bool :=
  (frame_Next.f k l0).bind fun t => (scriptoriumref04_Next.f k l0).bind fun u => (recs k k l0).bind fun rs => (scriptoriumref04_All.f k l0).bind fun ra =>
    if scriptoriumref00_CopyBytes.f l0 = some l0 ∧ scriptoriumref00_EqBytes.f k t.1 u.1 = some true ∧ t.2.1 = u.2.1 ∧ t.2.2 = u.2.2 ∧ (∀ p ∈ rs, scriptoriumref00_CopyBytes.f p = some p ∧ p.length < 140737488355327) ∧ scriptoriumref04_Same.f k rs ra = some true ∧
      scriptoriumref00_EqBytes.f k l0 l0 = some true ∧ scriptoriumlaw04_works.f k = some true ∧ rs.length < 5000000000000 then some true else none
section
attribute [local go_sem] Oper.semAt_some not_nil_func
set_option maxHeartbeats 16000000 in
set_option maxRecDepth 100000 in
theorem scriptoriumlaw04_FrameReads.calls (k : Nat) (A0 : Option Addr) (c0 : Nat) (l0 : List Int) (r : Bool) (w : World) (hr0 : Kd.C (Kd.int .u8) w A0 l0.length l0) (hc0 : l0.length ≤ c0) (h : scriptoriumlaw04_FrameReads.f k l0 = some r) (hrt : r = true) :
    Calls Try.prog 7 #[.slice A0 l0.length c0] w fun e w' => e = .returned (.bool r) ∧ Below w.heap.size w w' := by
  subst hrt
  obtain ⟨⟨x, n, er⟩, hnext, h⟩ := Option.bind_eq_some_iff.mp h
  obtain ⟨⟨y, n2, er2⟩, hrnext, h⟩ := Option.bind_eq_some_iff.mp h
  obtain ⟨rs, hrec, h⟩ := Option.bind_eq_some_iff.mp h
  obtain ⟨ra, hrall, h⟩ := Option.bind_eq_some_iff.mp h
  dsimp only at h
  have hc : scriptoriumref00_CopyBytes.f l0 = some l0 ∧ scriptoriumref00_EqBytes.f k x y = some true ∧ n = n2 ∧ er = er2 ∧ (∀ p ∈ rs, scriptoriumref00_CopyBytes.f p = some p ∧ p.length < 140737488355327) ∧ scriptoriumref04_Same.f k rs ra = some true ∧
      scriptoriumref00_EqBytes.f k l0 l0 = some true ∧ scriptoriumlaw04_works.f k = some true ∧ rs.length < 5000000000000 := by
    by_cases hc : scriptoriumref00_CopyBytes.f l0 = some l0 ∧ scriptoriumref00_EqBytes.f k x y = some true ∧ n = n2 ∧ er = er2 ∧ (∀ p ∈ rs, scriptoriumref00_CopyBytes.f p = some p ∧ p.length < 140737488355327) ∧ scriptoriumref04_Same.f k rs ra = some true ∧
      scriptoriumref00_EqBytes.f k l0 l0 = some true ∧ scriptoriumlaw04_works.f k = some true ∧ rs.length < 5000000000000
    · exact hc
    · rw [if_neg hc] at h
      exact absurd h (by simp)
  obtain ⟨hcp, hxy, rfl, rfl, hcps, hsame, heq, hwk, hlen⟩ := hc
  have HR0 := Aside0.mk hr0
  have HC0 := Aside0.mk hc0
  have HNX := Aside0.mk hnext
  have HRN := Aside0.mk hrnext
  have HRC := Aside0.mk hrec
  have HRA := Aside0.mk hrall
  have HCP := Aside0.mk hcp
  have HXY := Aside0.mk hxy
  have HCS := Aside0.mk hcps
  have HSM := Aside0.mk hsame
  have HEQ := Aside0.mk heq
  have HWK := Aside0.mk hwk
  have HLN := Aside0.mk hlen
  clear hr0 hc0 h hnext hrnext hrec hrall hcp hxy hcps hsame heq hwk hlen
  refine (callsIn_wide (n := 0)).1 ?_
  refine callsIn_of_wp_marks Try.func7 rfl trivial ?_ rfl
  simp only [Try.ntmps7, List.size_toArray, List.length_cons, List.length_nil, Nat.reduceAdd, Nat.reduceSub, Array.replicate_succ, Array.replicate_zero, List.push_toArray, List.append_toArray, List.nil_append, List.cons_append]
  gi_wp2_with (first | (refine ⟨trivial, rfl, ?_⟩; gi_at_call 12; refine (callsIn_wide.2 (scriptoriumref00_CopyBytes.calls A0 c0 l0 l0 _ (Kd.C_alloc HR0.out _) HC0.out HCP.out)).mono ?_; rintro e w1 ⟨vi, rfl, hRi, hb1⟩; have HB1 := Aside0.mk (below_step (below_alloc (Below.refl _ w) _) hb1); have BR1 := Aside0.mk (blk_below (g := w.heap.size) (o := .cells #[.bool false] 4 (0, 0)) (World.alloc_heap_new w _) hb1); have HRI := Aside0.mk (show (Kd.int .u8).R 5 w1 w.heap.size (fun _ => True) vi l0 from Kd.R_lower hRi (by simp)); clear hRi hb1; obtain ⟨Ai, ci, ei⟩ := Kd.R_slice HRI.out; subst ei) | (refine ⟨trivial, rfl, ?_⟩; gi_at_call 18; refine (callsIn_wide.2 (frame_Next.calls k Ai ci l0 x n er _ (Kd.R_reads' HRI.out).2.2 (Kd.R_reads' HRI.out).2.1 HNX.out)).mono ?_; rintro e w2 ⟨vx, rfl, hRx, hb2⟩; have HB2 := Aside0.mk hb2; have HRX := Aside0.mk hRx; clear hRx hb2; obtain ⟨Ax, cx, ex⟩ := Kd.R_slice HRX.out; subst ex) | (refine ⟨trivial, rfl, ?_⟩; gi_at_call 19; refine (callsIn_wide.2 (scriptoriumref04_Next.calls k A0 c0 l0 y n er _ (Kd.C_below HR0.out (HB1.out.trans (HB2.out.mono HB1.out.size))) HC0.out HRN.out)).mono ?_; rintro e w3 ⟨vy, rfl, hRy, hb3⟩; have HB3 := Aside0.mk hb3; have HRY := Aside0.mk hRy; clear hRy hb3; obtain ⟨Ay, cy, ey⟩ := Kd.R_slice HRY.out; subst ey) | (refine ⟨trivial, rfl, ?_⟩; gi_at_call 15; refine (callsIn_wide.2 (scriptoriumref00_EqBytes.calls k Ax cx x Ay cy y true _ (Kd.R_reads' (Kd.R_below HRX.out HB3.out)).2.2 (Kd.R_reads' HRX.out).2.1 (Kd.R_reads' HRY.out).2.2 (Kd.R_reads' HRY.out).2.1 HXY.out)).mono ?_; rintro e w' ⟨rfl, ⟨nd, rfl⟩⟩))
  have hRX3 : (Kd.int .u8).R 5 (w3.drewN nd) w1.heap.size (fun k_ => w1.heap.size ≤ k_) (.slice Ax x.length cx) x := Kd.R_mono (Kd.R_bound (Kd.R_drewN (Kd.R_below HRX.out HB3.out) nd)) (fun k_ hk => hk.2.1)
  have hB13 : Below w1.heap.size w1 (w3.drewN nd) := pw_below_drewN (HB2.out.trans (HB3.out.mono HB2.out.size)) nd
  have HX3 := Aside0.mk hRX3
  have HB13 := Aside0.mk hB13
  have HXL := Aside0.mk hRX3.1
  have HXN := Aside0.mk (Kd.R_reads' hRX3).2.2.2.1
  clear hRX3 hB13
  gi_loopw [10] (fun p W => ∃ (i : Nat) (x' : List Int), p = .int .i64 (i : Int) ∧ Aside0 (i ≤ x.length ∧ x'.length = x.length) ∧ Aside0 ((Kd.int .u8).R 5 W w1.heap.size (fun k_ => w1.heap.size ≤ k_) (.slice Ax x.length cx) x') ∧ Aside0 (Below w1.heap.size w1 W)) (fun p _ => x.length - (intOf p).toNat)
  case atStart => exact ⟨0, x, rfl, ⟨Nat.zero_le _, rfl⟩, HX3, HB13⟩
  case round =>
    obtain ⟨i, x', rfl, HI, HO, HB⟩ := hrel
    by_cases hi : i < x.length
    · have hil : ((i : Int) < (x.length : Int)) = True := eq_true (by omega)
      have hi0 : (0 ≤ (i : Int)) = True := eq_true (by omega)
      have hin : (i < x.length) = True := eq_true hi
      obtain ⟨go, co, eo, gb, gl, cl, HG⟩ := Kd.R_form HO.out (by rw [HI.out.2]; omega)
      injection eo with ea en ec
      subst ea
      subst ec
      clear en
      obtain ⟨hx0, hf0⟩ := Kd.R_celln 0 HO.out (i : Int) (by omega) (by omega)
      rw [Int.toNat_natCast] at hx0 hf0
      have HPUT := Kd.R_putn HO.out (i : Int) ((rdOf 0 x' (i : Int) + 1) % 256)
      rw [Int.toNat_natCast] at HPUT
      have HQ := Aside0.mk HPUT
      have HGB := Aside0.mk gb
      have HIL := Aside0.mk hi
      have HXN2 := Aside0.mk (show x.length ≤ 9223372036854775807 from HXN.out)
      have hwi : wrap64 ((i : Int) + 1) = (i : Int) + 1 := by have := HXN.out; unfold wrap64; omega
      clear HPUT gb gl cl HG hi
      gi_wp2
      have hil2 := HIL.out
      refine ⟨⟨i + 1, _, by rw [hwi]; rfl, ⟨by omega, by rw [List.length_set]; exact HI.out.2⟩, HQ, ⟨Below.setCell HB.out (p := ⟨go, i, none⟩) HGB.out _⟩⟩, ?_⟩
      show x.length - (intOf (.int .i64 (wrap64 ((i : Int) + 1)))).toNat < x.length - (intOf (.int .i64 (i : Int))).toNat
      rw [hwi]
      show x.length - ((i : Int) + 1).toNat < x.length - (i : Int).toNat
      omega
    · have hil : ((i : Int) < (x.length : Int)) = False := eq_false (by omega)
      have hin : (i < x.length) = False := eq_false hi
      clear hi
      gi_wp2_with (refine ⟨trivial, rfl, ?_⟩; gi_at_call 20; refine (callsIn_wide.2 (frame_All.calls Ai l0.length ci _)).mono ?_; rintro e w4 ⟨rfl, rfl⟩)
      have hlw : w1.heap.size ≤ wr.heap.size := HB.out.size
      have HIW := Aside0.mk (Kd.C_below (Kd.R_reads' HRI.out).2.2 HB.out)
      have HIC := Aside0.mk (Kd.R_reads' HRI.out).2.1
      obtain ⟨wa, hwa⟩ : ∃ V, wr.alloc (.cells #[.slice Ai l0.length ci] 22) = V := ⟨_, rfl⟩
      have hsa : wa.heap.size = wr.heap.size + 1 := by rw [← hwa]; simp
      have hba : Below wr.heap.size wr wa := by rw [← hwa]; exact below_alloc (Below.refl _ _) _
      rw [hwa]
      obtain ⟨wb, hwb⟩ : ∃ V, wa.alloc (.cells #[.slice none 0 0] 39) = V := ⟨_, rfl⟩
      have hsb : wb.heap.size = wr.heap.size + 2 := by rw [← hwb]; simp; omega
      have hbb : Below wr.heap.size wr wb := by rw [← hwb]; exact below_alloc hba _
      have hob : wb.heap[wr.heap.size + 1]? = some (.cells #[.slice none 0 0] 39 (0, 0)) := by rw [← hwb, ← hsa]; exact World.alloc_heap_new wa _
      rw [hwb]
      obtain ⟨W', hW'⟩ : ∃ V, wb.alloc (.cells #[.slice Ai l0.length ci] 22) = V := ⟨_, rfl⟩
      have hsz : W'.heap.size = wr.heap.size + 3 := by rw [← hW']; simp; omega
      have hbe : Below wr.heap.size wr W' := by rw [← hW']; exact below_alloc hbb _
      have hob' : W'.heap[wr.heap.size + 1]? = some (.cells #[.slice none 0 0] 39 (0, 0)) := by rw [← hW']; exact (Below.heap_alloc _ _ _ (by omega)).trans hob
      have hoc : W'.heap[wr.heap.size + 2]? = some (.cells #[.slice Ai l0.length ci] 22 (0, 0)) := by rw [← hW', ← hsb]; exact World.alloc_heap_new wb _
      rw [hW']
      have hcap : W'.cell? ⟨wr.heap.size + 2, 0, none⟩ = some (.slice Ai l0.length ci) := (blk_cell hoc 0).trans rfl
      clear hW' hwb hwa hsa hba hsb hbb hob hoc
      refine range_over (α := Value × List Int) (gf := 34) (lb := #[.pointer (some ⟨wr.heap.size + 1 + 1, 0, none⟩)]) rfl (enters_of Try.func34 (by kernel_rfl) rfl)
        (all_iterates k k Ai ci l0 rs wr W' HIW.out HIC.out HRC.out hbe _ hcap) (by omega) 61 rfl
        (fun x b W o hb h => Kd.R_step (Kd.R_mono (Kd.R_bound h) (ok' := fun k_ => b ≤ k_) (fun _ hk => hk.2.1)) (fun k_ hk _ => World.putObj_heap_other (by omega)) |> fun h => Kd.R_mono h (fun _ _ => trivial))
        (fun pre V => ∃ vl, V.heap[wr.heap.size + 1]? = some (.cells #[vl] 39 (0, 0)) ∧ Kd.S (Kd.slice 5 (Kd.int .u8)) 22 V wr.heap.size (fun k_ => wr.heap.size + 4 < k_) vl (pre.map Prod.snd) ∧ Below wr.heap.size wr V)
        (fun _ _ _ => False)
        ?hI ?hIx ?h0 (fun zz => { tmps := #[Value.slice A0 l0.length c0, undef, Value.pointer (some ⟨w.heap.size, 0, none⟩), Value.slice Ai l0.length ci, Value.slice Ax x.length cx, Value.int IntKind.i64 n, Value.int IntKind.i64 er, Value.slice Ay y.length cy, Value.int IntKind.i64 n, Value.int IntKind.i64 er, Value.int IntKind.i64 (i : Int), Value.pointer (some ⟨wr.heap.size + 1, 0, none⟩), zz.1, undef, Value.slice A0 l0.length c0, Value.slice Ai l0.length ci, Value.tuple #[Value.slice Ax x.length cx, Value.int IntKind.i64 n, Value.int IntKind.i64 er], Value.slice Ai l0.length ci, Value.tuple #[Value.slice Ax x.length cx, Value.int IntKind.i64 n, Value.int IntKind.i64 er], Value.slice Ax x.length cx, Value.int IntKind.i64 n, Value.int IntKind.i64 er, Value.tuple #[Value.slice Ay y.length cy, Value.int IntKind.i64 n, Value.int IntKind.i64 er], Value.slice A0 l0.length c0, Value.tuple #[Value.slice Ay y.length cy, Value.int IntKind.i64 n, Value.int IntKind.i64 er], Value.slice Ay y.length cy, Value.int IntKind.i64 n, Value.int IntKind.i64 er, Value.slice Ax x.length cx, Value.slice Ay y.length cy, Value.bool true, Value.bool false, Value.bool false, Value.int IntKind.i64 n, Value.int IntKind.i64 n, Value.bool false, Value.bool false, Value.bool false, Value.int IntKind.i64 er, Value.int IntKind.i64 er, Value.bool false, Value.bool false, Value.int IntKind.i64 (i : Int), Value.slice Ax x.length cx, Value.int IntKind.i64 (x.length : Int), Value.bool false, u46, u47, u48, u49, u50, u51, u52, u53, u54, u55, Value.slice Ai l0.length ci, Value.func (Fn.func 34) #[] #[Value.pointer (some ⟨wr.heap.size, 0, none⟩)], Value.bool false, Value.slice Ai l0.length ci, Value.func (Fn.func 34) #[] #[Value.pointer (some ⟨wr.heap.size + 1 + 1, 0, none⟩)], zz.1, undef, undef, undef, undef, undef, undef, undef, undef, undef, undef, undef, undef, undef, undef, undef, undef, undef, undef, undef, undef, undef, undef, undef, undef, undef, undef, undef, undef, undef, undef, undef, undef, undef, undef, undef, undef, undef], defers := [] }) ?assign ?body ?done ?stop
      case hI =>
        rintro pre V V' ⟨vl, h1, h2, h3⟩ ho
        have hlt : wr.heap.size + 1 < V.heap.size := (Array.getElem?_eq_some_iff.1 h1).1
        exact ⟨vl, (ho.block _ hlt (by omega)).trans h1, Kd.S_step h2 (fun k_ hk hk2 => ho.block _ hk2 (by omega)), h3.trans (ho.below (by omega) (by omega))⟩
      case hIx => exact fun _ _ _ _ h _ => h.elim
      case h0 =>
        intro V hV
        exact ⟨_, (hV.block _ (by omega)).trans hob', Kd.S_nil _ _ _ _ _, hbe.trans (hV.mono (by omega))⟩
      case assign =>
        intro l zz V K hK
        gi_wp2
        exact hK
      case stop => exact fun _ _ _ _ h => h.elim
      case body =>
        rintro l pre ⟨xv, xl⟩ V0 V ⟨vl, h1, h2, h3⟩ ho hlt hr ⟨rest, hre⟩
        dsimp only at hr ⊢
        obtain ⟨Ap, cp, ex⟩ := Kd.R_slice hr
        subst ex
        have hxm : xl ∈ rs := by rw [hre]; simp
        have HCP2 := Aside0.mk (HCS.out xl hxm)
        have hVV : V0.heap.size ≤ V.heap.size := ho.size
        have hgV : V.heap[wr.heap.size + 1]? = some (.cells #[vl] 39 (0, 0)) := (ho.block _ (by omega) (by omega)).trans h1
        have hBV : Below wr.heap.size wr V := h3.trans (ho.below (by omega) (by omega))
        have hSV : Kd.S (Kd.slice 5 (Kd.int .u8)) 22 V wr.heap.size (fun k_ => wr.heap.size + 4 < k_ ∧ k_ < V0.heap.size) vl (pre.map Prod.snd) := Kd.S_step (Kd.S_mono (Kd.S_bound h2) (fun k_ hk => ⟨hk.1, hk.2.2.1⟩)) (fun k_ hk hk2 => ho.block _ (by omega) (by omega))
        have hcg : V.cell? ⟨wr.heap.size + 1, 0, none⟩ = some vl := (blk_cell hgV 0).trans rfl
        have HSV := Aside0.mk hSV
        have HBV := Aside0.mk hBV
        have HGV := Aside0.mk hgV
        have HCX := Aside0.mk (Kd.R_reads' hr).2.2
        have HLX := Aside0.mk (Kd.R_reads' hr).2.1
        have HXR := Aside0.mk hr
        have HPL := Aside0.mk (show pre.length + 1 ≤ rs.length by rw [hre]; simp)
        have HLT := Aside0.mk hlt
        have HVL := Aside0.mk (show ∀ k_, vl.ownBlock = some k_ → wr.heap.size + 4 < k_ ∧ k_ < V0.heap.size from fun k_ hk_ => by obtain ⟨f_, h_⟩ := HSV.out; exact h_.1 k_ hk_)
        have HSZ := Aside0.mk (show wr.heap.size + 4 < V0.heap.size ∧ V0.heap.size ≤ V.heap.size from ⟨by omega, hVV⟩)
        have hmix : Try.prog.follows .mixedOrders = true := by kernel_rfl
        clear hr hSV hBV hgV h1 h2 h3 hxm hre
        refine wpIn_block ?_
        gi_wp2
        refine wpIn_mono (show Code.wpIn _ _ _ _ (fun e a W => e = Exit.normal ∧ ∃ (u64 u65 vl1 : Value), a = { tmps := #[Value.slice A0 l0.length c0, undef, Value.pointer (some ⟨w.heap.size, 0, none⟩), Value.slice Ai l0.length ci, Value.slice Ax x.length cx, Value.int IntKind.i64 n, Value.int IntKind.i64 er, Value.slice Ay y.length cy, Value.int IntKind.i64 n, Value.int IntKind.i64 er, Value.int IntKind.i64 (i : Int), Value.pointer (some ⟨wr.heap.size + 1, 0, none⟩), Value.slice Ap xl.length cp, undef, Value.slice A0 l0.length c0, Value.slice Ai l0.length ci, Value.tuple #[Value.slice Ax x.length cx, Value.int IntKind.i64 n, Value.int IntKind.i64 er], Value.slice Ai l0.length ci, Value.tuple #[Value.slice Ax x.length cx, Value.int IntKind.i64 n, Value.int IntKind.i64 er], Value.slice Ax x.length cx, Value.int IntKind.i64 n, Value.int IntKind.i64 er, Value.tuple #[Value.slice Ay y.length cy, Value.int IntKind.i64 n, Value.int IntKind.i64 er], Value.slice A0 l0.length c0, Value.tuple #[Value.slice Ay y.length cy, Value.int IntKind.i64 n, Value.int IntKind.i64 er], Value.slice Ay y.length cy, Value.int IntKind.i64 n, Value.int IntKind.i64 er, Value.slice Ax x.length cx, Value.slice Ay y.length cy, Value.bool true, Value.bool false, Value.bool false, Value.int IntKind.i64 n, Value.int IntKind.i64 n, Value.bool false, Value.bool false, Value.bool false, Value.int IntKind.i64 er, Value.int IntKind.i64 er, Value.bool false, Value.bool false, Value.int IntKind.i64 (i : Int), Value.slice Ax x.length cx, Value.int IntKind.i64 (x.length : Int), Value.bool false, u46, u47, u48, u49, u50, u51, u52, u53, u54, u55, Value.slice Ai l0.length ci, Value.func (Fn.func 34) #[] #[Value.pointer (some ⟨wr.heap.size, 0, none⟩)], Value.bool false, Value.slice Ai l0.length ci, Value.func (Fn.func 34) #[] #[Value.pointer (some ⟨wr.heap.size + 1 + 1, 0, none⟩)], Value.slice Ap xl.length cp, vl, Value.slice Ap xl.length cp, u64, u65, vl1, undef, undef, undef, undef, undef, undef, undef, undef, undef, undef, undef, undef, undef, undef, undef, undef, undef, undef, undef, undef, undef, undef, undef, undef, undef, undef, undef, undef, undef, undef, undef, undef], defers := [] } ∧
          Aside0 (W.heap[wr.heap.size + 1]? = some (.cells #[vl1] 39 (0, 0))) ∧ Aside0 (Kd.S (Kd.slice 5 (Kd.int .u8)) 22 W wr.heap.size (fun k_ => wr.heap.size + 4 < k_ ∧ some k_ ≠ (Value.slice Ap xl.length cp).ownBlock) vl1 (pre.map Prod.snd ++ [xl])) ∧
          Aside0 (Kd.R (Kd.int .u8) 5 W V0.heap.size (fun _ => True) (.slice Ap xl.length cp) xl) ∧ Aside0 (Below wr.heap.size V W) ∧ Aside0 (W.heap[wr.heap.size + 3]? = V.heap[wr.heap.size + 3]? ∧ W.heap[wr.heap.size + 3 + 1]? = V.heap[wr.heap.size + 3 + 1]?)) _ _ from ?region) ?rest
        case region =>
          refine wpIn_region_any hmix ?_
          change wpAnyIn _ _ _ _ _ _ _ _ _ (World.drew _)
          refine wpAnyIn_ready (rs := [0, 1]) (by kernel_rfl) (by simp) ?_
          refine AllReadyIn.cons rfl (fun K hK => ?_) ?_
          · go_simp; refine hK _ _ ?_; clear hK K
            refine wpAnyIn_ready (rs := [1]) (by kernel_rfl) (by simp) ?_
            refine AllReadyIn.cons rfl (fun K hK => ?_) ?_
            · go_simp; refine hK _ _ ?_; clear hK K
              refine wpAnyIn_ready (rs := [2]) (by kernel_rfl) (by simp) ?_
              refine AllReadyIn.cons rfl (fun K hK => ?_) ?_
              · go_simp; gi_wp2_with (refine ⟨trivial, rfl, ?_⟩; gi_at_call 12; refine (CallsIn.inRound l (callsIn_wide.2 (scriptoriumref00_CopyBytes.calls Ap cp xl xl _ (Kd.C_drew HCX.out) HLX.out HCP2.out.1))).mono ?_; rintro e w5 ⟨vi5, rfl, ho5, hb5⟩; obtain ⟨A5, c5, e5⟩ := Kd.R_slice ho5; subst e5; have hc5 : w5.cell? ⟨wr.heap.size + 1, 0, none⟩ = some vl := (hb5.cell (World.block_lt_of_cell? V _ hcg)).trans hcg; have hc6 : (w5.alloc (.cells #[.slice A5 xl.length c5] 22)).cell? ⟨wr.heap.size + 1, 0, none⟩ = some vl := ((below_alloc (Below.refl _ w5) _).cell (World.block_lt_of_cell? w5 _ hc5)).trans hc5; have HO5 := Aside0.mk ho5; have HB5 := Aside0.mk ((below_drew1 (Below.refl V.heap.size V)).trans hb5); clear ho5 hb5); (try (refine hK _ _ ?_; clear hK K))
                refine wpAnyIn_ready (rs := [3]) (by kernel_rfl) (by simp) ?_
                refine AllReadyIn.cons rfl (fun K hK => ?_) ?_
                · go_simp; refine hK _ _ ?_; clear hK K
                  refine wpAnyIn_ready (rs := [4]) (by kernel_rfl) (by simp) ?_
                  refine AllReadyIn.cons rfl (fun K hK => ?_) ?_
                  · refine Eq.mpr (if_pos (c := Region.wanted _ _ = true) rfl) ?_; refine op_in l (by intro c h; cases h) ?_; refine of_if (c := Region.wanted _ (yielded #[] _) = true) rfl (Kd.S_append_step (ops := #[]) (Kc := K) (Kd.slice 5 (Kd.int .u8)) (w0 := V) wr.heap.size rfl (.tmp 62) (.tmp 65) 39 22 (.slice none 0 0) 24 rfl Try.underlying39 info22 rfl (by decide) (by omega) vl (pre.map Prod.snd) xl [.slice A5 xl.length c5] (fun k_ => wr.heap.size + 4 < k_ ∧ some k_ ≠ (Value.slice Ap xl.length cp).ownBlock) (fun k_ => some k_ = (Value.slice A5 xl.length c5).ownBlock) rfl rfl
              (Kd.M_row (Kd.R_mono (Kd.R_tight rfl (Kd.R_lower HO5.out (show wr.heap.size ≤ V.heap.size by have := HSZ.out; omega))) (fun _ h_ => h_)))
              (fun k_ hk_ => by have q1 := Kd.R_base HO5.out k_ hk_.symm; have q1' : V.heap.size ≤ k_ := q1; have q0 := HSZ.out; exact ⟨⟨by omega, fun e_ => by have q2 := Kd.R_lt HXR.out k_ e_.symm; omega⟩, fun e_ => by have q2 := HVL.out k_ e_.symm; omega⟩)
              (fun k_ hk_ => by have q1 := HB5.out.size; have q0 := HSZ.out; exact ⟨by omega, fun e_ => by have q2 := Kd.R_lt HXR.out k_ e_.symm; omega⟩)
              (Kd.S_mono (Kd.S_below HSV.out HB5.out) (fun k_ hk_ => ⟨⟨hk_.1, fun e_ => by have q2 := Kd.R_base HXR.out k_ e_.symm; have := hk_.2; omega⟩, fun e_ => by have q1 := Kd.R_base HO5.out k_ e_.symm; have q1' : V.heap.size ≤ k_ := q1; have q0 := HSZ.out; have := hk_.2; omega⟩))
              (HB5.out.mono (by have := HSZ.out; omega)) (by have := HB5.out.size; have := HSZ.out; omega) (by rw [List.length_map]; have := HPL.out; have := HLN.out; omega) ?_)
                    intro v1 w6 hS6 hb6 hg6 _
                    obtain ⟨Av, cv, ev⟩ := Kd.S_slice hS6
                    rw [show (pre.map Prod.snd ++ [xl]).length = pre.length + 1 by simp] at ev
                    subst ev
                    refine hK _ _ ?_
                    clear hK K
                    have HFI := Aside0.mk (reads_facts wr V0 V w5 w6 Ap cp xl vl HSZ.out HGV.out HXR.out HVL.out HB5.out hb6 hg6)
                    have hc7 : w6.cell? ⟨wr.heap.size + 1, 0, none⟩ = some vl := (blk_cell HFI.out.1 0).trans rfl
                    have hf7 := blk_frozen HFI.out.1 0
                    have HS6 := Aside0.mk hS6
                    clear hS6 hb6 hg6
                    refine wpAnyIn_ready (rs := [5]) (by kernel_rfl) (by simp) ?_
                    refine AllReadyIn.cons rfl (fun K hK => ?_) ?_
                    · go_simp; refine hK _ _ ?_; clear hK K
                      refine wpAnyIn_done (by kernel_rfl) ?_ _
                      exact ⟨rfl, _, _, _, rfl, ⟨blk_put (cs := #[vl]) HFI.out.1 0 _ rfl⟩, ⟨Kd.S_step HS6.out (fun k_ hk_ _ => Below.heap_setCell _ _ _ _ (show k_ ≠ wr.heap.size + 1 by have := hk_.1; omega))⟩, ⟨Kd.R_mono (Kd.R_step (Kd.R_bound HFI.out.2.1) (fun k_ hk_ _ => Below.heap_setCell _ _ _ _ (show k_ ≠ wr.heap.size + 1 by have := hk_.2.1; have := HSZ.out; omega))) (fun _ _ => trivial)⟩, ⟨Below.setCell HFI.out.2.2.1 (p := ⟨wr.heap.size + 1, 0, none⟩) (Nat.le_succ _) _⟩, ⟨(Below.heap_setCell _ _ _ _ (show wr.heap.size + 3 ≠ wr.heap.size + 1 by omega)).trans HFI.out.2.2.2.1, (Below.heap_setCell _ _ _ _ (show wr.heap.size + 3 + 1 ≠ wr.heap.size + 1 by omega)).trans HFI.out.2.2.2.2⟩⟩
                    exact AllReadyIn.nil
                  exact AllReadyIn.nil
                exact AllReadyIn.nil
              exact AllReadyIn.nil
            exact AllReadyIn.nil
          refine AllReadyIn.cons rfl (fun K hK => ?_) ?_
          · go_simp; refine hK _ _ ?_; clear hK K
            refine wpAnyIn_ready (rs := [0, 2]) (by kernel_rfl) (by simp) ?_
            refine AllReadyIn.cons rfl (fun K hK => ?_) ?_
            · go_simp; refine hK _ _ ?_; clear hK K
              refine wpAnyIn_ready (rs := [2]) (by kernel_rfl) (by simp) ?_
              refine AllReadyIn.cons rfl (fun K hK => ?_) ?_
              · go_simp; gi_wp2_with (refine ⟨trivial, rfl, ?_⟩; gi_at_call 12; refine (CallsIn.inRound l (callsIn_wide.2 (scriptoriumref00_CopyBytes.calls Ap cp xl xl _ (Kd.C_drew HCX.out) HLX.out HCP2.out.1))).mono ?_; rintro e w5 ⟨vi5, rfl, ho5, hb5⟩; obtain ⟨A5, c5, e5⟩ := Kd.R_slice ho5; subst e5; have hc5 : w5.cell? ⟨wr.heap.size + 1, 0, none⟩ = some vl := (hb5.cell (World.block_lt_of_cell? V _ hcg)).trans hcg; have hc6 : (w5.alloc (.cells #[.slice A5 xl.length c5] 22)).cell? ⟨wr.heap.size + 1, 0, none⟩ = some vl := ((below_alloc (Below.refl _ w5) _).cell (World.block_lt_of_cell? w5 _ hc5)).trans hc5; have HO5 := Aside0.mk ho5; have HB5 := Aside0.mk ((below_drew1 (Below.refl V.heap.size V)).trans hb5); clear ho5 hb5); (try (refine hK _ _ ?_; clear hK K))
                refine wpAnyIn_ready (rs := [3]) (by kernel_rfl) (by simp) ?_
                refine AllReadyIn.cons rfl (fun K hK => ?_) ?_
                · go_simp; refine hK _ _ ?_; clear hK K
                  refine wpAnyIn_ready (rs := [4]) (by kernel_rfl) (by simp) ?_
                  refine AllReadyIn.cons rfl (fun K hK => ?_) ?_
                  · refine Eq.mpr (if_pos (c := Region.wanted _ _ = true) rfl) ?_; refine op_in l (by intro c h; cases h) ?_; refine of_if (c := Region.wanted _ (yielded #[] _) = true) rfl (Kd.S_append_step (ops := #[]) (Kc := K) (Kd.slice 5 (Kd.int .u8)) (w0 := V) wr.heap.size rfl (.tmp 62) (.tmp 65) 39 22 (.slice none 0 0) 24 rfl Try.underlying39 info22 rfl (by decide) (by omega) vl (pre.map Prod.snd) xl [.slice A5 xl.length c5] (fun k_ => wr.heap.size + 4 < k_ ∧ some k_ ≠ (Value.slice Ap xl.length cp).ownBlock) (fun k_ => some k_ = (Value.slice A5 xl.length c5).ownBlock) rfl rfl
              (Kd.M_row (Kd.R_mono (Kd.R_tight rfl (Kd.R_lower HO5.out (show wr.heap.size ≤ V.heap.size by have := HSZ.out; omega))) (fun _ h_ => h_)))
              (fun k_ hk_ => by have q1 := Kd.R_base HO5.out k_ hk_.symm; have q1' : V.heap.size ≤ k_ := q1; have q0 := HSZ.out; exact ⟨⟨by omega, fun e_ => by have q2 := Kd.R_lt HXR.out k_ e_.symm; omega⟩, fun e_ => by have q2 := HVL.out k_ e_.symm; omega⟩)
              (fun k_ hk_ => by have q1 := HB5.out.size; have q0 := HSZ.out; exact ⟨by omega, fun e_ => by have q2 := Kd.R_lt HXR.out k_ e_.symm; omega⟩)
              (Kd.S_mono (Kd.S_below HSV.out HB5.out) (fun k_ hk_ => ⟨⟨hk_.1, fun e_ => by have q2 := Kd.R_base HXR.out k_ e_.symm; have := hk_.2; omega⟩, fun e_ => by have q1 := Kd.R_base HO5.out k_ e_.symm; have q1' : V.heap.size ≤ k_ := q1; have q0 := HSZ.out; have := hk_.2; omega⟩))
              (HB5.out.mono (by have := HSZ.out; omega)) (by have := HB5.out.size; have := HSZ.out; omega) (by rw [List.length_map]; have := HPL.out; have := HLN.out; omega) ?_)
                    intro v1 w6 hS6 hb6 hg6 _
                    obtain ⟨Av, cv, ev⟩ := Kd.S_slice hS6
                    rw [show (pre.map Prod.snd ++ [xl]).length = pre.length + 1 by simp] at ev
                    subst ev
                    refine hK _ _ ?_
                    clear hK K
                    have HFI := Aside0.mk (reads_facts wr V0 V w5 w6 Ap cp xl vl HSZ.out HGV.out HXR.out HVL.out HB5.out hb6 hg6)
                    have hc7 : w6.cell? ⟨wr.heap.size + 1, 0, none⟩ = some vl := (blk_cell HFI.out.1 0).trans rfl
                    have hf7 := blk_frozen HFI.out.1 0
                    have HS6 := Aside0.mk hS6
                    clear hS6 hb6 hg6
                    refine wpAnyIn_ready (rs := [5]) (by kernel_rfl) (by simp) ?_
                    refine AllReadyIn.cons rfl (fun K hK => ?_) ?_
                    · go_simp; refine hK _ _ ?_; clear hK K
                      refine wpAnyIn_done (by kernel_rfl) ?_ _
                      exact ⟨rfl, _, _, _, rfl, ⟨blk_put (cs := #[vl]) HFI.out.1 0 _ rfl⟩, ⟨Kd.S_step HS6.out (fun k_ hk_ _ => Below.heap_setCell _ _ _ _ (show k_ ≠ wr.heap.size + 1 by have := hk_.1; omega))⟩, ⟨Kd.R_mono (Kd.R_step (Kd.R_bound HFI.out.2.1) (fun k_ hk_ _ => Below.heap_setCell _ _ _ _ (show k_ ≠ wr.heap.size + 1 by have := hk_.2.1; have := HSZ.out; omega))) (fun _ _ => trivial)⟩, ⟨Below.setCell HFI.out.2.2.1 (p := ⟨wr.heap.size + 1, 0, none⟩) (Nat.le_succ _) _⟩, ⟨(Below.heap_setCell _ _ _ _ (show wr.heap.size + 3 ≠ wr.heap.size + 1 by omega)).trans HFI.out.2.2.2.1, (Below.heap_setCell _ _ _ _ (show wr.heap.size + 3 + 1 ≠ wr.heap.size + 1 by omega)).trans HFI.out.2.2.2.2⟩⟩
                    exact AllReadyIn.nil
                  exact AllReadyIn.nil
                exact AllReadyIn.nil
              exact AllReadyIn.nil
            refine AllReadyIn.cons rfl (fun K hK => ?_) ?_
            · go_simp; gi_wp2_with (refine ⟨trivial, rfl, ?_⟩; gi_at_call 12; refine (CallsIn.inRound l (callsIn_wide.2 (scriptoriumref00_CopyBytes.calls Ap cp xl xl _ (Kd.C_drew HCX.out) HLX.out HCP2.out.1))).mono ?_; rintro e w5 ⟨vi5, rfl, ho5, hb5⟩; obtain ⟨A5, c5, e5⟩ := Kd.R_slice ho5; subst e5; have hc5 : w5.cell? ⟨wr.heap.size + 1, 0, none⟩ = some vl := (hb5.cell (World.block_lt_of_cell? V _ hcg)).trans hcg; have hc6 : (w5.alloc (.cells #[.slice A5 xl.length c5] 22)).cell? ⟨wr.heap.size + 1, 0, none⟩ = some vl := ((below_alloc (Below.refl _ w5) _).cell (World.block_lt_of_cell? w5 _ hc5)).trans hc5; have HO5 := Aside0.mk ho5; have HB5 := Aside0.mk ((below_drew1 (Below.refl V.heap.size V)).trans hb5); clear ho5 hb5); (try (refine hK _ _ ?_; clear hK K))
              refine wpAnyIn_ready (rs := [0, 3]) (by kernel_rfl) (by simp) ?_
              refine AllReadyIn.cons rfl (fun K hK => ?_) ?_
              · go_simp; refine hK _ _ ?_; clear hK K
                refine wpAnyIn_ready (rs := [3]) (by kernel_rfl) (by simp) ?_
                refine AllReadyIn.cons rfl (fun K hK => ?_) ?_
                · go_simp; refine hK _ _ ?_; clear hK K
                  refine wpAnyIn_ready (rs := [4]) (by kernel_rfl) (by simp) ?_
                  refine AllReadyIn.cons rfl (fun K hK => ?_) ?_
                  · refine Eq.mpr (if_pos (c := Region.wanted _ _ = true) rfl) ?_; refine op_in l (by intro c h; cases h) ?_; refine of_if (c := Region.wanted _ (yielded #[] _) = true) rfl (Kd.S_append_step (ops := #[]) (Kc := K) (Kd.slice 5 (Kd.int .u8)) (w0 := V) wr.heap.size rfl (.tmp 62) (.tmp 65) 39 22 (.slice none 0 0) 24 rfl Try.underlying39 info22 rfl (by decide) (by omega) vl (pre.map Prod.snd) xl [.slice A5 xl.length c5] (fun k_ => wr.heap.size + 4 < k_ ∧ some k_ ≠ (Value.slice Ap xl.length cp).ownBlock) (fun k_ => some k_ = (Value.slice A5 xl.length c5).ownBlock) rfl rfl
              (Kd.M_row (Kd.R_mono (Kd.R_tight rfl (Kd.R_lower HO5.out (show wr.heap.size ≤ V.heap.size by have := HSZ.out; omega))) (fun _ h_ => h_)))
              (fun k_ hk_ => by have q1 := Kd.R_base HO5.out k_ hk_.symm; have q1' : V.heap.size ≤ k_ := q1; have q0 := HSZ.out; exact ⟨⟨by omega, fun e_ => by have q2 := Kd.R_lt HXR.out k_ e_.symm; omega⟩, fun e_ => by have q2 := HVL.out k_ e_.symm; omega⟩)
              (fun k_ hk_ => by have q1 := HB5.out.size; have q0 := HSZ.out; exact ⟨by omega, fun e_ => by have q2 := Kd.R_lt HXR.out k_ e_.symm; omega⟩)
              (Kd.S_mono (Kd.S_below HSV.out HB5.out) (fun k_ hk_ => ⟨⟨hk_.1, fun e_ => by have q2 := Kd.R_base HXR.out k_ e_.symm; have := hk_.2; omega⟩, fun e_ => by have q1 := Kd.R_base HO5.out k_ e_.symm; have q1' : V.heap.size ≤ k_ := q1; have q0 := HSZ.out; have := hk_.2; omega⟩))
              (HB5.out.mono (by have := HSZ.out; omega)) (by have := HB5.out.size; have := HSZ.out; omega) (by rw [List.length_map]; have := HPL.out; have := HLN.out; omega) ?_)
                    intro v1 w6 hS6 hb6 hg6 _
                    obtain ⟨Av, cv, ev⟩ := Kd.S_slice hS6
                    rw [show (pre.map Prod.snd ++ [xl]).length = pre.length + 1 by simp] at ev
                    subst ev
                    refine hK _ _ ?_
                    clear hK K
                    have HFI := Aside0.mk (reads_facts wr V0 V w5 w6 Ap cp xl vl HSZ.out HGV.out HXR.out HVL.out HB5.out hb6 hg6)
                    have hc7 : w6.cell? ⟨wr.heap.size + 1, 0, none⟩ = some vl := (blk_cell HFI.out.1 0).trans rfl
                    have hf7 := blk_frozen HFI.out.1 0
                    have HS6 := Aside0.mk hS6
                    clear hS6 hb6 hg6
                    refine wpAnyIn_ready (rs := [5]) (by kernel_rfl) (by simp) ?_
                    refine AllReadyIn.cons rfl (fun K hK => ?_) ?_
                    · go_simp; refine hK _ _ ?_; clear hK K
                      refine wpAnyIn_done (by kernel_rfl) ?_ _
                      exact ⟨rfl, _, _, _, rfl, ⟨blk_put (cs := #[vl]) HFI.out.1 0 _ rfl⟩, ⟨Kd.S_step HS6.out (fun k_ hk_ _ => Below.heap_setCell _ _ _ _ (show k_ ≠ wr.heap.size + 1 by have := hk_.1; omega))⟩, ⟨Kd.R_mono (Kd.R_step (Kd.R_bound HFI.out.2.1) (fun k_ hk_ _ => Below.heap_setCell _ _ _ _ (show k_ ≠ wr.heap.size + 1 by have := hk_.2.1; have := HSZ.out; omega))) (fun _ _ => trivial)⟩, ⟨Below.setCell HFI.out.2.2.1 (p := ⟨wr.heap.size + 1, 0, none⟩) (Nat.le_succ _) _⟩, ⟨(Below.heap_setCell _ _ _ _ (show wr.heap.size + 3 ≠ wr.heap.size + 1 by omega)).trans HFI.out.2.2.2.1, (Below.heap_setCell _ _ _ _ (show wr.heap.size + 3 + 1 ≠ wr.heap.size + 1 by omega)).trans HFI.out.2.2.2.2⟩⟩
                    exact AllReadyIn.nil
                  exact AllReadyIn.nil
                exact AllReadyIn.nil
              refine AllReadyIn.cons rfl (fun K hK => ?_) ?_
              · go_simp; refine hK _ _ ?_; clear hK K
                refine wpAnyIn_ready (rs := [0]) (by kernel_rfl) (by simp) ?_
                refine AllReadyIn.cons rfl (fun K hK => ?_) ?_
                · go_simp; refine hK _ _ ?_; clear hK K
                  refine wpAnyIn_ready (rs := [4]) (by kernel_rfl) (by simp) ?_
                  refine AllReadyIn.cons rfl (fun K hK => ?_) ?_
                  · refine Eq.mpr (if_pos (c := Region.wanted _ _ = true) rfl) ?_; refine op_in l (by intro c h; cases h) ?_; refine of_if (c := Region.wanted _ (yielded #[] _) = true) rfl (Kd.S_append_step (ops := #[]) (Kc := K) (Kd.slice 5 (Kd.int .u8)) (w0 := V) wr.heap.size rfl (.tmp 62) (.tmp 65) 39 22 (.slice none 0 0) 24 rfl Try.underlying39 info22 rfl (by decide) (by omega) vl (pre.map Prod.snd) xl [.slice A5 xl.length c5] (fun k_ => wr.heap.size + 4 < k_ ∧ some k_ ≠ (Value.slice Ap xl.length cp).ownBlock) (fun k_ => some k_ = (Value.slice A5 xl.length c5).ownBlock) rfl rfl
              (Kd.M_row (Kd.R_mono (Kd.R_tight rfl (Kd.R_lower HO5.out (show wr.heap.size ≤ V.heap.size by have := HSZ.out; omega))) (fun _ h_ => h_)))
              (fun k_ hk_ => by have q1 := Kd.R_base HO5.out k_ hk_.symm; have q1' : V.heap.size ≤ k_ := q1; have q0 := HSZ.out; exact ⟨⟨by omega, fun e_ => by have q2 := Kd.R_lt HXR.out k_ e_.symm; omega⟩, fun e_ => by have q2 := HVL.out k_ e_.symm; omega⟩)
              (fun k_ hk_ => by have q1 := HB5.out.size; have q0 := HSZ.out; exact ⟨by omega, fun e_ => by have q2 := Kd.R_lt HXR.out k_ e_.symm; omega⟩)
              (Kd.S_mono (Kd.S_below HSV.out HB5.out) (fun k_ hk_ => ⟨⟨hk_.1, fun e_ => by have q2 := Kd.R_base HXR.out k_ e_.symm; have := hk_.2; omega⟩, fun e_ => by have q1 := Kd.R_base HO5.out k_ e_.symm; have q1' : V.heap.size ≤ k_ := q1; have q0 := HSZ.out; have := hk_.2; omega⟩))
              (HB5.out.mono (by have := HSZ.out; omega)) (by have := HB5.out.size; have := HSZ.out; omega) (by rw [List.length_map]; have := HPL.out; have := HLN.out; omega) ?_)
                    intro v1 w6 hS6 hb6 hg6 _
                    obtain ⟨Av, cv, ev⟩ := Kd.S_slice hS6
                    rw [show (pre.map Prod.snd ++ [xl]).length = pre.length + 1 by simp] at ev
                    subst ev
                    refine hK _ _ ?_
                    clear hK K
                    have HFI := Aside0.mk (reads_facts wr V0 V w5 w6 Ap cp xl vl HSZ.out HGV.out HXR.out HVL.out HB5.out hb6 hg6)
                    have hc7 : w6.cell? ⟨wr.heap.size + 1, 0, none⟩ = some vl := (blk_cell HFI.out.1 0).trans rfl
                    have hf7 := blk_frozen HFI.out.1 0
                    have HS6 := Aside0.mk hS6
                    clear hS6 hb6 hg6
                    refine wpAnyIn_ready (rs := [5]) (by kernel_rfl) (by simp) ?_
                    refine AllReadyIn.cons rfl (fun K hK => ?_) ?_
                    · go_simp; refine hK _ _ ?_; clear hK K
                      refine wpAnyIn_done (by kernel_rfl) ?_ _
                      exact ⟨rfl, _, _, _, rfl, ⟨blk_put (cs := #[vl]) HFI.out.1 0 _ rfl⟩, ⟨Kd.S_step HS6.out (fun k_ hk_ _ => Below.heap_setCell _ _ _ _ (show k_ ≠ wr.heap.size + 1 by have := hk_.1; omega))⟩, ⟨Kd.R_mono (Kd.R_step (Kd.R_bound HFI.out.2.1) (fun k_ hk_ _ => Below.heap_setCell _ _ _ _ (show k_ ≠ wr.heap.size + 1 by have := hk_.2.1; have := HSZ.out; omega))) (fun _ _ => trivial)⟩, ⟨Below.setCell HFI.out.2.2.1 (p := ⟨wr.heap.size + 1, 0, none⟩) (Nat.le_succ _) _⟩, ⟨(Below.heap_setCell _ _ _ _ (show wr.heap.size + 3 ≠ wr.heap.size + 1 by omega)).trans HFI.out.2.2.2.1, (Below.heap_setCell _ _ _ _ (show wr.heap.size + 3 + 1 ≠ wr.heap.size + 1 by omega)).trans HFI.out.2.2.2.2⟩⟩
                    exact AllReadyIn.nil
                  exact AllReadyIn.nil
                exact AllReadyIn.nil
              exact AllReadyIn.nil
            exact AllReadyIn.nil
          exact AllReadyIn.nil
        case rest =>
          rintro e a8 w8 ⟨rfl, u64, u65, vl1, rfl, HG8, HS8, HR8, HB8, HD8⟩
          clear HSV HGV HCX HXR hcg HVL
          gi_wp2
          obtain ⟨wq, ewq⟩ : ∃ W, W = wr := ⟨wr, rfl⟩
          subst ewq
          gi_loopw [13] (fun p W => ∃ (m : Nat) (x' : List Int), p = .int .i64 (m : Int) ∧ Aside0 (m ≤ xl.length ∧ x'.length = xl.length) ∧ Aside0 (Kd.R (Kd.int .u8) 5 W V0.heap.size (fun _ => True) (.slice Ap xl.length cp) x') ∧ Aside0 (Kd.S (Kd.slice 5 (Kd.int .u8)) 22 W wq.heap.size (fun k_ => wq.heap.size + 4 < k_ ∧ some k_ ≠ (Value.slice Ap xl.length cp).ownBlock) vl1 (pre.map Prod.snd ++ [xl])) ∧ Aside0 (Below V0.heap.size w8 W)) (fun p _ => xl.length - (intOf p).toNat)
          case atStart => exact ⟨0, xl, rfl, ⟨Nat.zero_le _, rfl⟩, HR8, HS8, ⟨Below.refl _ _⟩⟩
          case round =>
            obtain ⟨m, x', rfl, HI2, HR9, HS9, HB9⟩ := hrel
            clear HR8 HS8
            by_cases hi : m < xl.length
            · have hil : ((m : Int) < (xl.length : Int)) = True := eq_true (by omega)
              have hi0 : (0 ≤ (m : Int)) = True := eq_true (by omega)
              have hin : (m < xl.length) = True := eq_true hi
              obtain ⟨gp, cq, eo, gb, gl, cl, HG⟩ := Kd.R_form HR9.out (by rw [HI2.out.2]; omega)
              injection eo with ea en ec
              subst ea
              subst ec
              clear en
              obtain ⟨hx0, hf0⟩ := Kd.R_celln 0 HR9.out (m : Int) (by omega) (by omega)
              rw [Int.toNat_natCast] at hx0 hf0
              have HPUT := Kd.R_putn HR9.out (m : Int) ((rdOf 0 x' (m : Int) + 1) % 256)
              rw [Int.toNat_natCast] at HPUT
              have HQ := Aside0.mk HPUT
              have HGB := Aside0.mk gb
              have HIL := Aside0.mk hi
              have hwi : wrap64 ((m : Int) + 1) = (m : Int) + 1 := by have := HCP2.out.2; unfold wrap64; omega
              clear HPUT gb gl cl HG hi
              gi_wp2
              have hil2 := HIL.out
              refine ⟨⟨m + 1, _, by rw [hwi]; rfl, ⟨by omega, by rw [List.length_set]; exact HI2.out.2⟩, HQ, ⟨?_⟩, ⟨Below.setCell HB9.out (p := ⟨gp, m, none⟩) HGB.out _⟩⟩, ?_⟩
              · exact Kd.S_step HS9.out (fun k_ hk_ _ => Below.heap_setCell _ _ _ _ (show k_ ≠ gp from fun e_ => hk_.2 (by rw [e_]; rfl)))
              · show xl.length - (intOf (.int .i64 (wrap64 ((m : Int) + 1)))).toNat < xl.length - (intOf (.int .i64 (m : Int))).toNat
                rw [hwi]
                show xl.length - ((m : Int) + 1).toNat < xl.length - (m : Int).toNat
                omega
            · have hil : ((m : Int) < (xl.length : Int)) = False := eq_false (by omega)
              have hin : (m < xl.length) = False := eq_false hi
              clear hi
              gi_wp2_with (refine list_op_in (N := 83) l ?hN ?hD ?hW ?_; (case hN => with_reducible rfl); (case hD => intro c h; cases h); (case hW => rfl); (generalize hG : Oper.wp _ _ _ _ _ _ = G))
              rw [← hG]
              clear hG
              refine of_if (c := Region.wanted _ (yielded #[] _) = true) rfl (Kd.R_append_step (ops := #[]) (Kd.int .u8) (w0 := wr) V0.heap.size rfl (.tmp 81) (.tmp 82) 22 5 (.int .u8 0) 1 rfl Try.underlying22 info5 rfl (by decide) (by omega) (.slice Ap xl.length cp) x' 9 [.int .u8 9] (fun _ => True) (fun _ => False) rfl rfl rfl (fun _ h_ => h_.elim) (fun _ _ => trivial) HR9.out (Below.refl _ _) (by have h_ := HB9.out.size; have := HSZ.out; have := HB8.out.size; omega) (by have := HCP2.out.2; have := HI2.out.2; omega) ?_)
              intro v9 w9 hR9 hb9 hg9 hat9; obtain ⟨Az, cz, ez⟩ := Kd.R_slice hR9; rw [show (x' ++ ([9] : List Int)).length = xl.length + 1 by rw [List.length_append, HI2.out.2]; rfl] at ez; subst ez; have HB10 := Aside0.mk hb9; have HG10 := Aside0.mk hg9; clear hR9 hb9 hg9 hat9
              gi_wp2
              have hs8 := HB8.out.size
              have hs9 := HB9.out.size
              have hs10 := HB10.out.size
              have hz := HSZ.out
              have low : ∀ k_, k_ < V0.heap.size → w9.heap[k_]? = w8.heap[k_]? := fun k_ hk_ => (HG10.out.block k_ (by omega) (fun e_ => by have := Kd.R_base HR9.out k_ e_.symm; omega)).trans (HB9.out.block k_ hk_)
              have hb8 : Below wq.heap.size V w9 := HB8.out.trans ((HB9.out.mono (by omega)).trans (HB10.out.mono (by omega)))
              refine ⟨⟨?_, ?_⟩, hb8, vl1, (low _ (by omega)).trans HG8.out, ?_, HBV.out.trans hb8⟩
              · rw [hsz]
                exact (low _ (by omega)).trans HD8.out.1
              · rw [hsz]
                exact (low _ (by omega)).trans HD8.out.2
              · rw [List.map_append]
                exact Kd.S_mono (Kd.S_step HS9.out (fun k_ hk_ hk2_ => HG10.out.block k_ hk2_ hk_.2)) (fun _ h_ => h_.1)
      case done =>
        rintro xs V hxs ⟨vl, h1, h2, h3⟩ hK
        rw [hxs] at h2
        obtain ⟨Al, cl, el⟩ := Kd.S_slice h2
        subst el
        have hcl : V.cell? ⟨wr.heap.size + 1, 0, none⟩ = some (.slice Al rs.length cl) := (blk_cell h1 0).trans rfl
        have hb1V : Below w1.heap.size w1 V := HB.out.trans (h3.mono HB.out.size)
        have hwV : Below w.heap.size w V := HB1.out.trans (hb1V.mono HB1.out.size)
        have hlt1 : w.heap.size < w1.heap.size := (Array.getElem?_eq_some_iff.1 BR1.out).1
        have hbr : V.heap[w.heap.size]? = some (.cells #[.bool false] 4 (0, 0)) := (hb1V.block _ hlt1).trans BR1.out
        have HSL := Aside0.mk h2
        have HWV := Aside0.mk hwV
        have HBR := Aside0.mk hbr
        have HC0V := Aside0.mk (Kd.C_below HR0.out hwV)
        have HCIV := Aside0.mk (Kd.C_below HIW.out h3)
        rw [hsz] at hK
        have HKD := Aside0.mk hK
        have HLT := Aside0.mk (show wr.heap.size + 3 ≠ w.heap.size by have := HB.out.size; omega)
        have HLW := Aside0.mk hlw
        have HLS := Aside0.mk (show w.heap.size < V.heap.size ∧ wr.heap.size + 3 < V.heap.size from ⟨(Array.getElem?_eq_some_iff.1 hbr).1, (Array.getElem?_eq_some_iff.1 hK).1⟩)
        have hmix : Try.prog.follows .mixedOrders = true := by kernel_rfl
        clear h1 h2 h3 hK hb1V hwV hlt1 hbr
        gi_wp2
        refine wpIn_mono (show Code.wpIn _ _ _ _ (atNormal (fun a W => ∃ (u87 u88 u89 u90 u91 u92 u93 u94 u95 u96 u97 u98 : Value), a = { tmps := #[Value.slice A0 l0.length c0, undef, Value.pointer (some ⟨w.heap.size, 0, none⟩), Value.slice Ai l0.length ci, Value.slice Ax x.length cx, Value.int IntKind.i64 n, Value.int IntKind.i64 er, Value.slice Ay y.length cy, Value.int IntKind.i64 n, Value.int IntKind.i64 er, Value.int IntKind.i64 (i : Int), Value.pointer (some ⟨wr.heap.size + 1, 0, none⟩), undef, undef, Value.slice A0 l0.length c0, Value.slice Ai l0.length ci, Value.tuple #[Value.slice Ax x.length cx, Value.int IntKind.i64 n, Value.int IntKind.i64 er], Value.slice Ai l0.length ci, Value.tuple #[Value.slice Ax x.length cx, Value.int IntKind.i64 n, Value.int IntKind.i64 er], Value.slice Ax x.length cx, Value.int IntKind.i64 n, Value.int IntKind.i64 er, Value.tuple #[Value.slice Ay y.length cy, Value.int IntKind.i64 n, Value.int IntKind.i64 er], Value.slice A0 l0.length c0, Value.tuple #[Value.slice Ay y.length cy, Value.int IntKind.i64 n, Value.int IntKind.i64 er], Value.slice Ay y.length cy, Value.int IntKind.i64 n, Value.int IntKind.i64 er, Value.slice Ax x.length cx, Value.slice Ay y.length cy, Value.bool true, Value.bool false, Value.bool false, Value.int IntKind.i64 n, Value.int IntKind.i64 n, Value.bool false, Value.bool false, Value.bool false, Value.int IntKind.i64 er, Value.int IntKind.i64 er, Value.bool false, Value.bool false, Value.int IntKind.i64 (i : Int), Value.slice Ax x.length cx, Value.int IntKind.i64 (x.length : Int), Value.bool false, u46, u47, u48, u49, u50, u51, u52, u53, u54, u55, Value.slice Ai l0.length ci, Value.func (Fn.func 34) #[] #[Value.pointer (some ⟨wr.heap.size, 0, none⟩)], Value.bool false, Value.slice Ai l0.length ci, Value.func (Fn.func 34) #[] #[Value.pointer (some ⟨wr.heap.size + 1 + 1, 0, none⟩)], undef, undef, undef, undef, undef, undef, undef, undef, undef, undef, undef, undef, undef, undef, undef, undef, undef, undef, undef, undef, undef, undef, undef, undef, undef, undef, u87, u88, u89, u90, u91, u92, u93, u94, u95, u96, u97, u98], defers := [{ target := .collected (wr.heap.size + 3), args := #[] }] } ∧
          Aside0 (W.heap[w.heap.size]? = some (.cells #[.bool true] 4 (0, 0))) ∧ Aside0 (Below w.heap.size w W) ∧ Aside0 (W.heap[wr.heap.size + 3]? = some (.deferred (some []))))) _ _ from ?region) ?rest
        case region =>
          gi_region_with_o (first | (refine ⟨trivial, rfl, ?_⟩; gi_at_call 22; refine (callsIn_wide.2 (scriptoriumref04_All.calls k (fun _ => True) A0 c0 l0 ra _ (Kd.V_mono (Kd.V_mk HC0.out (Kd.C_F (Kd.heap_int .u8) (Kd.C_drew HC0V.out))) (fun _ _ => trivial)) HRA.out)).mono ?_; rintro e wA ⟨vA, rfl, hSA, hbA⟩; obtain ⟨AA, cA, eA⟩ := Kd.S_slice hSA; subst eA; have hclA : wA.cell? ⟨wr.heap.size + 1, 0, none⟩ = some (.slice Al rs.length cl) := (hbA.cell (World.block_lt_of_cell? V _ hcl)).trans hcl; have HSA := Aside0.mk hSA; have HBA := Aside0.mk ((below_drew1 (Below.refl V.heap.size V)).trans hbA); clear hSA hbA) | (refine ⟨trivial, rfl, ?_⟩; gi_at_call 21; refine (callsIn_wide.2 (scriptoriumref04_Same.calls k Al cl rs AA cA ra true _ (Kd.S_reads' (Kd.S_below HSL.out HBA.out)).2.2 (Kd.S_reads' HSL.out).2.1 (Kd.S_reads' HSA.out).2.2 (Kd.S_reads' HSA.out).2.1 HSM.out)).mono ?_; rintro e w' ⟨rfl, ⟨nd2, rfl⟩⟩) | (refine ⟨trivial, rfl, ?_⟩; gi_at_call 15; refine (callsIn_wide.2 (scriptoriumref00_EqBytes.calls k Ai ci l0 A0 c0 l0 true _ (Kd.C_drewN (Kd.C_below HCIV.out HBA.out) _) HIC.out (Kd.C_drewN (Kd.C_below HC0V.out HBA.out) _) HC0.out HEQ.out)).mono ?_; rintro e w' ⟨rfl, ⟨nd3, rfl⟩⟩) | (refine ⟨trivial, rfl, ?_⟩; gi_at_call 16; refine (callsIn_wide.2 (scriptoriumlaw04_works.calls k true _ HWK.out)).mono ?_; rintro e wW ⟨rfl, hbW⟩; have HBW := Aside0.mk ((HBA.out.trans (pw_below_drewN (Below.refl _ _) _)).trans (hbW.mono HBA.out.size)); clear hbW; have hbr9 := (HBW.out.block _ HLS.out.1).trans HBR.out; have hcr : wW.cell? ⟨w.heap.size, 0, none⟩ = some (.bool false) := (blk_cell hbr9 0).trans rfl; have hfr := blk_frozen hbr9 0; have HBR9 := Aside0.mk hbr9; clear hbr9))
          all_goals exact ⟨_, _, _, _, _, _, _, _, _, _, _, _, rfl, ⟨blk_put (cs := #[.bool false]) HBR9.out 0 _ rfl⟩, ⟨Below.setCell (HWV.out.trans (HBW.out.mono HWV.out.size)) (p := ⟨w.heap.size, 0, none⟩) (Nat.le_refl _) _⟩, ⟨(Below.heap_setCell _ _ _ _ HLT.out).trans ((HBW.out.block _ HLS.out.2).trans HKD.out)⟩⟩
        case rest =>
          intro e a8 w8 h8
          cases e with
          | normal =>
            obtain ⟨u87, u88, u89, u90, u91, u92, u93, u94, u95, u96, u97, u98, rfl, HBX, HWX, HDX⟩ := h8
            gi_wp2
            refine ⟨by simp, .inl ⟨_, _, rfl, run_takeDeferred HDX.out, ?_⟩⟩
            refine ⟨_, results_cell_bool rfl _ _ w.heap.size true rfl Try.underlying4 ?_, rfl, ?_⟩
            · exact (blk_cell ((World.putObj_heap_other (Ne.symm HLT.out)).trans HBX.out) 0).trans rfl
            · exact HWX.out.trans ((Off.put _ (wr.heap.size + 3) (.deferred none)).below (n := w.heap.size) (by have := HB1.out.size; have := HLW.out; omega) HWX.out.size)
          | _ => exact h8.elim
end
/-- THE ONE PURE STATEMENT of scriptoriumlaw04_FrameReads: yours. -/
def scriptoriumlaw04_FrameReads.Pure : Prop := ∀ (a0 : List Int), (a0.length ≤ maxLen ∧ a0.length * 1 ≤ 140737488351232 ∧ ∀ y0 ∈ a0, (Lit.int .u8 y0).wf = true) → ((a0.map fun y0 => 1).sum + 1) ≤ 1048576 → ∃ k, scriptoriumlaw04_FrameReads.f k a0 = some true
theorem scriptoriumlaw04_FrameReads.walk (P : scriptoriumlaw04_FrameReads.Pure) (a0 : List Int) (A0 : Option Addr) (c0 : Nat) (w : World) (w0 : (a0.length ≤ maxLen ∧ a0.length * 1 ≤ 140737488351232 ∧ ∀ y0 ∈ a0, (Lit.int .u8 y0).wf = true)) (hr0 : Kd.C (Kd.int .u8) w A0 a0.length a0) (hc0 : a0.length ≤ c0) (hb : ((a0.map fun y0 => 1).sum + 1) ≤ 1048576) :
    Calls Try.prog 7 #[.slice A0 a0.length c0] w fun e w' => e = .returned (.bool true) ∧ Below w.heap.size w w' := by
  obtain ⟨k, h⟩ := P a0 w0 hb
  refine (scriptoriumlaw04_FrameReads.calls k A0 c0 a0 true w hr0 hc0 h rfl).mono ?_
  rintro e w' ⟨rfl, hd⟩
  exact ⟨rfl, hd⟩

end Go.Proofs.Ytkboplflbokofaa.PFrameReads
