/- Written by xprint.py, a program of these sessions (over the print of the kit, with leaves typed by hand): one Lean function for each Go function, and the proof that the Go code comes to its answers. -/
import Derived.Test.YthdmkacnkdmbiaaPRecordStagedx0
import Derived.Test.YthdmkacnkdmbiaaPRecordStagedx4
import Derived.Test.YthdmkacnkdmbiaaPRecordStagedx5
import Derived.Test.YthdmkacnkdmbiaaPRecordStagedx6
import Derived.Test.YthdmkacnkdmbiaaPRecordStagedx8
import Derived.Test.YthdmkacnkdmbiaaPRecordStagedx10
namespace Go.Proofs.Ythdmkacnkdmbiaa.PRecordStaged
open Go.RowKit Go.Proofs.YthdmkacnkdmbiaaW.PrintWords Go.Proofs.YthdmkacnkdmbiaaW.PrintLast Go.Proofs.YthdmkacnkdmbiaaW.PrintMore
attribute [local go_sem] max2_int min2_int max_two min_two max_three min_three max_four min_four   -- for this text's walks alone
attribute [local go_sem] str_gtr str_leq str_geq
set_option linter.unusedVariables false
set_option linter.unusedSimpArgs false

/-! ### record_Push: function 17 (a leaf, by hand) -/
theorem five_boxes (W : World) (o1 o2 o3 o4 o5 : Obj) : ∃ V, ((((W.alloc o1).alloc o2).alloc o3).alloc o4).alloc o5 = V ∧ V.heap[W.heap.size]? = some o1 ∧ V.heap[W.heap.size + 1]? = some o2 ∧ V.heap[W.heap.size + 1 + 1]? = some o3 ∧ V.heap[W.heap.size + 1 + 1 + 1]? = some o4 ∧ V.heap[W.heap.size + 1 + 1 + 1 + 1]? = some o5 ∧ Below W.heap.size W V ∧ V.heap.size = W.heap.size + 5 := by
  obtain ⟨V, hV, h1, h2, h3, h4, hb, hs⟩ := four_boxes W o1 o2 o3 o4
  have h := blk_new V o5
  rw [hs] at h
  refine ⟨_, rfl, ?_, ?_, ?_, ?_, ?_, ?_, ?_⟩ <;> rw [hV]
  · exact blk_alloc h1 o5
  · exact blk_alloc h2 o5
  · exact blk_alloc h3 o5
  · exact blk_alloc h4 o5
  · exact h
  · exact below_alloc hb _
  · rw [World.size_alloc, hs]
theorem Stt.bx5 {W w : World} {bs : List (Nat × Array Value × TypeId)} {rs : List ((Nat → Prop) × Value × List S44)} {b0 b1 b2 b3 b4 : Nat × Array Value × TypeId} {g : Nat} {cs : Array Value} {t : TypeId} (h : Stt W w (b0 :: b1 :: b2 :: b3 :: b4 :: (g, cs, t) :: bs) rs) : w.heap[g]? = some (.cells cs t (0, 0)) := h.box (g, cs, t) (by simp)
/-- No row's own memory is the block N. -/
def RowsFar (rs : List ((Nat → Prop) × Value × List S44)) (N : Nat) : Prop := ∀ r ∈ rs, ∀ b, r.1 b → b ≠ N
theorem RowsFar.nil (N : Nat) : RowsFar [] N := fun _ q => absurd q (by simp)
theorem RowsFar.one {N : Nat} {ok : Nat → Prop} {v : Value} {m : List S44} (h : ∀ b, ok b → b ≠ N) : RowsFar [(ok, v, m)] N := fun r q => by rw [List.mem_singleton] at q; subst q; exact h
theorem Stt.setN {W w : World} {o : Nat × Array Value × TypeId} {N j : Nat} {cs cs' : Array Value} {t : TypeId} {bs : List (Nat × Array Value × TypeId)} {rs : List ((Nat → Prop) × Value × List S44)} {u : Value} (h : Stt W w (o :: (N, cs, t) :: bs) rs) (e : cs.setIfInBounds j u = cs') (hlt : ∀ b ∈ o :: bs, b.1 < N) (hb : W.heap.size ≤ N) (hr : RowsFar rs N) : Stt W (w.setCell ⟨N, j, none⟩ u) (o :: (N, cs', t) :: bs) rs := by
  refine ⟨below_set h.below hb, fun b q => ?_, fun r q => Kd.R_far (h.row r q) (hr r q) _⟩
  rcases List.mem_cons.1 q with rfl | q
  · exact blk_far (h.box b (by simp)) (p := ⟨N, j, none⟩) (Nat.ne_of_lt (hlt b (by simp))) u
  rcases List.mem_cons.1 q with rfl | q
  · exact blk_put h.bx1 j u e
  · exact blk_far (h.box b (by simp [q])) (p := ⟨N, j, none⟩) (Nat.ne_of_lt (hlt b (by simp [q]))) u
theorem Stt.tenN {W w : World} {o : Nat × Array Value × TypeId} {N : Nat} {t : TypeId} {bs : List (Nat × Array Value × TypeId)} {rs : List ((Nat → Prop) × Value × List S44)} {z0 z1 z2 z3 z4 z5 z6 z7 z8 z9 : Value} (a0 a1 a2 a3 a4 a5 a6 a7 a8 a9 : Value) (h : Stt W w (o :: (N, #[z0, z1, z2, z3, z4, z5, z6, z7, z8, z9], t) :: bs) rs) (hlt : ∀ b ∈ o :: bs, b.1 < N) (hb : W.heap.size ≤ N) (hr : RowsFar rs N) : Stt W (ten w N a0 a1 a2 a3 a4 a5 a6 a7 a8 a9) (o :: (N, #[a0, a1, a2, a3, a4, a5, a6, a7, a8, a9], t) :: bs) rs :=
  ((((((((((h.setN (cs' := #[a0, z1, z2, z3, z4, z5, z6, z7, z8, z9]) (j := 0) (u := a0) rfl hlt hb hr).setN (cs' := #[a0, a1, z2, z3, z4, z5, z6, z7, z8, z9]) (j := 1) (u := a1) rfl hlt hb hr).setN (cs' := #[a0, a1, a2, z3, z4, z5, z6, z7, z8, z9]) (j := 2) (u := a2) rfl hlt hb hr).setN (cs' := #[a0, a1, a2, a3, z4, z5, z6, z7, z8, z9]) (j := 3) (u := a3) rfl hlt hb hr).setN (cs' := #[a0, a1, a2, a3, a4, z5, z6, z7, z8, z9]) (j := 4) (u := a4) rfl hlt hb hr).setN (cs' := #[a0, a1, a2, a3, a4, a5, z6, z7, z8, z9]) (j := 5) (u := a5) rfl hlt hb hr).setN (cs' := #[a0, a1, a2, a3, a4, a5, a6, z7, z8, z9]) (j := 6) (u := a6) rfl hlt hb hr).setN (cs' := #[a0, a1, a2, a3, a4, a5, a6, a7, z8, z9]) (j := 7) (u := a7) rfl hlt hb hr).setN (cs' := #[a0, a1, a2, a3, a4, a5, a6, a7, a8, z9]) (j := 8) (u := a8) rfl hlt hb hr).setN (cs' := #[a0, a1, a2, a3, a4, a5, a6, a7, a8, a9]) (j := 9) (u := a9) rfl hlt hb hr)
theorem Stt.eqv {W w w' : World} {bs : List (Nat × Array Value × TypeId)} {rs : List ((Nat → Prop) × Value × List S44)} (h : Stt W w bs rs) (e : w = w') : Stt W w' bs rs := e ▸ h
theorem hltx1 {N g : Nat} {cs : Array Value} {t : TypeId} {b0 : Nat × Array Value × TypeId} {bs : List (Nat × Array Value × TypeId)} (h : ∀ b ∈ b0 :: (g, cs, t) :: bs, b.1 < N) : g < N := h (g, cs, t) (by simp)
theorem hltx4 {N g : Nat} {cs : Array Value} {t : TypeId} {b0 b1 b2 b3 : Nat × Array Value × TypeId} {bs : List (Nat × Array Value × TypeId)} (h : ∀ b ∈ b0 :: b1 :: b2 :: b3 :: (g, cs, t) :: bs, b.1 < N) : g < N := h (g, cs, t) (by simp)
def record_Push.tl (k : Nat) (b0 b1 b2 b3 : Int) (b4 : ByteArray) (b5 b6 b7 b8 : Int) (bm : List S44) (pri : Int) (abort : Bool) (tw tl nw nl : Int) (dft : Int × Int × Int × Int × ByteArray × Int × Int × Int × Int × List S44 × Int) : Option (Int × Int × Int × Int × ByteArray × Int × Int × Int × Int × List S44 × Int) :=
  (if abort = true then some false else stamp_Less.f k tw tl b5 b6).bind fun ls =>
    if ls = true then some (b0, b1, b2, b3, b4, b5, b6, b7, b8, bm, 0)
    else (record_Expired.f b7 b8 nw nl).bind fun ex =>
      if ex = true then some (b0, b1, 4, b3, b4, b5, b6, b7, b8, bm, 0)
      else if b3 < pri then
        if abort = true then some (b0, b1, 4, b3, b4, b5, b6, b7, b8, bm, 0)
        else (stamp_Next.f tw tl).bind fun s => if s.2.2 = 0 then some (b0, b1, b2, b3, b4, s.1, s.2.1, b7, b8, bm, 0) else some (0, 0, 0, 0, ⟨#[]⟩, 0, 0, 0, 0, [], s.2.2)
      else some dft
def record_Push.sw (k : Nat) (id ep st pr : Int) (an : ByteArray) (sw sl bw bl : Int) (l : List S44) (vid vep vst vpr : Int) (van : ByteArray) (vsw vsl vbw vbl : Int) (pri : Int) (abort : Bool) (tw tl nw nl : Int) : Option (Int × Int × Int × Int × ByteArray × Int × Int × Int × Int × List S44 × Int) :=
  if 3 ≤ st then some (id, ep, st, pr, an, sw, sl, bw, bl, l, 0)
  else if st = 2 then
    if 1000 < pri then some (id, ep, st, pr, an, sw, sl, bw, bl, l, 0)
    else (record_Expired.f bw bl nw nl).bind fun ex => if ex = true then some (id, ep, st, pr, an, sw, sl, bw, bl, l, 0) else some (id, ep, st, pr, an, sw, sl, bw, bl, l, 120)
  else if st = 1 then
    if vep < ep then some (id, ep, st, pr, an, sw, sl, bw, bl, l, 0)
    else record_Push.tl k id vep st pr an sw sl (maxS [⟨bw, bl⟩, ⟨vbw, vbl⟩]).f0 (maxS [⟨bw, bl⟩, ⟨vbw, vbl⟩]).f1 l pri abort tw tl nw nl (id, ep, st, pr, an, sw, sl, bw, bl, l, 120)
  else record_Push.tl k vid vep vst vpr van vsw vsl vbw vbl [] pri abort tw tl nw nl (id, ep, st, pr, an, sw, sl, bw, bl, l, 120)
def record_Push.f (k : Nat) (id ep st pr : Int) (an : ByteArray) (sw sl bw bl : Int) (l : List S44) (has : Bool) (vid vep vst vpr : Int) (van : ByteArray) (vsw vsl vbw vbl : Int) (m : List S44) (pri : Int) (abort : Bool) (tw tl nw nl : Int) : Option (Int × Int × Int × Int × ByteArray × Int × Int × Int × Int × List S44 × Int) :=
  if has = true then
    if l.length < 1000000000000 then
      (cell_CheckRecord.f k id ep st pr an sw sl bw bl l).bind fun ec =>
        (cell_CheckRecord.f k vid vep vst vpr van vsw vsl vbw vbl m).bind fun e2 =>
          if (e2 = 0 ∧ vst = 1 ∧ 1 ≤ pri ∧ pri ≤ 1001) ∧ (decide (ec = 0) && ((id == vid) && (an.toList == van.toList))) = true then
            (stamp_Check.f tw tl).bind fun e3 => if e3 = 0 then (stamp_Check.f nw nl).bind fun e4 => if e4 = 0 then record_Push.sw k id ep st pr an sw sl bw bl l vid vep vst vpr van vsw vsl vbw vbl pri abort tw tl nw nl else some (0, 0, 0, 0, ⟨#[]⟩, 0, 0, 0, 0, [], 2) else some (0, 0, 0, 0, ⟨#[]⟩, 0, 0, 0, 0, [], 2)
          else some (0, 0, 0, 0, ⟨#[]⟩, 0, 0, 0, 0, [], 2)
    else none
  else
    (cell_CheckRecord.f k vid vep vst vpr van vsw vsl vbw vbl m).bind fun e2 =>
      if e2 = 0 ∧ vst = 1 ∧ 1 ≤ pri ∧ pri ≤ 1001 then
        (stamp_Check.f tw tl).bind fun e3 => if e3 = 0 then (stamp_Check.f nw nl).bind fun e4 => if e4 = 0 then record_Push.tl k vid vep vst vpr van vsw vsl vbw vbl [] pri abort tw tl nw nl (0, 0, 0, 0, ⟨#[]⟩, 0, 0, 0, 0, [], 120) else some (0, 0, 0, 0, ⟨#[]⟩, 0, 0, 0, 0, [], 2) else some (0, 0, 0, 0, ⟨#[]⟩, 0, 0, 0, 0, [], 2)
      else some (0, 0, 0, 0, ⟨#[]⟩, 0, 0, 0, 0, [], 2)
theorem record_Push.tl_mono (k : Nat) (b0 b1 b2 b3 : Int) (b4 : ByteArray) (b5 b6 b7 b8 : Int) (bm : List S44) (pri : Int) (abort : Bool) (tw tl nw nl : Int) (dft : Int × Int × Int × Int × ByteArray × Int × Int × Int × Int × List S44 × Int) : LeO (record_Push.tl k b0 b1 b2 b3 b4 b5 b6 b7 b8 bm pri abort tw tl nw nl dft) (record_Push.tl (k + 1) b0 b1 b2 b3 b4 b5 b6 b7 b8 bm pri abort tw tl nw nl dft) := by
  unfold record_Push.tl
  exact LeO.bind (LeO.ite (LeO.refl _) (stamp_Less.mono _ _ _ _ _)) fun _ => LeO.refl _
theorem record_Push.sw_mono (k : Nat) (id ep st pr : Int) (an : ByteArray) (sw sl bw bl : Int) (l : List S44) (vid vep vst vpr : Int) (van : ByteArray) (vsw vsl vbw vbl : Int) (pri : Int) (abort : Bool) (tw tl nw nl : Int) : LeO (record_Push.sw k id ep st pr an sw sl bw bl l vid vep vst vpr van vsw vsl vbw vbl pri abort tw tl nw nl) (record_Push.sw (k + 1) id ep st pr an sw sl bw bl l vid vep vst vpr van vsw vsl vbw vbl pri abort tw tl nw nl) := by
  unfold record_Push.sw
  exact LeO.ite (LeO.refl _) (LeO.ite (LeO.refl _) (LeO.ite (LeO.ite (LeO.refl _) (record_Push.tl_mono _ _ _ _ _ _ _ _ _ _ _ _ _ _ _ _ _ _)) (record_Push.tl_mono _ _ _ _ _ _ _ _ _ _ _ _ _ _ _ _ _ _)))
theorem record_Push.mono : ∀ id ep st pr an sw sl bw bl l has vid vep vst vpr van vsw vsl vbw vbl m pri abort tw tl nw nl k, LeO (record_Push.f k id ep st pr an sw sl bw bl l has vid vep vst vpr van vsw vsl vbw vbl m pri abort tw tl nw nl) (record_Push.f (k + 1) id ep st pr an sw sl bw bl l has vid vep vst vpr van vsw vsl vbw vbl m pri abort tw tl nw nl) := by
  intros
  unfold record_Push.f
  exact LeO.ite (LeO.ite (LeO.bind (cell_CheckRecord.mono _ _ _ _ _ _ _ _ _ _ _) fun _ => LeO.bind (cell_CheckRecord.mono _ _ _ _ _ _ _ _ _ _ _) fun _ => LeO.ite (LeO.bind (LeO.refl _) fun _ => LeO.ite (LeO.bind (LeO.refl _) fun _ => LeO.ite (record_Push.sw_mono _ _ _ _ _ _ _ _ _ _ _ _ _ _ _ _ _ _ _ _ _ _ _ _ _ _) (LeO.refl _)) (LeO.refl _)) (LeO.refl _)) (LeO.refl _)) (LeO.bind (cell_CheckRecord.mono _ _ _ _ _ _ _ _ _ _ _) fun _ => LeO.ite (LeO.bind (LeO.refl _) fun _ => LeO.ite (LeO.bind (LeO.refl _) fun _ => LeO.ite (record_Push.tl_mono _ _ _ _ _ _ _ _ _ _ _ _ _ _ _ _ _ _) (LeO.refl _)) (LeO.refl _)) (LeO.refl _))
set_option maxHeartbeats 16000000 in
set_option maxRecDepth 100000 in
theorem record_Push.calls (k : Nat) (id ep st pr : Int) (an : ByteArray) (sw sl bw bl : Int) (A : Option Addr) (c : Nat) (l : List S44) (has : Bool) (vid vep vst vpr : Int) (van : ByteArray) (vsw vsl vbw vbl : Int) (B : Option Addr) (d : Nat) (m : List S44) (pri : Int) (abort : Bool) (tw tl nw nl : Int) (r1 r2 r3 r4 : Int) (r5 : ByteArray) (r6 r7 r8 r9 : Int) (r10 : List S44) (r11 : Int) (W : World) (hr0_9 : Kd.C k44 W A l.length l) (hc0_9 : l.length ≤ c) (hr2_9 : Kd.C k44 W B m.length m) (hc2_9 : m.length ≤ d) (h : record_Push.f k id ep st pr an sw sl bw bl l has vid vep vst vpr van vsw vsl vbw vbl m pri abort tw tl nw nl = some (r1, r2, r3, r4, r5, r6, r7, r8, r9, r10, r11)) :
    Calls Try.prog 17 #[.agg #[.int .i64 id, .int .i64 ep, .int .i64 st, .int .i64 pr, .string an, .int .i64 sw, .int .i64 sl, .int .i64 bw, .int .i64 bl, .slice A l.length c], .bool has, .agg #[.int .i64 vid, .int .i64 vep, .int .i64 vst, .int .i64 vpr, .string van, .int .i64 vsw, .int .i64 vsl, .int .i64 vbw, .int .i64 vbl, .slice B m.length d], .int .i64 pri, .bool abort, .agg #[.int .i64 tw, .int .i64 tl], .agg #[.int .i64 nw, .int .i64 nl]] W fun e w' => ∃ v9_ : Value, e = .returned (.tuple #[.agg #[.int .i64 r1, .int .i64 r2, .int .i64 r3, .int .i64 r4, .string r5, .int .i64 r6, .int .i64 r7, .int .i64 r8, .int .i64 r9, v9_], .int .i64 r11]) ∧ Kd.R k44 44 w' W.heap.size (fun _ => True) v9_ r10 ∧ Below W.heap.size W w' := by
  show Calls _ _ _ _ (recPost r1 r2 r3 r4 r5 r6 r7 r8 r9 r10 r11 W)
  unfold record_Push.f at h
  have HF := Aside0.mk h
  have hd := hc2_9
  have HM := Aside0.mk (fun (w1 : World) (h1 : Below W.heap.size W w1) => Kd.C_below hr2_9 h1)
  have HR0 := Aside0.mk hr0_9
  clear h hr2_9 hr0_9
  go_enter Try.func17, Try.ntmps17
  go_wp2_with fail
  obtain ⟨w1, hw1, h1, h2, h3, h4, h5, hb1, hs1⟩ := five_boxes W (.cells #[.int .i64 id, .int .i64 ep, .int .i64 st, .int .i64 pr, .string an, .int .i64 sw, .int .i64 sl, .int .i64 bw, .int .i64 bl, .slice A l.length c] 27) (.cells #[.int .i64 vid, .int .i64 vep, .int .i64 vst, .int .i64 vpr, .string van, .int .i64 vsw, .int .i64 vsl, .int .i64 vbw, .int .i64 vbl, .slice B m.length d] 27) (.cells #[.int .i64 tw, .int .i64 tl] 24) (.cells #[.int .i64 nw, .int .i64 nl] 24) (.cells #[.int .i64 0, .int .i64 0, .int .i64 0, .int .i64 0, .string ⟨#[]⟩, .int .i64 0, .int .i64 0, .int .i64 0, .int .i64 0, .slice none 0 0] 27)
  rw [hw1]
  clear hw1
  have S1 := Aside0.mk ((Stt.nil hb1).more h4 |>.more h3 |>.more h2 |>.more h5)
  have HS1 := Aside0.mk hs1
  obtain ⟨c0, c1, c2, c3, c4, c5, c6, c7, c8, c9⟩ := cells10 h1
  obtain ⟨p0, p1, p2, p3, p4, p5, p6, p7, p8, p9⟩ := cells10 h2
  clear h1 h2 h3 h4 h5 hb1 hs1
  go_wp2_with fail
  cases has with
  | false =>
    refine (stands_no id ep st pr an sw sl bw bl (.slice A l.length c) vid van w1).mono ?_
    rintro e w2 ⟨rfl, hb⟩
    clear c0 c1 c2 c3 c4 c5 c6 c7 c8 c9 p0 p1 p2 p3 p4 p5 p6 p7 p8 p9
    have S2 := Aside0.mk (S1.out.step hb)
    clear hb
    have h := HF.out
    clear HF
    rw [if_neg (by simp)] at h
    have HF := Aside0.mk h
    clear h
    have h := HF.out
    clear HF
    obtain ⟨e2, hk2, h⟩ := Option.bind_eq_some_iff.mp h
    have HK2 := Aside0.mk hk2
    clear hk2
    have HF := Aside0.mk h
    clear h
    obtain ⟨p0, p1, p2, p3, p4, p5, p6, p7, p8, p9⟩ := cells10 S2.out.bx1
    go_wp2_with fail
    refine (cell_CheckRecord.calls k vid vep vst vpr van vsw vsl vbw vbl B d m e2 w2 (HM.out w2 S2.out.below) hd HK2.out).mono ?_
    rintro e w3 ⟨rfl, hb⟩
    clear p0 p1 p2 p3 p4 p5 p6 p7 p8 p9
    have S3 := Aside0.mk (S2.out.step hb)
    clear hb
    have he := check_02 _ _ _ _ _ _ _ _ _ _ _ _ HK2.out
    obtain ⟨p0, p1, p2, p3, p4, p5, p6, p7, p8, p9⟩ := cells10 S3.out.bx1
    rcases he with rfl | rfl
    case inr =>
      have h := HF.out
      clear HF
      rw [if_neg (fun hh => absurd hh.1 (by simp))] at h
      simp only [Option.some.injEq, Prod.mk.injEq] at h
      obtain ⟨rfl, rfl, rfl, rfl, rfl, rfl, rfl, rfl, rfl, rfl, rfl⟩ := h
      obtain ⟨o0, o1, o2, o3, o4, o5, o6, o7, o8, o9⟩ := cells10 S3.out.bx0
      obtain ⟨fo0, fo1, fo2, fo3, fo4, fo5, fo6, fo7, fo8, fo9⟩ := frozen10 S3.out.bx0
      go_wp2_with fail
      refine bodyPost_ret (results_ct rfl _ _ _ _ _ (0, 0) _ rfl (ten_put _ _ _ _ _ _ _ _ _ _ S3.out.bx0) Try.underlying27 rfl (by kernel_rfl)) rfl ?_
      exact post_row _ _ _ _ _ _ _ _ _ _ S3.out.below (Nat.le_add_right _ 4) (show Kd.R k44 44 _ _ (fun _ => False) _ _ from Kd.R_nil _ _ _ _ _) (fun _ h => False.elim h)
    by_cases v1 : vst = 1
    case neg =>
      have dv : (vst == 1) = false := beq_eq_false_iff_ne.mpr v1
      have h := HF.out
      clear HF
      rw [if_neg (fun hh => v1 hh.2.1)] at h
      simp only [Option.some.injEq, Prod.mk.injEq] at h
      obtain ⟨rfl, rfl, rfl, rfl, rfl, rfl, rfl, rfl, rfl, rfl, rfl⟩ := h
      clear v1
      obtain ⟨o0, o1, o2, o3, o4, o5, o6, o7, o8, o9⟩ := cells10 S3.out.bx0
      obtain ⟨fo0, fo1, fo2, fo3, fo4, fo5, fo6, fo7, fo8, fo9⟩ := frozen10 S3.out.bx0
      go_wp2_with fail
      refine bodyPost_ret (results_ct rfl _ _ _ _ _ (0, 0) _ rfl (ten_put _ _ _ _ _ _ _ _ _ _ S3.out.bx0) Try.underlying27 rfl (by kernel_rfl)) rfl ?_
      exact post_row _ _ _ _ _ _ _ _ _ _ S3.out.below (Nat.le_add_right _ 4) (show Kd.R k44 44 _ _ (fun _ => False) _ _ from Kd.R_nil _ _ _ _ _) (fun _ h => False.elim h)
    have dv : (vst == 1) = true := beq_iff_eq.mpr v1
    by_cases v2 : 1 ≤ pri
    case neg =>
      have dp : decide (1 ≤ pri) = false := decide_eq_false v2
      have h := HF.out
      clear HF
      rw [if_neg (fun hh => v2 hh.2.2.1)] at h
      simp only [Option.some.injEq, Prod.mk.injEq] at h
      obtain ⟨rfl, rfl, rfl, rfl, rfl, rfl, rfl, rfl, rfl, rfl, rfl⟩ := h
      clear v1 v2
      obtain ⟨o0, o1, o2, o3, o4, o5, o6, o7, o8, o9⟩ := cells10 S3.out.bx0
      obtain ⟨fo0, fo1, fo2, fo3, fo4, fo5, fo6, fo7, fo8, fo9⟩ := frozen10 S3.out.bx0
      go_wp2_with fail
      refine bodyPost_ret (results_ct rfl _ _ _ _ _ (0, 0) _ rfl (ten_put _ _ _ _ _ _ _ _ _ _ S3.out.bx0) Try.underlying27 rfl (by kernel_rfl)) rfl ?_
      exact post_row _ _ _ _ _ _ _ _ _ _ S3.out.below (Nat.le_add_right _ 4) (show Kd.R k44 44 _ _ (fun _ => False) _ _ from Kd.R_nil _ _ _ _ _) (fun _ h => False.elim h)
    have dp : decide (1 ≤ pri) = true := decide_eq_true v2
    by_cases v3 : pri ≤ 1001
    case neg =>
      have dp2 : decide (pri ≤ 1001) = false := decide_eq_false v3
      have h := HF.out
      clear HF
      rw [if_neg (fun hh => v3 hh.2.2.2)] at h
      simp only [Option.some.injEq, Prod.mk.injEq] at h
      obtain ⟨rfl, rfl, rfl, rfl, rfl, rfl, rfl, rfl, rfl, rfl, rfl⟩ := h
      clear v1 v2 v3
      obtain ⟨o0, o1, o2, o3, o4, o5, o6, o7, o8, o9⟩ := cells10 S3.out.bx0
      obtain ⟨fo0, fo1, fo2, fo3, fo4, fo5, fo6, fo7, fo8, fo9⟩ := frozen10 S3.out.bx0
      go_wp2_with fail
      refine bodyPost_ret (results_ct rfl _ _ _ _ _ (0, 0) _ rfl (ten_put _ _ _ _ _ _ _ _ _ _ S3.out.bx0) Try.underlying27 rfl (by kernel_rfl)) rfl ?_
      exact post_row _ _ _ _ _ _ _ _ _ _ S3.out.below (Nat.le_add_right _ 4) (show Kd.R k44 44 _ _ (fun _ => False) _ _ from Kd.R_nil _ _ _ _ _) (fun _ h => False.elim h)
    have dp2 : decide (pri ≤ 1001) = true := decide_eq_true v3
    have h := HF.out
    clear HF
    rw [if_pos ⟨rfl, v1, v2, v3⟩] at h
    have HF := Aside0.mk h
    clear h
    clear v1 v2 v3
    have h := HF.out
    clear HF
    obtain ⟨e3, hx, h⟩ := Option.bind_eq_some_iff.mp h
    have HX3 := Aside0.mk hx
    clear hx
    have HF := Aside0.mk h
    clear h
    obtain ⟨t0, t1⟩ := cells2 S3.out.bx2
    go_wp2_with fail
    refine (stamp_Check.calls tw tl e3 w3 HX3.out).mono ?_
    rintro e w4 ⟨rfl, hb⟩
    clear t0 t1
    clear p0 p1 p2 p3 p4 p5 p6 p7 p8 p9
    have S4 := Aside0.mk (S3.out.step hb)
    clear hb
    by_cases hx0 : e3 = 0
    case neg =>
      have h := HF.out
      clear HF
      rw [if_neg hx0] at h
      simp only [Option.some.injEq, Prod.mk.injEq] at h
      obtain ⟨rfl, rfl, rfl, rfl, rfl, rfl, rfl, rfl, rfl, rfl, rfl⟩ := h
      have x1 : (e3 != 0) = true := bne_iff_ne.mpr hx0
      have x2 : (e3 == 0) = false := beq_eq_false_iff_ne.mpr hx0
      clear hx0
      obtain ⟨o0, o1, o2, o3, o4, o5, o6, o7, o8, o9⟩ := cells10 S4.out.bx0
      obtain ⟨fo0, fo1, fo2, fo3, fo4, fo5, fo6, fo7, fo8, fo9⟩ := frozen10 S4.out.bx0
      go_wp2_with fail
      refine bodyPost_ret (results_ct rfl _ _ _ _ _ (0, 0) _ rfl (ten_put _ _ _ _ _ _ _ _ _ _ S4.out.bx0) Try.underlying27 rfl (by kernel_rfl)) rfl ?_
      exact post_row _ _ _ _ _ _ _ _ _ _ S4.out.below (Nat.le_add_right _ 4) (show Kd.R k44 44 _ _ (fun _ => False) _ _ from Kd.R_nil _ _ _ _ _) (fun _ h => False.elim h)
    subst hx0
    have h := HF.out
    clear HF
    rw [if_pos rfl] at h
    have HF := Aside0.mk h
    clear h
    have h := HF.out
    clear HF
    obtain ⟨e4, hx, h⟩ := Option.bind_eq_some_iff.mp h
    have HX4 := Aside0.mk hx
    clear hx
    have HF := Aside0.mk h
    clear h
    obtain ⟨t0, t1⟩ := cells2 S4.out.bx3
    go_wp2_with fail
    refine (stamp_Check.calls nw nl e4 w4 HX4.out).mono ?_
    rintro e w5 ⟨rfl, hb⟩
    clear t0 t1
    have S5 := Aside0.mk (S4.out.step hb)
    clear hb
    by_cases hx0 : e4 = 0
    case neg =>
      have h := HF.out
      clear HF
      rw [if_neg hx0] at h
      simp only [Option.some.injEq, Prod.mk.injEq] at h
      obtain ⟨rfl, rfl, rfl, rfl, rfl, rfl, rfl, rfl, rfl, rfl, rfl⟩ := h
      have x1 : (e4 != 0) = true := bne_iff_ne.mpr hx0
      have x2 : (e4 == 0) = false := beq_eq_false_iff_ne.mpr hx0
      clear hx0
      obtain ⟨o0, o1, o2, o3, o4, o5, o6, o7, o8, o9⟩ := cells10 S5.out.bx0
      obtain ⟨fo0, fo1, fo2, fo3, fo4, fo5, fo6, fo7, fo8, fo9⟩ := frozen10 S5.out.bx0
      go_wp2_with fail
      refine bodyPost_ret (results_ct rfl _ _ _ _ _ (0, 0) _ rfl (ten_put _ _ _ _ _ _ _ _ _ _ S5.out.bx0) Try.underlying27 rfl (by kernel_rfl)) rfl ?_
      exact post_row _ _ _ _ _ _ _ _ _ _ S5.out.below (Nat.le_add_right _ 4) (show Kd.R k44 44 _ _ (fun _ => False) _ _ from Kd.R_nil _ _ _ _ _) (fun _ h => False.elim h)
    subst hx0
    have h := HF.out
    clear HF
    rw [if_pos rfl] at h
    have HF := Aside0.mk h
    clear h
    obtain ⟨p0, p1, p2, p3, p4, p5, p6, p7, p8, p9⟩ := cells10 S5.out.bx1
    go_wp2_with fail
    clear p0 p1 p2 p3 p4 p5 p6 p7 p8 p9
    generalize hw_ : World.alloc w5 _ = w6
    have hn : w6.heap[w5.heap.size]? = some (.cells #[.int .i64 vid, .int .i64 vep, .int .i64 vst, .int .i64 vpr, .string van, .int .i64 vsw, .int .i64 vsl, .int .i64 vbw, .int .i64 vbl, .slice none 0 0] 27 (0, 0)) := by rw [← hw_]; exact blk_new w5 _
    have SA := S5.out.step (show Below w5.heap.size w5 w6 from by rw [← hw_]; exact below_alloc (Below.refl _ _) _)
    clear hw_
    have HLT := Aside0.mk (fun b q => blk_lt (S5.out.box b q))
    have HNW := Aside0.mk S5.out.below.size
    have S6 := Aside0.mk ((Stt.nil SA.below) |>.more SA.bx3 |>.more SA.bx2 |>.more SA.bx1 |>.more hn |>.more SA.bx0)
    clear SA hn 
    clear S5
    generalize w5.heap.size = N at *
    refine (status_nil w6).mono ?_
    rintro e w7 ⟨rfl, hb⟩
    have S7 := Aside0.mk (S6.out.step hb)
    clear hb
    go_wp2_with fail
    go_quiet (fail)
    go_wp2_with fail
    go_quiet (fail)
    generalize hw_ : World.drewN (World.drewN w7 _) _ = w8
    have S8 := Aside0.mk ((S7.out.drewN _).at hw_)
    clear hw_ S7
    cases abort with
    | true =>
      have h := HF.out
      clear HF
      unfold record_Push.tl at h
      rw [if_pos rfl] at h
      obtain ⟨ls, hx, h⟩ := Option.bind_eq_some_iff.mp h
      cases hx
      rw [if_neg (by simp)] at h
      have HF := Aside0.mk h
      clear h
      have h := HF.out
      clear HF
      obtain ⟨ex, hx, h⟩ := Option.bind_eq_some_iff.mp h
      have HEX := Aside0.mk hx
      clear hx
      have HF := Aside0.mk h
      clear h
      obtain ⟨n0, n1, n2, n3, n4, n5, n6, n7, n8, n9⟩ := cells10 S8.out.bx1
      obtain ⟨d0, d1⟩ := cells2 S8.out.bx4
      go_wp2_with fail
      refine (record_Expired.calls vbw vbl nw nl ex w8 HEX.out).mono ?_
      rintro e w9 ⟨rfl, hb⟩
      have S9 := Aside0.mk (S8.out.step hb)
      clear hb
      clear n0 n1 n2 n3 n4 n5 n6 n7 n8 n9 d0 d1
      cases ex with
      | true =>
        have h := HF.out
        clear HF
        rw [if_pos rfl] at h
        simp only [Option.some.injEq, Prod.mk.injEq] at h
        obtain ⟨rfl, rfl, rfl, rfl, rfl, rfl, rfl, rfl, rfl, rfl, rfl⟩ := h
        have hON := Nat.ne_of_lt (hltx0 HLT.out)
        have hNO := Ne.symm hON
        have hNO2 : (N == W.heap.size + 1 + 1 + 1 + 1) = false := beq_eq_false_iff_ne.mpr hNO
        have hON2 : (W.heap.size + 1 + 1 + 1 + 1 == N) = false := beq_eq_false_iff_ne.mpr hON
        obtain ⟨o0, o1, o2, o3, o4, o5, o6, o7, o8, o9⟩ := cells10 S9.out.bx0
        obtain ⟨n0, n1, n2, n3, n4, n5, n6, n7, n8, n9⟩ := cells10 S9.out.bx1
        obtain ⟨fo0, fo1, fo2, fo3, fo4, fo5, fo6, fo7, fo8, fo9⟩ := frozen10 S9.out.bx0
        obtain ⟨fn0, fn1, fn2, fn3, fn4, fn5, fn6, fn7, fn8, fn9⟩ := frozen10 S9.out.bx1
        go_wp2_with fail
        have SX := (S9.out.setN (j := 2) (u := .int .i64 4) (cs' := #[.int .i64 vid, .int .i64 vep, .int .i64 4, .int .i64 vpr, .string van, .int .i64 vsw, .int .i64 vsl, .int .i64 vbw, .int .i64 vbl, .slice none 0 0]) rfl HLT.out HNW.out (RowsFar.nil _))
        refine bodyPost_ret (results_ct rfl _ _ _ _ _ (0, 0) _ rfl (ten_put _ _ _ _ _ _ _ _ _ _ SX.bx0) Try.underlying27 rfl (by kernel_rfl)) rfl ?_
        exact post_row _ _ _ _ _ _ _ _ _ _ SX.below (Nat.le_add_right _ 4) (show Kd.R k44 44 _ _ (fun _ => False) _ _ from Kd.R_nil _ _ _ _ _) (fun _ h => False.elim h)
      | false =>
        have h := HF.out
        clear HF
        rw [if_neg (by simp)] at h
        have HF := Aside0.mk h
        clear h
        by_cases qp : vpr < pri
        case neg =>
          have dq : decide (vpr < pri) = false := decide_eq_false qp
          have h := HF.out
          clear HF
          rw [if_neg qp] at h
          simp only [Option.some.injEq, Prod.mk.injEq] at h
          obtain ⟨rfl, rfl, rfl, rfl, rfl, rfl, rfl, rfl, rfl, rfl, rfl⟩ := h
          clear qp
          obtain ⟨n0, n1, n2, n3, n4, n5, n6, n7, n8, n9⟩ := cells10 S9.out.bx1
          go_wp2_with fail
          clear n0 n1 n2 n3 n4 n5 n6 n7 n8 n9
          refine (stays_nil 120 w9).mono ?_
          rintro e w10 ⟨rfl, hb⟩
          have S10 := Aside0.mk (S9.out.step hb)
          clear hb
          obtain ⟨o0, o1, o2, o3, o4, o5, o6, o7, o8, o9⟩ := cells10 S10.out.bx0
          obtain ⟨fo0, fo1, fo2, fo3, fo4, fo5, fo6, fo7, fo8, fo9⟩ := frozen10 S10.out.bx0
          go_wp2_with fail
          refine bodyPost_ret (results_ct rfl _ _ _ _ _ (0, 0) _ rfl (ten_put _ _ _ _ _ _ _ _ _ _ S10.out.bx0) Try.underlying27 rfl (by kernel_rfl)) rfl ?_
          exact post_row _ _ _ _ _ _ _ _ _ _ S10.out.below (Nat.le_add_right _ 4) (show Kd.R k44 44 _ _ (fun _ => False) _ _ from Kd.R_nil _ _ _ _ _) (fun _ h => False.elim h)
        have dq : decide (vpr < pri) = true := decide_eq_true qp
        have h := HF.out
        clear HF
        rw [if_pos qp, if_pos trivial] at h
        simp only [Option.some.injEq, Prod.mk.injEq] at h
        obtain ⟨rfl, rfl, rfl, rfl, rfl, rfl, rfl, rfl, rfl, rfl, rfl⟩ := h
        have hON := Nat.ne_of_lt (hltx0 HLT.out)
        have hNO := Ne.symm hON
        have hNO2 : (N == W.heap.size + 1 + 1 + 1 + 1) = false := beq_eq_false_iff_ne.mpr hNO
        have hON2 : (W.heap.size + 1 + 1 + 1 + 1 == N) = false := beq_eq_false_iff_ne.mpr hON
        obtain ⟨o0, o1, o2, o3, o4, o5, o6, o7, o8, o9⟩ := cells10 S9.out.bx0
        obtain ⟨n0, n1, n2, n3, n4, n5, n6, n7, n8, n9⟩ := cells10 S9.out.bx1
        obtain ⟨fo0, fo1, fo2, fo3, fo4, fo5, fo6, fo7, fo8, fo9⟩ := frozen10 S9.out.bx0
        obtain ⟨fn0, fn1, fn2, fn3, fn4, fn5, fn6, fn7, fn8, fn9⟩ := frozen10 S9.out.bx1
        go_wp2_with fail
        clear qp
        have SX := (S9.out.setN (j := 2) (u := .int .i64 4) (cs' := #[.int .i64 vid, .int .i64 vep, .int .i64 4, .int .i64 vpr, .string van, .int .i64 vsw, .int .i64 vsl, .int .i64 vbw, .int .i64 vbl, .slice none 0 0]) rfl HLT.out HNW.out (RowsFar.nil _))
        refine bodyPost_ret (results_ct rfl _ _ _ _ _ (0, 0) _ rfl (ten_put _ _ _ _ _ _ _ _ _ _ SX.bx0) Try.underlying27 rfl (by kernel_rfl)) rfl ?_
        exact post_row _ _ _ _ _ _ _ _ _ _ SX.below (Nat.le_add_right _ 4) (show Kd.R k44 44 _ _ (fun _ => False) _ _ from Kd.R_nil _ _ _ _ _) (fun _ h => False.elim h)
    | false =>
      have h := HF.out
      clear HF
      unfold record_Push.tl at h
      rw [if_neg (by simp)] at h
      obtain ⟨ls, hx, h⟩ := Option.bind_eq_some_iff.mp h
      have HLS := Aside0.mk hx
      clear hx
      have HF := Aside0.mk h
      clear h
      obtain ⟨n0, n1, n2, n3, n4, n5, n6, n7, n8, n9⟩ := cells10 S8.out.bx1
      obtain ⟨t0, t1⟩ := cells2 S8.out.bx3
      go_wp2_with fail
      refine (stamp_Less.calls k tw tl vsw vsl ls w8 HLS.out).mono ?_
      rintro e w9 ⟨rfl, hb⟩
      have S9 := Aside0.mk (S8.out.step hb)
      clear hb
      clear n0 n1 n2 n3 n4 n5 n6 n7 n8 n9 t0 t1
      cases ls with
      | true =>
        have h := HF.out
        clear HF
        rw [if_pos rfl] at h
        simp only [Option.some.injEq, Prod.mk.injEq] at h
        obtain ⟨rfl, rfl, rfl, rfl, rfl, rfl, rfl, rfl, rfl, rfl, rfl⟩ := h
        obtain ⟨o0, o1, o2, o3, o4, o5, o6, o7, o8, o9⟩ := cells10 S9.out.bx0
        obtain ⟨n0, n1, n2, n3, n4, n5, n6, n7, n8, n9⟩ := cells10 S9.out.bx1
        obtain ⟨fo0, fo1, fo2, fo3, fo4, fo5, fo6, fo7, fo8, fo9⟩ := frozen10 S9.out.bx0
        go_wp2_with fail
        refine bodyPost_ret (results_ct rfl _ _ _ _ _ (0, 0) _ rfl (ten_put _ _ _ _ _ _ _ _ _ _ S9.out.bx0) Try.underlying27 rfl (by kernel_rfl)) rfl ?_
        exact post_row _ _ _ _ _ _ _ _ _ _ S9.out.below (Nat.le_add_right _ 4) (show Kd.R k44 44 _ _ (fun _ => False) _ _ from Kd.R_nil _ _ _ _ _) (fun _ h => False.elim h)
      | false =>
        have h := HF.out
        clear HF
        rw [if_neg (by simp)] at h
        have HF := Aside0.mk h
        clear h
        have h := HF.out
        clear HF
        obtain ⟨ex, hx, h⟩ := Option.bind_eq_some_iff.mp h
        have HEX := Aside0.mk hx
        clear hx
        have HF := Aside0.mk h
        clear h
        obtain ⟨n0, n1, n2, n3, n4, n5, n6, n7, n8, n9⟩ := cells10 S9.out.bx1
        obtain ⟨d0, d1⟩ := cells2 S9.out.bx4
        go_wp2_with fail
        refine (record_Expired.calls vbw vbl nw nl ex w9 HEX.out).mono ?_
        rintro e w10 ⟨rfl, hb⟩
        have S10 := Aside0.mk (S9.out.step hb)
        clear hb
        clear n0 n1 n2 n3 n4 n5 n6 n7 n8 n9 d0 d1
        cases ex with
        | true =>
          have h := HF.out
          clear HF
          rw [if_pos rfl] at h
          simp only [Option.some.injEq, Prod.mk.injEq] at h
          obtain ⟨rfl, rfl, rfl, rfl, rfl, rfl, rfl, rfl, rfl, rfl, rfl⟩ := h
          have hON := Nat.ne_of_lt (hltx0 HLT.out)
          have hNO := Ne.symm hON
          have hNO2 : (N == W.heap.size + 1 + 1 + 1 + 1) = false := beq_eq_false_iff_ne.mpr hNO
          have hON2 : (W.heap.size + 1 + 1 + 1 + 1 == N) = false := beq_eq_false_iff_ne.mpr hON
          obtain ⟨o0, o1, o2, o3, o4, o5, o6, o7, o8, o9⟩ := cells10 S10.out.bx0
          obtain ⟨n0, n1, n2, n3, n4, n5, n6, n7, n8, n9⟩ := cells10 S10.out.bx1
          obtain ⟨fo0, fo1, fo2, fo3, fo4, fo5, fo6, fo7, fo8, fo9⟩ := frozen10 S10.out.bx0
          obtain ⟨fn0, fn1, fn2, fn3, fn4, fn5, fn6, fn7, fn8, fn9⟩ := frozen10 S10.out.bx1
          go_wp2_with fail
          have SX := (S10.out.setN (j := 2) (u := .int .i64 4) (cs' := #[.int .i64 vid, .int .i64 vep, .int .i64 4, .int .i64 vpr, .string van, .int .i64 vsw, .int .i64 vsl, .int .i64 vbw, .int .i64 vbl, .slice none 0 0]) rfl HLT.out HNW.out (RowsFar.nil _))
          refine bodyPost_ret (results_ct rfl _ _ _ _ _ (0, 0) _ rfl (ten_put _ _ _ _ _ _ _ _ _ _ SX.bx0) Try.underlying27 rfl (by kernel_rfl)) rfl ?_
          exact post_row _ _ _ _ _ _ _ _ _ _ SX.below (Nat.le_add_right _ 4) (show Kd.R k44 44 _ _ (fun _ => False) _ _ from Kd.R_nil _ _ _ _ _) (fun _ h => False.elim h)
        | false =>
          have h := HF.out
          clear HF
          rw [if_neg (by simp)] at h
          have HF := Aside0.mk h
          clear h
          by_cases qp : vpr < pri
          case neg =>
            have dq : decide (vpr < pri) = false := decide_eq_false qp
            have h := HF.out
            clear HF
            rw [if_neg qp] at h
            simp only [Option.some.injEq, Prod.mk.injEq] at h
            obtain ⟨rfl, rfl, rfl, rfl, rfl, rfl, rfl, rfl, rfl, rfl, rfl⟩ := h
            clear qp
            obtain ⟨n0, n1, n2, n3, n4, n5, n6, n7, n8, n9⟩ := cells10 S10.out.bx1
            go_wp2_with fail
            clear n0 n1 n2 n3 n4 n5 n6 n7 n8 n9
            refine (stays_nil 120 w10).mono ?_
            rintro e w11 ⟨rfl, hb⟩
            have S11 := Aside0.mk (S10.out.step hb)
            clear hb
            obtain ⟨o0, o1, o2, o3, o4, o5, o6, o7, o8, o9⟩ := cells10 S11.out.bx0
            obtain ⟨fo0, fo1, fo2, fo3, fo4, fo5, fo6, fo7, fo8, fo9⟩ := frozen10 S11.out.bx0
            go_wp2_with fail
            refine bodyPost_ret (results_ct rfl _ _ _ _ _ (0, 0) _ rfl (ten_put _ _ _ _ _ _ _ _ _ _ S11.out.bx0) Try.underlying27 rfl (by kernel_rfl)) rfl ?_
            exact post_row _ _ _ _ _ _ _ _ _ _ S11.out.below (Nat.le_add_right _ 4) (show Kd.R k44 44 _ _ (fun _ => False) _ _ from Kd.R_nil _ _ _ _ _) (fun _ h => False.elim h)
          have dq : decide (vpr < pri) = true := decide_eq_true qp
          have h := HF.out
          clear HF
          rw [if_pos qp, if_neg (by simp)] at h
          obtain ⟨⟨s0, s1, se⟩, hx, h⟩ := Option.bind_eq_some_iff.mp h
          have HNX := Aside0.mk hx
          clear hx qp
          have HF := Aside0.mk h
          clear h
          obtain ⟨n0, n1, n2, n3, n4, n5, n6, n7, n8, n9⟩ := cells10 S10.out.bx1
          obtain ⟨t0, t1⟩ := cells2 S10.out.bx3
          go_wp2_with fail
          refine (stamp_Next.calls tw tl s0 s1 se w10 HNX.out).mono ?_
          rintro e w11 ⟨rfl, hb⟩
          have S11 := Aside0.mk (S10.out.step hb)
          clear hb
          clear n0 n1 n2 n3 n4 n5 n6 n7 n8 n9 t0 t1
          have hON := Nat.ne_of_lt (hltx0 HLT.out)
          have hNO := Ne.symm hON
          have hNO2 : (N == W.heap.size + 1 + 1 + 1 + 1) = false := beq_eq_false_iff_ne.mpr hNO
          have hON2 : (W.heap.size + 1 + 1 + 1 + 1 == N) = false := beq_eq_false_iff_ne.mpr hON
          by_cases hs : se = 0
          case neg =>
            have h := HF.out
            clear HF
            rw [if_neg hs] at h
            simp only [Option.some.injEq, Prod.mk.injEq] at h
            obtain ⟨rfl, rfl, rfl, rfl, rfl, rfl, rfl, rfl, rfl, rfl, rfl⟩ := h
            have y1 : (se != 0) = true := bne_iff_ne.mpr hs
            have y2 : (se == 0) = false := beq_eq_false_iff_ne.mpr hs
            clear hs
            obtain ⟨o0, o1, o2, o3, o4, o5, o6, o7, o8, o9⟩ := cells10a S11.out.bx0
            obtain ⟨fo0, fo1, fo2, fo3, fo4, fo5, fo6, fo7, fo8, fo9⟩ := frozen10a S11.out.bx0
            go_wp2_with fail
            have SZ := (S11.out.step (below_alloc (Below.refl _ _) (.cells #[.int .i64 s0, .int .i64 s1] 24)))
            refine bodyPost_ret (results_ct rfl _ _ _ _ _ (0, 0) _ rfl (ten_put _ _ _ _ _ _ _ _ _ _ SZ.bx0) Try.underlying27 rfl (by kernel_rfl)) rfl ?_
            exact post_row _ _ _ _ _ _ _ _ _ _ SZ.below (Nat.le_add_right _ 4) (show Kd.R k44 44 _ _ (fun _ => False) _ _ from Kd.R_nil _ _ _ _ _) (fun _ h => False.elim h)
          subst hs
          have h := HF.out
          clear HF
          rw [if_pos rfl] at h
          simp only [Option.some.injEq, Prod.mk.injEq] at h
          obtain ⟨rfl, rfl, rfl, rfl, rfl, rfl, rfl, rfl, rfl, rfl, rfl⟩ := h
          obtain ⟨o0, o1, o2, o3, o4, o5, o6, o7, o8, o9⟩ := cells10a S11.out.bx0
          obtain ⟨n0, n1, n2, n3, n4, n5, n6, n7, n8, n9⟩ := cells10a S11.out.bx1
          obtain ⟨fo0, fo1, fo2, fo3, fo4, fo5, fo6, fo7, fo8, fo9⟩ := frozen10a S11.out.bx0
          obtain ⟨fn0, fn1, fn2, fn3, fn4, fn5, fn6, fn7, fn8, fn9⟩ := frozen10a S11.out.bx1
          go_wp2_with fail
          have SX := ((S11.out.step (below_alloc (Below.refl _ _) (.cells #[.int .i64 s0, .int .i64 s1] 24))).setN (j := 5) (u := .int .i64 s0) (cs' := #[.int .i64 vid, .int .i64 vep, .int .i64 vst, .int .i64 vpr, .string van, .int .i64 s0, .int .i64 vsl, .int .i64 vbw, .int .i64 vbl, .slice none 0 0]) rfl HLT.out HNW.out (RowsFar.nil _)).setN (j := 6) (u := .int .i64 s1) (cs' := #[.int .i64 vid, .int .i64 vep, .int .i64 vst, .int .i64 vpr, .string van, .int .i64 s0, .int .i64 s1, .int .i64 vbw, .int .i64 vbl, .slice none 0 0]) rfl HLT.out HNW.out (RowsFar.nil _)
          refine bodyPost_ret (results_ct rfl _ _ _ _ _ (0, 0) _ rfl (ten_put _ _ _ _ _ _ _ _ _ _ SX.bx0) Try.underlying27 rfl (by kernel_rfl)) rfl ?_
          exact post_row _ _ _ _ _ _ _ _ _ _ SX.below (Nat.le_add_right _ 4) (show Kd.R k44 44 _ _ (fun _ => False) _ _ from Kd.R_nil _ _ _ _ _) (fun _ h => False.elim h)
  | true =>
    have h := HF.out
    clear HF
    rw [if_pos rfl] at h
    have HF := Aside0.mk h
    clear h
    by_cases hl : l.length < 1000000000000
    case neg => have h := HF.out; rw [if_neg hl] at h; exact absurd h (by simp)
    have h := HF.out
    clear HF
    rw [if_pos hl] at h
    obtain ⟨ec, hk, h⟩ := Option.bind_eq_some_iff.mp h
    have hec := check_02 _ _ _ _ _ _ _ _ _ _ _ _ hk
    have hst := stands_yes k id ep st pr an sw sl bw bl A c l vid van w1 (Kd.C_below HR0.out S1.out.below) hc0_9 hl ec hec hk
    clear hl hec hk
    have HF := Aside0.mk h
    clear h
    generalize hok : (decide (ec = 0) && ((id == vid) && (an.toList == van.toList))) = okb at hst
    have HOK := Aside0.mk hok
    clear hok
    refine hst.mono ?_
    clear hst
    clear c0 c1 c2 c3 c4 c5 c6 c7 c8 c9 p0 p1 p2 p3 p4 p5 p6 p7 p8 p9
    rintro e w2 ⟨g, v, rfl, hg, hge, hRv, hb⟩
    obtain ⟨Av, cv, rfl⟩ := Kd.R_slice hRv
    have RV := Kd.R_lower (ok := fun b => b ≠ g ∧ b ≠ W.heap.size + 1 + 1 + 1 + 1) (Kd.R_mono (Kd.R_bound hRv) (fun b hb => ⟨hb.1, by have h1 := hb.2.1; have h2 := HS1.out; show b ≠ W.heap.size + 1 + 1 + 1 + 1; omega⟩)) S1.out.below.size
    have SA := S1.out.step hb
    have S2 := Aside0.mk ((Stt.nil SA.below).row' RV |>.more hg |>.more SA.bx3 |>.more SA.bx2 |>.more SA.bx1 |>.more SA.bx0)
    clear hb SA RV hg hge hRv S1
    have h := HF.out
    clear HF
    obtain ⟨e2, hk2, h⟩ := Option.bind_eq_some_iff.mp h
    have HK2 := Aside0.mk hk2
    clear hk2
    have HF := Aside0.mk h
    clear h
    obtain ⟨p0, p1, p2, p3, p4, p5, p6, p7, p8, p9⟩ := cells10 S2.out.bx1
    go_wp2_with fail
    refine (cell_CheckRecord.calls k vid vep vst vpr van vsw vsl vbw vbl B d m e2 w2 (HM.out w2 S2.out.below) hd HK2.out).mono ?_
    rintro e w3 ⟨rfl, hb⟩
    clear p0 p1 p2 p3 p4 p5 p6 p7 p8 p9
    have S3 := Aside0.mk (S2.out.step hb)
    clear hb
    have he := check_02 _ _ _ _ _ _ _ _ _ _ _ _ HK2.out
    obtain ⟨p0, p1, p2, p3, p4, p5, p6, p7, p8, p9⟩ := cells10 S3.out.bx1
    rcases he with rfl | rfl
    case inr =>
      have h := HF.out
      clear HF
      rw [if_neg (fun hh => absurd hh.1.1 (by simp))] at h
      simp only [Option.some.injEq, Prod.mk.injEq] at h
      obtain ⟨rfl, rfl, rfl, rfl, rfl, rfl, rfl, rfl, rfl, rfl, rfl⟩ := h
      cases okb <;> (
        obtain ⟨o0, o1, o2, o3, o4, o5, o6, o7, o8, o9⟩ := cells10 S3.out.bx0
        obtain ⟨fo0, fo1, fo2, fo3, fo4, fo5, fo6, fo7, fo8, fo9⟩ := frozen10 S3.out.bx0
        go_wp2_with fail
        refine bodyPost_ret (results_ct rfl _ _ _ _ _ (0, 0) _ rfl (ten_put _ _ _ _ _ _ _ _ _ _ S3.out.bx0) Try.underlying27 rfl (by kernel_rfl)) rfl ?_
        exact post_row _ _ _ _ _ _ _ _ _ _ S3.out.below (Nat.le_add_right _ 4) (show Kd.R k44 44 _ _ (fun _ => False) _ _ from Kd.R_nil _ _ _ _ _) (fun _ h => False.elim h))
    by_cases v1 : vst = 1
    case neg =>
      have dv : (vst == 1) = false := beq_eq_false_iff_ne.mpr v1
      have h := HF.out
      clear HF
      rw [if_neg (fun hh => v1 hh.1.2.1)] at h
      simp only [Option.some.injEq, Prod.mk.injEq] at h
      obtain ⟨rfl, rfl, rfl, rfl, rfl, rfl, rfl, rfl, rfl, rfl, rfl⟩ := h
      clear v1
      cases okb <;> (
        obtain ⟨o0, o1, o2, o3, o4, o5, o6, o7, o8, o9⟩ := cells10 S3.out.bx0
        obtain ⟨fo0, fo1, fo2, fo3, fo4, fo5, fo6, fo7, fo8, fo9⟩ := frozen10 S3.out.bx0
        go_wp2_with fail
        refine bodyPost_ret (results_ct rfl _ _ _ _ _ (0, 0) _ rfl (ten_put _ _ _ _ _ _ _ _ _ _ S3.out.bx0) Try.underlying27 rfl (by kernel_rfl)) rfl ?_
        exact post_row _ _ _ _ _ _ _ _ _ _ S3.out.below (Nat.le_add_right _ 4) (show Kd.R k44 44 _ _ (fun _ => False) _ _ from Kd.R_nil _ _ _ _ _) (fun _ h => False.elim h))
    have dv : (vst == 1) = true := beq_iff_eq.mpr v1
    by_cases v2 : 1 ≤ pri
    case neg =>
      have dp : decide (1 ≤ pri) = false := decide_eq_false v2
      have h := HF.out
      clear HF
      rw [if_neg (fun hh => v2 hh.1.2.2.1)] at h
      simp only [Option.some.injEq, Prod.mk.injEq] at h
      obtain ⟨rfl, rfl, rfl, rfl, rfl, rfl, rfl, rfl, rfl, rfl, rfl⟩ := h
      clear v1 v2
      cases okb <;> (
        obtain ⟨o0, o1, o2, o3, o4, o5, o6, o7, o8, o9⟩ := cells10 S3.out.bx0
        obtain ⟨fo0, fo1, fo2, fo3, fo4, fo5, fo6, fo7, fo8, fo9⟩ := frozen10 S3.out.bx0
        go_wp2_with fail
        refine bodyPost_ret (results_ct rfl _ _ _ _ _ (0, 0) _ rfl (ten_put _ _ _ _ _ _ _ _ _ _ S3.out.bx0) Try.underlying27 rfl (by kernel_rfl)) rfl ?_
        exact post_row _ _ _ _ _ _ _ _ _ _ S3.out.below (Nat.le_add_right _ 4) (show Kd.R k44 44 _ _ (fun _ => False) _ _ from Kd.R_nil _ _ _ _ _) (fun _ h => False.elim h))
    have dp : decide (1 ≤ pri) = true := decide_eq_true v2
    by_cases v3 : pri ≤ 1001
    case neg =>
      have dp2 : decide (pri ≤ 1001) = false := decide_eq_false v3
      have h := HF.out
      clear HF
      rw [if_neg (fun hh => v3 hh.1.2.2.2)] at h
      simp only [Option.some.injEq, Prod.mk.injEq] at h
      obtain ⟨rfl, rfl, rfl, rfl, rfl, rfl, rfl, rfl, rfl, rfl, rfl⟩ := h
      clear v1 v2 v3
      cases okb <;> (
        obtain ⟨o0, o1, o2, o3, o4, o5, o6, o7, o8, o9⟩ := cells10 S3.out.bx0
        obtain ⟨fo0, fo1, fo2, fo3, fo4, fo5, fo6, fo7, fo8, fo9⟩ := frozen10 S3.out.bx0
        go_wp2_with fail
        refine bodyPost_ret (results_ct rfl _ _ _ _ _ (0, 0) _ rfl (ten_put _ _ _ _ _ _ _ _ _ _ S3.out.bx0) Try.underlying27 rfl (by kernel_rfl)) rfl ?_
        exact post_row _ _ _ _ _ _ _ _ _ _ S3.out.below (Nat.le_add_right _ 4) (show Kd.R k44 44 _ _ (fun _ => False) _ _ from Kd.R_nil _ _ _ _ _) (fun _ h => False.elim h))
    have dp2 : decide (pri ≤ 1001) = true := decide_eq_true v3
    cases okb with
    | false =>
      have h := HF.out
      clear HF
      rw [if_neg (fun hh => absurd (hh.2.symm.trans HOK.out) (by simp))] at h
      simp only [Option.some.injEq, Prod.mk.injEq] at h
      obtain ⟨rfl, rfl, rfl, rfl, rfl, rfl, rfl, rfl, rfl, rfl, rfl⟩ := h
      clear v1 v2 v3
      obtain ⟨o0, o1, o2, o3, o4, o5, o6, o7, o8, o9⟩ := cells10 S3.out.bx0
      obtain ⟨fo0, fo1, fo2, fo3, fo4, fo5, fo6, fo7, fo8, fo9⟩ := frozen10 S3.out.bx0
      go_wp2_with fail
      refine bodyPost_ret (results_ct rfl _ _ _ _ _ (0, 0) _ rfl (ten_put _ _ _ _ _ _ _ _ _ _ S3.out.bx0) Try.underlying27 rfl (by kernel_rfl)) rfl ?_
      exact post_row _ _ _ _ _ _ _ _ _ _ S3.out.below (Nat.le_add_right _ 4) (show Kd.R k44 44 _ _ (fun _ => False) _ _ from Kd.R_nil _ _ _ _ _) (fun _ h => False.elim h)
    | true =>
      have h := HF.out
      clear HF
      rw [if_pos ⟨⟨rfl, v1, v2, v3⟩, HOK.out⟩] at h
      have HF := Aside0.mk h
      clear h
      clear v1 v2 v3
      have h := HF.out
      clear HF
      obtain ⟨e3, hx, h⟩ := Option.bind_eq_some_iff.mp h
      have HX3 := Aside0.mk hx
      clear hx
      have HF := Aside0.mk h
      clear h
      obtain ⟨t0, t1⟩ := cells2 S3.out.bx2
      go_wp2_with fail
      refine (stamp_Check.calls tw tl e3 w3 HX3.out).mono ?_
      rintro e w4 ⟨rfl, hb⟩
      clear t0 t1
      clear p0 p1 p2 p3 p4 p5 p6 p7 p8 p9
      have S4 := Aside0.mk (S3.out.step hb)
      clear hb
      by_cases hx0 : e3 = 0
      case neg =>
        have h := HF.out
        clear HF
        rw [if_neg hx0] at h
        simp only [Option.some.injEq, Prod.mk.injEq] at h
        obtain ⟨rfl, rfl, rfl, rfl, rfl, rfl, rfl, rfl, rfl, rfl, rfl⟩ := h
        have x1 : (e3 != 0) = true := bne_iff_ne.mpr hx0
        have x2 : (e3 == 0) = false := beq_eq_false_iff_ne.mpr hx0
        clear hx0
        obtain ⟨o0, o1, o2, o3, o4, o5, o6, o7, o8, o9⟩ := cells10 S4.out.bx0
        obtain ⟨fo0, fo1, fo2, fo3, fo4, fo5, fo6, fo7, fo8, fo9⟩ := frozen10 S4.out.bx0
        go_wp2_with fail
        refine bodyPost_ret (results_ct rfl _ _ _ _ _ (0, 0) _ rfl (ten_put _ _ _ _ _ _ _ _ _ _ S4.out.bx0) Try.underlying27 rfl (by kernel_rfl)) rfl ?_
        exact post_row _ _ _ _ _ _ _ _ _ _ S4.out.below (Nat.le_add_right _ 4) (show Kd.R k44 44 _ _ (fun _ => False) _ _ from Kd.R_nil _ _ _ _ _) (fun _ h => False.elim h)
      subst hx0
      have h := HF.out
      clear HF
      rw [if_pos rfl] at h
      have HF := Aside0.mk h
      clear h
      have h := HF.out
      clear HF
      obtain ⟨e4, hx, h⟩ := Option.bind_eq_some_iff.mp h
      have HX4 := Aside0.mk hx
      clear hx
      have HF := Aside0.mk h
      clear h
      obtain ⟨t0, t1⟩ := cells2 S4.out.bx3
      go_wp2_with fail
      refine (stamp_Check.calls nw nl e4 w4 HX4.out).mono ?_
      rintro e w5 ⟨rfl, hb⟩
      clear t0 t1
      have S5 := Aside0.mk (S4.out.step hb)
      clear hb
      by_cases hx0 : e4 = 0
      case neg =>
        have h := HF.out
        clear HF
        rw [if_neg hx0] at h
        simp only [Option.some.injEq, Prod.mk.injEq] at h
        obtain ⟨rfl, rfl, rfl, rfl, rfl, rfl, rfl, rfl, rfl, rfl, rfl⟩ := h
        have x1 : (e4 != 0) = true := bne_iff_ne.mpr hx0
        have x2 : (e4 == 0) = false := beq_eq_false_iff_ne.mpr hx0
        clear hx0
        obtain ⟨o0, o1, o2, o3, o4, o5, o6, o7, o8, o9⟩ := cells10 S5.out.bx0
        obtain ⟨fo0, fo1, fo2, fo3, fo4, fo5, fo6, fo7, fo8, fo9⟩ := frozen10 S5.out.bx0
        go_wp2_with fail
        refine bodyPost_ret (results_ct rfl _ _ _ _ _ (0, 0) _ rfl (ten_put _ _ _ _ _ _ _ _ _ _ S5.out.bx0) Try.underlying27 rfl (by kernel_rfl)) rfl ?_
        exact post_row _ _ _ _ _ _ _ _ _ _ S5.out.below (Nat.le_add_right _ 4) (show Kd.R k44 44 _ _ (fun _ => False) _ _ from Kd.R_nil _ _ _ _ _) (fun _ h => False.elim h)
      subst hx0
      have h := HF.out
      clear HF
      rw [if_pos rfl] at h
      have HF := Aside0.mk h
      clear h
      obtain ⟨p0, p1, p2, p3, p4, p5, p6, p7, p8, p9⟩ := cells10 S5.out.bx1
      go_wp2_with fail
      clear p0 p1 p2 p3 p4 p5 p6 p7 p8 p9
      generalize hw_ : World.alloc w5 _ = w6
      have hn : w6.heap[w5.heap.size]? = some (.cells #[.int .i64 vid, .int .i64 vep, .int .i64 vst, .int .i64 vpr, .string van, .int .i64 vsw, .int .i64 vsl, .int .i64 vbw, .int .i64 vbl, .slice none 0 0] 27 (0, 0)) := by rw [← hw_]; exact blk_new w5 _
      have SA := S5.out.step (show Below w5.heap.size w5 w6 from by rw [← hw_]; exact below_alloc (Below.refl _ _) _)
      have HBX : Below w5.heap.size w5 w6 := by rw [← hw_]; exact below_alloc (Below.refl _ _) _
      clear hw_
      have HLT := Aside0.mk (fun b q => blk_lt (S5.out.box b q))
      have HNW := Aside0.mk S5.out.below.size
      have RV := Kd.R_mono (ok' := fun b => b ≠ w5.heap.size ∧ b ≠ W.heap.size + 1 + 1 + 1 + 1) (Kd.R_bound S5.out.rx0) (fun b hb => ⟨Nat.ne_of_lt hb.2.2.1, hb.1.2⟩)
      replace RV := Kd.R_below RV (show Below w5.heap.size w5 w6 from HBX)
      have S6 := Aside0.mk ((Stt.nil SA.below).row' RV |>.more SA.bx4 |>.more SA.bx3 |>.more SA.bx2 |>.more SA.bx1 |>.more hn |>.more SA.bx0)
      clear SA hn RV HBX
      clear S5
      generalize w5.heap.size = N at *
      obtain ⟨u0, u1, u2, u3, u4, u5, u6, u7, u8, u9⟩ := cells10 S6.out.bx5
      refine (status_at g st w6 u2).mono ?_
      rintro e w7 ⟨rfl, hb⟩
      clear u0 u1 u2 u3 u4 u5 u6 u7 u8 u9
      have S7 := Aside0.mk (S6.out.step hb)
      clear hb
      clear S6
      have h := HF.out
      clear HF
      unfold record_Push.sw at h
      have HF := Aside0.mk h
      clear h
      obtain ⟨u0, u1, u2, u3, u4, u5, u6, u7, u8, u9⟩ := cells10 S7.out.bx5
      obtain ⟨o0, o1, o2, o3, o4, o5, o6, o7, o8, o9⟩ := cells10 S7.out.bx0
      obtain ⟨fo0, fo1, fo2, fo3, fo4, fo5, fo6, fo7, fo8, fo9⟩ := frozen10 S7.out.bx0
      by_cases q3 : 3 ≤ st
      case pos =>
        have d3 : decide (3 ≤ st) = true := decide_eq_true q3
        have d3b : decide (st ≥ 3) = true := decide_eq_true q3
        have h := HF.out
        clear HF
        rw [if_pos q3] at h
        simp only [Option.some.injEq, Prod.mk.injEq] at h
        obtain ⟨rfl, rfl, rfl, rfl, rfl, rfl, rfl, rfl, rfl, rfl, rfl⟩ := h
        clear q3
        go_wp2_with fail
        refine bodyPost_ret (results_ct rfl _ _ _ _ _ (0, 0) _ rfl (ten_put _ _ _ _ _ _ _ _ _ _ S7.out.bx0) Try.underlying27 rfl (by kernel_rfl)) rfl ?_
        exact post_row _ _ _ _ _ _ _ _ _ _ S7.out.below (Nat.le_add_right _ 4) S7.out.rx0 (fun _ h => h.2)
      have h := HF.out
      clear HF
      rw [if_neg q3] at h
      have HF := Aside0.mk h
      clear h
      have d3 : decide (3 ≤ st) = false := decide_eq_false q3
      have d3b : decide (st ≥ 3) = false := decide_eq_false q3
      by_cases q2 : st = 2
      case pos =>
        have h := HF.out
        clear HF
        rw [if_pos q2] at h
        have HF := Aside0.mk h
        clear h
        have ds2 : (st == 2) = true := beq_iff_eq.mpr q2
        clear q2 q3
        by_cases qp : 1000 < pri
        case pos =>
          have dq : decide (1000 < pri) = true := decide_eq_true qp
          have dq2 : decide (pri > 1000) = true := decide_eq_true qp
          have h := HF.out
          clear HF
          rw [if_pos qp] at h
          simp only [Option.some.injEq, Prod.mk.injEq] at h
          obtain ⟨rfl, rfl, rfl, rfl, rfl, rfl, rfl, rfl, rfl, rfl, rfl⟩ := h
          clear qp
          go_wp2_with fail
          go_quiet (fail)
          go_wp2_with fail
          refine bodyPost_ret (results_ct rfl _ _ _ _ _ (0, 0) _ rfl (ten_put _ _ _ _ _ _ _ _ _ _ (S7.out.drewN _).bx0) Try.underlying27 rfl (by kernel_rfl)) rfl ?_
          exact post_row _ _ _ _ _ _ _ _ _ _ (S7.out.drewN _).below (Nat.le_add_right _ 4) (S7.out.drewN _).rx0 (fun _ h => h.2)
        have h := HF.out
        clear HF
        rw [if_neg qp] at h
        obtain ⟨ex, hx, h⟩ := Option.bind_eq_some_iff.mp h
        have HEX := Aside0.mk hx
        clear hx
        have HF := Aside0.mk h
        clear h
        have dq : decide (1000 < pri) = false := decide_eq_false qp
        have dq2 : decide (pri > 1000) = false := decide_eq_false qp
        clear qp
        clear o0 o1 o2 o3 o4 o5 o6 o7 o8 o9 fo0 fo1 fo2 fo3 fo4 fo5 fo6 fo7 fo8 fo9
        obtain ⟨d0, d1⟩ := cells2 S7.out.bx4
        go_wp2_with fail
        first
          | (go_region_held3 (fun V => V.cell? ⟨g, 7, none⟩ = some (.int .i64 bw) ∧ V.cell? ⟨g, 8, none⟩ = some (.int .i64 bl) ∧ V.cell? ⟨W.heap.size + 1 + 1 + 1, 0, none⟩ = some (.int .i64 nw) ∧ V.cell? ⟨W.heap.size + 1 + 1 + 1, 1, none⟩ = some (.int .i64 nl)) (go_keep) (first | (go_at_call 32; refine (record_Expired.calls bw bl nw nl ex _ HEX.out).mono ?_; rintro e w8 ⟨rfl, hb⟩; have HBC := Aside0.mk (show Below w7.heap.size w7 w8 from below_step (below_drew1 (Below.refl w7.heap.size w7)) hb); have qu7 : w8.cell? ⟨g, 7, none⟩ = some (.int .i64 bw) := pw_cell_below HBC.out u7; have qu8 : w8.cell? ⟨g, 8, none⟩ = some (.int .i64 bl) := pw_cell_below HBC.out u8; have qd0 : w8.cell? ⟨W.heap.size + 1 + 1 + 1, 0, none⟩ = some (.int .i64 nw) := pw_cell_below HBC.out d0; have qd1 : w8.cell? ⟨W.heap.size + 1 + 1 + 1, 1, none⟩ = some (.int .i64 nl) := pw_cell_below HBC.out d1; clear hb)))
          | fail
        have S8 := Aside0.mk (S7.out.step HBC.out)
        clear HBC qu7 qu8 qd0 qd1
        clear u0 u1 u2 u3 u4 u5 u6 u7 u8 u9 d0 d1
        obtain ⟨u0, u1, u2, u3, u4, u5, u6, u7, u8, u9⟩ := cells10 S8.out.bx5
        obtain ⟨o0, o1, o2, o3, o4, o5, o6, o7, o8, o9⟩ := cells10 S8.out.bx0
        obtain ⟨fo0, fo1, fo2, fo3, fo4, fo5, fo6, fo7, fo8, fo9⟩ := frozen10 S8.out.bx0
        cases ex with
        | true =>
          have h := HF.out
          clear HF
          rw [if_pos rfl] at h
          simp only [Option.some.injEq, Prod.mk.injEq] at h
          obtain ⟨rfl, rfl, rfl, rfl, rfl, rfl, rfl, rfl, rfl, rfl, rfl⟩ := h
          go_wp2_with fail
          refine bodyPost_ret (results_ct rfl _ _ _ _ _ (0, 0) _ rfl (ten_put _ _ _ _ _ _ _ _ _ _ S8.out.bx0) Try.underlying27 rfl (by kernel_rfl)) rfl ?_
          exact post_row _ _ _ _ _ _ _ _ _ _ S8.out.below (Nat.le_add_right _ 4) S8.out.rx0 (fun _ h => h.2)
        | false =>
          have h := HF.out
          clear HF
          rw [if_neg (by simp)] at h
          simp only [Option.some.injEq, Prod.mk.injEq] at h
          obtain ⟨rfl, rfl, rfl, rfl, rfl, rfl, rfl, rfl, rfl, rfl, rfl⟩ := h
          go_wp2_with fail
          refine bodyPost_ret (results_ct rfl _ _ _ _ _ (0, 0) _ rfl (ten_put _ _ _ _ _ _ _ _ _ _ S8.out.bx0) Try.underlying27 rfl (by kernel_rfl)) rfl ?_
          exact post_row _ _ _ _ _ _ _ _ _ _ S8.out.below (Nat.le_add_right _ 4) S8.out.rx0 (fun _ h => h.2)
      have h := HF.out
      clear HF
      rw [if_neg q2] at h
      have HF := Aside0.mk h
      clear h
      have ds2 : (st == 2) = false := beq_eq_false_iff_ne.mpr q2
      by_cases q1 : st = 1
      case pos =>
        have h := HF.out
        clear HF
        rw [if_pos q1] at h
        have HF := Aside0.mk h
        clear h
        have ds1 : (st == 1) = true := beq_iff_eq.mpr q1
        clear q1 q2 q3
        obtain ⟨p0, p1, p2, p3, p4, p5, p6, p7, p8, p9⟩ := cells10 S7.out.bx2
        by_cases qe : vep < ep
        case pos =>
          have de : decide (vep < ep) = true := decide_eq_true qe
          have h := HF.out
          clear HF
          rw [if_pos qe] at h
          simp only [Option.some.injEq, Prod.mk.injEq] at h
          obtain ⟨rfl, rfl, rfl, rfl, rfl, rfl, rfl, rfl, rfl, rfl, rfl⟩ := h
          clear qe
          go_wp2_with fail
          go_quiet (fail)
          go_wp2_with fail
          go_quiet (fail)
          go_wp2_with fail
          refine bodyPost_ret (results_ct rfl _ _ _ _ _ (0, 0) _ rfl (ten_put _ _ _ _ _ _ _ _ _ _ (S7.out.drewN _).bx0) Try.underlying27 rfl (by kernel_rfl)) rfl ?_
          exact post_row _ _ _ _ _ _ _ _ _ _ (S7.out.drewN _).below (Nat.le_add_right _ 4) (S7.out.drewN _).rx0 (fun _ h => h.2)
        have h := HF.out
        clear HF
        rw [if_neg qe] at h
        have HF := Aside0.mk h
        clear h
        have de : decide (vep < ep) = false := decide_eq_false qe
        clear qe
        clear o0 o1 o2 o3 o4 o5 o6 o7 o8 o9 fo0 fo1 fo2 fo3 fo4 fo5 fo6 fo7 fo8 fo9
        go_wp2_with fail
        go_quiet (fail)
        go_wp2_with fail
        go_quiet (fail)
        clear u0 u1 u2 u3 u4 u5 u6 u7 u8 u9 p0 p1 p2 p3 p4 p5 p6 p7 p8 p9
        generalize hw_ : World.drewN _ _ = w8
        have S8 := Aside0.mk ((S7.out.drewN _).at hw_)
        clear hw_ S7
        obtain ⟨u0, u1, u2, u3, u4, u5, u6, u7, u8, u9⟩ := cells10 S8.out.bx5
        obtain ⟨n0, n1, n2, n3, n4, n5, n6, n7, n8, n9⟩ := cells10 S8.out.bx1
        obtain ⟨fn0, fn1, fn2, fn3, fn4, fn5, fn6, fn7, fn8, fn9⟩ := frozen10 S8.out.bx1
        have hGN := Nat.ne_of_lt (hltx4 HLT.out)
        have hNG := Ne.symm hGN
        have hNG2 : (N == g) = false := beq_eq_false_iff_ne.mpr hNG
        have hGN2 : (g == N) = false := beq_eq_false_iff_ne.mpr hGN
        go_wp2_with fail
        generalize hw_ : World.setCell (World.setCell (World.setCell (World.setCell (World.setCell (World.setCell (World.setCell (World.setCell (World.setCell (World.setCell w8 ⟨N, 0, none⟩ (.int .i64 id)) ⟨N, 1, none⟩ (.int .i64 ep)) ⟨N, 2, none⟩ (.int .i64 st)) ⟨N, 3, none⟩ (.int .i64 pr)) ⟨N, 4, none⟩ (.string an)) ⟨N, 5, none⟩ (.int .i64 sw)) ⟨N, 6, none⟩ (.int .i64 sl)) ⟨N, 7, none⟩ (.int .i64 bw)) ⟨N, 8, none⟩ (.int .i64 bl)) ⟨N, 9, none⟩ (.slice Av l.length cv) = w9
        have S9 := Aside0.mk ((S8.out.tenN _ _ _ _ _ _ _ _ _ _ HLT.out HNW.out (RowsFar.one (fun _ h => h.1))).eqv hw_)
        clear hw_ S8
        clear u0 u1 u2 u3 u4 u5 u6 u7 u8 u9 n0 n1 n2 n3 n4 n5 n6 n7 n8 n9 fn0 fn1 fn2 fn3 fn4 fn5 fn6 fn7 fn8 fn9
        have h := HF.out
        clear HF
        generalize hm : maxS [⟨bw, bl⟩, ⟨vbw, vbl⟩] = mx at h
        have HMX := Aside0.mk (show stamp_Max.f [⟨bw, bl⟩, ⟨vbw, vbl⟩] = some (mx.f0, mx.f1) from by rw [← hm]; rfl)
        clear hm
        have HF := Aside0.mk h
        clear h
        obtain ⟨u0, u1, u2, u3, u4, u5, u6, u7, u8, u9⟩ := cells10 S9.out.bx5
        obtain ⟨p0, p1, p2, p3, p4, p5, p6, p7, p8, p9⟩ := cells10 S9.out.bx2
        have hVN := Nat.ne_of_lt (hltx1 HLT.out)
        have hNV := Ne.symm hVN
        have hNV2 : (N == W.heap.size + 1) = false := beq_eq_false_iff_ne.mpr hNV
        have hVN2 : (W.heap.size + 1 == N) = false := beq_eq_false_iff_ne.mpr hVN
        first
          | (go_region_held3 (fun V => V.cell? ⟨W.heap.size + 1, 1, none⟩ = some (.int .i64 vep) ∧ V.cell? ⟨W.heap.size + 1, 7, none⟩ = some (.int .i64 vbw) ∧ V.cell? ⟨W.heap.size + 1, 8, none⟩ = some (.int .i64 vbl) ∧ V.cell? ⟨g, 7, none⟩ = some (.int .i64 bw) ∧ V.cell? ⟨g, 8, none⟩ = some (.int .i64 bl)) (go_keep) (first | (go_at_call 31; refine (stamp_Max.calls _ 2 [⟨bw, bl⟩, ⟨vbw, vbl⟩] mx.f0 mx.f1 _ (pair_C w9.drew _ _ _ _) (Nat.le_refl _) HMX.out).mono ?_; rintro e w10 ⟨rfl, hb⟩; have HBC := Aside0.mk (show Below w9.heap.size w9 w10 from below_step (below_alloc (below_drew1 (Below.refl w9.heap.size w9)) _) hb); have qp1 : w10.cell? ⟨W.heap.size + 1, 1, none⟩ = some (.int .i64 vep) := pw_cell_below HBC.out p1; have qp7 : w10.cell? ⟨W.heap.size + 1, 7, none⟩ = some (.int .i64 vbw) := pw_cell_below HBC.out p7; have qp8 : w10.cell? ⟨W.heap.size + 1, 8, none⟩ = some (.int .i64 vbl) := pw_cell_below HBC.out p8; have qu7 : w10.cell? ⟨g, 7, none⟩ = some (.int .i64 bw) := pw_cell_below HBC.out u7; have qu8 : w10.cell? ⟨g, 8, none⟩ = some (.int .i64 bl) := pw_cell_below HBC.out u8; have S10 := Aside0.mk (S9.out.step HBC.out); obtain ⟨n0, n1, n2, n3, n4, n5, n6, n7, n8, n9⟩ := cells10 S10.out.bx1; obtain ⟨fn0, fn1, fn2, fn3, fn4, fn5, fn6, fn7, fn8, fn9⟩ := frozen10 S10.out.bx1; clear hb)))
          | fail
        clear HBC qp1 qp7 qp8 qu7 qu8
        clear u0 u1 u2 u3 u4 u5 u6 u7 u8 u9 p0 p1 p2 p3 p4 p5 p6 p7 p8 p9 n0 n1 n2 n3 n4 n5 n6 n7 n8 n9 fn0 fn1 fn2 fn3 fn4 fn5 fn6 fn7 fn8 fn9
        generalize hw_ : World.setCell (World.setCell (World.setCell w10 _ _) _ _) _ _ = w11
        have S11 := Aside0.mk ((((S10.out.setN (j := 1) (u := .int .i64 vep) (cs' := #[.int .i64 id, .int .i64 vep, .int .i64 st, .int .i64 pr, .string an, .int .i64 sw, .int .i64 sl, .int .i64 bw, .int .i64 bl, .slice Av l.length cv]) rfl HLT.out HNW.out (RowsFar.one (fun _ h => h.1))).setN (j := 7) (u := .int .i64 mx.f0) (cs' := #[.int .i64 id, .int .i64 vep, .int .i64 st, .int .i64 pr, .string an, .int .i64 sw, .int .i64 sl, .int .i64 mx.f0, .int .i64 bl, .slice Av l.length cv]) rfl HLT.out HNW.out (RowsFar.one (fun _ h => h.1))).setN (j := 8) (u := .int .i64 mx.f1) (cs' := #[.int .i64 id, .int .i64 vep, .int .i64 st, .int .i64 pr, .string an, .int .i64 sw, .int .i64 sl, .int .i64 mx.f0, .int .i64 mx.f1, .slice Av l.length cv]) rfl HLT.out HNW.out (RowsFar.one (fun _ h => h.1))).eqv hw_)
        clear hw_ S10
        cases abort with
        | true =>
          have h := HF.out
          clear HF
          unfold record_Push.tl at h
          rw [if_pos rfl] at h
          obtain ⟨ls, hx, h⟩ := Option.bind_eq_some_iff.mp h
          cases hx
          rw [if_neg (by simp)] at h
          have HF := Aside0.mk h
          clear h
          have h := HF.out
          clear HF
          obtain ⟨ex, hx, h⟩ := Option.bind_eq_some_iff.mp h
          have HEX := Aside0.mk hx
          clear hx
          have HF := Aside0.mk h
          clear h
          obtain ⟨n0, n1, n2, n3, n4, n5, n6, n7, n8, n9⟩ := cells10 S11.out.bx1
          obtain ⟨d0, d1⟩ := cells2 S11.out.bx4
          go_wp2_with fail
          refine (record_Expired.calls mx.f0 mx.f1 nw nl ex w11 HEX.out).mono ?_
          rintro e w12 ⟨rfl, hb⟩
          have S12 := Aside0.mk (S11.out.step hb)
          clear hb
          clear n0 n1 n2 n3 n4 n5 n6 n7 n8 n9 d0 d1
          cases ex with
          | true =>
            have h := HF.out
            clear HF
            rw [if_pos rfl] at h
            simp only [Option.some.injEq, Prod.mk.injEq] at h
            obtain ⟨rfl, rfl, rfl, rfl, rfl, rfl, rfl, rfl, rfl, rfl, rfl⟩ := h
            have hON := Nat.ne_of_lt (hltx0 HLT.out)
            have hNO := Ne.symm hON
            have hNO2 : (N == W.heap.size + 1 + 1 + 1 + 1) = false := beq_eq_false_iff_ne.mpr hNO
            have hON2 : (W.heap.size + 1 + 1 + 1 + 1 == N) = false := beq_eq_false_iff_ne.mpr hON
            obtain ⟨o0, o1, o2, o3, o4, o5, o6, o7, o8, o9⟩ := cells10 S12.out.bx0
            obtain ⟨n0, n1, n2, n3, n4, n5, n6, n7, n8, n9⟩ := cells10 S12.out.bx1
            obtain ⟨fo0, fo1, fo2, fo3, fo4, fo5, fo6, fo7, fo8, fo9⟩ := frozen10 S12.out.bx0
            obtain ⟨fn0, fn1, fn2, fn3, fn4, fn5, fn6, fn7, fn8, fn9⟩ := frozen10 S12.out.bx1
            go_wp2_with fail
            have SX := (S12.out.setN (j := 2) (u := .int .i64 4) (cs' := #[.int .i64 id, .int .i64 vep, .int .i64 4, .int .i64 pr, .string an, .int .i64 sw, .int .i64 sl, .int .i64 mx.f0, .int .i64 mx.f1, .slice Av l.length cv]) rfl HLT.out HNW.out (RowsFar.one (fun _ h => h.1)))
            refine bodyPost_ret (results_ct rfl _ _ _ _ _ (0, 0) _ rfl (ten_put _ _ _ _ _ _ _ _ _ _ SX.bx0) Try.underlying27 rfl (by kernel_rfl)) rfl ?_
            exact post_row _ _ _ _ _ _ _ _ _ _ SX.below (Nat.le_add_right _ 4) SX.rx0 (fun _ h => h.2)
          | false =>
            have h := HF.out
            clear HF
            rw [if_neg (by simp)] at h
            have HF := Aside0.mk h
            clear h
            by_cases qp : pr < pri
            case neg =>
              have dq : decide (pr < pri) = false := decide_eq_false qp
              have h := HF.out
              clear HF
              rw [if_neg qp] at h
              simp only [Option.some.injEq, Prod.mk.injEq] at h
              obtain ⟨rfl, rfl, rfl, rfl, rfl, rfl, rfl, rfl, rfl, rfl, rfl⟩ := h
              clear qp
              obtain ⟨n0, n1, n2, n3, n4, n5, n6, n7, n8, n9⟩ := cells10 S12.out.bx1
              go_wp2_with fail
              clear n0 n1 n2 n3 n4 n5 n6 n7 n8 n9
              refine (stays_at g 120 id ep st pr an sw sl bw bl Av cv l w12 S12.out.bx5).mono ?_
              rintro e w13 ⟨rfl, hb⟩
              have S13 := Aside0.mk (S12.out.step hb)
              clear hb
              obtain ⟨o0, o1, o2, o3, o4, o5, o6, o7, o8, o9⟩ := cells10 S13.out.bx0
              obtain ⟨fo0, fo1, fo2, fo3, fo4, fo5, fo6, fo7, fo8, fo9⟩ := frozen10 S13.out.bx0
              go_wp2_with fail
              refine bodyPost_ret (results_ct rfl _ _ _ _ _ (0, 0) _ rfl (ten_put _ _ _ _ _ _ _ _ _ _ S13.out.bx0) Try.underlying27 rfl (by kernel_rfl)) rfl ?_
              exact post_row _ _ _ _ _ _ _ _ _ _ S13.out.below (Nat.le_add_right _ 4) S13.out.rx0 (fun _ h => h.2)
            have dq : decide (pr < pri) = true := decide_eq_true qp
            have h := HF.out
            clear HF
            rw [if_pos qp, if_pos trivial] at h
            simp only [Option.some.injEq, Prod.mk.injEq] at h
            obtain ⟨rfl, rfl, rfl, rfl, rfl, rfl, rfl, rfl, rfl, rfl, rfl⟩ := h
            have hON := Nat.ne_of_lt (hltx0 HLT.out)
            have hNO := Ne.symm hON
            have hNO2 : (N == W.heap.size + 1 + 1 + 1 + 1) = false := beq_eq_false_iff_ne.mpr hNO
            have hON2 : (W.heap.size + 1 + 1 + 1 + 1 == N) = false := beq_eq_false_iff_ne.mpr hON
            obtain ⟨o0, o1, o2, o3, o4, o5, o6, o7, o8, o9⟩ := cells10 S12.out.bx0
            obtain ⟨n0, n1, n2, n3, n4, n5, n6, n7, n8, n9⟩ := cells10 S12.out.bx1
            obtain ⟨fo0, fo1, fo2, fo3, fo4, fo5, fo6, fo7, fo8, fo9⟩ := frozen10 S12.out.bx0
            obtain ⟨fn0, fn1, fn2, fn3, fn4, fn5, fn6, fn7, fn8, fn9⟩ := frozen10 S12.out.bx1
            go_wp2_with fail
            clear qp
            have SX := (S12.out.setN (j := 2) (u := .int .i64 4) (cs' := #[.int .i64 id, .int .i64 vep, .int .i64 4, .int .i64 pr, .string an, .int .i64 sw, .int .i64 sl, .int .i64 mx.f0, .int .i64 mx.f1, .slice Av l.length cv]) rfl HLT.out HNW.out (RowsFar.one (fun _ h => h.1)))
            refine bodyPost_ret (results_ct rfl _ _ _ _ _ (0, 0) _ rfl (ten_put _ _ _ _ _ _ _ _ _ _ SX.bx0) Try.underlying27 rfl (by kernel_rfl)) rfl ?_
            exact post_row _ _ _ _ _ _ _ _ _ _ SX.below (Nat.le_add_right _ 4) SX.rx0 (fun _ h => h.2)
        | false =>
          have h := HF.out
          clear HF
          unfold record_Push.tl at h
          rw [if_neg (by simp)] at h
          obtain ⟨ls, hx, h⟩ := Option.bind_eq_some_iff.mp h
          have HLS := Aside0.mk hx
          clear hx
          have HF := Aside0.mk h
          clear h
          obtain ⟨n0, n1, n2, n3, n4, n5, n6, n7, n8, n9⟩ := cells10 S11.out.bx1
          obtain ⟨t0, t1⟩ := cells2 S11.out.bx3
          go_wp2_with fail
          refine (stamp_Less.calls k tw tl sw sl ls w11 HLS.out).mono ?_
          rintro e w12 ⟨rfl, hb⟩
          have S12 := Aside0.mk (S11.out.step hb)
          clear hb
          clear n0 n1 n2 n3 n4 n5 n6 n7 n8 n9 t0 t1
          cases ls with
          | true =>
            have h := HF.out
            clear HF
            rw [if_pos rfl] at h
            simp only [Option.some.injEq, Prod.mk.injEq] at h
            obtain ⟨rfl, rfl, rfl, rfl, rfl, rfl, rfl, rfl, rfl, rfl, rfl⟩ := h
            obtain ⟨o0, o1, o2, o3, o4, o5, o6, o7, o8, o9⟩ := cells10 S12.out.bx0
            obtain ⟨n0, n1, n2, n3, n4, n5, n6, n7, n8, n9⟩ := cells10 S12.out.bx1
            obtain ⟨fo0, fo1, fo2, fo3, fo4, fo5, fo6, fo7, fo8, fo9⟩ := frozen10 S12.out.bx0
            go_wp2_with fail
            refine bodyPost_ret (results_ct rfl _ _ _ _ _ (0, 0) _ rfl (ten_put _ _ _ _ _ _ _ _ _ _ S12.out.bx0) Try.underlying27 rfl (by kernel_rfl)) rfl ?_
            exact post_row _ _ _ _ _ _ _ _ _ _ S12.out.below (Nat.le_add_right _ 4) S12.out.rx0 (fun _ h => h.2)
          | false =>
            have h := HF.out
            clear HF
            rw [if_neg (by simp)] at h
            have HF := Aside0.mk h
            clear h
            have h := HF.out
            clear HF
            obtain ⟨ex, hx, h⟩ := Option.bind_eq_some_iff.mp h
            have HEX := Aside0.mk hx
            clear hx
            have HF := Aside0.mk h
            clear h
            obtain ⟨n0, n1, n2, n3, n4, n5, n6, n7, n8, n9⟩ := cells10 S12.out.bx1
            obtain ⟨d0, d1⟩ := cells2 S12.out.bx4
            go_wp2_with fail
            refine (record_Expired.calls mx.f0 mx.f1 nw nl ex w12 HEX.out).mono ?_
            rintro e w13 ⟨rfl, hb⟩
            have S13 := Aside0.mk (S12.out.step hb)
            clear hb
            clear n0 n1 n2 n3 n4 n5 n6 n7 n8 n9 d0 d1
            cases ex with
            | true =>
              have h := HF.out
              clear HF
              rw [if_pos rfl] at h
              simp only [Option.some.injEq, Prod.mk.injEq] at h
              obtain ⟨rfl, rfl, rfl, rfl, rfl, rfl, rfl, rfl, rfl, rfl, rfl⟩ := h
              have hON := Nat.ne_of_lt (hltx0 HLT.out)
              have hNO := Ne.symm hON
              have hNO2 : (N == W.heap.size + 1 + 1 + 1 + 1) = false := beq_eq_false_iff_ne.mpr hNO
              have hON2 : (W.heap.size + 1 + 1 + 1 + 1 == N) = false := beq_eq_false_iff_ne.mpr hON
              obtain ⟨o0, o1, o2, o3, o4, o5, o6, o7, o8, o9⟩ := cells10 S13.out.bx0
              obtain ⟨n0, n1, n2, n3, n4, n5, n6, n7, n8, n9⟩ := cells10 S13.out.bx1
              obtain ⟨fo0, fo1, fo2, fo3, fo4, fo5, fo6, fo7, fo8, fo9⟩ := frozen10 S13.out.bx0
              obtain ⟨fn0, fn1, fn2, fn3, fn4, fn5, fn6, fn7, fn8, fn9⟩ := frozen10 S13.out.bx1
              go_wp2_with fail
              have SX := (S13.out.setN (j := 2) (u := .int .i64 4) (cs' := #[.int .i64 id, .int .i64 vep, .int .i64 4, .int .i64 pr, .string an, .int .i64 sw, .int .i64 sl, .int .i64 mx.f0, .int .i64 mx.f1, .slice Av l.length cv]) rfl HLT.out HNW.out (RowsFar.one (fun _ h => h.1)))
              refine bodyPost_ret (results_ct rfl _ _ _ _ _ (0, 0) _ rfl (ten_put _ _ _ _ _ _ _ _ _ _ SX.bx0) Try.underlying27 rfl (by kernel_rfl)) rfl ?_
              exact post_row _ _ _ _ _ _ _ _ _ _ SX.below (Nat.le_add_right _ 4) SX.rx0 (fun _ h => h.2)
            | false =>
              have h := HF.out
              clear HF
              rw [if_neg (by simp)] at h
              have HF := Aside0.mk h
              clear h
              by_cases qp : pr < pri
              case neg =>
                have dq : decide (pr < pri) = false := decide_eq_false qp
                have h := HF.out
                clear HF
                rw [if_neg qp] at h
                simp only [Option.some.injEq, Prod.mk.injEq] at h
                obtain ⟨rfl, rfl, rfl, rfl, rfl, rfl, rfl, rfl, rfl, rfl, rfl⟩ := h
                clear qp
                obtain ⟨n0, n1, n2, n3, n4, n5, n6, n7, n8, n9⟩ := cells10 S13.out.bx1
                go_wp2_with fail
                clear n0 n1 n2 n3 n4 n5 n6 n7 n8 n9
                refine (stays_at g 120 id ep st pr an sw sl bw bl Av cv l w13 S13.out.bx5).mono ?_
                rintro e w14 ⟨rfl, hb⟩
                have S14 := Aside0.mk (S13.out.step hb)
                clear hb
                obtain ⟨o0, o1, o2, o3, o4, o5, o6, o7, o8, o9⟩ := cells10 S14.out.bx0
                obtain ⟨fo0, fo1, fo2, fo3, fo4, fo5, fo6, fo7, fo8, fo9⟩ := frozen10 S14.out.bx0
                go_wp2_with fail
                refine bodyPost_ret (results_ct rfl _ _ _ _ _ (0, 0) _ rfl (ten_put _ _ _ _ _ _ _ _ _ _ S14.out.bx0) Try.underlying27 rfl (by kernel_rfl)) rfl ?_
                exact post_row _ _ _ _ _ _ _ _ _ _ S14.out.below (Nat.le_add_right _ 4) S14.out.rx0 (fun _ h => h.2)
              have dq : decide (pr < pri) = true := decide_eq_true qp
              have h := HF.out
              clear HF
              rw [if_pos qp, if_neg (by simp)] at h
              obtain ⟨⟨s0, s1, se⟩, hx, h⟩ := Option.bind_eq_some_iff.mp h
              have HNX := Aside0.mk hx
              clear hx qp
              have HF := Aside0.mk h
              clear h
              obtain ⟨n0, n1, n2, n3, n4, n5, n6, n7, n8, n9⟩ := cells10 S13.out.bx1
              obtain ⟨t0, t1⟩ := cells2 S13.out.bx3
              go_wp2_with fail
              refine (stamp_Next.calls tw tl s0 s1 se w13 HNX.out).mono ?_
              rintro e w14 ⟨rfl, hb⟩
              have S14 := Aside0.mk (S13.out.step hb)
              clear hb
              clear n0 n1 n2 n3 n4 n5 n6 n7 n8 n9 t0 t1
              have hON := Nat.ne_of_lt (hltx0 HLT.out)
              have hNO := Ne.symm hON
              have hNO2 : (N == W.heap.size + 1 + 1 + 1 + 1) = false := beq_eq_false_iff_ne.mpr hNO
              have hON2 : (W.heap.size + 1 + 1 + 1 + 1 == N) = false := beq_eq_false_iff_ne.mpr hON
              by_cases hs : se = 0
              case neg =>
                have h := HF.out
                clear HF
                rw [if_neg hs] at h
                simp only [Option.some.injEq, Prod.mk.injEq] at h
                obtain ⟨rfl, rfl, rfl, rfl, rfl, rfl, rfl, rfl, rfl, rfl, rfl⟩ := h
                have y1 : (se != 0) = true := bne_iff_ne.mpr hs
                have y2 : (se == 0) = false := beq_eq_false_iff_ne.mpr hs
                clear hs
                obtain ⟨o0, o1, o2, o3, o4, o5, o6, o7, o8, o9⟩ := cells10a S14.out.bx0
                obtain ⟨fo0, fo1, fo2, fo3, fo4, fo5, fo6, fo7, fo8, fo9⟩ := frozen10a S14.out.bx0
                go_wp2_with fail
                have SZ := (S14.out.step (below_alloc (Below.refl _ _) (.cells #[.int .i64 s0, .int .i64 s1] 24)))
                refine bodyPost_ret (results_ct rfl _ _ _ _ _ (0, 0) _ rfl (ten_put _ _ _ _ _ _ _ _ _ _ SZ.bx0) Try.underlying27 rfl (by kernel_rfl)) rfl ?_
                exact post_row _ _ _ _ _ _ _ _ _ _ SZ.below (Nat.le_add_right _ 4) (show Kd.R k44 44 _ _ (fun _ => False) _ _ from Kd.R_nil _ _ _ _ _) (fun _ h => False.elim h)
              subst hs
              have h := HF.out
              clear HF
              rw [if_pos rfl] at h
              simp only [Option.some.injEq, Prod.mk.injEq] at h
              obtain ⟨rfl, rfl, rfl, rfl, rfl, rfl, rfl, rfl, rfl, rfl, rfl⟩ := h
              obtain ⟨o0, o1, o2, o3, o4, o5, o6, o7, o8, o9⟩ := cells10a S14.out.bx0
              obtain ⟨n0, n1, n2, n3, n4, n5, n6, n7, n8, n9⟩ := cells10a S14.out.bx1
              obtain ⟨fo0, fo1, fo2, fo3, fo4, fo5, fo6, fo7, fo8, fo9⟩ := frozen10a S14.out.bx0
              obtain ⟨fn0, fn1, fn2, fn3, fn4, fn5, fn6, fn7, fn8, fn9⟩ := frozen10a S14.out.bx1
              go_wp2_with fail
              have SX := ((S14.out.step (below_alloc (Below.refl _ _) (.cells #[.int .i64 s0, .int .i64 s1] 24))).setN (j := 5) (u := .int .i64 s0) (cs' := #[.int .i64 id, .int .i64 vep, .int .i64 st, .int .i64 pr, .string an, .int .i64 s0, .int .i64 sl, .int .i64 mx.f0, .int .i64 mx.f1, .slice Av l.length cv]) rfl HLT.out HNW.out (RowsFar.one (fun _ h => h.1))).setN (j := 6) (u := .int .i64 s1) (cs' := #[.int .i64 id, .int .i64 vep, .int .i64 st, .int .i64 pr, .string an, .int .i64 s0, .int .i64 s1, .int .i64 mx.f0, .int .i64 mx.f1, .slice Av l.length cv]) rfl HLT.out HNW.out (RowsFar.one (fun _ h => h.1))
              refine bodyPost_ret (results_ct rfl _ _ _ _ _ (0, 0) _ rfl (ten_put _ _ _ _ _ _ _ _ _ _ SX.bx0) Try.underlying27 rfl (by kernel_rfl)) rfl ?_
              exact post_row _ _ _ _ _ _ _ _ _ _ SX.below (Nat.le_add_right _ 4) SX.rx0 (fun _ h => h.2)
      have h := HF.out
      clear HF
      rw [if_neg q1] at h
      have HF := Aside0.mk h
      clear h
      have ds1 : (st == 1) = false := beq_eq_false_iff_ne.mpr q1
      clear q1 q2 q3
      clear u0 u1 u2 u3 u4 u5 u6 u7 u8 u9 o0 o1 o2 o3 o4 o5 o6 o7 o8 o9 fo0 fo1 fo2 fo3 fo4 fo5 fo6 fo7 fo8 fo9
      go_wp2_with fail
      go_quiet (fail)
      go_wp2_with fail
      go_quiet (fail)
      generalize hw_ : World.drewN (World.drewN w7 _) _ = w8
      have S8 := Aside0.mk ((S7.out.drewN _).at hw_)
      clear hw_ S7
      cases abort with
      | true =>
        have h := HF.out
        clear HF
        unfold record_Push.tl at h
        rw [if_pos rfl] at h
        obtain ⟨ls, hx, h⟩ := Option.bind_eq_some_iff.mp h
        cases hx
        rw [if_neg (by simp)] at h
        have HF := Aside0.mk h
        clear h
        have h := HF.out
        clear HF
        obtain ⟨ex, hx, h⟩ := Option.bind_eq_some_iff.mp h
        have HEX := Aside0.mk hx
        clear hx
        have HF := Aside0.mk h
        clear h
        obtain ⟨n0, n1, n2, n3, n4, n5, n6, n7, n8, n9⟩ := cells10 S8.out.bx1
        obtain ⟨d0, d1⟩ := cells2 S8.out.bx4
        go_wp2_with fail
        refine (record_Expired.calls vbw vbl nw nl ex w8 HEX.out).mono ?_
        rintro e w9 ⟨rfl, hb⟩
        have S9 := Aside0.mk (S8.out.step hb)
        clear hb
        clear n0 n1 n2 n3 n4 n5 n6 n7 n8 n9 d0 d1
        cases ex with
        | true =>
          have h := HF.out
          clear HF
          rw [if_pos rfl] at h
          simp only [Option.some.injEq, Prod.mk.injEq] at h
          obtain ⟨rfl, rfl, rfl, rfl, rfl, rfl, rfl, rfl, rfl, rfl, rfl⟩ := h
          have hON := Nat.ne_of_lt (hltx0 HLT.out)
          have hNO := Ne.symm hON
          have hNO2 : (N == W.heap.size + 1 + 1 + 1 + 1) = false := beq_eq_false_iff_ne.mpr hNO
          have hON2 : (W.heap.size + 1 + 1 + 1 + 1 == N) = false := beq_eq_false_iff_ne.mpr hON
          obtain ⟨o0, o1, o2, o3, o4, o5, o6, o7, o8, o9⟩ := cells10 S9.out.bx0
          obtain ⟨n0, n1, n2, n3, n4, n5, n6, n7, n8, n9⟩ := cells10 S9.out.bx1
          obtain ⟨fo0, fo1, fo2, fo3, fo4, fo5, fo6, fo7, fo8, fo9⟩ := frozen10 S9.out.bx0
          obtain ⟨fn0, fn1, fn2, fn3, fn4, fn5, fn6, fn7, fn8, fn9⟩ := frozen10 S9.out.bx1
          go_wp2_with fail
          have SX := (S9.out.setN (j := 2) (u := .int .i64 4) (cs' := #[.int .i64 vid, .int .i64 vep, .int .i64 4, .int .i64 vpr, .string van, .int .i64 vsw, .int .i64 vsl, .int .i64 vbw, .int .i64 vbl, .slice none 0 0]) rfl HLT.out HNW.out (RowsFar.one (fun _ h => h.1)))
          refine bodyPost_ret (results_ct rfl _ _ _ _ _ (0, 0) _ rfl (ten_put _ _ _ _ _ _ _ _ _ _ SX.bx0) Try.underlying27 rfl (by kernel_rfl)) rfl ?_
          exact post_row _ _ _ _ _ _ _ _ _ _ SX.below (Nat.le_add_right _ 4) (show Kd.R k44 44 _ _ (fun _ => False) _ _ from Kd.R_nil _ _ _ _ _) (fun _ h => False.elim h)
        | false =>
          have h := HF.out
          clear HF
          rw [if_neg (by simp)] at h
          have HF := Aside0.mk h
          clear h
          by_cases qp : vpr < pri
          case neg =>
            have dq : decide (vpr < pri) = false := decide_eq_false qp
            have h := HF.out
            clear HF
            rw [if_neg qp] at h
            simp only [Option.some.injEq, Prod.mk.injEq] at h
            obtain ⟨rfl, rfl, rfl, rfl, rfl, rfl, rfl, rfl, rfl, rfl, rfl⟩ := h
            clear qp
            obtain ⟨n0, n1, n2, n3, n4, n5, n6, n7, n8, n9⟩ := cells10 S9.out.bx1
            go_wp2_with fail
            clear n0 n1 n2 n3 n4 n5 n6 n7 n8 n9
            refine (stays_at g 120 id ep st pr an sw sl bw bl Av cv l w9 S9.out.bx5).mono ?_
            rintro e w10 ⟨rfl, hb⟩
            have S10 := Aside0.mk (S9.out.step hb)
            clear hb
            obtain ⟨o0, o1, o2, o3, o4, o5, o6, o7, o8, o9⟩ := cells10 S10.out.bx0
            obtain ⟨fo0, fo1, fo2, fo3, fo4, fo5, fo6, fo7, fo8, fo9⟩ := frozen10 S10.out.bx0
            go_wp2_with fail
            refine bodyPost_ret (results_ct rfl _ _ _ _ _ (0, 0) _ rfl (ten_put _ _ _ _ _ _ _ _ _ _ S10.out.bx0) Try.underlying27 rfl (by kernel_rfl)) rfl ?_
            exact post_row _ _ _ _ _ _ _ _ _ _ S10.out.below (Nat.le_add_right _ 4) S10.out.rx0 (fun _ h => h.2)
          have dq : decide (vpr < pri) = true := decide_eq_true qp
          have h := HF.out
          clear HF
          rw [if_pos qp, if_pos trivial] at h
          simp only [Option.some.injEq, Prod.mk.injEq] at h
          obtain ⟨rfl, rfl, rfl, rfl, rfl, rfl, rfl, rfl, rfl, rfl, rfl⟩ := h
          have hON := Nat.ne_of_lt (hltx0 HLT.out)
          have hNO := Ne.symm hON
          have hNO2 : (N == W.heap.size + 1 + 1 + 1 + 1) = false := beq_eq_false_iff_ne.mpr hNO
          have hON2 : (W.heap.size + 1 + 1 + 1 + 1 == N) = false := beq_eq_false_iff_ne.mpr hON
          obtain ⟨o0, o1, o2, o3, o4, o5, o6, o7, o8, o9⟩ := cells10 S9.out.bx0
          obtain ⟨n0, n1, n2, n3, n4, n5, n6, n7, n8, n9⟩ := cells10 S9.out.bx1
          obtain ⟨fo0, fo1, fo2, fo3, fo4, fo5, fo6, fo7, fo8, fo9⟩ := frozen10 S9.out.bx0
          obtain ⟨fn0, fn1, fn2, fn3, fn4, fn5, fn6, fn7, fn8, fn9⟩ := frozen10 S9.out.bx1
          go_wp2_with fail
          clear qp
          have SX := (S9.out.setN (j := 2) (u := .int .i64 4) (cs' := #[.int .i64 vid, .int .i64 vep, .int .i64 4, .int .i64 vpr, .string van, .int .i64 vsw, .int .i64 vsl, .int .i64 vbw, .int .i64 vbl, .slice none 0 0]) rfl HLT.out HNW.out (RowsFar.one (fun _ h => h.1)))
          refine bodyPost_ret (results_ct rfl _ _ _ _ _ (0, 0) _ rfl (ten_put _ _ _ _ _ _ _ _ _ _ SX.bx0) Try.underlying27 rfl (by kernel_rfl)) rfl ?_
          exact post_row _ _ _ _ _ _ _ _ _ _ SX.below (Nat.le_add_right _ 4) (show Kd.R k44 44 _ _ (fun _ => False) _ _ from Kd.R_nil _ _ _ _ _) (fun _ h => False.elim h)
      | false =>
        have h := HF.out
        clear HF
        unfold record_Push.tl at h
        rw [if_neg (by simp)] at h
        obtain ⟨ls, hx, h⟩ := Option.bind_eq_some_iff.mp h
        have HLS := Aside0.mk hx
        clear hx
        have HF := Aside0.mk h
        clear h
        obtain ⟨n0, n1, n2, n3, n4, n5, n6, n7, n8, n9⟩ := cells10 S8.out.bx1
        obtain ⟨t0, t1⟩ := cells2 S8.out.bx3
        go_wp2_with fail
        refine (stamp_Less.calls k tw tl vsw vsl ls w8 HLS.out).mono ?_
        rintro e w9 ⟨rfl, hb⟩
        have S9 := Aside0.mk (S8.out.step hb)
        clear hb
        clear n0 n1 n2 n3 n4 n5 n6 n7 n8 n9 t0 t1
        cases ls with
        | true =>
          have h := HF.out
          clear HF
          rw [if_pos rfl] at h
          simp only [Option.some.injEq, Prod.mk.injEq] at h
          obtain ⟨rfl, rfl, rfl, rfl, rfl, rfl, rfl, rfl, rfl, rfl, rfl⟩ := h
          obtain ⟨o0, o1, o2, o3, o4, o5, o6, o7, o8, o9⟩ := cells10 S9.out.bx0
          obtain ⟨n0, n1, n2, n3, n4, n5, n6, n7, n8, n9⟩ := cells10 S9.out.bx1
          obtain ⟨fo0, fo1, fo2, fo3, fo4, fo5, fo6, fo7, fo8, fo9⟩ := frozen10 S9.out.bx0
          go_wp2_with fail
          refine bodyPost_ret (results_ct rfl _ _ _ _ _ (0, 0) _ rfl (ten_put _ _ _ _ _ _ _ _ _ _ S9.out.bx0) Try.underlying27 rfl (by kernel_rfl)) rfl ?_
          exact post_row _ _ _ _ _ _ _ _ _ _ S9.out.below (Nat.le_add_right _ 4) (show Kd.R k44 44 _ _ (fun _ => False) _ _ from Kd.R_nil _ _ _ _ _) (fun _ h => False.elim h)
        | false =>
          have h := HF.out
          clear HF
          rw [if_neg (by simp)] at h
          have HF := Aside0.mk h
          clear h
          have h := HF.out
          clear HF
          obtain ⟨ex, hx, h⟩ := Option.bind_eq_some_iff.mp h
          have HEX := Aside0.mk hx
          clear hx
          have HF := Aside0.mk h
          clear h
          obtain ⟨n0, n1, n2, n3, n4, n5, n6, n7, n8, n9⟩ := cells10 S9.out.bx1
          obtain ⟨d0, d1⟩ := cells2 S9.out.bx4
          go_wp2_with fail
          refine (record_Expired.calls vbw vbl nw nl ex w9 HEX.out).mono ?_
          rintro e w10 ⟨rfl, hb⟩
          have S10 := Aside0.mk (S9.out.step hb)
          clear hb
          clear n0 n1 n2 n3 n4 n5 n6 n7 n8 n9 d0 d1
          cases ex with
          | true =>
            have h := HF.out
            clear HF
            rw [if_pos rfl] at h
            simp only [Option.some.injEq, Prod.mk.injEq] at h
            obtain ⟨rfl, rfl, rfl, rfl, rfl, rfl, rfl, rfl, rfl, rfl, rfl⟩ := h
            have hON := Nat.ne_of_lt (hltx0 HLT.out)
            have hNO := Ne.symm hON
            have hNO2 : (N == W.heap.size + 1 + 1 + 1 + 1) = false := beq_eq_false_iff_ne.mpr hNO
            have hON2 : (W.heap.size + 1 + 1 + 1 + 1 == N) = false := beq_eq_false_iff_ne.mpr hON
            obtain ⟨o0, o1, o2, o3, o4, o5, o6, o7, o8, o9⟩ := cells10 S10.out.bx0
            obtain ⟨n0, n1, n2, n3, n4, n5, n6, n7, n8, n9⟩ := cells10 S10.out.bx1
            obtain ⟨fo0, fo1, fo2, fo3, fo4, fo5, fo6, fo7, fo8, fo9⟩ := frozen10 S10.out.bx0
            obtain ⟨fn0, fn1, fn2, fn3, fn4, fn5, fn6, fn7, fn8, fn9⟩ := frozen10 S10.out.bx1
            go_wp2_with fail
            have SX := (S10.out.setN (j := 2) (u := .int .i64 4) (cs' := #[.int .i64 vid, .int .i64 vep, .int .i64 4, .int .i64 vpr, .string van, .int .i64 vsw, .int .i64 vsl, .int .i64 vbw, .int .i64 vbl, .slice none 0 0]) rfl HLT.out HNW.out (RowsFar.one (fun _ h => h.1)))
            refine bodyPost_ret (results_ct rfl _ _ _ _ _ (0, 0) _ rfl (ten_put _ _ _ _ _ _ _ _ _ _ SX.bx0) Try.underlying27 rfl (by kernel_rfl)) rfl ?_
            exact post_row _ _ _ _ _ _ _ _ _ _ SX.below (Nat.le_add_right _ 4) (show Kd.R k44 44 _ _ (fun _ => False) _ _ from Kd.R_nil _ _ _ _ _) (fun _ h => False.elim h)
          | false =>
            have h := HF.out
            clear HF
            rw [if_neg (by simp)] at h
            have HF := Aside0.mk h
            clear h
            by_cases qp : vpr < pri
            case neg =>
              have dq : decide (vpr < pri) = false := decide_eq_false qp
              have h := HF.out
              clear HF
              rw [if_neg qp] at h
              simp only [Option.some.injEq, Prod.mk.injEq] at h
              obtain ⟨rfl, rfl, rfl, rfl, rfl, rfl, rfl, rfl, rfl, rfl, rfl⟩ := h
              clear qp
              obtain ⟨n0, n1, n2, n3, n4, n5, n6, n7, n8, n9⟩ := cells10 S10.out.bx1
              go_wp2_with fail
              clear n0 n1 n2 n3 n4 n5 n6 n7 n8 n9
              refine (stays_at g 120 id ep st pr an sw sl bw bl Av cv l w10 S10.out.bx5).mono ?_
              rintro e w11 ⟨rfl, hb⟩
              have S11 := Aside0.mk (S10.out.step hb)
              clear hb
              obtain ⟨o0, o1, o2, o3, o4, o5, o6, o7, o8, o9⟩ := cells10 S11.out.bx0
              obtain ⟨fo0, fo1, fo2, fo3, fo4, fo5, fo6, fo7, fo8, fo9⟩ := frozen10 S11.out.bx0
              go_wp2_with fail
              refine bodyPost_ret (results_ct rfl _ _ _ _ _ (0, 0) _ rfl (ten_put _ _ _ _ _ _ _ _ _ _ S11.out.bx0) Try.underlying27 rfl (by kernel_rfl)) rfl ?_
              exact post_row _ _ _ _ _ _ _ _ _ _ S11.out.below (Nat.le_add_right _ 4) S11.out.rx0 (fun _ h => h.2)
            have dq : decide (vpr < pri) = true := decide_eq_true qp
            have h := HF.out
            clear HF
            rw [if_pos qp, if_neg (by simp)] at h
            obtain ⟨⟨s0, s1, se⟩, hx, h⟩ := Option.bind_eq_some_iff.mp h
            have HNX := Aside0.mk hx
            clear hx qp
            have HF := Aside0.mk h
            clear h
            obtain ⟨n0, n1, n2, n3, n4, n5, n6, n7, n8, n9⟩ := cells10 S10.out.bx1
            obtain ⟨t0, t1⟩ := cells2 S10.out.bx3
            go_wp2_with fail
            refine (stamp_Next.calls tw tl s0 s1 se w10 HNX.out).mono ?_
            rintro e w11 ⟨rfl, hb⟩
            have S11 := Aside0.mk (S10.out.step hb)
            clear hb
            clear n0 n1 n2 n3 n4 n5 n6 n7 n8 n9 t0 t1
            have hON := Nat.ne_of_lt (hltx0 HLT.out)
            have hNO := Ne.symm hON
            have hNO2 : (N == W.heap.size + 1 + 1 + 1 + 1) = false := beq_eq_false_iff_ne.mpr hNO
            have hON2 : (W.heap.size + 1 + 1 + 1 + 1 == N) = false := beq_eq_false_iff_ne.mpr hON
            by_cases hs : se = 0
            case neg =>
              have h := HF.out
              clear HF
              rw [if_neg hs] at h
              simp only [Option.some.injEq, Prod.mk.injEq] at h
              obtain ⟨rfl, rfl, rfl, rfl, rfl, rfl, rfl, rfl, rfl, rfl, rfl⟩ := h
              have y1 : (se != 0) = true := bne_iff_ne.mpr hs
              have y2 : (se == 0) = false := beq_eq_false_iff_ne.mpr hs
              clear hs
              obtain ⟨o0, o1, o2, o3, o4, o5, o6, o7, o8, o9⟩ := cells10a S11.out.bx0
              obtain ⟨fo0, fo1, fo2, fo3, fo4, fo5, fo6, fo7, fo8, fo9⟩ := frozen10a S11.out.bx0
              go_wp2_with fail
              have SZ := (S11.out.step (below_alloc (Below.refl _ _) (.cells #[.int .i64 s0, .int .i64 s1] 24)))
              refine bodyPost_ret (results_ct rfl _ _ _ _ _ (0, 0) _ rfl (ten_put _ _ _ _ _ _ _ _ _ _ SZ.bx0) Try.underlying27 rfl (by kernel_rfl)) rfl ?_
              exact post_row _ _ _ _ _ _ _ _ _ _ SZ.below (Nat.le_add_right _ 4) (show Kd.R k44 44 _ _ (fun _ => False) _ _ from Kd.R_nil _ _ _ _ _) (fun _ h => False.elim h)
            subst hs
            have h := HF.out
            clear HF
            rw [if_pos rfl] at h
            simp only [Option.some.injEq, Prod.mk.injEq] at h
            obtain ⟨rfl, rfl, rfl, rfl, rfl, rfl, rfl, rfl, rfl, rfl, rfl⟩ := h
            obtain ⟨o0, o1, o2, o3, o4, o5, o6, o7, o8, o9⟩ := cells10a S11.out.bx0
            obtain ⟨n0, n1, n2, n3, n4, n5, n6, n7, n8, n9⟩ := cells10a S11.out.bx1
            obtain ⟨fo0, fo1, fo2, fo3, fo4, fo5, fo6, fo7, fo8, fo9⟩ := frozen10a S11.out.bx0
            obtain ⟨fn0, fn1, fn2, fn3, fn4, fn5, fn6, fn7, fn8, fn9⟩ := frozen10a S11.out.bx1
            go_wp2_with fail
            have SX := ((S11.out.step (below_alloc (Below.refl _ _) (.cells #[.int .i64 s0, .int .i64 s1] 24))).setN (j := 5) (u := .int .i64 s0) (cs' := #[.int .i64 vid, .int .i64 vep, .int .i64 vst, .int .i64 vpr, .string van, .int .i64 s0, .int .i64 vsl, .int .i64 vbw, .int .i64 vbl, .slice none 0 0]) rfl HLT.out HNW.out (RowsFar.one (fun _ h => h.1))).setN (j := 6) (u := .int .i64 s1) (cs' := #[.int .i64 vid, .int .i64 vep, .int .i64 vst, .int .i64 vpr, .string van, .int .i64 s0, .int .i64 s1, .int .i64 vbw, .int .i64 vbl, .slice none 0 0]) rfl HLT.out HNW.out (RowsFar.one (fun _ h => h.1))
            refine bodyPost_ret (results_ct rfl _ _ _ _ _ (0, 0) _ rfl (ten_put _ _ _ _ _ _ _ _ _ _ SX.bx0) Try.underlying27 rfl (by kernel_rfl)) rfl ?_
            exact post_row _ _ _ _ _ _ _ _ _ _ SX.below (Nat.le_add_right _ 4) (show Kd.R k44 44 _ _ (fun _ => False) _ _ from Kd.R_nil _ _ _ _ _) (fun _ h => False.elim h)

end Go.Proofs.Ythdmkacnkdmbiaa.PRecordStaged
