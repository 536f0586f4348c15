/- Written by xprint.py, a program of these sessions (over the print of the kit, with leaves typed by hand): one Lean function for each Go function, and the proof that the Go code comes to its answers. -/
import Derived.Test.YthdmkacnkdmbiaaPRecordStagedx0
import Derived.Test.YthdmkacnkdmbiaaPRecordStagedx4
import Derived.Test.YthdmkacnkdmbiaaPRecordStagedx5
import Derived.Test.YthdmkacnkdmbiaaPRecordStagedx6
namespace Go.Proofs.Ythdmkacnkdmbiaa.PRecordStaged
open Go.RowKit Go.Proofs.YthdmkacnkdmbiaaW.PrintWords Go.Proofs.YthdmkacnkdmbiaaW.PrintLast Go.Proofs.YthdmkacnkdmbiaaW.PrintMore
attribute [local go_sem] max2_int min2_int max_two min_two max_three min_three max_four min_four   -- for this text's walks alone
attribute [local go_sem] str_gtr str_leq str_geq
set_option linter.unusedVariables false
set_option linter.unusedSimpArgs false

/-! ### record_End: function 15 (a leaf, by hand) -/
def record_End.sw (k : Nat) (id ep st pr : Int) (an : ByteArray) (sw sl bw bl : Int) (l : List S44) (xid xep xpr : Int) (xan : ByteArray) (xrw xrl xww xwl tt : Int) (m : List S44) (nw nl : Int) : Option (Int × Int × Int × Int × ByteArray × Int × Int × Int × Int × List S44 × Int) :=
  if st = 3 then (if tt = 3 ∧ ep = xep ∧ sw = xww ∧ sl = xwl then some (id, ep, st, pr, an, sw, sl, bw, bl, l, 0) else some (id, ep, st, pr, an, sw, sl, bw, bl, l, 203))
  else if st = 4 then (if tt = 4 then some (id, ep, st, pr, an, sw, sl, bw, bl, l, 0) else some (id, ep, st, pr, an, sw, sl, bw, bl, l, 200))
  else if xep < ep then some (id, ep, st, pr, an, sw, sl, bw, bl, l, 201)
  else if tt = 4 then some (xid, xep, tt, xpr, xan, xww, xwl, nw, nl, m, 0)
  else if ¬ (xrw = xww ∧ xrl = xwl) then some (id, ep, st, pr, an, sw, sl, bw, bl, l, 202)
  else if st = 1 then (stamp_Less.f k xww xwl sw sl).bind fun b => if b = true then some (id, ep, st, pr, an, sw, sl, bw, bl, l, 202) else some (xid, xep, tt, xpr, xan, xww, xwl, nw, nl, m, 0)
  else if st = 2 ∧ ep = xep then (stamp_Less.f k xww xwl sw sl).bind fun b => if b = true then some (id, ep, st, pr, an, sw, sl, bw, bl, l, 201) else some (xid, xep, tt, xpr, xan, xww, xwl, nw, nl, m, 0)
  else some (xid, xep, tt, xpr, xan, xww, xwl, nw, nl, m, 0)
def record_End.f (k : Nat) (id ep st pr : Int) (an : ByteArray) (sw sl bw bl : Int) (l : List S44) (has : Bool) (xid xep xpr : Int) (xan : ByteArray) (xrw xrl xww xwl xlw xll xbw xbl tt : Int) (m : List S44) (nw nl : Int) : Option (Int × Int × Int × Int × ByteArray × Int × Int × Int × Int × List S44 × Int) :=
  if m.length < 1000000000000 then
    if has = true then
      if l.length < 1000000000000 then
        (cell_CheckRecord.f k id ep st pr an sw sl bw bl l).bind fun ec =>
          if (decide (ec = 0) && ((id == xid) && (an.toList == xan.toList))) = true ∧ ¬ tt = 1 then
            (cell_CheckRecord.f k xid xep tt xpr xan xww xwl nw nl m).bind fun e2 =>
            if e2 = 0 then (stamp_Check.f xrw xrl).bind fun ex => if ex = 0 then record_End.sw k id ep st pr an sw sl bw bl l xid xep xpr xan xrw xrl xww xwl tt m nw nl else some (0, 0, 0, 0, ⟨#[]⟩, 0, 0, 0, 0, [], 2) else some (0, 0, 0, 0, ⟨#[]⟩, 0, 0, 0, 0, [], 2)
          else some (0, 0, 0, 0, ⟨#[]⟩, 0, 0, 0, 0, [], 2)
      else none
    else if tt = 1 then some (0, 0, 0, 0, ⟨#[]⟩, 0, 0, 0, 0, [], 2)
    else
      (cell_CheckRecord.f k xid xep tt xpr xan xww xwl nw nl m).bind fun e2 =>
      if e2 = 0 then (stamp_Check.f xrw xrl).bind fun ex => if ex = 0 then (if tt = 4 then some (xid, xep, tt, xpr, xan, xww, xwl, nw, nl, m, 0) else if ¬ (xrw = xww ∧ xrl = xwl) then some (0, 0, 0, 0, ⟨#[]⟩, 0, 0, 0, 0, [], 202) else some (xid, xep, tt, xpr, xan, xww, xwl, nw, nl, m, 0)) else some (0, 0, 0, 0, ⟨#[]⟩, 0, 0, 0, 0, [], 2) else some (0, 0, 0, 0, ⟨#[]⟩, 0, 0, 0, 0, [], 2)
  else none
theorem record_End.sw_mono (k : Nat) (id ep st pr : Int) (an : ByteArray) (sw sl bw bl : Int) (l : List S44) (xid xep xpr : Int) (xan : ByteArray) (xrw xrl xww xwl tt : Int) (m : List S44) (nw nl : Int) : LeO (record_End.sw k id ep st pr an sw sl bw bl l xid xep xpr xan xrw xrl xww xwl tt m nw nl) (record_End.sw (k + 1) id ep st pr an sw sl bw bl l xid xep xpr xan xrw xrl xww xwl tt m nw nl) := by
  unfold record_End.sw
  exact LeO.ite (LeO.refl _) (LeO.ite (LeO.refl _) (LeO.ite (LeO.refl _) (LeO.ite (LeO.refl _) (LeO.ite (LeO.refl _) (LeO.ite (LeO.bind (stamp_Less.mono _ _ _ _ _) fun _ => LeO.refl _) (LeO.ite (LeO.bind (stamp_Less.mono _ _ _ _ _) fun _ => LeO.refl _) (LeO.refl _)))))))
theorem record_End.mono : ∀ id ep st pr an sw sl bw bl l has xid xep xpr xan xrw xrl xww xwl xlw xll xbw xbl tt m nw nl k, LeO (record_End.f k id ep st pr an sw sl bw bl l has xid xep xpr xan xrw xrl xww xwl xlw xll xbw xbl tt m nw nl) (record_End.f (k + 1) id ep st pr an sw sl bw bl l has xid xep xpr xan xrw xrl xww xwl xlw xll xbw xbl tt m nw nl) := by
  intros
  unfold record_End.f
  exact LeO.ite (LeO.ite (LeO.ite (LeO.bind (cell_CheckRecord.mono _ _ _ _ _ _ _ _ _ _ _) fun _ => LeO.ite (LeO.bind (cell_CheckRecord.mono _ _ _ _ _ _ _ _ _ _ _) fun _ => LeO.ite (LeO.bind (LeO.refl _) fun _ => LeO.ite (record_End.sw_mono _ _ _ _ _ _ _ _ _ _ _ _ _ _ _ _ _ _ _ _ _ _ _) (LeO.refl _)) (LeO.refl _)) (LeO.refl _)) (LeO.refl _)) (LeO.ite (LeO.refl _) (LeO.bind (cell_CheckRecord.mono _ _ _ _ _ _ _ _ _ _ _) fun _ => LeO.refl _))) (LeO.refl _)
set_option maxHeartbeats 16000000 in
set_option maxRecDepth 100000 in
theorem record_End.calls (k : Nat) (id ep st pr : Int) (an : ByteArray) (sw sl bw bl : Int) (A : Option Addr) (c : Nat) (l : List S44) (has : Bool) (xid xep xpr : Int) (xan : ByteArray) (xrw xrl xww xwl xlw xll xbw xbl tt : Int) (B : Option Addr) (d : Nat) (m : List S44) (nw nl : Int) (r1 r2 r3 r4 : Int) (r5 : ByteArray) (r6 r7 r8 r9 : Int) (r10 : List S44) (r11 : Int) (W : World) (hr0_9 : Kd.C k44 W A l.length l) (hc0_9 : l.length ≤ c) (hr4 : Kd.C k44 W B m.length m) (hc4 : m.length ≤ d) (h : record_End.f k id ep st pr an sw sl bw bl l has xid xep xpr xan xrw xrl xww xwl xlw xll xbw xbl tt m nw nl = some (r1, r2, r3, r4, r5, r6, r7, r8, r9, r10, r11)) :
    Calls Try.prog 15 #[.agg #[.int .i64 id, .int .i64 ep, .int .i64 st, .int .i64 pr, .string an, .int .i64 sw, .int .i64 sl, .int .i64 bw, .int .i64 bl, .slice A l.length c], .bool has, .agg #[.int .i64 xid, .int .i64 xep, .int .i64 xpr, .string xan, .int .i64 xrw, .int .i64 xrl, .int .i64 xww, .int .i64 xwl, .int .i64 xlw, .int .i64 xll, .int .i64 xbw, .int .i64 xbl], .int .i64 tt, .slice B m.length d, .agg #[.int .i64 nw, .int .i64 nl]] W fun e w' => ∃ v9_ : Value, e = .returned (.tuple #[.agg #[.int .i64 r1, .int .i64 r2, .int .i64 r3, .int .i64 r4, .string r5, .int .i64 r6, .int .i64 r7, .int .i64 r8, .int .i64 r9, v9_], .int .i64 r11]) ∧ Kd.R k44 44 w' W.heap.size (fun _ => True) v9_ r10 ∧ Below W.heap.size W w' := by
  show Calls _ _ _ _ (recPost r1 r2 r3 r4 r5 r6 r7 r8 r9 r10 r11 W)
  unfold record_End.f at h
  by_cases hm : m.length < 1000000000000
  case neg => rw [if_neg hm] at h; exact absurd h (by simp)
  rw [if_pos hm] at h
  have HF := Aside0.mk h
  have hd := hc4
  have HM := Aside0.mk (fun (w1 : World) (h1 : Below W.heap.size W w1) => Kd.C_below hr4 h1)
  have HR0 := Aside0.mk hr0_9
  clear h hr4 hr0_9
  go_enter Try.func15, Try.ntmps15
  go_wp2_with fail
  obtain ⟨w1, hw1, h1, h2, h3, h4, hb1, hs1⟩ := four_boxes W (.cells #[.int .i64 id, .int .i64 ep, .int .i64 st, .int .i64 pr, .string an, .int .i64 sw, .int .i64 sl, .int .i64 bw, .int .i64 bl, .slice A l.length c] 27) (.cells #[.int .i64 xid, .int .i64 xep, .int .i64 xpr, .string xan, .int .i64 xrw, .int .i64 xrl, .int .i64 xww, .int .i64 xwl, .int .i64 xlw, .int .i64 xll, .int .i64 xbw, .int .i64 xbl] 31) (.cells #[.int .i64 nw, .int .i64 nl] 24) (.cells #[.int .i64 0, .int .i64 0, .int .i64 0, .int .i64 0, .string ⟨#[]⟩, .int .i64 0, .int .i64 0, .int .i64 0, .int .i64 0, .slice none 0 0] 27)
  rw [hw1]
  have H1 := Aside0.mk h1
  have H2 := Aside0.mk h2
  have H3 := Aside0.mk h3
  have H4 := Aside0.mk h4
  have HB1 := Aside0.mk hb1
  have HS1 := Aside0.mk hs1
  clear hw1 h1 h2 h3 h4 hb1 hs1
  refine (record_of.calls xid xep xpr xan xrw xrl xww xwl xlw xll xbw xbl tt nw nl xid xep tt xpr xan xww xwl nw nl [] w1 rfl).mono ?_
  rintro e w2 ⟨vn, rfl, hRn, hb2⟩
  obtain ⟨An, cn, rfl⟩ := Kd.R_slice hRn
  have HB2 := Aside0.mk (below_step HB1.out hb2)
  have HB12 := Aside0.mk hb2
  have HRN := Aside0.mk hRn
  have HS2 := Aside0.mk (show W.heap.size + 4 ≤ w2.heap.size from by have h1 := hb2.size; have h2 := HS1.out; omega)
  clear hb2 hRn HB1
  simp only [List.length_nil]
  go_wp2_with fail
  (generalize hw3 : World.alloc w2 _ = w3; have hn3 : w3.heap[w2.heap.size]? = some (.cells #[.int .i64 xid, .int .i64 xep, .int .i64 tt, .int .i64 xpr, .string xan, .int .i64 xww, .int .i64 xwl, .int .i64 nw, .int .i64 nl, .slice An 0 cn] 27 (0, 0)) := (by rw [← hw3]; exact blk_new w2 _); have hb23 : Below w2.heap.size w2 w3 := (by rw [← hw3]; exact below_alloc (Below.refl _ _) _); have HN3 := Aside0.mk hn3; have HB3 := Aside0.mk (below_step HB2.out hb23); have h13 := blk_below (blk_below H1.out HB12.out) hb23; have h23 := blk_below (blk_below H2.out HB12.out) hb23; have H33 := Aside0.mk (blk_below (blk_below H3.out HB12.out) hb23); have H43 := Aside0.mk (blk_below (blk_below H4.out HB12.out) hb23); have HX3 := Aside0.mk h23; have HI3 := Aside0.mk h13; have c0 : w3.cell? ⟨W.heap.size, 0, none⟩ = some (.int .i64 id) := (blk_cell h13 0).trans rfl; have c1 : w3.cell? ⟨W.heap.size, 1, none⟩ = some (.int .i64 ep) := (blk_cell h13 1).trans rfl; have c2 : w3.cell? ⟨W.heap.size, 2, none⟩ = some (.int .i64 st) := (blk_cell h13 2).trans rfl; have c3 : w3.cell? ⟨W.heap.size, 3, none⟩ = some (.int .i64 pr) := (blk_cell h13 3).trans rfl; have c4 : w3.cell? ⟨W.heap.size, 4, none⟩ = some (.string an) := (blk_cell h13 4).trans rfl; have c5 : w3.cell? ⟨W.heap.size, 5, none⟩ = some (.int .i64 sw) := (blk_cell h13 5).trans rfl; have c6 : w3.cell? ⟨W.heap.size, 6, none⟩ = some (.int .i64 sl) := (blk_cell h13 6).trans rfl; have c7 : w3.cell? ⟨W.heap.size, 7, none⟩ = some (.int .i64 bw) := (blk_cell h13 7).trans rfl; have c8 : w3.cell? ⟨W.heap.size, 8, none⟩ = some (.int .i64 bl) := (blk_cell h13 8).trans rfl; have c9 : w3.cell? ⟨W.heap.size, 9, none⟩ = some (.slice A l.length c) := (blk_cell h13 9).trans rfl; have x0 : w3.cell? ⟨W.heap.size + 1, 0, none⟩ = some (.int .i64 xid) := (blk_cell h23 0).trans rfl; have x3 : w3.cell? ⟨W.heap.size + 1, 3, none⟩ = some (.string xan) := (blk_cell h23 3).trans rfl; have HRN3 := Aside0.mk (Kd.R_below HRN.out hb23); have HS3 := Aside0.mk (show w2.heap.size < w3.heap.size from (by rw [← hw3]; simp)); clear hw3 hn3 hb23 h13 h23 H1 H2 H3 H4 HB12 HRN; generalize w2.heap.size = N at *)
  refine (api_Write.calls B d m m w3 (HM.out w3 HB3.out) hd (by unfold api_Write.f; rw [if_pos hm])).mono ?_
  rintro e w4 ⟨vm, rfl, hRm, hb⟩
  obtain ⟨Am, cm, rfl⟩ := Kd.R_slice hRm
  have HO3 := H43
  have HD3 := H33
  clear c0 c1 c2 c3 c4 c5 c6 c7 c8 c9 x0 x3
  have hb_ := hb
  have HN4 := Aside0.mk (blk_below HN3.out hb)
  have HO4 := Aside0.mk (blk_below HO3.out hb)
  have HD4 := Aside0.mk (blk_below HD3.out hb)
  have HX4 := Aside0.mk (blk_below HX3.out hb)
  have HI4 := Aside0.mk (blk_below HI3.out hb)
  have HB4 := Aside0.mk (below_step HB3.out hb)
  clear hb
  have HS4 := Aside0.mk (show N < w4.heap.size from by have h1 := HS3.out; have h2 := hb_.size; omega)
  clear hb_
  have HRM4 := Aside0.mk (show Kd.R k44 44 w4 W.heap.size (fun b => b ≠ N ∧ b ≠ W.heap.size + 1 + 1 + 1) (.slice Am m.length cm) m from Kd.R_lower (Kd.R_mono (Kd.R_bound hRm) (fun b hb => ⟨(by have h1 := hb.2.1; have h3 := HS3.out; omega), (by have h1 := hb.2.1; have h2 := HS2.out; have h3 := HS3.out; show b ≠ W.heap.size + 1 + 1 + 1; omega)⟩)) (HB3.out.size))
  clear hRm
  have fn9 := blk_frozen HN4.out 9
  have n9 : w4.cell? ⟨N, 9, none⟩ = some (.slice An 0 cn) := (blk_cell HN4.out 9).trans rfl
  go_wp2_with (((with_reducible refine gate_dst (N := 26) rfl ?_); generalize hw5 : World.setCell w4 _ _ = w5; have HN5 := Aside0.mk (show w5.heap[N]? = some (.cells #[.int .i64 xid, .int .i64 xep, .int .i64 tt, .int .i64 xpr, .string xan, .int .i64 xww, .int .i64 xwl, .int .i64 nw, .int .i64 nl, .slice Am m.length cm] 27 (0, 0)) from (by rw [← hw5]; exact blk_put (cs := #[.int .i64 xid, .int .i64 xep, .int .i64 tt, .int .i64 xpr, .string xan, .int .i64 xww, .int .i64 xwl, .int .i64 nw, .int .i64 nl, .slice An 0 cn]) HN4.out 9 _ rfl)); have HO5 := Aside0.mk (show w5.heap[W.heap.size + 1 + 1 + 1]? = some (.cells #[.int .i64 0, .int .i64 0, .int .i64 0, .int .i64 0, .string ⟨#[]⟩, .int .i64 0, .int .i64 0, .int .i64 0, .int .i64 0, .slice none 0 0] 27 (0, 0)) from (by rw [← hw5]; exact blk_far HO4.out (show W.heap.size + 1 + 1 + 1 ≠ N from (by have := HS2.out; omega)) _)); have HD5 := Aside0.mk (show w5.heap[W.heap.size + 1 + 1]? = some (.cells #[.int .i64 nw, .int .i64 nl] 24 (0, 0)) from (by rw [← hw5]; exact blk_far HD4.out (show W.heap.size + 1 + 1 ≠ N from (by have := HS2.out; omega)) _)); have HX5 := Aside0.mk (show w5.heap[W.heap.size + 1]? = some (.cells #[.int .i64 xid, .int .i64 xep, .int .i64 xpr, .string xan, .int .i64 xrw, .int .i64 xrl, .int .i64 xww, .int .i64 xwl, .int .i64 xlw, .int .i64 xll, .int .i64 xbw, .int .i64 xbl] 31 (0, 0)) from (by rw [← hw5]; exact blk_far HX4.out (show W.heap.size + 1 ≠ N from (by have := HS2.out; omega)) _)); have HI5 := Aside0.mk (show w5.heap[W.heap.size]? = some (.cells #[.int .i64 id, .int .i64 ep, .int .i64 st, .int .i64 pr, .string an, .int .i64 sw, .int .i64 sl, .int .i64 bw, .int .i64 bl, .slice A l.length c] 27 (0, 0)) from (by rw [← hw5]; exact blk_far HI4.out (show W.heap.size ≠ N from (by have := HS2.out; omega)) _)); have HB5 := Aside0.mk (show Below W.heap.size W w5 from (by rw [← hw5]; have := HS2.out; exact below_set HB4.out (by omega))); have HRM5 := Aside0.mk (show Kd.R k44 44 w5 W.heap.size (fun b => b ≠ N ∧ b ≠ W.heap.size + 1 + 1 + 1) (.slice Am m.length cm) m from (by rw [← hw5]; exact Kd.R_far HRM4.out (fun b hb => hb.1) _)); have HS5 := Aside0.mk (show N < w5.heap.size from (by rw [← hw5, World.size_setCell]; exact HS4.out)); clear hw5 n9 fn9; have c0 : w5.cell? ⟨W.heap.size, 0, none⟩ = some (.int .i64 id) := (blk_cell HI5.out 0).trans rfl; have c1 : w5.cell? ⟨W.heap.size, 1, none⟩ = some (.int .i64 ep) := (blk_cell HI5.out 1).trans rfl; have c2 : w5.cell? ⟨W.heap.size, 2, none⟩ = some (.int .i64 st) := (blk_cell HI5.out 2).trans rfl; have c3 : w5.cell? ⟨W.heap.size, 3, none⟩ = some (.int .i64 pr) := (blk_cell HI5.out 3).trans rfl; have c4 : w5.cell? ⟨W.heap.size, 4, none⟩ = some (.string an) := (blk_cell HI5.out 4).trans rfl; have c5 : w5.cell? ⟨W.heap.size, 5, none⟩ = some (.int .i64 sw) := (blk_cell HI5.out 5).trans rfl; have c6 : w5.cell? ⟨W.heap.size, 6, none⟩ = some (.int .i64 sl) := (blk_cell HI5.out 6).trans rfl; have c7 : w5.cell? ⟨W.heap.size, 7, none⟩ = some (.int .i64 bw) := (blk_cell HI5.out 7).trans rfl; have c8 : w5.cell? ⟨W.heap.size, 8, none⟩ = some (.int .i64 bl) := (blk_cell HI5.out 8).trans rfl; have c9 : w5.cell? ⟨W.heap.size, 9, none⟩ = some (.slice A l.length c) := (blk_cell HI5.out 9).trans rfl; have x0 : w5.cell? ⟨W.heap.size + 1, 0, none⟩ = some (.int .i64 xid) := (blk_cell HX5.out 0).trans rfl; have x3 : w5.cell? ⟨W.heap.size + 1, 3, none⟩ = some (.string xan) := (blk_cell HX5.out 3).trans rfl))
  have S5 := Aside0.mk (((((Stt.nil HB5.out).row' HRM5.out).more HX5.out).more HN5.out).more HO5.out)
  clear c0 c1 c2 c3 c4 c5 c6 c7 c8 c9 x0 x3 HN5 HO5 HX5 HB5 HRM5 HD5 HI5
  clear HN4 HO4 HX4 HB4 HRM4 HD4 HI4 HN3 HO3 HX3 HB3 HD3 HI3 HRN3 H33 H43
  clear HM
  cases has with
  | false =>
    refine (stands_no id ep st pr an sw sl bw bl (.slice A l.length c) xid xan w5).mono ?_
    rintro e w6 ⟨rfl, hb⟩
    have S6 := Aside0.mk (S5.out.step hb)
    clear hb
    have h := HF.out
    clear HF
    rw [if_neg (by simp)] at h
    have HF := Aside0.mk h
    clear h
    by_cases q : tt = 1
    · have h := HF.out
      clear HF
      rw [if_pos q] at h
      simp only [Option.some.injEq, Prod.mk.injEq] at h
      obtain ⟨rfl, rfl, rfl, rfl, rfl, rfl, rfl, rfl, rfl, rfl, rfl⟩ := h
      have q1 : (tt == 1) = true := beq_iff_eq.mpr q
      clear q
      obtain ⟨o0, o1, o2, o3, o4, o5, o6, o7, o8, o9⟩ := cells10 S6.out.bx0
      obtain ⟨fo0, fo1, fo2, fo3, fo4, fo5, fo6, fo7, fo8, fo9⟩ := frozen10 S6.out.bx0
      go_wp2_with fail
      refine bodyPost_ret (results_ct rfl _ _ _ _ _ (0, 0) _ rfl (ten_put _ _ _ _ _ _ _ _ _ _ S6.out.bx0) Try.underlying27 rfl (by kernel_rfl)) rfl ?_
      exact post_row _ _ _ _ _ _ _ _ _ _ S6.out.below (Nat.le_add_right _ 3) (show Kd.R k44 44 _ _ (fun _ => False) _ _ from Kd.R_nil _ _ _ _ _) (fun _ h => False.elim h)
    have h := HF.out
    clear HF
    rw [if_neg q] at h
    obtain ⟨e2, hk2, h⟩ := Option.bind_eq_some_iff.mp h
    have HK2 := Aside0.mk hk2
    clear hk2
    have HF := Aside0.mk h
    clear h
    have q1 : (tt == 1) = false := beq_eq_false_iff_ne.mpr q
    clear q
    obtain ⟨n0, n1, n2, n3, n4, n5, n6, n7, n8, n9⟩ := cells10 S6.out.bx1
    go_wp2_with fail
    refine (cell_CheckRecord.calls k xid xep tt xpr xan xww xwl nw nl Am cm m e2 w6 (Kd.R_reads' S6.out.rx0).2.2 (Kd.R_reads' S6.out.rx0).2.1 HK2.out).mono ?_
    rintro e w7 ⟨rfl, hb⟩
    clear n0 n1 n2 n3 n4 n5 n6 n7 n8 n9
    have S7 := Aside0.mk (S6.out.step hb)
    clear hb
    have he := check_02 _ _ _ _ _ _ _ _ _ _ _ _ HK2.out
    rcases he with rfl | rfl
    case inr =>
      have h := HF.out
      clear HF
      rw [if_neg (by simp)] at h
      simp only [Option.some.injEq, Prod.mk.injEq] at h
      obtain ⟨rfl, rfl, rfl, rfl, rfl, rfl, rfl, rfl, rfl, rfl, rfl⟩ := h
      obtain ⟨o0, o1, o2, o3, o4, o5, o6, o7, o8, o9⟩ := cells10 S7.out.bx0
      obtain ⟨fo0, fo1, fo2, fo3, fo4, fo5, fo6, fo7, fo8, fo9⟩ := frozen10 S7.out.bx0
      go_wp2_with fail
      refine bodyPost_ret (results_ct rfl _ _ _ _ _ (0, 0) _ rfl (ten_put _ _ _ _ _ _ _ _ _ _ S7.out.bx0) Try.underlying27 rfl (by kernel_rfl)) rfl ?_
      exact post_row _ _ _ _ _ _ _ _ _ _ S7.out.below (Nat.le_add_right _ 3) (show Kd.R k44 44 _ _ (fun _ => False) _ _ from Kd.R_nil _ _ _ _ _) (fun _ h => False.elim h)
    have h := HF.out
    clear HF
    rw [if_pos rfl] at h
    obtain ⟨ex, hx, h⟩ := Option.bind_eq_some_iff.mp h
    have HX := Aside0.mk hx
    clear hx
    have HF := Aside0.mk h
    clear h
    obtain ⟨x0, x1, x2, x3, x4, x5, x6, x7, x8, x9, x10, x11⟩ := cells12 S7.out.bx2
    go_wp2_with fail
    refine (stamp_Check.calls xrw xrl ex w7 HX.out).mono ?_
    rintro e w8 ⟨rfl, hb⟩
    clear x0 x1 x2 x3 x4 x5 x6 x7 x8 x9 x10 x11
    have S8 := Aside0.mk (S7.out.step hb)
    clear hb
    by_cases hx0 : ex = 0
    case neg =>
      have h := HF.out
      clear HF
      rw [if_neg hx0] at h
      simp only [Option.some.injEq, Prod.mk.injEq] at h
      obtain ⟨rfl, rfl, rfl, rfl, rfl, rfl, rfl, rfl, rfl, rfl, rfl⟩ := h
      have x1 : (ex != 0) = true := bne_iff_ne.mpr hx0
      have x2 : (ex == 0) = false := beq_eq_false_iff_ne.mpr hx0
      clear hx0
      obtain ⟨o0, o1, o2, o3, o4, o5, o6, o7, o8, o9⟩ := cells10 S8.out.bx0
      obtain ⟨fo0, fo1, fo2, fo3, fo4, fo5, fo6, fo7, fo8, fo9⟩ := frozen10 S8.out.bx0
      go_wp2_with fail
      refine bodyPost_ret (results_ct rfl _ _ _ _ _ (0, 0) _ rfl (ten_put _ _ _ _ _ _ _ _ _ _ S8.out.bx0) Try.underlying27 rfl (by kernel_rfl)) rfl ?_
      exact post_row _ _ _ _ _ _ _ _ _ _ S8.out.below (Nat.le_add_right _ 3) (show Kd.R k44 44 _ _ (fun _ => False) _ _ from Kd.R_nil _ _ _ _ _) (fun _ h => False.elim h)
    subst hx0
    have h := HF.out
    clear HF
    rw [if_pos rfl] at h
    have HF := Aside0.mk h
    clear h
    go_wp2_with fail
    refine (status_nil w8).mono ?_
    rintro e w9 ⟨rfl, hb⟩
    have S9 := Aside0.mk (S8.out.step hb)
    clear hb
    by_cases qt : tt = 4
    case pos =>
      have h := HF.out
      clear HF
      rw [if_pos qt] at h
      simp only [Option.some.injEq, Prod.mk.injEq] at h
      obtain ⟨rfl, rfl, rfl, rfl, rfl, rfl, rfl, rfl, rfl, rfl, rfl⟩ := h
      have d_t : (tt == 4) = true := beq_iff_eq.mpr qt
      clear qt
      obtain ⟨o0, o1, o2, o3, o4, o5, o6, o7, o8, o9⟩ := cells10 S9.out.bx0
      obtain ⟨fo0, fo1, fo2, fo3, fo4, fo5, fo6, fo7, fo8, fo9⟩ := frozen10 S9.out.bx0
      obtain ⟨n0, n1, n2, n3, n4, n5, n6, n7, n8, n9⟩ := cells10 S9.out.bx1
      go_wp2_with fail
      go_quiet (fail)
      go_wp2_with fail
      go_quiet (fail)
      go_wp2_with fail
      refine bodyPost_ret (results_ct rfl _ _ _ _ _ (0, 0) _ rfl (ten_put _ _ _ _ _ _ _ _ _ _ (S9.out.drewN _).bx0) Try.underlying27 rfl (by kernel_rfl)) rfl ?_
      exact post_row _ _ _ _ _ _ _ _ _ _ (S9.out.drewN _).below (Nat.le_add_right _ 3) (S9.out.drewN _).rx0 (fun _ h => h.2)
    have h := HF.out
    clear HF
    rw [if_neg qt] at h
    have HF := Aside0.mk h
    clear h
    have d_t : (tt == 4) = false := beq_eq_false_iff_ne.mpr qt
    clear qt
    obtain ⟨x0, x1, x2, x3, x4, x5, x6, x7, x8, x9, x10, x11⟩ := cells12 S9.out.bx2
    by_cases qr : xrw = xww
    case neg =>
      have d_r : (xrw == xww) = false := beq_eq_false_iff_ne.mpr qr
      have h := HF.out
      clear HF
      rw [if_pos (fun hh => qr hh.1)] at h
      simp only [Option.some.injEq, Prod.mk.injEq] at h
      obtain ⟨rfl, rfl, rfl, rfl, rfl, rfl, rfl, rfl, rfl, rfl, rfl⟩ := h
      clear qr
      go_wp2_with fail
      go_quiet (fail)
      go_wp2_with fail
      go_quiet (fail)
      go_wp2_with fail
      go_quiet (fail)
      go_wp2_with fail
      clear x0 x1 x2 x3 x4 x5 x6 x7 x8 x9 x10 x11
      refine (stays_nil 202 _).mono ?_
      rintro e w10 ⟨rfl, hb⟩
      have S10 := Aside0.mk ((S9.out.drewN _).step hb)
      clear hb
      obtain ⟨o0, o1, o2, o3, o4, o5, o6, o7, o8, o9⟩ := cells10 S10.out.bx0
      obtain ⟨fo0, fo1, fo2, fo3, fo4, fo5, fo6, fo7, fo8, fo9⟩ := frozen10 S10.out.bx0
      go_wp2_with fail
      refine bodyPost_ret (results_ct rfl _ _ _ _ _ (0, 0) _ rfl (ten_put _ _ _ _ _ _ _ _ _ _ S10.out.bx0) Try.underlying27 rfl (by kernel_rfl)) rfl ?_
      exact post_row _ _ _ _ _ _ _ _ _ _ S10.out.below (Nat.le_add_right _ 3) (show Kd.R k44 44 _ _ (fun _ => False) _ _ from Kd.R_nil _ _ _ _ _) (fun _ h => False.elim h)
    by_cases qr2 : xrl = xwl
    case neg =>
      have d_r : (xrw == xww) = true := beq_iff_eq.mpr qr
      have d_r2 : (xrl == xwl) = false := beq_eq_false_iff_ne.mpr qr2
      have h := HF.out
      clear HF
      rw [if_pos (fun hh => qr2 hh.2)] at h
      simp only [Option.some.injEq, Prod.mk.injEq] at h
      obtain ⟨rfl, rfl, rfl, rfl, rfl, rfl, rfl, rfl, rfl, rfl, rfl⟩ := h
      clear qr qr2
      go_wp2_with fail
      go_quiet (fail)
      go_wp2_with fail
      go_quiet (fail)
      go_wp2_with fail
      go_quiet (fail)
      go_wp2_with fail
      clear x0 x1 x2 x3 x4 x5 x6 x7 x8 x9 x10 x11
      refine (stays_nil 202 _).mono ?_
      rintro e w10 ⟨rfl, hb⟩
      have S10 := Aside0.mk ((S9.out.drewN _).step hb)
      clear hb
      obtain ⟨o0, o1, o2, o3, o4, o5, o6, o7, o8, o9⟩ := cells10 S10.out.bx0
      obtain ⟨fo0, fo1, fo2, fo3, fo4, fo5, fo6, fo7, fo8, fo9⟩ := frozen10 S10.out.bx0
      go_wp2_with fail
      refine bodyPost_ret (results_ct rfl _ _ _ _ _ (0, 0) _ rfl (ten_put _ _ _ _ _ _ _ _ _ _ S10.out.bx0) Try.underlying27 rfl (by kernel_rfl)) rfl ?_
      exact post_row _ _ _ _ _ _ _ _ _ _ S10.out.below (Nat.le_add_right _ 3) (show Kd.R k44 44 _ _ (fun _ => False) _ _ from Kd.R_nil _ _ _ _ _) (fun _ h => False.elim h)
    have d_r : (xrw == xww) = true := beq_iff_eq.mpr qr
    have d_r2 : (xrl == xwl) = true := beq_iff_eq.mpr qr2
    have h := HF.out
    clear HF
    rw [if_neg (fun hh => hh ⟨qr, qr2⟩)] at h
    have HF := Aside0.mk h
    clear h
    clear qr qr2
    have h := HF.out
    clear HF
    simp only [Option.some.injEq, Prod.mk.injEq] at h
    obtain ⟨rfl, rfl, rfl, rfl, rfl, rfl, rfl, rfl, rfl, rfl, rfl⟩ := h
    obtain ⟨o0, o1, o2, o3, o4, o5, o6, o7, o8, o9⟩ := cells10 S9.out.bx0
    obtain ⟨fo0, fo1, fo2, fo3, fo4, fo5, fo6, fo7, fo8, fo9⟩ := frozen10 S9.out.bx0
    obtain ⟨n0, n1, n2, n3, n4, n5, n6, n7, n8, n9⟩ := cells10 S9.out.bx1
    go_wp2_with fail
    go_quiet (fail)
    go_wp2_with fail
    go_quiet (fail)
    go_wp2_with fail
    go_quiet (fail)
    go_wp2_with fail
    go_quiet (fail)
    go_wp2_with fail
    refine bodyPost_ret (results_ct rfl _ _ _ _ _ (0, 0) _ rfl (ten_put _ _ _ _ _ _ _ _ _ _ (S9.out.drewN _).bx0) Try.underlying27 rfl (by kernel_rfl)) rfl ?_
    exact post_row _ _ _ _ _ _ _ _ _ _ (S9.out.drewN _).below (Nat.le_add_right _ 3) (S9.out.drewN _).rx0 (fun _ h => h.2)
  | true =>
    have h := HF.out
    clear HF
    rw [if_pos rfl] at h
    have HF := Aside0.mk h
    clear h
    by_cases hl : l.length < 1000000000000
    case neg => have h := HF.out; rw [if_neg hl] at h; exact absurd h (by simp)
    have h := HF.out
    clear HF
    rw [if_pos hl] at h
    obtain ⟨ec, hk, h⟩ := Option.bind_eq_some_iff.mp h
    have hec := check_02 _ _ _ _ _ _ _ _ _ _ _ _ hk
    have hst := stands_yes k id ep st pr an sw sl bw bl A c l xid xan w5 (Kd.C_below HR0.out S5.out.below) hc0_9 hl ec hec hk
    clear hl hec hk
    have HF := Aside0.mk h
    clear h
    generalize hok : (decide (ec = 0) && ((id == xid) && (an.toList == xan.toList))) = okb at hst
    have HOK := Aside0.mk hok
    clear hok
    have HST := Aside0.mk hst
    clear hst
    cases okb with
    | false =>
      refine HST.out.mono ?_
      rintro e w6 ⟨g, v, rfl, hg, hge, hRv, hb⟩
      obtain ⟨Av, cv, rfl⟩ := Kd.R_slice hRv
      have HGE := Aside0.mk (show N < g from by have := HS5.out; omega)
      have RV6 := Kd.R_lower (ok := fun b => b ≠ g ∧ b ≠ W.heap.size + 1 + 1 + 1) (Kd.R_mono (Kd.R_bound hRv) (fun b hb => ⟨hb.1, by have h1 := hb.2.1; have h2 := HS2.out; have h3 := HS5.out; show b ≠ W.heap.size + 1 + 1 + 1; omega⟩)) S5.out.below.size
      have SA := S5.out.step hb
      have S6 := Aside0.mk (((((Stt.nil SA.below).row' SA.rx0).row' RV6).more hg |>.more SA.bx2 |>.more SA.bx1 |>.more SA.bx0))
      clear hb SA RV6 hg hge hRv
      have h := HF.out
      clear HF
      rw [if_neg (fun hh => by have hh1 := hh.1; rw [HOK.out] at hh1; exact absurd hh1 (by simp))] at h
      simp only [Option.some.injEq, Prod.mk.injEq] at h
      obtain ⟨rfl, rfl, rfl, rfl, rfl, rfl, rfl, rfl, rfl, rfl, rfl⟩ := h
      obtain ⟨o0, o1, o2, o3, o4, o5, o6, o7, o8, o9⟩ := cells10 S6.out.bx0
      obtain ⟨fo0, fo1, fo2, fo3, fo4, fo5, fo6, fo7, fo8, fo9⟩ := frozen10 S6.out.bx0
      go_wp2_with fail
      refine bodyPost_ret (results_ct rfl _ _ _ _ _ (0, 0) _ rfl (ten_put _ _ _ _ _ _ _ _ _ _ S6.out.bx0) Try.underlying27 rfl (by kernel_rfl)) rfl ?_
      exact post_row _ _ _ _ _ _ _ _ _ _ S6.out.below (Nat.le_add_right _ 3) (show Kd.R k44 44 _ _ (fun _ => False) _ _ from Kd.R_nil _ _ _ _ _) (fun _ h => False.elim h)
    | true =>
      refine HST.out.mono ?_
      rintro e w6 ⟨g, v, rfl, hg, hge, hRv, hb⟩
      obtain ⟨Av, cv, rfl⟩ := Kd.R_slice hRv
      have HGE := Aside0.mk (show N < g from by have := HS5.out; omega)
      have RV6 := Kd.R_lower (ok := fun b => b ≠ g ∧ b ≠ W.heap.size + 1 + 1 + 1) (Kd.R_mono (Kd.R_bound hRv) (fun b hb => ⟨hb.1, by have h1 := hb.2.1; have h2 := HS2.out; have h3 := HS5.out; show b ≠ W.heap.size + 1 + 1 + 1; omega⟩)) S5.out.below.size
      have SA := S5.out.step hb
      have S6 := Aside0.mk (((((Stt.nil SA.below).row' SA.rx0).row' RV6).more hg |>.more SA.bx2 |>.more SA.bx1 |>.more SA.bx0))
      clear hb SA RV6 hg hge hRv
      by_cases q : tt = 1
      · have h := HF.out
        clear HF
        rw [if_neg (fun hh => hh.2 q)] at h
        simp only [Option.some.injEq, Prod.mk.injEq] at h
        obtain ⟨rfl, rfl, rfl, rfl, rfl, rfl, rfl, rfl, rfl, rfl, rfl⟩ := h
        have q1 : (tt == 1) = true := beq_iff_eq.mpr q
        clear q
        obtain ⟨o0, o1, o2, o3, o4, o5, o6, o7, o8, o9⟩ := cells10 S6.out.bx0
        obtain ⟨fo0, fo1, fo2, fo3, fo4, fo5, fo6, fo7, fo8, fo9⟩ := frozen10 S6.out.bx0
        go_wp2_with fail
        refine bodyPost_ret (results_ct rfl _ _ _ _ _ (0, 0) _ rfl (ten_put _ _ _ _ _ _ _ _ _ _ S6.out.bx0) Try.underlying27 rfl (by kernel_rfl)) rfl ?_
        exact post_row _ _ _ _ _ _ _ _ _ _ S6.out.below (Nat.le_add_right _ 3) (show Kd.R k44 44 _ _ (fun _ => False) _ _ from Kd.R_nil _ _ _ _ _) (fun _ h => False.elim h)
      have h := HF.out
      clear HF
      rw [if_pos ⟨HOK.out, q⟩] at h
      obtain ⟨e2, hk2, h⟩ := Option.bind_eq_some_iff.mp h
      have HK2 := Aside0.mk hk2
      clear hk2
      have HF := Aside0.mk h
      clear h
      have q1 : (tt == 1) = false := beq_eq_false_iff_ne.mpr q
      clear q
      obtain ⟨n0, n1, n2, n3, n4, n5, n6, n7, n8, n9⟩ := cells10 S6.out.bx1
      go_wp2_with fail
      refine (cell_CheckRecord.calls k xid xep tt xpr xan xww xwl nw nl Am cm m e2 w6 (Kd.R_reads' S6.out.rx1).2.2 (Kd.R_reads' S6.out.rx1).2.1 HK2.out).mono ?_
      rintro e w7 ⟨rfl, hb⟩
      clear n0 n1 n2 n3 n4 n5 n6 n7 n8 n9
      have S7 := Aside0.mk (S6.out.step hb)
      clear hb
      have he := check_02 _ _ _ _ _ _ _ _ _ _ _ _ HK2.out
      rcases he with rfl | rfl
      case inr =>
        have h := HF.out
        clear HF
        rw [if_neg (by simp)] at h
        simp only [Option.some.injEq, Prod.mk.injEq] at h
        obtain ⟨rfl, rfl, rfl, rfl, rfl, rfl, rfl, rfl, rfl, rfl, rfl⟩ := h
        obtain ⟨o0, o1, o2, o3, o4, o5, o6, o7, o8, o9⟩ := cells10 S7.out.bx0
        obtain ⟨fo0, fo1, fo2, fo3, fo4, fo5, fo6, fo7, fo8, fo9⟩ := frozen10 S7.out.bx0
        go_wp2_with fail
        refine bodyPost_ret (results_ct rfl _ _ _ _ _ (0, 0) _ rfl (ten_put _ _ _ _ _ _ _ _ _ _ S7.out.bx0) Try.underlying27 rfl (by kernel_rfl)) rfl ?_
        exact post_row _ _ _ _ _ _ _ _ _ _ S7.out.below (Nat.le_add_right _ 3) (show Kd.R k44 44 _ _ (fun _ => False) _ _ from Kd.R_nil _ _ _ _ _) (fun _ h => False.elim h)
      have h := HF.out
      clear HF
      rw [if_pos rfl] at h
      obtain ⟨ex, hx, h⟩ := Option.bind_eq_some_iff.mp h
      have HX := Aside0.mk hx
      clear hx
      have HF := Aside0.mk h
      clear h
      obtain ⟨x0, x1, x2, x3, x4, x5, x6, x7, x8, x9, x10, x11⟩ := cells12 S7.out.bx2
      go_wp2_with fail
      refine (stamp_Check.calls xrw xrl ex w7 HX.out).mono ?_
      rintro e w8 ⟨rfl, hb⟩
      clear x0 x1 x2 x3 x4 x5 x6 x7 x8 x9 x10 x11
      have S8 := Aside0.mk (S7.out.step hb)
      clear hb
      by_cases hx0 : ex = 0
      case neg =>
        have h := HF.out
        clear HF
        rw [if_neg hx0] at h
        simp only [Option.some.injEq, Prod.mk.injEq] at h
        obtain ⟨rfl, rfl, rfl, rfl, rfl, rfl, rfl, rfl, rfl, rfl, rfl⟩ := h
        have x1 : (ex != 0) = true := bne_iff_ne.mpr hx0
        have x2 : (ex == 0) = false := beq_eq_false_iff_ne.mpr hx0
        clear hx0
        obtain ⟨o0, o1, o2, o3, o4, o5, o6, o7, o8, o9⟩ := cells10 S8.out.bx0
        obtain ⟨fo0, fo1, fo2, fo3, fo4, fo5, fo6, fo7, fo8, fo9⟩ := frozen10 S8.out.bx0
        go_wp2_with fail
        refine bodyPost_ret (results_ct rfl _ _ _ _ _ (0, 0) _ rfl (ten_put _ _ _ _ _ _ _ _ _ _ S8.out.bx0) Try.underlying27 rfl (by kernel_rfl)) rfl ?_
        exact post_row _ _ _ _ _ _ _ _ _ _ S8.out.below (Nat.le_add_right _ 3) (show Kd.R k44 44 _ _ (fun _ => False) _ _ from Kd.R_nil _ _ _ _ _) (fun _ h => False.elim h)
      subst hx0
      have h := HF.out
      clear HF
      rw [if_pos rfl] at h
      have HF := Aside0.mk h
      clear h
      obtain ⟨u0, u1, u2, u3, u4, u5, u6, u7, u8, u9⟩ := cells10 S8.out.bx3
      go_wp2_with fail
      refine (status_at g st w8 u2).mono ?_
      rintro e w9 ⟨rfl, hb⟩
      clear u0 u1 u2 u3 u4 u5 u6 u7 u8 u9
      have S9 := Aside0.mk (S8.out.step hb)
      clear hb
      have h := HF.out
      clear HF
      unfold record_End.sw at h
      have HF := Aside0.mk h
      clear h
      obtain ⟨u0, u1, u2, u3, u4, u5, u6, u7, u8, u9⟩ := cells10 S9.out.bx3
      obtain ⟨x0, x1, x2, x3, x4, x5, x6, x7, x8, x9, x10, x11⟩ := cells12 S9.out.bx2
      by_cases qs3 : st = 3
      case pos =>
        have h := HF.out
        clear HF
        rw [if_pos qs3] at h
        have HF := Aside0.mk h
        clear h
        have ds1 : (st == 1) = false := beq_eq_false_iff_ne.mpr (by omega)
        have ds2 : (st == 2) = false := beq_eq_false_iff_ne.mpr (by omega)
        have ds3 : (st == 3) = true := beq_iff_eq.mpr (by omega)
        have ds4 : (st == 4) = false := beq_eq_false_iff_ne.mpr (by omega)
        by_cases qt : tt = 3
        case neg =>
          have d_t : (tt == st) = false := beq_eq_false_iff_ne.mpr (by omega)
          have h := HF.out
          clear HF
          rw [if_neg (fun hh => qt hh.1)] at h
          simp only [Option.some.injEq, Prod.mk.injEq] at h
          obtain ⟨rfl, rfl, rfl, rfl, rfl, rfl, rfl, rfl, rfl, rfl, rfl⟩ := h
          clear qt qs3
          go_wp2_with fail
          go_quiet (fail)
          go_wp2_with fail
          clear x0 x1 x2 x3 x4 x5 x6 x7 x8 x9 x10 x11 u0 u1 u2 u3 u4 u5 u6 u7 u8 u9
          refine (stays_at g 203 id ep st pr an sw sl bw bl Av cv l _ (S9.out.drewN _).bx3).mono ?_
          rintro e w10 ⟨rfl, hb⟩
          have S10 := Aside0.mk ((S9.out.drewN _).step hb)
          clear hb
          obtain ⟨o0, o1, o2, o3, o4, o5, o6, o7, o8, o9⟩ := cells10 S10.out.bx0
          obtain ⟨fo0, fo1, fo2, fo3, fo4, fo5, fo6, fo7, fo8, fo9⟩ := frozen10 S10.out.bx0
          go_wp2_with fail
          refine bodyPost_ret (results_ct rfl _ _ _ _ _ (0, 0) _ rfl (ten_put _ _ _ _ _ _ _ _ _ _ S10.out.bx0) Try.underlying27 rfl (by kernel_rfl)) rfl ?_
          exact post_row _ _ _ _ _ _ _ _ _ _ S10.out.below (Nat.le_add_right _ 3) S10.out.rx0 (fun _ h => h.2)
        have d_t : (tt == st) = true := beq_iff_eq.mpr (by omega)
        by_cases qe : ep = xep
        case neg =>
          have d_e : (ep == xep) = false := beq_eq_false_iff_ne.mpr qe
          have h := HF.out
          clear HF
          rw [if_neg (fun hh => qe hh.2.1)] at h
          simp only [Option.some.injEq, Prod.mk.injEq] at h
          obtain ⟨rfl, rfl, rfl, rfl, rfl, rfl, rfl, rfl, rfl, rfl, rfl⟩ := h
          clear qt qs3 qe
          go_wp2_with fail
          go_quiet (fail)
          go_wp2_with fail
          clear x0 x1 x2 x3 x4 x5 x6 x7 x8 x9 x10 x11 u0 u1 u2 u3 u4 u5 u6 u7 u8 u9
          refine (stays_at g 203 id ep st pr an sw sl bw bl Av cv l _ (S9.out.drewN _).bx3).mono ?_
          rintro e w10 ⟨rfl, hb⟩
          have S10 := Aside0.mk ((S9.out.drewN _).step hb)
          clear hb
          obtain ⟨o0, o1, o2, o3, o4, o5, o6, o7, o8, o9⟩ := cells10 S10.out.bx0
          obtain ⟨fo0, fo1, fo2, fo3, fo4, fo5, fo6, fo7, fo8, fo9⟩ := frozen10 S10.out.bx0
          go_wp2_with fail
          refine bodyPost_ret (results_ct rfl _ _ _ _ _ (0, 0) _ rfl (ten_put _ _ _ _ _ _ _ _ _ _ S10.out.bx0) Try.underlying27 rfl (by kernel_rfl)) rfl ?_
          exact post_row _ _ _ _ _ _ _ _ _ _ S10.out.below (Nat.le_add_right _ 3) S10.out.rx0 (fun _ h => h.2)
        have d_e : (ep == xep) = true := beq_iff_eq.mpr qe
        by_cases qw : sw = xww
        case neg =>
          have d_w : (sw == xww) = false := beq_eq_false_iff_ne.mpr qw
          have h := HF.out
          clear HF
          rw [if_neg (fun hh => qw hh.2.2.1)] at h
          simp only [Option.some.injEq, Prod.mk.injEq] at h
          obtain ⟨rfl, rfl, rfl, rfl, rfl, rfl, rfl, rfl, rfl, rfl, rfl⟩ := h
          clear qt qs3 qe qw
          go_wp2_with fail
          go_quiet (fail)
          go_wp2_with fail
          clear x0 x1 x2 x3 x4 x5 x6 x7 x8 x9 x10 x11 u0 u1 u2 u3 u4 u5 u6 u7 u8 u9
          refine (stays_at g 203 id ep st pr an sw sl bw bl Av cv l _ (S9.out.drewN _).bx3).mono ?_
          rintro e w10 ⟨rfl, hb⟩
          have S10 := Aside0.mk ((S9.out.drewN _).step hb)
          clear hb
          obtain ⟨o0, o1, o2, o3, o4, o5, o6, o7, o8, o9⟩ := cells10 S10.out.bx0
          obtain ⟨fo0, fo1, fo2, fo3, fo4, fo5, fo6, fo7, fo8, fo9⟩ := frozen10 S10.out.bx0
          go_wp2_with fail
          refine bodyPost_ret (results_ct rfl _ _ _ _ _ (0, 0) _ rfl (ten_put _ _ _ _ _ _ _ _ _ _ S10.out.bx0) Try.underlying27 rfl (by kernel_rfl)) rfl ?_
          exact post_row _ _ _ _ _ _ _ _ _ _ S10.out.below (Nat.le_add_right _ 3) S10.out.rx0 (fun _ h => h.2)
        have d_w : (sw == xww) = true := beq_iff_eq.mpr qw
        by_cases ql : sl = xwl
        case neg =>
          have d_l : (sl == xwl) = false := beq_eq_false_iff_ne.mpr ql
          have h := HF.out
          clear HF
          rw [if_neg (fun hh => ql hh.2.2.2)] at h
          simp only [Option.some.injEq, Prod.mk.injEq] at h
          obtain ⟨rfl, rfl, rfl, rfl, rfl, rfl, rfl, rfl, rfl, rfl, rfl⟩ := h
          clear qt qs3 qe qw ql
          go_wp2_with fail
          go_quiet (fail)
          go_wp2_with fail
          clear x0 x1 x2 x3 x4 x5 x6 x7 x8 x9 x10 x11 u0 u1 u2 u3 u4 u5 u6 u7 u8 u9
          refine (stays_at g 203 id ep st pr an sw sl bw bl Av cv l _ (S9.out.drewN _).bx3).mono ?_
          rintro e w10 ⟨rfl, hb⟩
          have S10 := Aside0.mk ((S9.out.drewN _).step hb)
          clear hb
          obtain ⟨o0, o1, o2, o3, o4, o5, o6, o7, o8, o9⟩ := cells10 S10.out.bx0
          obtain ⟨fo0, fo1, fo2, fo3, fo4, fo5, fo6, fo7, fo8, fo9⟩ := frozen10 S10.out.bx0
          go_wp2_with fail
          refine bodyPost_ret (results_ct rfl _ _ _ _ _ (0, 0) _ rfl (ten_put _ _ _ _ _ _ _ _ _ _ S10.out.bx0) Try.underlying27 rfl (by kernel_rfl)) rfl ?_
          exact post_row _ _ _ _ _ _ _ _ _ _ S10.out.below (Nat.le_add_right _ 3) S10.out.rx0 (fun _ h => h.2)
        have d_l : (sl == xwl) = true := beq_iff_eq.mpr ql
        have h := HF.out
        clear HF
        rw [if_pos ⟨qt, qe, qw, ql⟩] at h
        simp only [Option.some.injEq, Prod.mk.injEq] at h
        obtain ⟨rfl, rfl, rfl, rfl, rfl, rfl, rfl, rfl, rfl, rfl, rfl⟩ := h
        clear qt qs3 qe qw ql
        go_wp2_with fail
        go_quiet (fail)
        go_wp2_with fail
        clear x0 x1 x2 x3 x4 x5 x6 x7 x8 x9 x10 x11 u0 u1 u2 u3 u4 u5 u6 u7 u8 u9
        refine (stays_at g 0 id ep st pr an sw sl bw bl Av cv l _ (S9.out.drewN _).bx3).mono ?_
        rintro e w10 ⟨rfl, hb⟩
        have S10 := Aside0.mk ((S9.out.drewN _).step hb)
        clear hb
        obtain ⟨o0, o1, o2, o3, o4, o5, o6, o7, o8, o9⟩ := cells10 S10.out.bx0
        obtain ⟨fo0, fo1, fo2, fo3, fo4, fo5, fo6, fo7, fo8, fo9⟩ := frozen10 S10.out.bx0
        go_wp2_with fail
        refine bodyPost_ret (results_ct rfl _ _ _ _ _ (0, 0) _ rfl (ten_put _ _ _ _ _ _ _ _ _ _ S10.out.bx0) Try.underlying27 rfl (by kernel_rfl)) rfl ?_
        exact post_row _ _ _ _ _ _ _ _ _ _ S10.out.below (Nat.le_add_right _ 3) S10.out.rx0 (fun _ h => h.2)
      have h := HF.out
      clear HF
      rw [if_neg qs3] at h
      have HF := Aside0.mk h
      clear h
      by_cases qs4 : st = 4
      case pos =>
        have h := HF.out
        clear HF
        rw [if_pos qs4] at h
        have HF := Aside0.mk h
        clear h
        have ds1 : (st == 1) = false := beq_eq_false_iff_ne.mpr (by omega)
        have ds2 : (st == 2) = false := beq_eq_false_iff_ne.mpr (by omega)
        have ds3 : (st == 3) = false := beq_eq_false_iff_ne.mpr (by omega)
        have ds4 : (st == 4) = true := beq_iff_eq.mpr (by omega)
        by_cases qt : tt = 4
        case neg =>
          have d_t : (tt == st) = false := beq_eq_false_iff_ne.mpr (by omega)
          have h := HF.out
          clear HF
          rw [if_neg qt] at h
          simp only [Option.some.injEq, Prod.mk.injEq] at h
          obtain ⟨rfl, rfl, rfl, rfl, rfl, rfl, rfl, rfl, rfl, rfl, rfl⟩ := h
          clear qt qs4 qs3
          go_wp2_with fail
          go_quiet (fail)
          go_wp2_with fail
          clear x0 x1 x2 x3 x4 x5 x6 x7 x8 x9 x10 x11 u0 u1 u2 u3 u4 u5 u6 u7 u8 u9
          refine (stays_at g 200 id ep st pr an sw sl bw bl Av cv l _ (S9.out.drewN _).bx3).mono ?_
          rintro e w10 ⟨rfl, hb⟩
          have S10 := Aside0.mk ((S9.out.drewN _).step hb)
          clear hb
          obtain ⟨o0, o1, o2, o3, o4, o5, o6, o7, o8, o9⟩ := cells10 S10.out.bx0
          obtain ⟨fo0, fo1, fo2, fo3, fo4, fo5, fo6, fo7, fo8, fo9⟩ := frozen10 S10.out.bx0
          go_wp2_with fail
          refine bodyPost_ret (results_ct rfl _ _ _ _ _ (0, 0) _ rfl (ten_put _ _ _ _ _ _ _ _ _ _ S10.out.bx0) Try.underlying27 rfl (by kernel_rfl)) rfl ?_
          exact post_row _ _ _ _ _ _ _ _ _ _ S10.out.below (Nat.le_add_right _ 3) S10.out.rx0 (fun _ h => h.2)
        have d_t : (tt == st) = true := beq_iff_eq.mpr (by omega)
        have h := HF.out
        clear HF
        rw [if_pos qt] at h
        simp only [Option.some.injEq, Prod.mk.injEq] at h
        obtain ⟨rfl, rfl, rfl, rfl, rfl, rfl, rfl, rfl, rfl, rfl, rfl⟩ := h
        clear qt qs4 qs3
        go_wp2_with fail
        go_quiet (fail)
        go_wp2_with fail
        clear x0 x1 x2 x3 x4 x5 x6 x7 x8 x9 x10 x11 u0 u1 u2 u3 u4 u5 u6 u7 u8 u9
        refine (stays_at g 0 id ep st pr an sw sl bw bl Av cv l _ (S9.out.drewN _).bx3).mono ?_
        rintro e w10 ⟨rfl, hb⟩
        have S10 := Aside0.mk ((S9.out.drewN _).step hb)
        clear hb
        obtain ⟨o0, o1, o2, o3, o4, o5, o6, o7, o8, o9⟩ := cells10 S10.out.bx0
        obtain ⟨fo0, fo1, fo2, fo3, fo4, fo5, fo6, fo7, fo8, fo9⟩ := frozen10 S10.out.bx0
        go_wp2_with fail
        refine bodyPost_ret (results_ct rfl _ _ _ _ _ (0, 0) _ rfl (ten_put _ _ _ _ _ _ _ _ _ _ S10.out.bx0) Try.underlying27 rfl (by kernel_rfl)) rfl ?_
        exact post_row _ _ _ _ _ _ _ _ _ _ S10.out.below (Nat.le_add_right _ 3) S10.out.rx0 (fun _ h => h.2)
      have h := HF.out
      clear HF
      rw [if_neg qs4] at h
      have HF := Aside0.mk h
      clear h
      have ds3 : (st == 3) = false := beq_eq_false_iff_ne.mpr qs3
      have ds4 : (st == 4) = false := beq_eq_false_iff_ne.mpr qs4
      by_cases qe : xep < ep
      case pos =>
        have d_e : decide (xep < ep) = true := decide_eq_true qe
        have h := HF.out
        clear HF
        rw [if_pos qe] at h
        simp only [Option.some.injEq, Prod.mk.injEq] at h
        obtain ⟨rfl, rfl, rfl, rfl, rfl, rfl, rfl, rfl, rfl, rfl, rfl⟩ := h
        clear qs3 qs4 qe
        go_wp2_with fail
        go_quiet (fail)
        go_wp2_with fail
        go_quiet (fail)
        go_wp2_with fail
        clear x0 x1 x2 x3 x4 x5 x6 x7 x8 x9 x10 x11 u0 u1 u2 u3 u4 u5 u6 u7 u8 u9
        refine (stays_at g 201 id ep st pr an sw sl bw bl Av cv l _ (S9.out.drewN _).bx3).mono ?_
        rintro e w10 ⟨rfl, hb⟩
        have S10 := Aside0.mk ((S9.out.drewN _).step hb)
        clear hb
        obtain ⟨o0, o1, o2, o3, o4, o5, o6, o7, o8, o9⟩ := cells10 S10.out.bx0
        obtain ⟨fo0, fo1, fo2, fo3, fo4, fo5, fo6, fo7, fo8, fo9⟩ := frozen10 S10.out.bx0
        go_wp2_with fail
        refine bodyPost_ret (results_ct rfl _ _ _ _ _ (0, 0) _ rfl (ten_put _ _ _ _ _ _ _ _ _ _ S10.out.bx0) Try.underlying27 rfl (by kernel_rfl)) rfl ?_
        exact post_row _ _ _ _ _ _ _ _ _ _ S10.out.below (Nat.le_add_right _ 3) S10.out.rx0 (fun _ h => h.2)
      have h := HF.out
      clear HF
      rw [if_neg qe] at h
      have HF := Aside0.mk h
      clear h
      have d_e : decide (xep < ep) = false := decide_eq_false qe
      clear qe
      by_cases qt : tt = 4
      case pos =>
        have d_t : (tt == 4) = true := beq_iff_eq.mpr qt
        have h := HF.out
        clear HF
        rw [if_pos qt] at h
        simp only [Option.some.injEq, Prod.mk.injEq] at h
        obtain ⟨rfl, rfl, rfl, rfl, rfl, rfl, rfl, rfl, rfl, rfl, rfl⟩ := h
        clear qs3 qs4 qt
        obtain ⟨o0, o1, o2, o3, o4, o5, o6, o7, o8, o9⟩ := cells10 S9.out.bx0
        obtain ⟨fo0, fo1, fo2, fo3, fo4, fo5, fo6, fo7, fo8, fo9⟩ := frozen10 S9.out.bx0
        obtain ⟨n0, n1, n2, n3, n4, n5, n6, n7, n8, n9⟩ := cells10 S9.out.bx1
        go_wp2_with fail
        go_quiet (fail)
        go_wp2_with fail
        go_quiet (fail)
        go_wp2_with fail
        refine bodyPost_ret (results_ct rfl _ _ _ _ _ (0, 0) _ rfl (ten_put _ _ _ _ _ _ _ _ _ _ (S9.out.drewN _).bx0) Try.underlying27 rfl (by kernel_rfl)) rfl ?_
        exact post_row _ _ _ _ _ _ _ _ _ _ (S9.out.drewN _).below (Nat.le_add_right _ 3) (S9.out.drewN _).rx1 (fun _ h => h.2)
      have h := HF.out
      clear HF
      rw [if_neg qt] at h
      have HF := Aside0.mk h
      clear h
      have d_t : (tt == 4) = false := beq_eq_false_iff_ne.mpr qt
      clear qt
      by_cases qr : xrw = xww
      case neg =>
        have d_r : (xrw == xww) = false := beq_eq_false_iff_ne.mpr qr
        have h := HF.out
        clear HF
        rw [if_pos (fun hh => qr hh.1)] at h
        simp only [Option.some.injEq, Prod.mk.injEq] at h
        obtain ⟨rfl, rfl, rfl, rfl, rfl, rfl, rfl, rfl, rfl, rfl, rfl⟩ := h
        clear qs3 qs4 qr
        go_wp2_with fail
        go_quiet (fail)
        go_wp2_with fail
        go_quiet (fail)
        go_wp2_with fail
        go_quiet (fail)
        go_wp2_with fail
        clear x0 x1 x2 x3 x4 x5 x6 x7 x8 x9 x10 x11 u0 u1 u2 u3 u4 u5 u6 u7 u8 u9
        refine (stays_at g 202 id ep st pr an sw sl bw bl Av cv l _ (S9.out.drewN _).bx3).mono ?_
        rintro e w10 ⟨rfl, hb⟩
        have S10 := Aside0.mk ((S9.out.drewN _).step hb)
        clear hb
        obtain ⟨o0, o1, o2, o3, o4, o5, o6, o7, o8, o9⟩ := cells10 S10.out.bx0
        obtain ⟨fo0, fo1, fo2, fo3, fo4, fo5, fo6, fo7, fo8, fo9⟩ := frozen10 S10.out.bx0
        go_wp2_with fail
        refine bodyPost_ret (results_ct rfl _ _ _ _ _ (0, 0) _ rfl (ten_put _ _ _ _ _ _ _ _ _ _ S10.out.bx0) Try.underlying27 rfl (by kernel_rfl)) rfl ?_
        exact post_row _ _ _ _ _ _ _ _ _ _ S10.out.below (Nat.le_add_right _ 3) S10.out.rx0 (fun _ h => h.2)
      by_cases qr2 : xrl = xwl
      case neg =>
        have d_r : (xrw == xww) = true := beq_iff_eq.mpr qr
        have d_r2 : (xrl == xwl) = false := beq_eq_false_iff_ne.mpr qr2
        have h := HF.out
        clear HF
        rw [if_pos (fun hh => qr2 hh.2)] at h
        simp only [Option.some.injEq, Prod.mk.injEq] at h
        obtain ⟨rfl, rfl, rfl, rfl, rfl, rfl, rfl, rfl, rfl, rfl, rfl⟩ := h
        clear qs3 qs4 qr qr2
        go_wp2_with fail
        go_quiet (fail)
        go_wp2_with fail
        go_quiet (fail)
        go_wp2_with fail
        go_quiet (fail)
        go_wp2_with fail
        clear x0 x1 x2 x3 x4 x5 x6 x7 x8 x9 x10 x11 u0 u1 u2 u3 u4 u5 u6 u7 u8 u9
        refine (stays_at g 202 id ep st pr an sw sl bw bl Av cv l _ (S9.out.drewN _).bx3).mono ?_
        rintro e w10 ⟨rfl, hb⟩
        have S10 := Aside0.mk ((S9.out.drewN _).step hb)
        clear hb
        obtain ⟨o0, o1, o2, o3, o4, o5, o6, o7, o8, o9⟩ := cells10 S10.out.bx0
        obtain ⟨fo0, fo1, fo2, fo3, fo4, fo5, fo6, fo7, fo8, fo9⟩ := frozen10 S10.out.bx0
        go_wp2_with fail
        refine bodyPost_ret (results_ct rfl _ _ _ _ _ (0, 0) _ rfl (ten_put _ _ _ _ _ _ _ _ _ _ S10.out.bx0) Try.underlying27 rfl (by kernel_rfl)) rfl ?_
        exact post_row _ _ _ _ _ _ _ _ _ _ S10.out.below (Nat.le_add_right _ 3) S10.out.rx0 (fun _ h => h.2)
      have d_r : (xrw == xww) = true := beq_iff_eq.mpr qr
      have d_r2 : (xrl == xwl) = true := beq_iff_eq.mpr qr2
      have h := HF.out
      clear HF
      rw [if_neg (fun hh => hh ⟨qr, qr2⟩)] at h
      have HF := Aside0.mk h
      clear h
      clear qr qr2
      by_cases qs1 : st = 1
      case pos =>
        have h := HF.out
        clear HF
        rw [if_pos qs1] at h
        have HF := Aside0.mk h
        clear h
        have ds1 : (st == 1) = true := beq_iff_eq.mpr qs1
        have ds2 : (st == 2) = false := beq_eq_false_iff_ne.mpr (by omega)
        clear qs1 qs3 qs4
        have h := HF.out
        clear HF
        obtain ⟨b, hls, h⟩ := Option.bind_eq_some_iff.mp h
        have HLS := Aside0.mk hls
        clear hls
        have HF := Aside0.mk h
        clear h
        go_wp2_with fail
        go_quiet (fail)
        go_wp2_with fail
        go_quiet (fail)
        go_wp2_with fail
        clear x0 x1 x2 x3 x4 x5 x6 x7 x8 x9 x10 x11 u0 u1 u2 u3 u4 u5 u6 u7 u8 u9
        generalize hw_ : World.drewN w9 _ = w10
        have S10 := Aside0.mk (S9.out.at hw_)
        clear hw_
        obtain ⟨u0, u1, u2, u3, u4, u5, u6, u7, u8, u9⟩ := cells10 S10.out.bx3
        obtain ⟨x0, x1, x2, x3, x4, x5, x6, x7, x8, x9, x10, x11⟩ := cells12 S10.out.bx2
        cases b with
        | true =>
          have h := HF.out
          clear HF
          rw [if_pos rfl] at h
          simp only [Option.some.injEq, Prod.mk.injEq] at h
          obtain ⟨rfl, rfl, rfl, rfl, rfl, rfl, rfl, rfl, rfl, rfl, rfl⟩ := h
          first
            | (go_region_held3 (fun V => V.cell? ⟨W.heap.size + 1, 1, none⟩ = some (.int .i64 xep) ∧ V.cell? ⟨W.heap.size + 1, 4, none⟩ = some (.int .i64 xrw) ∧ V.cell? ⟨W.heap.size + 1, 5, none⟩ = some (.int .i64 xrl) ∧ V.cell? ⟨W.heap.size + 1, 6, none⟩ = some (.int .i64 xww) ∧ V.cell? ⟨W.heap.size + 1, 7, none⟩ = some (.int .i64 xwl) ∧ V.cell? ⟨g, 1, none⟩ = some (.int .i64 ep) ∧ V.cell? ⟨g, 5, none⟩ = some (.int .i64 sw) ∧ V.cell? ⟨g, 6, none⟩ = some (.int .i64 sl)) (go_keep) (first | (go_at_call 13; refine (stamp_Less.calls k xww xwl sw sl _ _ HLS.out).mono ?_; rintro e w11 ⟨rfl, hb⟩; have HBC := Aside0.mk (show Below w10.heap.size w10 w11 from below_step (below_drew1 (Below.refl w10.heap.size w10)) hb); have qx1 : w11.cell? ⟨W.heap.size + 1, 1, none⟩ = some (.int .i64 xep) := pw_cell_below HBC.out x1; have qx4 : w11.cell? ⟨W.heap.size + 1, 4, none⟩ = some (.int .i64 xrw) := pw_cell_below HBC.out x4; have qx5 : w11.cell? ⟨W.heap.size + 1, 5, none⟩ = some (.int .i64 xrl) := pw_cell_below HBC.out x5; have qx6 : w11.cell? ⟨W.heap.size + 1, 6, none⟩ = some (.int .i64 xww) := pw_cell_below HBC.out x6; have qx7 : w11.cell? ⟨W.heap.size + 1, 7, none⟩ = some (.int .i64 xwl) := pw_cell_below HBC.out x7; have qu1 : w11.cell? ⟨g, 1, none⟩ = some (.int .i64 ep) := pw_cell_below HBC.out u1; have qu5 : w11.cell? ⟨g, 5, none⟩ = some (.int .i64 sw) := pw_cell_below HBC.out u5; have qu6 : w11.cell? ⟨g, 6, none⟩ = some (.int .i64 sl) := pw_cell_below HBC.out u6; clear hb)))
            | fail
          have S11 := Aside0.mk (S10.out.step HBC.out)
          clear HBC qx1 qx4 qx5 qx6 qx7 qu1 qu5 qu6
          clear x0 x1 x2 x3 x4 x5 x6 x7 x8 x9 x10 x11 u0 u1 u2 u3 u4 u5 u6 u7 u8 u9
          go_wp2_with fail
          refine (stays_at g 202 id ep st pr an sw sl bw bl Av cv l _ S11.out.bx3).mono ?_
          rintro e w12 ⟨rfl, hb⟩
          have S12 := Aside0.mk (S11.out.step hb)
          clear hb
          obtain ⟨o0, o1, o2, o3, o4, o5, o6, o7, o8, o9⟩ := cells10 S12.out.bx0
          obtain ⟨fo0, fo1, fo2, fo3, fo4, fo5, fo6, fo7, fo8, fo9⟩ := frozen10 S12.out.bx0
          go_wp2_with fail
          refine bodyPost_ret (results_ct rfl _ _ _ _ _ (0, 0) _ rfl (ten_put _ _ _ _ _ _ _ _ _ _ S12.out.bx0) Try.underlying27 rfl (by kernel_rfl)) rfl ?_
          exact post_row _ _ _ _ _ _ _ _ _ _ S12.out.below (Nat.le_add_right _ 3) S12.out.rx0 (fun _ h => h.2)
        | false =>
          have h := HF.out
          clear HF
          rw [if_neg (by simp)] at h
          simp only [Option.some.injEq, Prod.mk.injEq] at h
          obtain ⟨rfl, rfl, rfl, rfl, rfl, rfl, rfl, rfl, rfl, rfl, rfl⟩ := h
          first
            | (go_region_held3 (fun V => V.cell? ⟨W.heap.size + 1, 1, none⟩ = some (.int .i64 xep) ∧ V.cell? ⟨W.heap.size + 1, 4, none⟩ = some (.int .i64 xrw) ∧ V.cell? ⟨W.heap.size + 1, 5, none⟩ = some (.int .i64 xrl) ∧ V.cell? ⟨W.heap.size + 1, 6, none⟩ = some (.int .i64 xww) ∧ V.cell? ⟨W.heap.size + 1, 7, none⟩ = some (.int .i64 xwl) ∧ V.cell? ⟨g, 1, none⟩ = some (.int .i64 ep) ∧ V.cell? ⟨g, 5, none⟩ = some (.int .i64 sw) ∧ V.cell? ⟨g, 6, none⟩ = some (.int .i64 sl)) (go_keep) (first | (go_at_call 13; refine (stamp_Less.calls k xww xwl sw sl _ _ HLS.out).mono ?_; rintro e w11 ⟨rfl, hb⟩; have HBC := Aside0.mk (show Below w10.heap.size w10 w11 from below_step (below_drew1 (Below.refl w10.heap.size w10)) hb); have qx1 : w11.cell? ⟨W.heap.size + 1, 1, none⟩ = some (.int .i64 xep) := pw_cell_below HBC.out x1; have qx4 : w11.cell? ⟨W.heap.size + 1, 4, none⟩ = some (.int .i64 xrw) := pw_cell_below HBC.out x4; have qx5 : w11.cell? ⟨W.heap.size + 1, 5, none⟩ = some (.int .i64 xrl) := pw_cell_below HBC.out x5; have qx6 : w11.cell? ⟨W.heap.size + 1, 6, none⟩ = some (.int .i64 xww) := pw_cell_below HBC.out x6; have qx7 : w11.cell? ⟨W.heap.size + 1, 7, none⟩ = some (.int .i64 xwl) := pw_cell_below HBC.out x7; have qu1 : w11.cell? ⟨g, 1, none⟩ = some (.int .i64 ep) := pw_cell_below HBC.out u1; have qu5 : w11.cell? ⟨g, 5, none⟩ = some (.int .i64 sw) := pw_cell_below HBC.out u5; have qu6 : w11.cell? ⟨g, 6, none⟩ = some (.int .i64 sl) := pw_cell_below HBC.out u6; clear hb)))
            | fail
          have S11 := Aside0.mk (S10.out.step HBC.out)
          clear HBC qx1 qx4 qx5 qx6 qx7 qu1 qu5 qu6
          clear x0 x1 x2 x3 x4 x5 x6 x7 x8 x9 x10 x11 u0 u1 u2 u3 u4 u5 u6 u7 u8 u9
          obtain ⟨o0, o1, o2, o3, o4, o5, o6, o7, o8, o9⟩ := cells10 S11.out.bx0
          obtain ⟨fo0, fo1, fo2, fo3, fo4, fo5, fo6, fo7, fo8, fo9⟩ := frozen10 S11.out.bx0
          obtain ⟨n0, n1, n2, n3, n4, n5, n6, n7, n8, n9⟩ := cells10 S11.out.bx1
          obtain ⟨u0, u1, u2, u3, u4, u5, u6, u7, u8, u9⟩ := cells10 S11.out.bx3
          obtain ⟨x0, x1, x2, x3, x4, x5, x6, x7, x8, x9, x10, x11⟩ := cells12 S11.out.bx2
          go_wp2_with fail
          go_quiet (fail)
          go_wp2_with fail
          refine bodyPost_ret (results_ct rfl _ _ _ _ _ (0, 0) _ rfl (ten_put _ _ _ _ _ _ _ _ _ _ (S11.out.drewN _).bx0) Try.underlying27 rfl (by kernel_rfl)) rfl ?_
          exact post_row _ _ _ _ _ _ _ _ _ _ (S11.out.drewN _).below (Nat.le_add_right _ 3) (S11.out.drewN _).rx1 (fun _ h => h.2)
      have h := HF.out
      clear HF
      rw [if_neg qs1] at h
      have HF := Aside0.mk h
      clear h
      have ds1 : (st == 1) = false := beq_eq_false_iff_ne.mpr qs1
      by_cases qs2 : st = 2
      case neg =>
        have ds2 : (st == 2) = false := beq_eq_false_iff_ne.mpr qs2
        have h := HF.out
        clear HF
        rw [if_neg (fun hh => qs2 hh.1)] at h
        simp only [Option.some.injEq, Prod.mk.injEq] at h
        obtain ⟨rfl, rfl, rfl, rfl, rfl, rfl, rfl, rfl, rfl, rfl, rfl⟩ := h
        clear qs1 qs2 qs3 qs4
        obtain ⟨o0, o1, o2, o3, o4, o5, o6, o7, o8, o9⟩ := cells10 S9.out.bx0
        obtain ⟨fo0, fo1, fo2, fo3, fo4, fo5, fo6, fo7, fo8, fo9⟩ := frozen10 S9.out.bx0
        obtain ⟨n0, n1, n2, n3, n4, n5, n6, n7, n8, n9⟩ := cells10 S9.out.bx1
        go_wp2_with fail
        go_quiet (fail)
        go_wp2_with fail
        go_quiet (fail)
        go_wp2_with fail
        go_quiet (fail)
        go_wp2_with fail
        go_quiet (fail)
        go_wp2_with fail
        refine bodyPost_ret (results_ct rfl _ _ _ _ _ (0, 0) _ rfl (ten_put _ _ _ _ _ _ _ _ _ _ (S9.out.drewN _).bx0) Try.underlying27 rfl (by kernel_rfl)) rfl ?_
        exact post_row _ _ _ _ _ _ _ _ _ _ (S9.out.drewN _).below (Nat.le_add_right _ 3) (S9.out.drewN _).rx1 (fun _ h => h.2)
      have ds2 : (st == 2) = true := beq_iff_eq.mpr qs2
      by_cases qe2 : ep = xep
      case neg =>
        have d_e2 : (ep == xep) = false := beq_eq_false_iff_ne.mpr qe2
        have h := HF.out
        clear HF
        rw [if_neg (fun hh => qe2 hh.2)] at h
        simp only [Option.some.injEq, Prod.mk.injEq] at h
        obtain ⟨rfl, rfl, rfl, rfl, rfl, rfl, rfl, rfl, rfl, rfl, rfl⟩ := h
        clear qs1 qs2 qs3 qs4 qe2
        obtain ⟨o0, o1, o2, o3, o4, o5, o6, o7, o8, o9⟩ := cells10 S9.out.bx0
        obtain ⟨fo0, fo1, fo2, fo3, fo4, fo5, fo6, fo7, fo8, fo9⟩ := frozen10 S9.out.bx0
        obtain ⟨n0, n1, n2, n3, n4, n5, n6, n7, n8, n9⟩ := cells10 S9.out.bx1
        go_wp2_with fail
        go_quiet (fail)
        go_wp2_with fail
        go_quiet (fail)
        go_wp2_with fail
        go_quiet (fail)
        go_wp2_with fail
        go_quiet (fail)
        go_wp2_with fail
        refine bodyPost_ret (results_ct rfl _ _ _ _ _ (0, 0) _ rfl (ten_put _ _ _ _ _ _ _ _ _ _ (S9.out.drewN _).bx0) Try.underlying27 rfl (by kernel_rfl)) rfl ?_
        exact post_row _ _ _ _ _ _ _ _ _ _ (S9.out.drewN _).below (Nat.le_add_right _ 3) (S9.out.drewN _).rx1 (fun _ h => h.2)
      have d_e2 : (ep == xep) = true := beq_iff_eq.mpr qe2
      have h := HF.out
      clear HF
      rw [if_pos ⟨qs2, qe2⟩] at h
      have HF := Aside0.mk h
      clear h
      clear qs1 qs2 qs3 qs4 qe2
      have h := HF.out
      clear HF
      obtain ⟨b, hls, h⟩ := Option.bind_eq_some_iff.mp h
      have HLS := Aside0.mk hls
      clear hls
      have HF := Aside0.mk h
      clear h
      go_wp2_with fail
      go_quiet (fail)
      go_wp2_with fail
      go_quiet (fail)
      go_wp2_with fail
      go_quiet (fail)
      go_wp2_with fail
      clear x0 x1 x2 x3 x4 x5 x6 x7 x8 x9 x10 x11 u0 u1 u2 u3 u4 u5 u6 u7 u8 u9
      generalize hw_ : World.drewN (World.drewN w9 _) _ = w10
      have S10 := Aside0.mk ((S9.out.drewN _).at hw_)
      clear hw_
      obtain ⟨u0, u1, u2, u3, u4, u5, u6, u7, u8, u9⟩ := cells10 S10.out.bx3
      obtain ⟨x0, x1, x2, x3, x4, x5, x6, x7, x8, x9, x10, x11⟩ := cells12 S10.out.bx2
      cases b with
      | true =>
        have h := HF.out
        clear HF
        rw [if_pos rfl] at h
        simp only [Option.some.injEq, Prod.mk.injEq] at h
        obtain ⟨rfl, rfl, rfl, rfl, rfl, rfl, rfl, rfl, rfl, rfl, rfl⟩ := h
        first
          | (go_region_held3 (fun V => V.cell? ⟨W.heap.size + 1, 1, none⟩ = some (.int .i64 xep) ∧ V.cell? ⟨W.heap.size + 1, 4, none⟩ = some (.int .i64 xrw) ∧ V.cell? ⟨W.heap.size + 1, 5, none⟩ = some (.int .i64 xrl) ∧ V.cell? ⟨W.heap.size + 1, 6, none⟩ = some (.int .i64 xww) ∧ V.cell? ⟨W.heap.size + 1, 7, none⟩ = some (.int .i64 xwl) ∧ V.cell? ⟨g, 1, none⟩ = some (.int .i64 ep) ∧ V.cell? ⟨g, 5, none⟩ = some (.int .i64 sw) ∧ V.cell? ⟨g, 6, none⟩ = some (.int .i64 sl)) (go_keep) (first | (go_at_call 13; refine (stamp_Less.calls k xww xwl sw sl _ _ HLS.out).mono ?_; rintro e w11 ⟨rfl, hb⟩; have HBC := Aside0.mk (show Below w10.heap.size w10 w11 from below_step (below_drew1 (Below.refl w10.heap.size w10)) hb); have qx1 : w11.cell? ⟨W.heap.size + 1, 1, none⟩ = some (.int .i64 xep) := pw_cell_below HBC.out x1; have qx4 : w11.cell? ⟨W.heap.size + 1, 4, none⟩ = some (.int .i64 xrw) := pw_cell_below HBC.out x4; have qx5 : w11.cell? ⟨W.heap.size + 1, 5, none⟩ = some (.int .i64 xrl) := pw_cell_below HBC.out x5; have qx6 : w11.cell? ⟨W.heap.size + 1, 6, none⟩ = some (.int .i64 xww) := pw_cell_below HBC.out x6; have qx7 : w11.cell? ⟨W.heap.size + 1, 7, none⟩ = some (.int .i64 xwl) := pw_cell_below HBC.out x7; have qu1 : w11.cell? ⟨g, 1, none⟩ = some (.int .i64 ep) := pw_cell_below HBC.out u1; have qu5 : w11.cell? ⟨g, 5, none⟩ = some (.int .i64 sw) := pw_cell_below HBC.out u5; have qu6 : w11.cell? ⟨g, 6, none⟩ = some (.int .i64 sl) := pw_cell_below HBC.out u6; clear hb)))
          | fail
        have S11 := Aside0.mk (S10.out.step HBC.out)
        clear HBC qx1 qx4 qx5 qx6 qx7 qu1 qu5 qu6
        clear x0 x1 x2 x3 x4 x5 x6 x7 x8 x9 x10 x11 u0 u1 u2 u3 u4 u5 u6 u7 u8 u9
        go_wp2_with fail
        refine (stays_at g 201 id ep st pr an sw sl bw bl Av cv l _ S11.out.bx3).mono ?_
        rintro e w12 ⟨rfl, hb⟩
        have S12 := Aside0.mk (S11.out.step hb)
        clear hb
        obtain ⟨o0, o1, o2, o3, o4, o5, o6, o7, o8, o9⟩ := cells10 S12.out.bx0
        obtain ⟨fo0, fo1, fo2, fo3, fo4, fo5, fo6, fo7, fo8, fo9⟩ := frozen10 S12.out.bx0
        go_wp2_with fail
        refine bodyPost_ret (results_ct rfl _ _ _ _ _ (0, 0) _ rfl (ten_put _ _ _ _ _ _ _ _ _ _ S12.out.bx0) Try.underlying27 rfl (by kernel_rfl)) rfl ?_
        exact post_row _ _ _ _ _ _ _ _ _ _ S12.out.below (Nat.le_add_right _ 3) S12.out.rx0 (fun _ h => h.2)
      | false =>
        have h := HF.out
        clear HF
        rw [if_neg (by simp)] at h
        simp only [Option.some.injEq, Prod.mk.injEq] at h
        obtain ⟨rfl, rfl, rfl, rfl, rfl, rfl, rfl, rfl, rfl, rfl, rfl⟩ := h
        first
          | (go_region_held3 (fun V => V.cell? ⟨W.heap.size + 1, 1, none⟩ = some (.int .i64 xep) ∧ V.cell? ⟨W.heap.size + 1, 4, none⟩ = some (.int .i64 xrw) ∧ V.cell? ⟨W.heap.size + 1, 5, none⟩ = some (.int .i64 xrl) ∧ V.cell? ⟨W.heap.size + 1, 6, none⟩ = some (.int .i64 xww) ∧ V.cell? ⟨W.heap.size + 1, 7, none⟩ = some (.int .i64 xwl) ∧ V.cell? ⟨g, 1, none⟩ = some (.int .i64 ep) ∧ V.cell? ⟨g, 5, none⟩ = some (.int .i64 sw) ∧ V.cell? ⟨g, 6, none⟩ = some (.int .i64 sl)) (go_keep) (first | (go_at_call 13; refine (stamp_Less.calls k xww xwl sw sl _ _ HLS.out).mono ?_; rintro e w11 ⟨rfl, hb⟩; have HBC := Aside0.mk (show Below w10.heap.size w10 w11 from below_step (below_drew1 (Below.refl w10.heap.size w10)) hb); have qx1 : w11.cell? ⟨W.heap.size + 1, 1, none⟩ = some (.int .i64 xep) := pw_cell_below HBC.out x1; have qx4 : w11.cell? ⟨W.heap.size + 1, 4, none⟩ = some (.int .i64 xrw) := pw_cell_below HBC.out x4; have qx5 : w11.cell? ⟨W.heap.size + 1, 5, none⟩ = some (.int .i64 xrl) := pw_cell_below HBC.out x5; have qx6 : w11.cell? ⟨W.heap.size + 1, 6, none⟩ = some (.int .i64 xww) := pw_cell_below HBC.out x6; have qx7 : w11.cell? ⟨W.heap.size + 1, 7, none⟩ = some (.int .i64 xwl) := pw_cell_below HBC.out x7; have qu1 : w11.cell? ⟨g, 1, none⟩ = some (.int .i64 ep) := pw_cell_below HBC.out u1; have qu5 : w11.cell? ⟨g, 5, none⟩ = some (.int .i64 sw) := pw_cell_below HBC.out u5; have qu6 : w11.cell? ⟨g, 6, none⟩ = some (.int .i64 sl) := pw_cell_below HBC.out u6; clear hb)))
          | fail
        have S11 := Aside0.mk (S10.out.step HBC.out)
        clear HBC qx1 qx4 qx5 qx6 qx7 qu1 qu5 qu6
        clear x0 x1 x2 x3 x4 x5 x6 x7 x8 x9 x10 x11 u0 u1 u2 u3 u4 u5 u6 u7 u8 u9
        obtain ⟨o0, o1, o2, o3, o4, o5, o6, o7, o8, o9⟩ := cells10 S11.out.bx0
        obtain ⟨fo0, fo1, fo2, fo3, fo4, fo5, fo6, fo7, fo8, fo9⟩ := frozen10 S11.out.bx0
        obtain ⟨n0, n1, n2, n3, n4, n5, n6, n7, n8, n9⟩ := cells10 S11.out.bx1
        obtain ⟨u0, u1, u2, u3, u4, u5, u6, u7, u8, u9⟩ := cells10 S11.out.bx3
        obtain ⟨x0, x1, x2, x3, x4, x5, x6, x7, x8, x9, x10, x11⟩ := cells12 S11.out.bx2
        go_wp2_with fail
        refine bodyPost_ret (results_ct rfl _ _ _ _ _ (0, 0) _ rfl (ten_put _ _ _ _ _ _ _ _ _ _ S11.out.bx0) Try.underlying27 rfl (by kernel_rfl)) rfl ?_
        exact post_row _ _ _ _ _ _ _ _ _ _ S11.out.below (Nat.le_add_right _ 3) S11.out.rx1 (fun _ h => h.2)

end Go.Proofs.Ythdmkacnkdmbiaa.PRecordStaged
