/- Written by xprint.py, a program of these sessions (over the print of the kit, with leaves typed by hand): one Lean function for each Go function, and the proof that the Go code comes to its answers. -/
import Derived.Test.YthdmkacnkdmbiaaPRecordStagedx0
import Derived.Test.YthdmkacnkdmbiaaPRecordStagedx4
import Derived.Test.YthdmkacnkdmbiaaPRecordStagedx5
import Derived.Test.YthdmkacnkdmbiaaPRecordStagedx6
import Derived.Test.YthdmkacnkdmbiaaPRecordStagedx8
namespace Go.Proofs.Ythdmkacnkdmbiaa.PRecordStaged
open Go.RowKit Go.Proofs.YthdmkacnkdmbiaaW.PrintWords Go.Proofs.YthdmkacnkdmbiaaW.PrintLast Go.Proofs.YthdmkacnkdmbiaaW.PrintMore
attribute [local go_sem] max2_int min2_int max_two min_two max_three min_three max_four min_four   -- for this text's walks alone
attribute [local go_sem] str_gtr str_leq str_geq
set_option linter.unusedVariables false
set_option linter.unusedSimpArgs false

/-! ### record_Beat: function 16 (a leaf, by hand) -/
theorem take_l {P : Program} {Q : Exit → Act → World → Prop} {md : Region.Mode} {S : World → Prop} {l : List Oper} {i : Nat} {oi : Oper} {v : Value} {fuel : Nat} {listed : Array Bool} {a : Act} {w : World} (hi : l[i]? = some oi)
    (hs : Region.noSelect l.toArray = true) (hf : Region.free md l.toArray listed i = true) (hr : (Region.ready md l.toArray listed).contains i = true)
    (hQ : ∀ c a w, Q (.panic c) (a.put oi.dst v) w → Q (.panic c) a w) (hy : YieldsIf P l.toArray S oi v a) (hS : S w)
    (h : wpAnyH P md l.toArray Q S fuel (listed.setIfInBounds i true) (a.put oi.dst v) w) : wpAnyH P md l.toArray Q S (fuel + 1) listed a w :=
  wpAnyH_take (by rw [List.getElem?_toArray]; exact hi) hs hf hr hQ hy hS h
theorem cons_l {P : Program} {Q : Exit → Act → World → Prop} {md : Region.Mode} {S : World → Prop} {l : List Oper} {fuel : Nat} {listed : Array Bool} {a : Act} {w : World} {i : Nat} {o : Oper} {rs : List Nat} (ho : l[i]? = some o)
    (h : ∀ K' : Act → World → Prop, Shut (∀ a w, S w → (S w → wpAnyH P md l.toArray Q S fuel (listed.setIfInBounds i true) a w) → K' a w) → if Region.wanted o (yielded l.toArray a.tmps) = true then Oper.wp P o a w K' Q else K' (a.put o.dst undef) w)
    (hs : AllReadyH P md l.toArray Q S fuel listed a w rs) : AllReadyH P md l.toArray Q S fuel listed a w (i :: rs) :=
  AllReadyH.cons (by rw [List.getElem?_toArray]; exact ho) h hs
set_option maxHeartbeats 16000000 in
set_option maxRecDepth 100000 in
theorem bt_n2 (k : Nat) (id ep st pr : Int) (an : ByteArray) (sw sl bw bl : Int) (A : Option Addr) (c : Nat) (l : List S44) (xid xep xpr : Int) (xan : ByteArray) (xrw xrl xww xwl xlw xll xbw xbl nw nl : Int) (W : World) (hk2 : cell_CheckRecord.f k xid xep 1 xpr xan xww xwl nw nl [] = some 2) :
    Calls Try.prog 16 #[.agg #[.int .i64 id, .int .i64 ep, .int .i64 st, .int .i64 pr, .string an, .int .i64 sw, .int .i64 sl, .int .i64 bw, .int .i64 bl, .slice A l.length c], .bool false, .agg #[.int .i64 xid, .int .i64 xep, .int .i64 xpr, .string xan, .int .i64 xrw, .int .i64 xrl, .int .i64 xww, .int .i64 xwl, .int .i64 xlw, .int .i64 xll, .int .i64 xbw, .int .i64 xbl], .agg #[.int .i64 nw, .int .i64 nl]] W (recPost 0 0 0 0 ⟨#[]⟩ 0 0 0 0 [] 2 W) := by
  have HK2 := Aside0.mk hk2
  clear hk2
  go_enter Try.func16, Try.ntmps16
  go_wp2_with fail
  obtain ⟨w1, hw1, h1, h2, h3, h4, hb1, hs1⟩ := four_boxes W (.cells #[.int .i64 id, .int .i64 ep, .int .i64 st, .int .i64 pr, .string an, .int .i64 sw, .int .i64 sl, .int .i64 bw, .int .i64 bl, .slice A l.length c] 27) (.cells #[.int .i64 xid, .int .i64 xep, .int .i64 xpr, .string xan, .int .i64 xrw, .int .i64 xrl, .int .i64 xww, .int .i64 xwl, .int .i64 xlw, .int .i64 xll, .int .i64 xbw, .int .i64 xbl] 31) (.cells #[.int .i64 nw, .int .i64 nl] 24) (.cells #[.int .i64 0, .int .i64 0, .int .i64 0, .int .i64 0, .string ⟨#[]⟩, .int .i64 0, .int .i64 0, .int .i64 0, .int .i64 0, .slice none 0 0] 27)
  rw [hw1]
  have H1 := Aside0.mk h1
  have H2 := Aside0.mk h2
  have H3 := Aside0.mk h3
  have H4 := Aside0.mk h4
  have HB1 := Aside0.mk hb1
  have HS1 := Aside0.mk hs1
  clear hw1 h1 h2 h3 h4 hb1 hs1
  refine (record_of.calls xid xep xpr xan xrw xrl xww xwl xlw xll xbw xbl 1 nw nl xid xep 1 xpr xan xww xwl nw nl [] w1 rfl).mono ?_
  rintro e w2 ⟨vn, rfl, hRn, hb2⟩
  obtain ⟨An, cn, rfl⟩ := Kd.R_slice hRn
  have HB2 := Aside0.mk (below_step HB1.out hb2)
  have HB12 := Aside0.mk hb2
  have HRN := Aside0.mk hRn
  have HS2 := Aside0.mk (show W.heap.size + 4 ≤ w2.heap.size from by have h1 := hb2.size; have h2 := HS1.out; omega)
  clear hb2 hRn HB1
  simp only [List.length_nil]
  go_wp2_with (((with_reducible refine gate_dst (N := 18) rfl ?_); (generalize hw3 : World.alloc w2 _ = w3; have hn3 : w3.heap[w2.heap.size]? = some (.cells #[.int .i64 xid, .int .i64 xep, .int .i64 1, .int .i64 xpr, .string xan, .int .i64 xww, .int .i64 xwl, .int .i64 nw, .int .i64 nl, .slice An 0 cn] 27 (0, 0)) := (by rw [← hw3]; exact blk_new w2 _); have hb23 : Below w2.heap.size w2 w3 := (by rw [← hw3]; exact below_alloc (Below.refl _ _) _); have HN3 := Aside0.mk hn3; have HB3 := Aside0.mk (below_step HB2.out hb23); have h13 := blk_below (blk_below H1.out HB12.out) hb23; have h23 := blk_below (blk_below H2.out HB12.out) hb23; have H33 := Aside0.mk (blk_below (blk_below H3.out HB12.out) hb23); have H43 := Aside0.mk (blk_below (blk_below H4.out HB12.out) hb23); have HX3 := Aside0.mk h23; obtain ⟨c0, c1, c2, c3, c4, c5, c6, c7, c8, c9⟩ := cells10 h13; have x0 : w3.cell? ⟨W.heap.size + 1, 0, none⟩ = some (.int .i64 xid) := (blk_cell h23 0).trans rfl; have x3 : w3.cell? ⟨W.heap.size + 1, 3, none⟩ = some (.string xan) := (blk_cell h23 3).trans rfl; have HRN3 := Aside0.mk (Kd.R_below HRN.out hb23); have HS3 := Aside0.mk (show w2.heap.size < w3.heap.size from (by rw [← hw3]; simp)); clear hw3 hn3 hb23 h13 h23 H1 H2 H3 H4 HB12 HRN; generalize w2.heap.size = N at *)))
  have HO3 := H43
  have HD3 := H33
  have HRN3 := HRN3
  have HNE := Aside0.mk (show W.heap.size + 1 + 1 + 1 ≠ N from by have := HS2.out; omega)
  clear c0 c1 c2 c3 c4 c5 c6 c7 c8 c9 x0 x3
  refine (stands_no id ep st pr an sw sl bw bl (.slice A l.length c) xid xan w3).mono ?_
  rintro e w4 ⟨rfl, hb⟩
  have HN4 := Aside0.mk (blk_below HN3.out hb)
  have HO4 := Aside0.mk (blk_below HO3.out hb)
  have HD4 := Aside0.mk (blk_below HD3.out hb)
  have HB4 := Aside0.mk (below_step HB3.out hb)
  have HRN4 := Aside0.mk (Kd.R_below HRN3.out hb)
  clear hb
  obtain ⟨n0, n1, n2, n3, n4, n5, n6, n7, n8, n9⟩ := cells10 HN4.out
  go_wp2_with fail
  refine (cell_CheckRecord.calls k xid xep 1 xpr xan xww xwl nw nl An cn [] 2 w4 (Kd.C_nil' _ _ _) (Nat.zero_le _) HK2.out).mono ?_
  rintro e w5 ⟨rfl, hb⟩
  clear n0 n1 n2 n3 n4 n5 n6 n7 n8 n9 
  have HN5 := Aside0.mk (blk_below HN4.out hb)
  have HO5 := Aside0.mk (blk_below HO4.out hb)
  have HD5 := Aside0.mk (blk_below HD4.out hb)
  have HB5 := Aside0.mk (below_step HB4.out hb)
  have HRN5 := Aside0.mk (Kd.R_below HRN4.out hb)
  clear hb
  obtain ⟨o0, o1, o2, o3, o4, o5, o6, o7, o8, o9⟩ := cells10 HO5.out
  obtain ⟨fo0, fo1, fo2, fo3, fo4, fo5, fo6, fo7, fo8, fo9⟩ := frozen10 HO5.out
  go_wp2_with fail
  refine bodyPost_ret (results_ct rfl _ _ (W.heap.size + 1 + 1 + 1) 27 #[.int .i64 0, .int .i64 0, .int .i64 0, .int .i64 0, .string ⟨#[]⟩, .int .i64 0, .int .i64 0, .int .i64 0, .int .i64 0, .slice none 0 0] (0, 0) _ rfl ?hres Try.underlying27 rfl (by kernel_rfl)) rfl ?_
  case hres => exact (ten_put _ _ _ _ _ _ _ _ _ _ HO5.out)
  exact ⟨.slice none 0 0, rfl, Kd.R_nil _ _ _ _ _, (ten_below _ _ _ _ _ _ _ _ _ _ (HB5.out) (by omega))⟩
set_option maxHeartbeats 16000000 in
set_option maxRecDepth 100000 in
theorem bt_n0 (k : Nat) (id ep st pr : Int) (an : ByteArray) (sw sl bw bl : Int) (A : Option Addr) (c : Nat) (l : List S44) (xid xep xpr : Int) (xan : ByteArray) (xrw xrl xww xwl xlw xll xbw xbl nw nl : Int) (W : World) (hk2 : cell_CheckRecord.f k xid xep 1 xpr xan xww xwl nw nl [] = some 0) :
    Calls Try.prog 16 #[.agg #[.int .i64 id, .int .i64 ep, .int .i64 st, .int .i64 pr, .string an, .int .i64 sw, .int .i64 sl, .int .i64 bw, .int .i64 bl, .slice A l.length c], .bool false, .agg #[.int .i64 xid, .int .i64 xep, .int .i64 xpr, .string xan, .int .i64 xrw, .int .i64 xrl, .int .i64 xww, .int .i64 xwl, .int .i64 xlw, .int .i64 xll, .int .i64 xbw, .int .i64 xbl], .agg #[.int .i64 nw, .int .i64 nl]] W (recPost xid xep 1 xpr xan xww xwl nw nl [] 0 W) := by
  have HK2 := Aside0.mk hk2
  clear hk2
  go_enter Try.func16, Try.ntmps16
  go_wp2_with fail
  obtain ⟨w1, hw1, h1, h2, h3, h4, hb1, hs1⟩ := four_boxes W (.cells #[.int .i64 id, .int .i64 ep, .int .i64 st, .int .i64 pr, .string an, .int .i64 sw, .int .i64 sl, .int .i64 bw, .int .i64 bl, .slice A l.length c] 27) (.cells #[.int .i64 xid, .int .i64 xep, .int .i64 xpr, .string xan, .int .i64 xrw, .int .i64 xrl, .int .i64 xww, .int .i64 xwl, .int .i64 xlw, .int .i64 xll, .int .i64 xbw, .int .i64 xbl] 31) (.cells #[.int .i64 nw, .int .i64 nl] 24) (.cells #[.int .i64 0, .int .i64 0, .int .i64 0, .int .i64 0, .string ⟨#[]⟩, .int .i64 0, .int .i64 0, .int .i64 0, .int .i64 0, .slice none 0 0] 27)
  rw [hw1]
  have H1 := Aside0.mk h1
  have H2 := Aside0.mk h2
  have H3 := Aside0.mk h3
  have H4 := Aside0.mk h4
  have HB1 := Aside0.mk hb1
  have HS1 := Aside0.mk hs1
  clear hw1 h1 h2 h3 h4 hb1 hs1
  refine (record_of.calls xid xep xpr xan xrw xrl xww xwl xlw xll xbw xbl 1 nw nl xid xep 1 xpr xan xww xwl nw nl [] w1 rfl).mono ?_
  rintro e w2 ⟨vn, rfl, hRn, hb2⟩
  obtain ⟨An, cn, rfl⟩ := Kd.R_slice hRn
  have HB2 := Aside0.mk (below_step HB1.out hb2)
  have HB12 := Aside0.mk hb2
  have HRN := Aside0.mk hRn
  have HS2 := Aside0.mk (show W.heap.size + 4 ≤ w2.heap.size from by have h1 := hb2.size; have h2 := HS1.out; omega)
  clear hb2 hRn HB1
  simp only [List.length_nil]
  go_wp2_with (((with_reducible refine gate_dst (N := 18) rfl ?_); (generalize hw3 : World.alloc w2 _ = w3; have hn3 : w3.heap[w2.heap.size]? = some (.cells #[.int .i64 xid, .int .i64 xep, .int .i64 1, .int .i64 xpr, .string xan, .int .i64 xww, .int .i64 xwl, .int .i64 nw, .int .i64 nl, .slice An 0 cn] 27 (0, 0)) := (by rw [← hw3]; exact blk_new w2 _); have hb23 : Below w2.heap.size w2 w3 := (by rw [← hw3]; exact below_alloc (Below.refl _ _) _); have HN3 := Aside0.mk hn3; have HB3 := Aside0.mk (below_step HB2.out hb23); have h13 := blk_below (blk_below H1.out HB12.out) hb23; have h23 := blk_below (blk_below H2.out HB12.out) hb23; have H33 := Aside0.mk (blk_below (blk_below H3.out HB12.out) hb23); have H43 := Aside0.mk (blk_below (blk_below H4.out HB12.out) hb23); have HX3 := Aside0.mk h23; obtain ⟨c0, c1, c2, c3, c4, c5, c6, c7, c8, c9⟩ := cells10 h13; have x0 : w3.cell? ⟨W.heap.size + 1, 0, none⟩ = some (.int .i64 xid) := (blk_cell h23 0).trans rfl; have x3 : w3.cell? ⟨W.heap.size + 1, 3, none⟩ = some (.string xan) := (blk_cell h23 3).trans rfl; have HRN3 := Aside0.mk (Kd.R_below HRN.out hb23); have HS3 := Aside0.mk (show w2.heap.size < w3.heap.size from (by rw [← hw3]; simp)); clear hw3 hn3 hb23 h13 h23 H1 H2 H3 H4 HB12 HRN; generalize w2.heap.size = N at *)))
  have HO3 := H43
  have HD3 := H33
  have HRN3 := HRN3
  have HNE := Aside0.mk (show W.heap.size + 1 + 1 + 1 ≠ N from by have := HS2.out; omega)
  clear c0 c1 c2 c3 c4 c5 c6 c7 c8 c9 x0 x3
  refine (stands_no id ep st pr an sw sl bw bl (.slice A l.length c) xid xan w3).mono ?_
  rintro e w4 ⟨rfl, hb⟩
  have HN4 := Aside0.mk (blk_below HN3.out hb)
  have HO4 := Aside0.mk (blk_below HO3.out hb)
  have HD4 := Aside0.mk (blk_below HD3.out hb)
  have HB4 := Aside0.mk (below_step HB3.out hb)
  have HRN4 := Aside0.mk (Kd.R_below HRN3.out hb)
  clear hb
  obtain ⟨n0, n1, n2, n3, n4, n5, n6, n7, n8, n9⟩ := cells10 HN4.out
  go_wp2_with fail
  refine (cell_CheckRecord.calls k xid xep 1 xpr xan xww xwl nw nl An cn [] 0 w4 (Kd.C_nil' _ _ _) (Nat.zero_le _) HK2.out).mono ?_
  rintro e w5 ⟨rfl, hb⟩
  clear n0 n1 n2 n3 n4 n5 n6 n7 n8 n9 
  have HN5 := Aside0.mk (blk_below HN4.out hb)
  have HO5 := Aside0.mk (blk_below HO4.out hb)
  have HD5 := Aside0.mk (blk_below HD4.out hb)
  have HB5 := Aside0.mk (below_step HB4.out hb)
  have HRN5 := Aside0.mk (Kd.R_below HRN4.out hb)
  clear hb
  go_wp2_with fail
  refine (status_nil w5).mono ?_
  rintro e w6 ⟨rfl, hb⟩
  have HN6 := Aside0.mk (blk_below HN5.out hb)
  have HO6 := Aside0.mk (blk_below HO5.out hb)
  have HD6 := Aside0.mk (blk_below HD5.out hb)
  have HB6 := Aside0.mk (below_step HB5.out hb)
  have HRN6 := Aside0.mk (Kd.R_below HRN5.out hb)
  clear hb
  obtain ⟨n0, n1, n2, n3, n4, n5, n6, n7, n8, n9⟩ := cells10 HN6.out
  obtain ⟨o0, o1, o2, o3, o4, o5, o6, o7, o8, o9⟩ := cells10 HO6.out
  obtain ⟨fo0, fo1, fo2, fo3, fo4, fo5, fo6, fo7, fo8, fo9⟩ := frozen10 HO6.out
  go_wp2_with fail
  refine bodyPost_ret (results_ct rfl _ _ (W.heap.size + 1 + 1 + 1) 27 #[.int .i64 xid, .int .i64 xep, .int .i64 1, .int .i64 xpr, .string xan, .int .i64 xww, .int .i64 xwl, .int .i64 nw, .int .i64 nl, .slice An 0 cn] (0, 0) _ rfl ?hres Try.underlying27 rfl (by kernel_rfl)) rfl ?_
  case hres => exact (ten_put _ _ _ _ _ _ _ _ _ _ HO6.out)
  exact ⟨.slice An 0 cn, rfl, Kd.R_mono (ok := fun b => b ≠ W.heap.size + 1 + 1 + 1) (ten_far _ _ _ _ _ _ _ _ _ _ (Kd.R_lower (Kd.R_mono (Kd.R_bound HRN6.out) (fun b hb => by have h1 := hb.2.1; have h2 := HS1.out; show b ≠ W.heap.size + 1 + 1 + 1; omega)) (by have := HS1.out; omega)) (fun b hb => hb)) (fun _ _ => trivial), (ten_below _ _ _ _ _ _ _ _ _ _ (HB6.out) (by omega))⟩
set_option maxHeartbeats 16000000 in
set_option maxRecDepth 100000 in
theorem bt_y0 (k : Nat) (id ep st pr : Int) (an : ByteArray) (sw sl bw bl : Int) (A : Option Addr) (c : Nat) (l : List S44) (xid xep xpr : Int) (xan : ByteArray) (xrw xrl xww xwl xlw xll xbw xbl nw nl : Int) (W : World) (hr : Kd.C k44 W A l.length l) (hc : l.length ≤ c) (hl : l.length < 1000000000000) (ec : Int) (hec : ec = 0 ∨ ec = 2) (hk : cell_CheckRecord.f k id ep st pr an sw sl bw bl l = some ec) (hok : (decide (ec = 0) && ((id == xid) && (an.toList == xan.toList))) = false) :
    Calls Try.prog 16 #[.agg #[.int .i64 id, .int .i64 ep, .int .i64 st, .int .i64 pr, .string an, .int .i64 sw, .int .i64 sl, .int .i64 bw, .int .i64 bl, .slice A l.length c], .bool true, .agg #[.int .i64 xid, .int .i64 xep, .int .i64 xpr, .string xan, .int .i64 xrw, .int .i64 xrl, .int .i64 xww, .int .i64 xwl, .int .i64 xlw, .int .i64 xll, .int .i64 xbw, .int .i64 xbl], .agg #[.int .i64 nw, .int .i64 nl]] W (recPost 0 0 0 0 ⟨#[]⟩ 0 0 0 0 [] 2 W) := by
  have HST := Aside0.mk (fun (w1 : World) (h1 : Below W.heap.size W w1) => show Calls Try.prog 26 #[.agg #[.int .i64 id, .int .i64 ep, .int .i64 st, .int .i64 pr, .string an, .int .i64 sw, .int .i64 sl, .int .i64 bw, .int .i64 bl, .slice A l.length c], .bool true, .int .i64 xid, .string xan] w1 (standsPost id ep st pr an sw sl bw bl l w1 false) from by have h := stands_yes k id ep st pr an sw sl bw bl A c l xid xan w1 (Kd.C_below hr h1) hc hl ec hec hk; rw [hok] at h; exact h)
  clear hr hc hl hec hk hok
  go_enter Try.func16, Try.ntmps16
  go_wp2_with fail
  obtain ⟨w1, hw1, h1, h2, h3, h4, hb1, hs1⟩ := four_boxes W (.cells #[.int .i64 id, .int .i64 ep, .int .i64 st, .int .i64 pr, .string an, .int .i64 sw, .int .i64 sl, .int .i64 bw, .int .i64 bl, .slice A l.length c] 27) (.cells #[.int .i64 xid, .int .i64 xep, .int .i64 xpr, .string xan, .int .i64 xrw, .int .i64 xrl, .int .i64 xww, .int .i64 xwl, .int .i64 xlw, .int .i64 xll, .int .i64 xbw, .int .i64 xbl] 31) (.cells #[.int .i64 nw, .int .i64 nl] 24) (.cells #[.int .i64 0, .int .i64 0, .int .i64 0, .int .i64 0, .string ⟨#[]⟩, .int .i64 0, .int .i64 0, .int .i64 0, .int .i64 0, .slice none 0 0] 27)
  rw [hw1]
  have H1 := Aside0.mk h1
  have H2 := Aside0.mk h2
  have H3 := Aside0.mk h3
  have H4 := Aside0.mk h4
  have HB1 := Aside0.mk hb1
  have HS1 := Aside0.mk hs1
  clear hw1 h1 h2 h3 h4 hb1 hs1
  refine (record_of.calls xid xep xpr xan xrw xrl xww xwl xlw xll xbw xbl 1 nw nl xid xep 1 xpr xan xww xwl nw nl [] w1 rfl).mono ?_
  rintro e w2 ⟨vn, rfl, hRn, hb2⟩
  obtain ⟨An, cn, rfl⟩ := Kd.R_slice hRn
  have HB2 := Aside0.mk (below_step HB1.out hb2)
  have HB12 := Aside0.mk hb2
  have HRN := Aside0.mk hRn
  have HS2 := Aside0.mk (show W.heap.size + 4 ≤ w2.heap.size from by have h1 := hb2.size; have h2 := HS1.out; omega)
  clear hb2 hRn HB1
  simp only [List.length_nil]
  go_wp2_with (((with_reducible refine gate_dst (N := 18) rfl ?_); (generalize hw3 : World.alloc w2 _ = w3; have hn3 : w3.heap[w2.heap.size]? = some (.cells #[.int .i64 xid, .int .i64 xep, .int .i64 1, .int .i64 xpr, .string xan, .int .i64 xww, .int .i64 xwl, .int .i64 nw, .int .i64 nl, .slice An 0 cn] 27 (0, 0)) := (by rw [← hw3]; exact blk_new w2 _); have hb23 : Below w2.heap.size w2 w3 := (by rw [← hw3]; exact below_alloc (Below.refl _ _) _); have HN3 := Aside0.mk hn3; have HB3 := Aside0.mk (below_step HB2.out hb23); have h13 := blk_below (blk_below H1.out HB12.out) hb23; have h23 := blk_below (blk_below H2.out HB12.out) hb23; have H33 := Aside0.mk (blk_below (blk_below H3.out HB12.out) hb23); have H43 := Aside0.mk (blk_below (blk_below H4.out HB12.out) hb23); have HX3 := Aside0.mk h23; obtain ⟨c0, c1, c2, c3, c4, c5, c6, c7, c8, c9⟩ := cells10 h13; have x0 : w3.cell? ⟨W.heap.size + 1, 0, none⟩ = some (.int .i64 xid) := (blk_cell h23 0).trans rfl; have x3 : w3.cell? ⟨W.heap.size + 1, 3, none⟩ = some (.string xan) := (blk_cell h23 3).trans rfl; have HRN3 := Aside0.mk (Kd.R_below HRN.out hb23); have HS3 := Aside0.mk (show w2.heap.size < w3.heap.size from (by rw [← hw3]; simp)); clear hw3 hn3 hb23 h13 h23 H1 H2 H3 H4 HB12 HRN; generalize w2.heap.size = N at *)))
  have HO3 := H43
  have HD3 := H33
  have HRN3 := HRN3
  have HNE := Aside0.mk (show W.heap.size + 1 + 1 + 1 ≠ N from by have := HS2.out; omega)
  have HX3 := HX3
  clear c0 c1 c2 c3 c4 c5 c6 c7 c8 c9 x0 x3
  refine (HST.out w3 HB3.out).mono ?_
  rintro e w4 ⟨g, v, rfl, hg, hge, hRv, hb⟩
  obtain ⟨Av, cv, rfl⟩ := Kd.R_slice hRv
  have HG4 := Aside0.mk hg
  have HGE := Aside0.mk (show N < g from by have := HS3.out; omega)
  have HRV4 := Aside0.mk (show Kd.R k44 44 w4 W.heap.size (fun b => b ≠ g ∧ b ≠ W.heap.size + 1 + 1 + 1) (.slice Av l.length cv) l from Kd.R_lower (Kd.R_mono (Kd.R_bound hRv) (fun b hb => ⟨hb.1, by have h1 := hb.2.1; have h2 := HS2.out; have h3 := HS3.out; show b ≠ W.heap.size + 1 + 1 + 1; omega⟩)) (HB3.out.size))
  have HN4 := Aside0.mk (blk_below HN3.out hb)
  have HO4 := Aside0.mk (blk_below HO3.out hb)
  have HD4 := Aside0.mk (blk_below HD3.out hb)
  have HX4 := Aside0.mk (blk_below HX3.out hb)
  have HB4 := Aside0.mk (below_step HB3.out hb)
  have HRN4 := Aside0.mk (Kd.R_below HRN3.out hb)
  clear hb
  clear hg hge hRv
  obtain ⟨o0, o1, o2, o3, o4, o5, o6, o7, o8, o9⟩ := cells10 HO4.out
  obtain ⟨fo0, fo1, fo2, fo3, fo4, fo5, fo6, fo7, fo8, fo9⟩ := frozen10 HO4.out
  go_wp2_with fail
  refine bodyPost_ret (results_ct rfl _ _ (W.heap.size + 1 + 1 + 1) 27 #[.int .i64 0, .int .i64 0, .int .i64 0, .int .i64 0, .string ⟨#[]⟩, .int .i64 0, .int .i64 0, .int .i64 0, .int .i64 0, .slice none 0 0] (0, 0) _ rfl ?hres Try.underlying27 rfl (by kernel_rfl)) rfl ?_
  case hres => exact (ten_put _ _ _ _ _ _ _ _ _ _ HO4.out)
  exact ⟨.slice none 0 0, rfl, Kd.R_nil _ _ _ _ _, (ten_below _ _ _ _ _ _ _ _ _ _ (HB4.out) (by omega))⟩
set_option maxHeartbeats 16000000 in
set_option maxRecDepth 100000 in
theorem bt_y2 (k : Nat) (id ep st pr : Int) (an : ByteArray) (sw sl bw bl : Int) (A : Option Addr) (c : Nat) (l : List S44) (xid xep xpr : Int) (xan : ByteArray) (xrw xrl xww xwl xlw xll xbw xbl nw nl : Int) (W : World) (hr : Kd.C k44 W A l.length l) (hc : l.length ≤ c) (hl : l.length < 1000000000000) (ec : Int) (hec : ec = 0 ∨ ec = 2) (hk : cell_CheckRecord.f k id ep st pr an sw sl bw bl l = some ec) (hok : (decide (ec = 0) && ((id == xid) && (an.toList == xan.toList))) = true) (hk2 : cell_CheckRecord.f k xid xep 1 xpr xan xww xwl nw nl [] = some 2) :
    Calls Try.prog 16 #[.agg #[.int .i64 id, .int .i64 ep, .int .i64 st, .int .i64 pr, .string an, .int .i64 sw, .int .i64 sl, .int .i64 bw, .int .i64 bl, .slice A l.length c], .bool true, .agg #[.int .i64 xid, .int .i64 xep, .int .i64 xpr, .string xan, .int .i64 xrw, .int .i64 xrl, .int .i64 xww, .int .i64 xwl, .int .i64 xlw, .int .i64 xll, .int .i64 xbw, .int .i64 xbl], .agg #[.int .i64 nw, .int .i64 nl]] W (recPost 0 0 0 0 ⟨#[]⟩ 0 0 0 0 [] 2 W) := by
  have HST := Aside0.mk (fun (w1 : World) (h1 : Below W.heap.size W w1) => show Calls Try.prog 26 #[.agg #[.int .i64 id, .int .i64 ep, .int .i64 st, .int .i64 pr, .string an, .int .i64 sw, .int .i64 sl, .int .i64 bw, .int .i64 bl, .slice A l.length c], .bool true, .int .i64 xid, .string xan] w1 (standsPost id ep st pr an sw sl bw bl l w1 true) from by have h := stands_yes k id ep st pr an sw sl bw bl A c l xid xan w1 (Kd.C_below hr h1) hc hl ec hec hk; rw [hok] at h; exact h)
  clear hr hc hl hec hk hok
  have HK2 := Aside0.mk hk2
  clear hk2
  go_enter Try.func16, Try.ntmps16
  go_wp2_with fail
  obtain ⟨w1, hw1, h1, h2, h3, h4, hb1, hs1⟩ := four_boxes W (.cells #[.int .i64 id, .int .i64 ep, .int .i64 st, .int .i64 pr, .string an, .int .i64 sw, .int .i64 sl, .int .i64 bw, .int .i64 bl, .slice A l.length c] 27) (.cells #[.int .i64 xid, .int .i64 xep, .int .i64 xpr, .string xan, .int .i64 xrw, .int .i64 xrl, .int .i64 xww, .int .i64 xwl, .int .i64 xlw, .int .i64 xll, .int .i64 xbw, .int .i64 xbl] 31) (.cells #[.int .i64 nw, .int .i64 nl] 24) (.cells #[.int .i64 0, .int .i64 0, .int .i64 0, .int .i64 0, .string ⟨#[]⟩, .int .i64 0, .int .i64 0, .int .i64 0, .int .i64 0, .slice none 0 0] 27)
  rw [hw1]
  have H1 := Aside0.mk h1
  have H2 := Aside0.mk h2
  have H3 := Aside0.mk h3
  have H4 := Aside0.mk h4
  have HB1 := Aside0.mk hb1
  have HS1 := Aside0.mk hs1
  clear hw1 h1 h2 h3 h4 hb1 hs1
  refine (record_of.calls xid xep xpr xan xrw xrl xww xwl xlw xll xbw xbl 1 nw nl xid xep 1 xpr xan xww xwl nw nl [] w1 rfl).mono ?_
  rintro e w2 ⟨vn, rfl, hRn, hb2⟩
  obtain ⟨An, cn, rfl⟩ := Kd.R_slice hRn
  have HB2 := Aside0.mk (below_step HB1.out hb2)
  have HB12 := Aside0.mk hb2
  have HRN := Aside0.mk hRn
  have HS2 := Aside0.mk (show W.heap.size + 4 ≤ w2.heap.size from by have h1 := hb2.size; have h2 := HS1.out; omega)
  clear hb2 hRn HB1
  simp only [List.length_nil]
  go_wp2_with (((with_reducible refine gate_dst (N := 18) rfl ?_); (generalize hw3 : World.alloc w2 _ = w3; have hn3 : w3.heap[w2.heap.size]? = some (.cells #[.int .i64 xid, .int .i64 xep, .int .i64 1, .int .i64 xpr, .string xan, .int .i64 xww, .int .i64 xwl, .int .i64 nw, .int .i64 nl, .slice An 0 cn] 27 (0, 0)) := (by rw [← hw3]; exact blk_new w2 _); have hb23 : Below w2.heap.size w2 w3 := (by rw [← hw3]; exact below_alloc (Below.refl _ _) _); have HN3 := Aside0.mk hn3; have HB3 := Aside0.mk (below_step HB2.out hb23); have h13 := blk_below (blk_below H1.out HB12.out) hb23; have h23 := blk_below (blk_below H2.out HB12.out) hb23; have H33 := Aside0.mk (blk_below (blk_below H3.out HB12.out) hb23); have H43 := Aside0.mk (blk_below (blk_below H4.out HB12.out) hb23); have HX3 := Aside0.mk h23; obtain ⟨c0, c1, c2, c3, c4, c5, c6, c7, c8, c9⟩ := cells10 h13; have x0 : w3.cell? ⟨W.heap.size + 1, 0, none⟩ = some (.int .i64 xid) := (blk_cell h23 0).trans rfl; have x3 : w3.cell? ⟨W.heap.size + 1, 3, none⟩ = some (.string xan) := (blk_cell h23 3).trans rfl; have HRN3 := Aside0.mk (Kd.R_below HRN.out hb23); have HS3 := Aside0.mk (show w2.heap.size < w3.heap.size from (by rw [← hw3]; simp)); clear hw3 hn3 hb23 h13 h23 H1 H2 H3 H4 HB12 HRN; generalize w2.heap.size = N at *)))
  have HO3 := H43
  have HD3 := H33
  have HRN3 := HRN3
  have HNE := Aside0.mk (show W.heap.size + 1 + 1 + 1 ≠ N from by have := HS2.out; omega)
  have HX3 := HX3
  clear c0 c1 c2 c3 c4 c5 c6 c7 c8 c9 x0 x3
  refine (HST.out w3 HB3.out).mono ?_
  rintro e w4 ⟨g, v, rfl, hg, hge, hRv, hb⟩
  obtain ⟨Av, cv, rfl⟩ := Kd.R_slice hRv
  have HG4 := Aside0.mk hg
  have HGE := Aside0.mk (show N < g from by have := HS3.out; omega)
  have HRV4 := Aside0.mk (show Kd.R k44 44 w4 W.heap.size (fun b => b ≠ g ∧ b ≠ W.heap.size + 1 + 1 + 1) (.slice Av l.length cv) l from Kd.R_lower (Kd.R_mono (Kd.R_bound hRv) (fun b hb => ⟨hb.1, by have h1 := hb.2.1; have h2 := HS2.out; have h3 := HS3.out; show b ≠ W.heap.size + 1 + 1 + 1; omega⟩)) (HB3.out.size))
  have HN4 := Aside0.mk (blk_below HN3.out hb)
  have HO4 := Aside0.mk (blk_below HO3.out hb)
  have HD4 := Aside0.mk (blk_below HD3.out hb)
  have HX4 := Aside0.mk (blk_below HX3.out hb)
  have HB4 := Aside0.mk (below_step HB3.out hb)
  have HRN4 := Aside0.mk (Kd.R_below HRN3.out hb)
  clear hb
  clear hg hge hRv
  obtain ⟨n0, n1, n2, n3, n4, n5, n6, n7, n8, n9⟩ := cells10 HN4.out
  go_wp2_with fail
  refine (cell_CheckRecord.calls k xid xep 1 xpr xan xww xwl nw nl An cn [] 2 w4 (Kd.C_nil' _ _ _) (Nat.zero_le _) HK2.out).mono ?_
  rintro e w5 ⟨rfl, hb⟩
  clear n0 n1 n2 n3 n4 n5 n6 n7 n8 n9 
  have HN5 := Aside0.mk (blk_below HN4.out hb)
  have HO5 := Aside0.mk (blk_below HO4.out hb)
  have HD5 := Aside0.mk (blk_below HD4.out hb)
  have HX5 := Aside0.mk (blk_below HX4.out hb)
  have HG5 := Aside0.mk (blk_below HG4.out hb)
  have HB5 := Aside0.mk (below_step HB4.out hb)
  have HRN5 := Aside0.mk (Kd.R_below HRN4.out hb)
  have HRV5 := Aside0.mk (Kd.R_below HRV4.out hb)
  clear hb
  obtain ⟨o0, o1, o2, o3, o4, o5, o6, o7, o8, o9⟩ := cells10 HO5.out
  obtain ⟨fo0, fo1, fo2, fo3, fo4, fo5, fo6, fo7, fo8, fo9⟩ := frozen10 HO5.out
  go_wp2_with fail
  refine bodyPost_ret (results_ct rfl _ _ (W.heap.size + 1 + 1 + 1) 27 #[.int .i64 0, .int .i64 0, .int .i64 0, .int .i64 0, .string ⟨#[]⟩, .int .i64 0, .int .i64 0, .int .i64 0, .int .i64 0, .slice none 0 0] (0, 0) _ rfl ?hres Try.underlying27 rfl (by kernel_rfl)) rfl ?_
  case hres => exact (ten_put _ _ _ _ _ _ _ _ _ _ HO5.out)
  exact ⟨.slice none 0 0, rfl, Kd.R_nil _ _ _ _ _, (ten_below _ _ _ _ _ _ _ _ _ _ (HB5.out) (by omega))⟩
set_option maxHeartbeats 16000000 in
set_option maxRecDepth 100000 in
theorem bt_y3 (k : Nat) (id ep st pr : Int) (an : ByteArray) (sw sl bw bl : Int) (A : Option Addr) (c : Nat) (l : List S44) (xid xep xpr : Int) (xan : ByteArray) (xrw xrl xww xwl xlw xll xbw xbl nw nl : Int) (W : World) (hr : Kd.C k44 W A l.length l) (hc : l.length ≤ c) (hl : l.length < 1000000000000) (ec : Int) (hec : ec = 0 ∨ ec = 2) (hk : cell_CheckRecord.f k id ep st pr an sw sl bw bl l = some ec) (hok : (decide (ec = 0) && ((id == xid) && (an.toList == xan.toList))) = true) (hk2 : cell_CheckRecord.f k xid xep 1 xpr xan xww xwl nw nl [] = some 0) (q : st = 3) :
    Calls Try.prog 16 #[.agg #[.int .i64 id, .int .i64 ep, .int .i64 st, .int .i64 pr, .string an, .int .i64 sw, .int .i64 sl, .int .i64 bw, .int .i64 bl, .slice A l.length c], .bool true, .agg #[.int .i64 xid, .int .i64 xep, .int .i64 xpr, .string xan, .int .i64 xrw, .int .i64 xrl, .int .i64 xww, .int .i64 xwl, .int .i64 xlw, .int .i64 xll, .int .i64 xbw, .int .i64 xbl], .agg #[.int .i64 nw, .int .i64 nl]] W (recPost id ep st pr an sw sl bw bl l 203 W) := by
  have HS0 := Aside0.mk (show (st == 0) = false from beq_eq_false_iff_ne.mpr (by omega))
  have HS3b := Aside0.mk (show (st == 3) = true from beq_iff_eq.mpr q)
  have HS4 := Aside0.mk (show (st == 4) = false from beq_eq_false_iff_ne.mpr (by omega))
  clear q
  have HST := Aside0.mk (fun (w1 : World) (h1 : Below W.heap.size W w1) => show Calls Try.prog 26 #[.agg #[.int .i64 id, .int .i64 ep, .int .i64 st, .int .i64 pr, .string an, .int .i64 sw, .int .i64 sl, .int .i64 bw, .int .i64 bl, .slice A l.length c], .bool true, .int .i64 xid, .string xan] w1 (standsPost id ep st pr an sw sl bw bl l w1 true) from by have h := stands_yes k id ep st pr an sw sl bw bl A c l xid xan w1 (Kd.C_below hr h1) hc hl ec hec hk; rw [hok] at h; exact h)
  clear hr hc hl hec hk hok
  have HK2 := Aside0.mk hk2
  clear hk2
  go_enter Try.func16, Try.ntmps16
  go_wp2_with fail
  obtain ⟨w1, hw1, h1, h2, h3, h4, hb1, hs1⟩ := four_boxes W (.cells #[.int .i64 id, .int .i64 ep, .int .i64 st, .int .i64 pr, .string an, .int .i64 sw, .int .i64 sl, .int .i64 bw, .int .i64 bl, .slice A l.length c] 27) (.cells #[.int .i64 xid, .int .i64 xep, .int .i64 xpr, .string xan, .int .i64 xrw, .int .i64 xrl, .int .i64 xww, .int .i64 xwl, .int .i64 xlw, .int .i64 xll, .int .i64 xbw, .int .i64 xbl] 31) (.cells #[.int .i64 nw, .int .i64 nl] 24) (.cells #[.int .i64 0, .int .i64 0, .int .i64 0, .int .i64 0, .string ⟨#[]⟩, .int .i64 0, .int .i64 0, .int .i64 0, .int .i64 0, .slice none 0 0] 27)
  rw [hw1]
  have H1 := Aside0.mk h1
  have H2 := Aside0.mk h2
  have H3 := Aside0.mk h3
  have H4 := Aside0.mk h4
  have HB1 := Aside0.mk hb1
  have HS1 := Aside0.mk hs1
  clear hw1 h1 h2 h3 h4 hb1 hs1
  refine (record_of.calls xid xep xpr xan xrw xrl xww xwl xlw xll xbw xbl 1 nw nl xid xep 1 xpr xan xww xwl nw nl [] w1 rfl).mono ?_
  rintro e w2 ⟨vn, rfl, hRn, hb2⟩
  obtain ⟨An, cn, rfl⟩ := Kd.R_slice hRn
  have HB2 := Aside0.mk (below_step HB1.out hb2)
  have HB12 := Aside0.mk hb2
  have HRN := Aside0.mk hRn
  have HS2 := Aside0.mk (show W.heap.size + 4 ≤ w2.heap.size from by have h1 := hb2.size; have h2 := HS1.out; omega)
  clear hb2 hRn HB1
  simp only [List.length_nil]
  go_wp2_with (((with_reducible refine gate_dst (N := 18) rfl ?_); (generalize hw3 : World.alloc w2 _ = w3; have hn3 : w3.heap[w2.heap.size]? = some (.cells #[.int .i64 xid, .int .i64 xep, .int .i64 1, .int .i64 xpr, .string xan, .int .i64 xww, .int .i64 xwl, .int .i64 nw, .int .i64 nl, .slice An 0 cn] 27 (0, 0)) := (by rw [← hw3]; exact blk_new w2 _); have hb23 : Below w2.heap.size w2 w3 := (by rw [← hw3]; exact below_alloc (Below.refl _ _) _); have HN3 := Aside0.mk hn3; have HB3 := Aside0.mk (below_step HB2.out hb23); have h13 := blk_below (blk_below H1.out HB12.out) hb23; have h23 := blk_below (blk_below H2.out HB12.out) hb23; have H33 := Aside0.mk (blk_below (blk_below H3.out HB12.out) hb23); have H43 := Aside0.mk (blk_below (blk_below H4.out HB12.out) hb23); have HX3 := Aside0.mk h23; obtain ⟨c0, c1, c2, c3, c4, c5, c6, c7, c8, c9⟩ := cells10 h13; have x0 : w3.cell? ⟨W.heap.size + 1, 0, none⟩ = some (.int .i64 xid) := (blk_cell h23 0).trans rfl; have x3 : w3.cell? ⟨W.heap.size + 1, 3, none⟩ = some (.string xan) := (blk_cell h23 3).trans rfl; have HRN3 := Aside0.mk (Kd.R_below HRN.out hb23); have HS3 := Aside0.mk (show w2.heap.size < w3.heap.size from (by rw [← hw3]; simp)); clear hw3 hn3 hb23 h13 h23 H1 H2 H3 H4 HB12 HRN; generalize w2.heap.size = N at *)))
  have HO3 := H43
  have HD3 := H33
  have HRN3 := HRN3
  have HNE := Aside0.mk (show W.heap.size + 1 + 1 + 1 ≠ N from by have := HS2.out; omega)
  have HX3 := HX3
  clear c0 c1 c2 c3 c4 c5 c6 c7 c8 c9 x0 x3
  refine (HST.out w3 HB3.out).mono ?_
  rintro e w4 ⟨g, v, rfl, hg, hge, hRv, hb⟩
  obtain ⟨Av, cv, rfl⟩ := Kd.R_slice hRv
  have HG4 := Aside0.mk hg
  have HGE := Aside0.mk (show N < g from by have := HS3.out; omega)
  have HRV4 := Aside0.mk (show Kd.R k44 44 w4 W.heap.size (fun b => b ≠ g ∧ b ≠ W.heap.size + 1 + 1 + 1) (.slice Av l.length cv) l from Kd.R_lower (Kd.R_mono (Kd.R_bound hRv) (fun b hb => ⟨hb.1, by have h1 := hb.2.1; have h2 := HS2.out; have h3 := HS3.out; show b ≠ W.heap.size + 1 + 1 + 1; omega⟩)) (HB3.out.size))
  have HN4 := Aside0.mk (blk_below HN3.out hb)
  have HO4 := Aside0.mk (blk_below HO3.out hb)
  have HD4 := Aside0.mk (blk_below HD3.out hb)
  have HX4 := Aside0.mk (blk_below HX3.out hb)
  have HB4 := Aside0.mk (below_step HB3.out hb)
  have HRN4 := Aside0.mk (Kd.R_below HRN3.out hb)
  clear hb
  clear hg hge hRv
  obtain ⟨n0, n1, n2, n3, n4, n5, n6, n7, n8, n9⟩ := cells10 HN4.out
  go_wp2_with fail
  refine (cell_CheckRecord.calls k xid xep 1 xpr xan xww xwl nw nl An cn [] 0 w4 (Kd.C_nil' _ _ _) (Nat.zero_le _) HK2.out).mono ?_
  rintro e w5 ⟨rfl, hb⟩
  clear n0 n1 n2 n3 n4 n5 n6 n7 n8 n9 
  have HN5 := Aside0.mk (blk_below HN4.out hb)
  have HO5 := Aside0.mk (blk_below HO4.out hb)
  have HD5 := Aside0.mk (blk_below HD4.out hb)
  have HX5 := Aside0.mk (blk_below HX4.out hb)
  have HG5 := Aside0.mk (blk_below HG4.out hb)
  have HB5 := Aside0.mk (below_step HB4.out hb)
  have HRN5 := Aside0.mk (Kd.R_below HRN4.out hb)
  have HRV5 := Aside0.mk (Kd.R_below HRV4.out hb)
  clear hb
  obtain ⟨u0, u1, u2, u3, u4, u5, u6, u7, u8, u9⟩ := cells10 HG5.out
  go_wp2_with fail
  refine (status_at g st w5 u2).mono ?_
  rintro e w6 ⟨rfl, hb⟩
  clear u0 u1 u2 u3 u4 u5 u6 u7 u8 u9 
  have HN6 := Aside0.mk (blk_below HN5.out hb)
  have HO6 := Aside0.mk (blk_below HO5.out hb)
  have HD6 := Aside0.mk (blk_below HD5.out hb)
  have HX6 := Aside0.mk (blk_below HX5.out hb)
  have HG6 := Aside0.mk (blk_below HG5.out hb)
  have HB6 := Aside0.mk (below_step HB5.out hb)
  have HRN6 := Aside0.mk (Kd.R_below HRN5.out hb)
  have HRV6 := Aside0.mk (Kd.R_below HRV5.out hb)
  clear hb
  have ds0 := HS0.out
  have ds3 := HS3b.out
  have ds4 := HS4.out
  go_wp2_with fail
  refine (stays_at g 203 id ep st pr an sw sl bw bl Av cv l w6 HG6.out).mono ?_
  rintro e w7 ⟨rfl, hb⟩
  have HN7 := Aside0.mk (blk_below HN6.out hb)
  have HO7 := Aside0.mk (blk_below HO6.out hb)
  have HD7 := Aside0.mk (blk_below HD6.out hb)
  have HX7 := Aside0.mk (blk_below HX6.out hb)
  have HG7 := Aside0.mk (blk_below HG6.out hb)
  have HB7 := Aside0.mk (below_step HB6.out hb)
  have HRN7 := Aside0.mk (Kd.R_below HRN6.out hb)
  have HRV7 := Aside0.mk (Kd.R_below HRV6.out hb)
  clear hb
  obtain ⟨o0, o1, o2, o3, o4, o5, o6, o7, o8, o9⟩ := cells10 HO7.out
  obtain ⟨fo0, fo1, fo2, fo3, fo4, fo5, fo6, fo7, fo8, fo9⟩ := frozen10 HO7.out
  go_wp2_with fail
  refine bodyPost_ret (results_ct rfl _ _ (W.heap.size + 1 + 1 + 1) 27 #[.int .i64 id, .int .i64 ep, .int .i64 st, .int .i64 pr, .string an, .int .i64 sw, .int .i64 sl, .int .i64 bw, .int .i64 bl, .slice Av l.length cv] (0, 0) _ rfl ?hres Try.underlying27 rfl (by kernel_rfl)) rfl ?_
  case hres => exact (ten_put _ _ _ _ _ _ _ _ _ _ HO7.out)
  exact ⟨.slice Av l.length cv, rfl, Kd.R_mono (ok := fun b => b ≠ g ∧ b ≠ W.heap.size + 1 + 1 + 1) (ten_far _ _ _ _ _ _ _ _ _ _ (HRV7.out) (fun b hb => hb.2)) (fun _ _ => trivial), (ten_below _ _ _ _ _ _ _ _ _ _ (HB7.out) (by omega))⟩
set_option maxHeartbeats 16000000 in
set_option maxRecDepth 100000 in
theorem bt_y4 (k : Nat) (id ep st pr : Int) (an : ByteArray) (sw sl bw bl : Int) (A : Option Addr) (c : Nat) (l : List S44) (xid xep xpr : Int) (xan : ByteArray) (xrw xrl xww xwl xlw xll xbw xbl nw nl : Int) (W : World) (hr : Kd.C k44 W A l.length l) (hc : l.length ≤ c) (hl : l.length < 1000000000000) (ec : Int) (hec : ec = 0 ∨ ec = 2) (hk : cell_CheckRecord.f k id ep st pr an sw sl bw bl l = some ec) (hok : (decide (ec = 0) && ((id == xid) && (an.toList == xan.toList))) = true) (hk2 : cell_CheckRecord.f k xid xep 1 xpr xan xww xwl nw nl [] = some 0) (q : st = 4) :
    Calls Try.prog 16 #[.agg #[.int .i64 id, .int .i64 ep, .int .i64 st, .int .i64 pr, .string an, .int .i64 sw, .int .i64 sl, .int .i64 bw, .int .i64 bl, .slice A l.length c], .bool true, .agg #[.int .i64 xid, .int .i64 xep, .int .i64 xpr, .string xan, .int .i64 xrw, .int .i64 xrl, .int .i64 xww, .int .i64 xwl, .int .i64 xlw, .int .i64 xll, .int .i64 xbw, .int .i64 xbl], .agg #[.int .i64 nw, .int .i64 nl]] W (recPost id ep st pr an sw sl bw bl l 200 W) := by
  have HS0 := Aside0.mk (show (st == 0) = false from beq_eq_false_iff_ne.mpr (by omega))
  have HS3b := Aside0.mk (show (st == 3) = false from beq_eq_false_iff_ne.mpr (by omega))
  have HS4 := Aside0.mk (show (st == 4) = true from beq_iff_eq.mpr q)
  clear q
  have HST := Aside0.mk (fun (w1 : World) (h1 : Below W.heap.size W w1) => show Calls Try.prog 26 #[.agg #[.int .i64 id, .int .i64 ep, .int .i64 st, .int .i64 pr, .string an, .int .i64 sw, .int .i64 sl, .int .i64 bw, .int .i64 bl, .slice A l.length c], .bool true, .int .i64 xid, .string xan] w1 (standsPost id ep st pr an sw sl bw bl l w1 true) from by have h := stands_yes k id ep st pr an sw sl bw bl A c l xid xan w1 (Kd.C_below hr h1) hc hl ec hec hk; rw [hok] at h; exact h)
  clear hr hc hl hec hk hok
  have HK2 := Aside0.mk hk2
  clear hk2
  go_enter Try.func16, Try.ntmps16
  go_wp2_with fail
  obtain ⟨w1, hw1, h1, h2, h3, h4, hb1, hs1⟩ := four_boxes W (.cells #[.int .i64 id, .int .i64 ep, .int .i64 st, .int .i64 pr, .string an, .int .i64 sw, .int .i64 sl, .int .i64 bw, .int .i64 bl, .slice A l.length c] 27) (.cells #[.int .i64 xid, .int .i64 xep, .int .i64 xpr, .string xan, .int .i64 xrw, .int .i64 xrl, .int .i64 xww, .int .i64 xwl, .int .i64 xlw, .int .i64 xll, .int .i64 xbw, .int .i64 xbl] 31) (.cells #[.int .i64 nw, .int .i64 nl] 24) (.cells #[.int .i64 0, .int .i64 0, .int .i64 0, .int .i64 0, .string ⟨#[]⟩, .int .i64 0, .int .i64 0, .int .i64 0, .int .i64 0, .slice none 0 0] 27)
  rw [hw1]
  have H1 := Aside0.mk h1
  have H2 := Aside0.mk h2
  have H3 := Aside0.mk h3
  have H4 := Aside0.mk h4
  have HB1 := Aside0.mk hb1
  have HS1 := Aside0.mk hs1
  clear hw1 h1 h2 h3 h4 hb1 hs1
  refine (record_of.calls xid xep xpr xan xrw xrl xww xwl xlw xll xbw xbl 1 nw nl xid xep 1 xpr xan xww xwl nw nl [] w1 rfl).mono ?_
  rintro e w2 ⟨vn, rfl, hRn, hb2⟩
  obtain ⟨An, cn, rfl⟩ := Kd.R_slice hRn
  have HB2 := Aside0.mk (below_step HB1.out hb2)
  have HB12 := Aside0.mk hb2
  have HRN := Aside0.mk hRn
  have HS2 := Aside0.mk (show W.heap.size + 4 ≤ w2.heap.size from by have h1 := hb2.size; have h2 := HS1.out; omega)
  clear hb2 hRn HB1
  simp only [List.length_nil]
  go_wp2_with (((with_reducible refine gate_dst (N := 18) rfl ?_); (generalize hw3 : World.alloc w2 _ = w3; have hn3 : w3.heap[w2.heap.size]? = some (.cells #[.int .i64 xid, .int .i64 xep, .int .i64 1, .int .i64 xpr, .string xan, .int .i64 xww, .int .i64 xwl, .int .i64 nw, .int .i64 nl, .slice An 0 cn] 27 (0, 0)) := (by rw [← hw3]; exact blk_new w2 _); have hb23 : Below w2.heap.size w2 w3 := (by rw [← hw3]; exact below_alloc (Below.refl _ _) _); have HN3 := Aside0.mk hn3; have HB3 := Aside0.mk (below_step HB2.out hb23); have h13 := blk_below (blk_below H1.out HB12.out) hb23; have h23 := blk_below (blk_below H2.out HB12.out) hb23; have H33 := Aside0.mk (blk_below (blk_below H3.out HB12.out) hb23); have H43 := Aside0.mk (blk_below (blk_below H4.out HB12.out) hb23); have HX3 := Aside0.mk h23; obtain ⟨c0, c1, c2, c3, c4, c5, c6, c7, c8, c9⟩ := cells10 h13; have x0 : w3.cell? ⟨W.heap.size + 1, 0, none⟩ = some (.int .i64 xid) := (blk_cell h23 0).trans rfl; have x3 : w3.cell? ⟨W.heap.size + 1, 3, none⟩ = some (.string xan) := (blk_cell h23 3).trans rfl; have HRN3 := Aside0.mk (Kd.R_below HRN.out hb23); have HS3 := Aside0.mk (show w2.heap.size < w3.heap.size from (by rw [← hw3]; simp)); clear hw3 hn3 hb23 h13 h23 H1 H2 H3 H4 HB12 HRN; generalize w2.heap.size = N at *)))
  have HO3 := H43
  have HD3 := H33
  have HRN3 := HRN3
  have HNE := Aside0.mk (show W.heap.size + 1 + 1 + 1 ≠ N from by have := HS2.out; omega)
  have HX3 := HX3
  clear c0 c1 c2 c3 c4 c5 c6 c7 c8 c9 x0 x3
  refine (HST.out w3 HB3.out).mono ?_
  rintro e w4 ⟨g, v, rfl, hg, hge, hRv, hb⟩
  obtain ⟨Av, cv, rfl⟩ := Kd.R_slice hRv
  have HG4 := Aside0.mk hg
  have HGE := Aside0.mk (show N < g from by have := HS3.out; omega)
  have HRV4 := Aside0.mk (show Kd.R k44 44 w4 W.heap.size (fun b => b ≠ g ∧ b ≠ W.heap.size + 1 + 1 + 1) (.slice Av l.length cv) l from Kd.R_lower (Kd.R_mono (Kd.R_bound hRv) (fun b hb => ⟨hb.1, by have h1 := hb.2.1; have h2 := HS2.out; have h3 := HS3.out; show b ≠ W.heap.size + 1 + 1 + 1; omega⟩)) (HB3.out.size))
  have HN4 := Aside0.mk (blk_below HN3.out hb)
  have HO4 := Aside0.mk (blk_below HO3.out hb)
  have HD4 := Aside0.mk (blk_below HD3.out hb)
  have HX4 := Aside0.mk (blk_below HX3.out hb)
  have HB4 := Aside0.mk (below_step HB3.out hb)
  have HRN4 := Aside0.mk (Kd.R_below HRN3.out hb)
  clear hb
  clear hg hge hRv
  obtain ⟨n0, n1, n2, n3, n4, n5, n6, n7, n8, n9⟩ := cells10 HN4.out
  go_wp2_with fail
  refine (cell_CheckRecord.calls k xid xep 1 xpr xan xww xwl nw nl An cn [] 0 w4 (Kd.C_nil' _ _ _) (Nat.zero_le _) HK2.out).mono ?_
  rintro e w5 ⟨rfl, hb⟩
  clear n0 n1 n2 n3 n4 n5 n6 n7 n8 n9 
  have HN5 := Aside0.mk (blk_below HN4.out hb)
  have HO5 := Aside0.mk (blk_below HO4.out hb)
  have HD5 := Aside0.mk (blk_below HD4.out hb)
  have HX5 := Aside0.mk (blk_below HX4.out hb)
  have HG5 := Aside0.mk (blk_below HG4.out hb)
  have HB5 := Aside0.mk (below_step HB4.out hb)
  have HRN5 := Aside0.mk (Kd.R_below HRN4.out hb)
  have HRV5 := Aside0.mk (Kd.R_below HRV4.out hb)
  clear hb
  obtain ⟨u0, u1, u2, u3, u4, u5, u6, u7, u8, u9⟩ := cells10 HG5.out
  go_wp2_with fail
  refine (status_at g st w5 u2).mono ?_
  rintro e w6 ⟨rfl, hb⟩
  clear u0 u1 u2 u3 u4 u5 u6 u7 u8 u9 
  have HN6 := Aside0.mk (blk_below HN5.out hb)
  have HO6 := Aside0.mk (blk_below HO5.out hb)
  have HD6 := Aside0.mk (blk_below HD5.out hb)
  have HX6 := Aside0.mk (blk_below HX5.out hb)
  have HG6 := Aside0.mk (blk_below HG5.out hb)
  have HB6 := Aside0.mk (below_step HB5.out hb)
  have HRN6 := Aside0.mk (Kd.R_below HRN5.out hb)
  have HRV6 := Aside0.mk (Kd.R_below HRV5.out hb)
  clear hb
  have ds0 := HS0.out
  have ds3 := HS3b.out
  have ds4 := HS4.out
  go_wp2_with fail
  refine (stays_at g 200 id ep st pr an sw sl bw bl Av cv l w6 HG6.out).mono ?_
  rintro e w7 ⟨rfl, hb⟩
  have HN7 := Aside0.mk (blk_below HN6.out hb)
  have HO7 := Aside0.mk (blk_below HO6.out hb)
  have HD7 := Aside0.mk (blk_below HD6.out hb)
  have HX7 := Aside0.mk (blk_below HX6.out hb)
  have HG7 := Aside0.mk (blk_below HG6.out hb)
  have HB7 := Aside0.mk (below_step HB6.out hb)
  have HRN7 := Aside0.mk (Kd.R_below HRN6.out hb)
  have HRV7 := Aside0.mk (Kd.R_below HRV6.out hb)
  clear hb
  obtain ⟨o0, o1, o2, o3, o4, o5, o6, o7, o8, o9⟩ := cells10 HO7.out
  obtain ⟨fo0, fo1, fo2, fo3, fo4, fo5, fo6, fo7, fo8, fo9⟩ := frozen10 HO7.out
  go_wp2_with fail
  refine bodyPost_ret (results_ct rfl _ _ (W.heap.size + 1 + 1 + 1) 27 #[.int .i64 id, .int .i64 ep, .int .i64 st, .int .i64 pr, .string an, .int .i64 sw, .int .i64 sl, .int .i64 bw, .int .i64 bl, .slice Av l.length cv] (0, 0) _ rfl ?hres Try.underlying27 rfl (by kernel_rfl)) rfl ?_
  case hres => exact (ten_put _ _ _ _ _ _ _ _ _ _ HO7.out)
  exact ⟨.slice Av l.length cv, rfl, Kd.R_mono (ok := fun b => b ≠ g ∧ b ≠ W.heap.size + 1 + 1 + 1) (ten_far _ _ _ _ _ _ _ _ _ _ (HRV7.out) (fun b hb => hb.2)) (fun _ _ => trivial), (ten_below _ _ _ _ _ _ _ _ _ _ (HB7.out) (by omega))⟩
set_option maxHeartbeats 16000000 in
set_option maxRecDepth 100000 in
theorem bt_y00 (k : Nat) (id ep st pr : Int) (an : ByteArray) (sw sl bw bl : Int) (A : Option Addr) (c : Nat) (l : List S44) (xid xep xpr : Int) (xan : ByteArray) (xrw xrl xww xwl xlw xll xbw xbl nw nl : Int) (W : World) (hr : Kd.C k44 W A l.length l) (hc : l.length ≤ c) (hl : l.length < 1000000000000) (ec : Int) (hec : ec = 0 ∨ ec = 2) (hk : cell_CheckRecord.f k id ep st pr an sw sl bw bl l = some ec) (hok : (decide (ec = 0) && ((id == xid) && (an.toList == xan.toList))) = true) (hk2 : cell_CheckRecord.f k xid xep 1 xpr xan xww xwl nw nl [] = some 0) (q : st = 0) :
    Calls Try.prog 16 #[.agg #[.int .i64 id, .int .i64 ep, .int .i64 st, .int .i64 pr, .string an, .int .i64 sw, .int .i64 sl, .int .i64 bw, .int .i64 bl, .slice A l.length c], .bool true, .agg #[.int .i64 xid, .int .i64 xep, .int .i64 xpr, .string xan, .int .i64 xrw, .int .i64 xrl, .int .i64 xww, .int .i64 xwl, .int .i64 xlw, .int .i64 xll, .int .i64 xbw, .int .i64 xbl], .agg #[.int .i64 nw, .int .i64 nl]] W (recPost xid xep 1 xpr xan xww xwl nw nl [] 0 W) := by
  have HS0 := Aside0.mk (show (st == 0) = true from beq_iff_eq.mpr q)
  have HS3b := Aside0.mk (show (st == 3) = false from beq_eq_false_iff_ne.mpr (by omega))
  have HS4 := Aside0.mk (show (st == 4) = false from beq_eq_false_iff_ne.mpr (by omega))
  clear q
  have HST := Aside0.mk (fun (w1 : World) (h1 : Below W.heap.size W w1) => show Calls Try.prog 26 #[.agg #[.int .i64 id, .int .i64 ep, .int .i64 st, .int .i64 pr, .string an, .int .i64 sw, .int .i64 sl, .int .i64 bw, .int .i64 bl, .slice A l.length c], .bool true, .int .i64 xid, .string xan] w1 (standsPost id ep st pr an sw sl bw bl l w1 true) from by have h := stands_yes k id ep st pr an sw sl bw bl A c l xid xan w1 (Kd.C_below hr h1) hc hl ec hec hk; rw [hok] at h; exact h)
  clear hr hc hl hec hk hok
  have HK2 := Aside0.mk hk2
  clear hk2
  go_enter Try.func16, Try.ntmps16
  go_wp2_with fail
  obtain ⟨w1, hw1, h1, h2, h3, h4, hb1, hs1⟩ := four_boxes W (.cells #[.int .i64 id, .int .i64 ep, .int .i64 st, .int .i64 pr, .string an, .int .i64 sw, .int .i64 sl, .int .i64 bw, .int .i64 bl, .slice A l.length c] 27) (.cells #[.int .i64 xid, .int .i64 xep, .int .i64 xpr, .string xan, .int .i64 xrw, .int .i64 xrl, .int .i64 xww, .int .i64 xwl, .int .i64 xlw, .int .i64 xll, .int .i64 xbw, .int .i64 xbl] 31) (.cells #[.int .i64 nw, .int .i64 nl] 24) (.cells #[.int .i64 0, .int .i64 0, .int .i64 0, .int .i64 0, .string ⟨#[]⟩, .int .i64 0, .int .i64 0, .int .i64 0, .int .i64 0, .slice none 0 0] 27)
  rw [hw1]
  have H1 := Aside0.mk h1
  have H2 := Aside0.mk h2
  have H3 := Aside0.mk h3
  have H4 := Aside0.mk h4
  have HB1 := Aside0.mk hb1
  have HS1 := Aside0.mk hs1
  clear hw1 h1 h2 h3 h4 hb1 hs1
  refine (record_of.calls xid xep xpr xan xrw xrl xww xwl xlw xll xbw xbl 1 nw nl xid xep 1 xpr xan xww xwl nw nl [] w1 rfl).mono ?_
  rintro e w2 ⟨vn, rfl, hRn, hb2⟩
  obtain ⟨An, cn, rfl⟩ := Kd.R_slice hRn
  have HB2 := Aside0.mk (below_step HB1.out hb2)
  have HB12 := Aside0.mk hb2
  have HRN := Aside0.mk hRn
  have HS2 := Aside0.mk (show W.heap.size + 4 ≤ w2.heap.size from by have h1 := hb2.size; have h2 := HS1.out; omega)
  clear hb2 hRn HB1
  simp only [List.length_nil]
  go_wp2_with (((with_reducible refine gate_dst (N := 18) rfl ?_); (generalize hw3 : World.alloc w2 _ = w3; have hn3 : w3.heap[w2.heap.size]? = some (.cells #[.int .i64 xid, .int .i64 xep, .int .i64 1, .int .i64 xpr, .string xan, .int .i64 xww, .int .i64 xwl, .int .i64 nw, .int .i64 nl, .slice An 0 cn] 27 (0, 0)) := (by rw [← hw3]; exact blk_new w2 _); have hb23 : Below w2.heap.size w2 w3 := (by rw [← hw3]; exact below_alloc (Below.refl _ _) _); have HN3 := Aside0.mk hn3; have HB3 := Aside0.mk (below_step HB2.out hb23); have h13 := blk_below (blk_below H1.out HB12.out) hb23; have h23 := blk_below (blk_below H2.out HB12.out) hb23; have H33 := Aside0.mk (blk_below (blk_below H3.out HB12.out) hb23); have H43 := Aside0.mk (blk_below (blk_below H4.out HB12.out) hb23); have HX3 := Aside0.mk h23; obtain ⟨c0, c1, c2, c3, c4, c5, c6, c7, c8, c9⟩ := cells10 h13; have x0 : w3.cell? ⟨W.heap.size + 1, 0, none⟩ = some (.int .i64 xid) := (blk_cell h23 0).trans rfl; have x3 : w3.cell? ⟨W.heap.size + 1, 3, none⟩ = some (.string xan) := (blk_cell h23 3).trans rfl; have HRN3 := Aside0.mk (Kd.R_below HRN.out hb23); have HS3 := Aside0.mk (show w2.heap.size < w3.heap.size from (by rw [← hw3]; simp)); clear hw3 hn3 hb23 h13 h23 H1 H2 H3 H4 HB12 HRN; generalize w2.heap.size = N at *)))
  have HO3 := H43
  have HD3 := H33
  have HRN3 := HRN3
  have HNE := Aside0.mk (show W.heap.size + 1 + 1 + 1 ≠ N from by have := HS2.out; omega)
  have HX3 := HX3
  clear c0 c1 c2 c3 c4 c5 c6 c7 c8 c9 x0 x3
  refine (HST.out w3 HB3.out).mono ?_
  rintro e w4 ⟨g, v, rfl, hg, hge, hRv, hb⟩
  obtain ⟨Av, cv, rfl⟩ := Kd.R_slice hRv
  have HG4 := Aside0.mk hg
  have HGE := Aside0.mk (show N < g from by have := HS3.out; omega)
  have HRV4 := Aside0.mk (show Kd.R k44 44 w4 W.heap.size (fun b => b ≠ g ∧ b ≠ W.heap.size + 1 + 1 + 1) (.slice Av l.length cv) l from Kd.R_lower (Kd.R_mono (Kd.R_bound hRv) (fun b hb => ⟨hb.1, by have h1 := hb.2.1; have h2 := HS2.out; have h3 := HS3.out; show b ≠ W.heap.size + 1 + 1 + 1; omega⟩)) (HB3.out.size))
  have HN4 := Aside0.mk (blk_below HN3.out hb)
  have HO4 := Aside0.mk (blk_below HO3.out hb)
  have HD4 := Aside0.mk (blk_below HD3.out hb)
  have HX4 := Aside0.mk (blk_below HX3.out hb)
  have HB4 := Aside0.mk (below_step HB3.out hb)
  have HRN4 := Aside0.mk (Kd.R_below HRN3.out hb)
  clear hb
  clear hg hge hRv
  obtain ⟨n0, n1, n2, n3, n4, n5, n6, n7, n8, n9⟩ := cells10 HN4.out
  go_wp2_with fail
  refine (cell_CheckRecord.calls k xid xep 1 xpr xan xww xwl nw nl An cn [] 0 w4 (Kd.C_nil' _ _ _) (Nat.zero_le _) HK2.out).mono ?_
  rintro e w5 ⟨rfl, hb⟩
  clear n0 n1 n2 n3 n4 n5 n6 n7 n8 n9 
  have HN5 := Aside0.mk (blk_below HN4.out hb)
  have HO5 := Aside0.mk (blk_below HO4.out hb)
  have HD5 := Aside0.mk (blk_below HD4.out hb)
  have HX5 := Aside0.mk (blk_below HX4.out hb)
  have HG5 := Aside0.mk (blk_below HG4.out hb)
  have HB5 := Aside0.mk (below_step HB4.out hb)
  have HRN5 := Aside0.mk (Kd.R_below HRN4.out hb)
  have HRV5 := Aside0.mk (Kd.R_below HRV4.out hb)
  clear hb
  obtain ⟨u0, u1, u2, u3, u4, u5, u6, u7, u8, u9⟩ := cells10 HG5.out
  go_wp2_with fail
  refine (status_at g st w5 u2).mono ?_
  rintro e w6 ⟨rfl, hb⟩
  clear u0 u1 u2 u3 u4 u5 u6 u7 u8 u9 
  have HN6 := Aside0.mk (blk_below HN5.out hb)
  have HO6 := Aside0.mk (blk_below HO5.out hb)
  have HD6 := Aside0.mk (blk_below HD5.out hb)
  have HX6 := Aside0.mk (blk_below HX5.out hb)
  have HG6 := Aside0.mk (blk_below HG5.out hb)
  have HB6 := Aside0.mk (below_step HB5.out hb)
  have HRN6 := Aside0.mk (Kd.R_below HRN5.out hb)
  have HRV6 := Aside0.mk (Kd.R_below HRV5.out hb)
  clear hb
  have ds0 := HS0.out
  have ds3 := HS3b.out
  have ds4 := HS4.out
  obtain ⟨n0, n1, n2, n3, n4, n5, n6, n7, n8, n9⟩ := cells10 HN6.out
  obtain ⟨o0, o1, o2, o3, o4, o5, o6, o7, o8, o9⟩ := cells10 HO6.out
  obtain ⟨fo0, fo1, fo2, fo3, fo4, fo5, fo6, fo7, fo8, fo9⟩ := frozen10 HO6.out
  go_wp2_with fail
  refine bodyPost_ret (results_ct rfl _ _ (W.heap.size + 1 + 1 + 1) 27 #[.int .i64 xid, .int .i64 xep, .int .i64 1, .int .i64 xpr, .string xan, .int .i64 xww, .int .i64 xwl, .int .i64 nw, .int .i64 nl, .slice An 0 cn] (0, 0) _ rfl ?hres Try.underlying27 rfl (by kernel_rfl)) rfl ?_
  case hres => exact (ten_put _ _ _ _ _ _ _ _ _ _ HO6.out)
  exact ⟨.slice An 0 cn, rfl, Kd.R_mono (ok := fun b => b ≠ W.heap.size + 1 + 1 + 1) (ten_far _ _ _ _ _ _ _ _ _ _ (Kd.R_lower (Kd.R_mono (Kd.R_bound HRN6.out) (fun b hb => by have h1 := hb.2.1; have h2 := HS1.out; show b ≠ W.heap.size + 1 + 1 + 1; omega)) (by have := HS1.out; omega)) (fun b hb => hb)) (fun _ _ => trivial), (ten_below _ _ _ _ _ _ _ _ _ _ (HB6.out) (by omega))⟩
set_option maxHeartbeats 16000000 in
set_option maxRecDepth 100000 in
theorem bt_ye (k : Nat) (id ep st pr : Int) (an : ByteArray) (sw sl bw bl : Int) (A : Option Addr) (c : Nat) (l : List S44) (xid xep xpr : Int) (xan : ByteArray) (xrw xrl xww xwl xlw xll xbw xbl nw nl : Int) (W : World) (hr : Kd.C k44 W A l.length l) (hc : l.length ≤ c) (hl : l.length < 1000000000000) (ec : Int) (hec : ec = 0 ∨ ec = 2) (hk : cell_CheckRecord.f k id ep st pr an sw sl bw bl l = some ec) (hok : (decide (ec = 0) && ((id == xid) && (an.toList == xan.toList))) = true) (hk2 : cell_CheckRecord.f k xid xep 1 xpr xan xww xwl nw nl [] = some 0) (q0 : ¬ st = 0) (q1 : ¬ st = 3) (q2 : ¬ st = 4) (q3 : xep < ep) :
    Calls Try.prog 16 #[.agg #[.int .i64 id, .int .i64 ep, .int .i64 st, .int .i64 pr, .string an, .int .i64 sw, .int .i64 sl, .int .i64 bw, .int .i64 bl, .slice A l.length c], .bool true, .agg #[.int .i64 xid, .int .i64 xep, .int .i64 xpr, .string xan, .int .i64 xrw, .int .i64 xrl, .int .i64 xww, .int .i64 xwl, .int .i64 xlw, .int .i64 xll, .int .i64 xbw, .int .i64 xbl], .agg #[.int .i64 nw, .int .i64 nl]] W (recPost id ep st pr an sw sl bw bl l 201 W) := by
  have HS0 := Aside0.mk (show (st == 0) = false from beq_eq_false_iff_ne.mpr (by omega))
  have HS3b := Aside0.mk (show (st == 3) = false from beq_eq_false_iff_ne.mpr (by omega))
  have HS4 := Aside0.mk (show (st == 4) = false from beq_eq_false_iff_ne.mpr (by omega))
  have HE1 := Aside0.mk (show decide (xep < ep) = true from decide_eq_true q3)
  clear q0 q1 q2 q3
  have HST := Aside0.mk (fun (w1 : World) (h1 : Below W.heap.size W w1) => show Calls Try.prog 26 #[.agg #[.int .i64 id, .int .i64 ep, .int .i64 st, .int .i64 pr, .string an, .int .i64 sw, .int .i64 sl, .int .i64 bw, .int .i64 bl, .slice A l.length c], .bool true, .int .i64 xid, .string xan] w1 (standsPost id ep st pr an sw sl bw bl l w1 true) from by have h := stands_yes k id ep st pr an sw sl bw bl A c l xid xan w1 (Kd.C_below hr h1) hc hl ec hec hk; rw [hok] at h; exact h)
  clear hr hc hl hec hk hok
  have HK2 := Aside0.mk hk2
  clear hk2
  go_enter Try.func16, Try.ntmps16
  go_wp2_with fail
  obtain ⟨w1, hw1, h1, h2, h3, h4, hb1, hs1⟩ := four_boxes W (.cells #[.int .i64 id, .int .i64 ep, .int .i64 st, .int .i64 pr, .string an, .int .i64 sw, .int .i64 sl, .int .i64 bw, .int .i64 bl, .slice A l.length c] 27) (.cells #[.int .i64 xid, .int .i64 xep, .int .i64 xpr, .string xan, .int .i64 xrw, .int .i64 xrl, .int .i64 xww, .int .i64 xwl, .int .i64 xlw, .int .i64 xll, .int .i64 xbw, .int .i64 xbl] 31) (.cells #[.int .i64 nw, .int .i64 nl] 24) (.cells #[.int .i64 0, .int .i64 0, .int .i64 0, .int .i64 0, .string ⟨#[]⟩, .int .i64 0, .int .i64 0, .int .i64 0, .int .i64 0, .slice none 0 0] 27)
  rw [hw1]
  have H1 := Aside0.mk h1
  have H2 := Aside0.mk h2
  have H3 := Aside0.mk h3
  have H4 := Aside0.mk h4
  have HB1 := Aside0.mk hb1
  have HS1 := Aside0.mk hs1
  clear hw1 h1 h2 h3 h4 hb1 hs1
  refine (record_of.calls xid xep xpr xan xrw xrl xww xwl xlw xll xbw xbl 1 nw nl xid xep 1 xpr xan xww xwl nw nl [] w1 rfl).mono ?_
  rintro e w2 ⟨vn, rfl, hRn, hb2⟩
  obtain ⟨An, cn, rfl⟩ := Kd.R_slice hRn
  have HB2 := Aside0.mk (below_step HB1.out hb2)
  have HB12 := Aside0.mk hb2
  have HRN := Aside0.mk hRn
  have HS2 := Aside0.mk (show W.heap.size + 4 ≤ w2.heap.size from by have h1 := hb2.size; have h2 := HS1.out; omega)
  clear hb2 hRn HB1
  simp only [List.length_nil]
  go_wp2_with (((with_reducible refine gate_dst (N := 18) rfl ?_); (generalize hw3 : World.alloc w2 _ = w3; have hn3 : w3.heap[w2.heap.size]? = some (.cells #[.int .i64 xid, .int .i64 xep, .int .i64 1, .int .i64 xpr, .string xan, .int .i64 xww, .int .i64 xwl, .int .i64 nw, .int .i64 nl, .slice An 0 cn] 27 (0, 0)) := (by rw [← hw3]; exact blk_new w2 _); have hb23 : Below w2.heap.size w2 w3 := (by rw [← hw3]; exact below_alloc (Below.refl _ _) _); have HN3 := Aside0.mk hn3; have HB3 := Aside0.mk (below_step HB2.out hb23); have h13 := blk_below (blk_below H1.out HB12.out) hb23; have h23 := blk_below (blk_below H2.out HB12.out) hb23; have H33 := Aside0.mk (blk_below (blk_below H3.out HB12.out) hb23); have H43 := Aside0.mk (blk_below (blk_below H4.out HB12.out) hb23); have HX3 := Aside0.mk h23; obtain ⟨c0, c1, c2, c3, c4, c5, c6, c7, c8, c9⟩ := cells10 h13; have x0 : w3.cell? ⟨W.heap.size + 1, 0, none⟩ = some (.int .i64 xid) := (blk_cell h23 0).trans rfl; have x3 : w3.cell? ⟨W.heap.size + 1, 3, none⟩ = some (.string xan) := (blk_cell h23 3).trans rfl; have HRN3 := Aside0.mk (Kd.R_below HRN.out hb23); have HS3 := Aside0.mk (show w2.heap.size < w3.heap.size from (by rw [← hw3]; simp)); clear hw3 hn3 hb23 h13 h23 H1 H2 H3 H4 HB12 HRN; generalize w2.heap.size = N at *)))
  have HO3 := H43
  have HD3 := H33
  have HRN3 := HRN3
  have HNE := Aside0.mk (show W.heap.size + 1 + 1 + 1 ≠ N from by have := HS2.out; omega)
  have HX3 := HX3
  clear c0 c1 c2 c3 c4 c5 c6 c7 c8 c9 x0 x3
  refine (HST.out w3 HB3.out).mono ?_
  rintro e w4 ⟨g, v, rfl, hg, hge, hRv, hb⟩
  obtain ⟨Av, cv, rfl⟩ := Kd.R_slice hRv
  have HG4 := Aside0.mk hg
  have HGE := Aside0.mk (show N < g from by have := HS3.out; omega)
  have HRV4 := Aside0.mk (show Kd.R k44 44 w4 W.heap.size (fun b => b ≠ g ∧ b ≠ W.heap.size + 1 + 1 + 1) (.slice Av l.length cv) l from Kd.R_lower (Kd.R_mono (Kd.R_bound hRv) (fun b hb => ⟨hb.1, by have h1 := hb.2.1; have h2 := HS2.out; have h3 := HS3.out; show b ≠ W.heap.size + 1 + 1 + 1; omega⟩)) (HB3.out.size))
  have HN4 := Aside0.mk (blk_below HN3.out hb)
  have HO4 := Aside0.mk (blk_below HO3.out hb)
  have HD4 := Aside0.mk (blk_below HD3.out hb)
  have HX4 := Aside0.mk (blk_below HX3.out hb)
  have HB4 := Aside0.mk (below_step HB3.out hb)
  have HRN4 := Aside0.mk (Kd.R_below HRN3.out hb)
  clear hb
  clear hg hge hRv
  obtain ⟨n0, n1, n2, n3, n4, n5, n6, n7, n8, n9⟩ := cells10 HN4.out
  go_wp2_with fail
  refine (cell_CheckRecord.calls k xid xep 1 xpr xan xww xwl nw nl An cn [] 0 w4 (Kd.C_nil' _ _ _) (Nat.zero_le _) HK2.out).mono ?_
  rintro e w5 ⟨rfl, hb⟩
  clear n0 n1 n2 n3 n4 n5 n6 n7 n8 n9 
  have HN5 := Aside0.mk (blk_below HN4.out hb)
  have HO5 := Aside0.mk (blk_below HO4.out hb)
  have HD5 := Aside0.mk (blk_below HD4.out hb)
  have HX5 := Aside0.mk (blk_below HX4.out hb)
  have HG5 := Aside0.mk (blk_below HG4.out hb)
  have HB5 := Aside0.mk (below_step HB4.out hb)
  have HRN5 := Aside0.mk (Kd.R_below HRN4.out hb)
  have HRV5 := Aside0.mk (Kd.R_below HRV4.out hb)
  clear hb
  obtain ⟨u0, u1, u2, u3, u4, u5, u6, u7, u8, u9⟩ := cells10 HG5.out
  go_wp2_with fail
  refine (status_at g st w5 u2).mono ?_
  rintro e w6 ⟨rfl, hb⟩
  clear u0 u1 u2 u3 u4 u5 u6 u7 u8 u9 
  have HN6 := Aside0.mk (blk_below HN5.out hb)
  have HO6 := Aside0.mk (blk_below HO5.out hb)
  have HD6 := Aside0.mk (blk_below HD5.out hb)
  have HX6 := Aside0.mk (blk_below HX5.out hb)
  have HG6 := Aside0.mk (blk_below HG5.out hb)
  have HB6 := Aside0.mk (below_step HB5.out hb)
  have HRN6 := Aside0.mk (Kd.R_below HRN5.out hb)
  have HRV6 := Aside0.mk (Kd.R_below HRV5.out hb)
  clear hb
  have ds0 := HS0.out
  have ds3 := HS3b.out
  have ds4 := HS4.out
  obtain ⟨u0, u1, u2, u3, u4, u5, u6, u7, u8, u9⟩ := cells10 HG6.out
  obtain ⟨x0, x1, x2, x3, x4, x5, x6, x7, x8, x9, x10, x11⟩ := cells12 HX6.out
  have de := HE1.out
  go_wp2_with fail
  go_quiet (fail)
  go_wp2_with fail
  clear u0 u1 u2 u3 u4 u5 u6 u7 u8 u9 x0 x1 x2 x3 x4 x5 x6 x7 x8 x9 x10 x11 
  generalize hw_ : World.drewN w6 _ = w7
  have HN7 : Aside0 (w7.heap[N]? = some (.cells #[.int .i64 xid, .int .i64 xep, .int .i64 1, .int .i64 xpr, .string xan, .int .i64 xww, .int .i64 xwl, .int .i64 nw, .int .i64 nl, .slice An 0 cn] 27 (0, 0))) := by rw [← hw_]; exact HN6
  have HO7 : Aside0 (w7.heap[W.heap.size + 1 + 1 + 1]? = some (.cells #[.int .i64 0, .int .i64 0, .int .i64 0, .int .i64 0, .string ⟨#[]⟩, .int .i64 0, .int .i64 0, .int .i64 0, .int .i64 0, .slice none 0 0] 27 (0, 0))) := by rw [← hw_]; exact HO6
  have HD7 : Aside0 (w7.heap[W.heap.size + 1 + 1]? = some (.cells #[.int .i64 nw, .int .i64 nl] 24 (0, 0))) := by rw [← hw_]; exact HD6
  have HX7 : Aside0 (w7.heap[W.heap.size + 1]? = some (.cells #[.int .i64 xid, .int .i64 xep, .int .i64 xpr, .string xan, .int .i64 xrw, .int .i64 xrl, .int .i64 xww, .int .i64 xwl, .int .i64 xlw, .int .i64 xll, .int .i64 xbw, .int .i64 xbl] 31 (0, 0))) := by rw [← hw_]; exact HX6
  have HG7 : Aside0 (w7.heap[g]? = some (.cells #[.int .i64 id, .int .i64 ep, .int .i64 st, .int .i64 pr, .string an, .int .i64 sw, .int .i64 sl, .int .i64 bw, .int .i64 bl, .slice Av l.length cv] 27 (0, 0))) := by rw [← hw_]; exact HG6
  have HB7 : Aside0 (Below W.heap.size W w7) := by rw [← hw_]; exact ⟨pw_below_drewN HB6.out _⟩
  have HRN7 : Aside0 (Kd.R k44 44 w7 w1.heap.size (fun _ => True) (.slice An ([] : List S44).length cn) []) := by rw [← hw_]; exact ⟨Kd.R_drewN HRN6.out _⟩
  have HRV7 : Aside0 (Kd.R k44 44 w7 W.heap.size (fun b => b ≠ g ∧ b ≠ W.heap.size + 1 + 1 + 1) (.slice Av l.length cv) l) := by rw [← hw_]; exact ⟨Kd.R_drewN HRV6.out _⟩
  clear hw_
  refine (stays_at g 201 id ep st pr an sw sl bw bl Av cv l w7 HG7.out).mono ?_
  rintro e w8 ⟨rfl, hb⟩
  have HN8 := Aside0.mk (blk_below HN7.out hb)
  have HO8 := Aside0.mk (blk_below HO7.out hb)
  have HD8 := Aside0.mk (blk_below HD7.out hb)
  have HX8 := Aside0.mk (blk_below HX7.out hb)
  have HG8 := Aside0.mk (blk_below HG7.out hb)
  have HB8 := Aside0.mk (below_step HB7.out hb)
  have HRN8 := Aside0.mk (Kd.R_below HRN7.out hb)
  have HRV8 := Aside0.mk (Kd.R_below HRV7.out hb)
  clear hb
  obtain ⟨o0, o1, o2, o3, o4, o5, o6, o7, o8, o9⟩ := cells10 HO8.out
  obtain ⟨fo0, fo1, fo2, fo3, fo4, fo5, fo6, fo7, fo8, fo9⟩ := frozen10 HO8.out
  go_wp2_with fail
  refine bodyPost_ret (results_ct rfl _ _ (W.heap.size + 1 + 1 + 1) 27 #[.int .i64 id, .int .i64 ep, .int .i64 st, .int .i64 pr, .string an, .int .i64 sw, .int .i64 sl, .int .i64 bw, .int .i64 bl, .slice Av l.length cv] (0, 0) _ rfl ?hres Try.underlying27 rfl (by kernel_rfl)) rfl ?_
  case hres => exact (ten_put _ _ _ _ _ _ _ _ _ _ HO8.out)
  exact ⟨.slice Av l.length cv, rfl, Kd.R_mono (ok := fun b => b ≠ g ∧ b ≠ W.heap.size + 1 + 1 + 1) (ten_far _ _ _ _ _ _ _ _ _ _ (HRV8.out) (fun b hb => hb.2)) (fun _ _ => trivial), (ten_below _ _ _ _ _ _ _ _ _ _ (HB8.out) (by omega))⟩
set_option maxHeartbeats 16000000 in
set_option maxRecDepth 100000 in
theorem bt_yb (k : Nat) (id ep st pr : Int) (an : ByteArray) (sw sl bw bl : Int) (A : Option Addr) (c : Nat) (l : List S44) (xid xep xpr : Int) (xan : ByteArray) (xrw xrl xww xwl xlw xll xbw xbl nw nl : Int) (W : World) (hr : Kd.C k44 W A l.length l) (hc : l.length ≤ c) (hl : l.length < 1000000000000) (ec : Int) (hec : ec = 0 ∨ ec = 2) (hk : cell_CheckRecord.f k id ep st pr an sw sl bw bl l = some ec) (hok : (decide (ec = 0) && ((id == xid) && (an.toList == xan.toList))) = true) (hk2 : cell_CheckRecord.f k xid xep 1 xpr xan xww xwl nw nl [] = some 0) (m : S24) (hm : maxS [⟨bw, bl⟩, ⟨nw, nl⟩] = m) (q0 : ¬ st = 0) (q1 : ¬ st = 3) (q2 : ¬ st = 4) (q3 : xep = ep) :
    Calls Try.prog 16 #[.agg #[.int .i64 id, .int .i64 ep, .int .i64 st, .int .i64 pr, .string an, .int .i64 sw, .int .i64 sl, .int .i64 bw, .int .i64 bl, .slice A l.length c], .bool true, .agg #[.int .i64 xid, .int .i64 xep, .int .i64 xpr, .string xan, .int .i64 xrw, .int .i64 xrl, .int .i64 xww, .int .i64 xwl, .int .i64 xlw, .int .i64 xll, .int .i64 xbw, .int .i64 xbl], .agg #[.int .i64 nw, .int .i64 nl]] W (recPost id ep st pr an sw sl m.f0 m.f1 l 0 W) := by
  have HS0 := Aside0.mk (show (st == 0) = false from beq_eq_false_iff_ne.mpr (by omega))
  have HS3b := Aside0.mk (show (st == 3) = false from beq_eq_false_iff_ne.mpr (by omega))
  have HS4 := Aside0.mk (show (st == 4) = false from beq_eq_false_iff_ne.mpr (by omega))
  have HM := Aside0.mk (show stamp_Max.f [⟨bw, bl⟩, ⟨nw, nl⟩] = some (m.f0, m.f1) from by rw [← hm]; rfl)
  clear hm
  have HE1 := Aside0.mk (show decide (xep < ep) = false from decide_eq_false (by omega))
  have HE2 := Aside0.mk (show decide (ep < xep) = false from decide_eq_false (by omega))
  clear q0 q1 q2 q3
  have HST := Aside0.mk (fun (w1 : World) (h1 : Below W.heap.size W w1) => show Calls Try.prog 26 #[.agg #[.int .i64 id, .int .i64 ep, .int .i64 st, .int .i64 pr, .string an, .int .i64 sw, .int .i64 sl, .int .i64 bw, .int .i64 bl, .slice A l.length c], .bool true, .int .i64 xid, .string xan] w1 (standsPost id ep st pr an sw sl bw bl l w1 true) from by have h := stands_yes k id ep st pr an sw sl bw bl A c l xid xan w1 (Kd.C_below hr h1) hc hl ec hec hk; rw [hok] at h; exact h)
  clear hr hc hl hec hk hok
  have HK2 := Aside0.mk hk2
  clear hk2
  go_enter Try.func16, Try.ntmps16
  go_wp2_with fail
  obtain ⟨w1, hw1, h1, h2, h3, h4, hb1, hs1⟩ := four_boxes W (.cells #[.int .i64 id, .int .i64 ep, .int .i64 st, .int .i64 pr, .string an, .int .i64 sw, .int .i64 sl, .int .i64 bw, .int .i64 bl, .slice A l.length c] 27) (.cells #[.int .i64 xid, .int .i64 xep, .int .i64 xpr, .string xan, .int .i64 xrw, .int .i64 xrl, .int .i64 xww, .int .i64 xwl, .int .i64 xlw, .int .i64 xll, .int .i64 xbw, .int .i64 xbl] 31) (.cells #[.int .i64 nw, .int .i64 nl] 24) (.cells #[.int .i64 0, .int .i64 0, .int .i64 0, .int .i64 0, .string ⟨#[]⟩, .int .i64 0, .int .i64 0, .int .i64 0, .int .i64 0, .slice none 0 0] 27)
  rw [hw1]
  have H1 := Aside0.mk h1
  have H2 := Aside0.mk h2
  have H3 := Aside0.mk h3
  have H4 := Aside0.mk h4
  have HB1 := Aside0.mk hb1
  have HS1 := Aside0.mk hs1
  clear hw1 h1 h2 h3 h4 hb1 hs1
  refine (record_of.calls xid xep xpr xan xrw xrl xww xwl xlw xll xbw xbl 1 nw nl xid xep 1 xpr xan xww xwl nw nl [] w1 rfl).mono ?_
  rintro e w2 ⟨vn, rfl, hRn, hb2⟩
  obtain ⟨An, cn, rfl⟩ := Kd.R_slice hRn
  have HB2 := Aside0.mk (below_step HB1.out hb2)
  have HB12 := Aside0.mk hb2
  have HRN := Aside0.mk hRn
  have HS2 := Aside0.mk (show W.heap.size + 4 ≤ w2.heap.size from by have h1 := hb2.size; have h2 := HS1.out; omega)
  clear hb2 hRn HB1
  simp only [List.length_nil]
  go_wp2_with (((with_reducible refine gate_dst (N := 18) rfl ?_); (generalize hw3 : World.alloc w2 _ = w3; have hn3 : w3.heap[w2.heap.size]? = some (.cells #[.int .i64 xid, .int .i64 xep, .int .i64 1, .int .i64 xpr, .string xan, .int .i64 xww, .int .i64 xwl, .int .i64 nw, .int .i64 nl, .slice An 0 cn] 27 (0, 0)) := (by rw [← hw3]; exact blk_new w2 _); have hb23 : Below w2.heap.size w2 w3 := (by rw [← hw3]; exact below_alloc (Below.refl _ _) _); have HN3 := Aside0.mk hn3; have HB3 := Aside0.mk (below_step HB2.out hb23); have h13 := blk_below (blk_below H1.out HB12.out) hb23; have h23 := blk_below (blk_below H2.out HB12.out) hb23; have H33 := Aside0.mk (blk_below (blk_below H3.out HB12.out) hb23); have H43 := Aside0.mk (blk_below (blk_below H4.out HB12.out) hb23); have HX3 := Aside0.mk h23; obtain ⟨c0, c1, c2, c3, c4, c5, c6, c7, c8, c9⟩ := cells10 h13; have x0 : w3.cell? ⟨W.heap.size + 1, 0, none⟩ = some (.int .i64 xid) := (blk_cell h23 0).trans rfl; have x3 : w3.cell? ⟨W.heap.size + 1, 3, none⟩ = some (.string xan) := (blk_cell h23 3).trans rfl; have HRN3 := Aside0.mk (Kd.R_below HRN.out hb23); have HS3 := Aside0.mk (show w2.heap.size < w3.heap.size from (by rw [← hw3]; simp)); clear hw3 hn3 hb23 h13 h23 H1 H2 H3 H4 HB12 HRN; generalize w2.heap.size = N at *)))
  have HO3 := H43
  have HD3 := H33
  have HRN3 := HRN3
  have HNE := Aside0.mk (show W.heap.size + 1 + 1 + 1 ≠ N from by have := HS2.out; omega)
  have HX3 := HX3
  clear c0 c1 c2 c3 c4 c5 c6 c7 c8 c9 x0 x3
  refine (HST.out w3 HB3.out).mono ?_
  rintro e w4 ⟨g, v, rfl, hg, hge, hRv, hb⟩
  obtain ⟨Av, cv, rfl⟩ := Kd.R_slice hRv
  have HG4 := Aside0.mk hg
  have HGE := Aside0.mk (show N < g from by have := HS3.out; omega)
  have HRV4 := Aside0.mk (show Kd.R k44 44 w4 W.heap.size (fun b => b ≠ g ∧ b ≠ W.heap.size + 1 + 1 + 1) (.slice Av l.length cv) l from Kd.R_lower (Kd.R_mono (Kd.R_bound hRv) (fun b hb => ⟨hb.1, by have h1 := hb.2.1; have h2 := HS2.out; have h3 := HS3.out; show b ≠ W.heap.size + 1 + 1 + 1; omega⟩)) (HB3.out.size))
  have HN4 := Aside0.mk (blk_below HN3.out hb)
  have HO4 := Aside0.mk (blk_below HO3.out hb)
  have HD4 := Aside0.mk (blk_below HD3.out hb)
  have HX4 := Aside0.mk (blk_below HX3.out hb)
  have HB4 := Aside0.mk (below_step HB3.out hb)
  have HRN4 := Aside0.mk (Kd.R_below HRN3.out hb)
  clear hb
  clear hg hge hRv
  obtain ⟨n0, n1, n2, n3, n4, n5, n6, n7, n8, n9⟩ := cells10 HN4.out
  go_wp2_with fail
  refine (cell_CheckRecord.calls k xid xep 1 xpr xan xww xwl nw nl An cn [] 0 w4 (Kd.C_nil' _ _ _) (Nat.zero_le _) HK2.out).mono ?_
  rintro e w5 ⟨rfl, hb⟩
  clear n0 n1 n2 n3 n4 n5 n6 n7 n8 n9 
  have HN5 := Aside0.mk (blk_below HN4.out hb)
  have HO5 := Aside0.mk (blk_below HO4.out hb)
  have HD5 := Aside0.mk (blk_below HD4.out hb)
  have HX5 := Aside0.mk (blk_below HX4.out hb)
  have HG5 := Aside0.mk (blk_below HG4.out hb)
  have HB5 := Aside0.mk (below_step HB4.out hb)
  have HRN5 := Aside0.mk (Kd.R_below HRN4.out hb)
  have HRV5 := Aside0.mk (Kd.R_below HRV4.out hb)
  clear hb
  obtain ⟨u0, u1, u2, u3, u4, u5, u6, u7, u8, u9⟩ := cells10 HG5.out
  go_wp2_with fail
  refine (status_at g st w5 u2).mono ?_
  rintro e w6 ⟨rfl, hb⟩
  clear u0 u1 u2 u3 u4 u5 u6 u7 u8 u9 
  have HN6 := Aside0.mk (blk_below HN5.out hb)
  have HO6 := Aside0.mk (blk_below HO5.out hb)
  have HD6 := Aside0.mk (blk_below HD5.out hb)
  have HX6 := Aside0.mk (blk_below HX5.out hb)
  have HG6 := Aside0.mk (blk_below HG5.out hb)
  have HB6 := Aside0.mk (below_step HB5.out hb)
  have HRN6 := Aside0.mk (Kd.R_below HRN5.out hb)
  have HRV6 := Aside0.mk (Kd.R_below HRV5.out hb)
  clear hb
  have ds0 := HS0.out
  have ds3 := HS3b.out
  have ds4 := HS4.out
  obtain ⟨u0, u1, u2, u3, u4, u5, u6, u7, u8, u9⟩ := cells10 HG6.out
  obtain ⟨x0, x1, x2, x3, x4, x5, x6, x7, x8, x9, x10, x11⟩ := cells12 HX6.out
  have de := HE1.out
  have de2 := HE2.out
  go_wp2_with fail
  go_quiet (fail)
  go_wp2_with fail
  go_quiet (fail)
  go_wp2_with fail
  clear u0 u1 u2 u3 u4 u5 u6 u7 u8 u9 x0 x1 x2 x3 x4 x5 x6 x7 x8 x9 x10 x11 
  generalize hw_ : World.drewN (World.drewN w6 _) _ = w7
  have HN7 : Aside0 (w7.heap[N]? = some (.cells #[.int .i64 xid, .int .i64 xep, .int .i64 1, .int .i64 xpr, .string xan, .int .i64 xww, .int .i64 xwl, .int .i64 nw, .int .i64 nl, .slice An 0 cn] 27 (0, 0))) := by rw [← hw_]; exact HN6
  have HO7 : Aside0 (w7.heap[W.heap.size + 1 + 1 + 1]? = some (.cells #[.int .i64 0, .int .i64 0, .int .i64 0, .int .i64 0, .string ⟨#[]⟩, .int .i64 0, .int .i64 0, .int .i64 0, .int .i64 0, .slice none 0 0] 27 (0, 0))) := by rw [← hw_]; exact HO6
  have HD7 : Aside0 (w7.heap[W.heap.size + 1 + 1]? = some (.cells #[.int .i64 nw, .int .i64 nl] 24 (0, 0))) := by rw [← hw_]; exact HD6
  have HX7 : Aside0 (w7.heap[W.heap.size + 1]? = some (.cells #[.int .i64 xid, .int .i64 xep, .int .i64 xpr, .string xan, .int .i64 xrw, .int .i64 xrl, .int .i64 xww, .int .i64 xwl, .int .i64 xlw, .int .i64 xll, .int .i64 xbw, .int .i64 xbl] 31 (0, 0))) := by rw [← hw_]; exact HX6
  have HG7 : Aside0 (w7.heap[g]? = some (.cells #[.int .i64 id, .int .i64 ep, .int .i64 st, .int .i64 pr, .string an, .int .i64 sw, .int .i64 sl, .int .i64 bw, .int .i64 bl, .slice Av l.length cv] 27 (0, 0))) := by rw [← hw_]; exact HG6
  have HB7 : Aside0 (Below W.heap.size W w7) := by rw [← hw_]; exact ⟨pw_below_drewN (pw_below_drewN HB6.out _) _⟩
  have HRN7 : Aside0 (Kd.R k44 44 w7 w1.heap.size (fun _ => True) (.slice An ([] : List S44).length cn) []) := by rw [← hw_]; exact ⟨Kd.R_drewN (Kd.R_drewN HRN6.out _) _⟩
  have HRV7 : Aside0 (Kd.R k44 44 w7 W.heap.size (fun b => b ≠ g ∧ b ≠ W.heap.size + 1 + 1 + 1) (.slice Av l.length cv) l) := by rw [← hw_]; exact ⟨Kd.R_drewN (Kd.R_drewN HRV6.out _) _⟩
  clear hw_
  obtain ⟨u0, u1, u2, u3, u4, u5, u6, u7, u8, u9⟩ := cells10 HG7.out
  obtain ⟨d0, d1⟩ := cells2 HD7.out
  go_region_with (go_at_call 31; refine (stamp_Max.calls _ 2 [⟨bw, bl⟩, ⟨nw, nl⟩] m.f0 m.f1 _ (pair_C w7.drew _ _ _ _) (Nat.le_refl _) HM.out).mono ?_; rintro e w8 ⟨rfl, hb8⟩; have HB78 := Aside0.mk (below_step (below_alloc (below_drew1 (Below.refl w7.heap.size w7)) _) hb8); have HG8 := Aside0.mk (blk_below HG7.out HB78.out); have v7 : w8.cell? ⟨g, 7, none⟩ = some (.int .i64 bw) := (blk_cell HG8.out 7).trans rfl; have v8 : w8.cell? ⟨g, 8, none⟩ = some (.int .i64 bl) := (blk_cell HG8.out 8).trans rfl; have fv7 := blk_frozen HG8.out 7; have fv8 := blk_frozen HG8.out 8; clear hb8)
  all_goals (
    obtain ⟨w9, hw9⟩ : ∃ V, (w8.setCell ⟨g, 7, none⟩ (.int .i64 m.f0)).setCell ⟨g, 8, none⟩ (.int .i64 m.f1) = V := ⟨_, rfl⟩
    have HG9 : Aside0 (w9.heap[g]? = some (.cells #[.int .i64 id, .int .i64 ep, .int .i64 st, .int .i64 pr, .string an, .int .i64 sw, .int .i64 sl, .int .i64 m.f0, .int .i64 m.f1, .slice Av l.length cv] 27 (0, 0))) := ⟨by rw [← hw9]; exact blk_put (cs := #[.int .i64 id, .int .i64 ep, .int .i64 st, .int .i64 pr, .string an, .int .i64 sw, .int .i64 sl, .int .i64 m.f0, .int .i64 bl, .slice Av l.length cv]) (blk_put (cs := #[.int .i64 id, .int .i64 ep, .int .i64 st, .int .i64 pr, .string an, .int .i64 sw, .int .i64 sl, .int .i64 bw, .int .i64 bl, .slice Av l.length cv]) HG8.out 7 _ rfl) 8 _ rfl⟩
    have hgo : W.heap.size + 1 + 1 + 1 ≠ g := by have h1 := HS2.out; have h2 := HGE.out; omega
    have HO9 : Aside0 (w9.heap[W.heap.size + 1 + 1 + 1]? = some (.cells #[.int .i64 0, .int .i64 0, .int .i64 0, .int .i64 0, .string ⟨#[]⟩, .int .i64 0, .int .i64 0, .int .i64 0, .int .i64 0, .slice none 0 0] 27 (0, 0))) := ⟨by rw [← hw9]; exact blk_far (blk_far (blk_below HO7.out HB78.out) hgo _) hgo _⟩
    have HB9 : Aside0 (Below W.heap.size W w9) := ⟨by rw [← hw9]; have h1 := HS2.out; have h2 := HGE.out; exact below_set (below_set (below_step HB7.out HB78.out) (by omega)) (by omega)⟩
    have HRV9 : Aside0 (Kd.R k44 44 w9 W.heap.size (fun b => b ≠ g ∧ b ≠ W.heap.size + 1 + 1 + 1) (.slice Av l.length cv) l) := ⟨by rw [← hw9]; exact Kd.R_far (Kd.R_far (Kd.R_below HRV7.out HB78.out) (fun b hb => hb.1) _) (fun b hb => hb.1) _⟩
    rw [hw9]
    clear hw9 v7 v8 fv7 fv8
    clear u0 u1 u2 u3 u4 u5 u6 u7 u8 u9 d0 d1 
    obtain ⟨o0, o1, o2, o3, o4, o5, o6, o7, o8, o9⟩ := cells10 HO9.out
    obtain ⟨fo0, fo1, fo2, fo3, fo4, fo5, fo6, fo7, fo8, fo9⟩ := frozen10 HO9.out
    obtain ⟨u0, u1, u2, u3, u4, u5, u6, u7, u8, u9⟩ := cells10 HG9.out
    go_wp2_with fail
    refine bodyPost_ret (results_ct rfl _ _ (W.heap.size + 1 + 1 + 1) 27 #[.int .i64 id, .int .i64 ep, .int .i64 st, .int .i64 pr, .string an, .int .i64 sw, .int .i64 sl, .int .i64 m.f0, .int .i64 m.f1, .slice Av l.length cv] (0, 0) _ rfl ?hres Try.underlying27 rfl (by kernel_rfl)) rfl ?_
    case hres => exact (ten_put _ _ _ _ _ _ _ _ _ _ HO9.out)
    exact ⟨.slice Av l.length cv, rfl, Kd.R_mono (ok := fun b => b ≠ g ∧ b ≠ W.heap.size + 1 + 1 + 1) (ten_far _ _ _ _ _ _ _ _ _ _ (HRV9.out) (fun b hb => hb.2)) (fun _ _ => trivial), (ten_below _ _ _ _ _ _ _ _ _ _ (HB9.out) (by omega))⟩)
set_option maxHeartbeats 16000000 in
set_option maxRecDepth 100000 in
theorem bt_yl (k : Nat) (id ep st pr : Int) (an : ByteArray) (sw sl bw bl : Int) (A : Option Addr) (c : Nat) (l : List S44) (xid xep xpr : Int) (xan : ByteArray) (xrw xrl xww xwl xlw xll xbw xbl nw nl : Int) (W : World) (hr : Kd.C k44 W A l.length l) (hc : l.length ≤ c) (hl : l.length < 1000000000000) (ec : Int) (hec : ec = 0 ∨ ec = 2) (hk : cell_CheckRecord.f k id ep st pr an sw sl bw bl l = some ec) (hok : (decide (ec = 0) && ((id == xid) && (an.toList == xan.toList))) = true) (hk2 : cell_CheckRecord.f k xid xep 1 xpr xan xww xwl nw nl [] = some 0) (m m2 : S24) (hm : maxS [⟨xww, xwl⟩, ⟨sw, sl⟩] = m) (hm2 : maxS [⟨nw, nl⟩, ⟨bw, bl⟩] = m2) (q0 : ¬ st = 0) (q1 : ¬ st = 3) (q2 : ¬ st = 4) (q3 : ep < xep) :
    Calls Try.prog 16 #[.agg #[.int .i64 id, .int .i64 ep, .int .i64 st, .int .i64 pr, .string an, .int .i64 sw, .int .i64 sl, .int .i64 bw, .int .i64 bl, .slice A l.length c], .bool true, .agg #[.int .i64 xid, .int .i64 xep, .int .i64 xpr, .string xan, .int .i64 xrw, .int .i64 xrl, .int .i64 xww, .int .i64 xwl, .int .i64 xlw, .int .i64 xll, .int .i64 xbw, .int .i64 xbl], .agg #[.int .i64 nw, .int .i64 nl]] W (recPost xid xep 1 xpr xan m.f0 m.f1 m2.f0 m2.f1 [] 0 W) := by
  have HS0 := Aside0.mk (show (st == 0) = false from beq_eq_false_iff_ne.mpr (by omega))
  have HS3b := Aside0.mk (show (st == 3) = false from beq_eq_false_iff_ne.mpr (by omega))
  have HS4 := Aside0.mk (show (st == 4) = false from beq_eq_false_iff_ne.mpr (by omega))
  have HM := Aside0.mk (show stamp_Max.f [⟨xww, xwl⟩, ⟨sw, sl⟩] = some (m.f0, m.f1) from by rw [← hm]; rfl)
  have HM2 := Aside0.mk (show stamp_Max.f [⟨nw, nl⟩, ⟨bw, bl⟩] = some (m2.f0, m2.f1) from by rw [← hm2]; rfl)
  clear hm hm2
  have HE1 := Aside0.mk (show decide (xep < ep) = false from decide_eq_false (by omega))
  have HE2 := Aside0.mk (show decide (ep < xep) = true from decide_eq_true (by omega))
  clear q0 q1 q2 q3
  have HST := Aside0.mk (fun (w1 : World) (h1 : Below W.heap.size W w1) => show Calls Try.prog 26 #[.agg #[.int .i64 id, .int .i64 ep, .int .i64 st, .int .i64 pr, .string an, .int .i64 sw, .int .i64 sl, .int .i64 bw, .int .i64 bl, .slice A l.length c], .bool true, .int .i64 xid, .string xan] w1 (standsPost id ep st pr an sw sl bw bl l w1 true) from by have h := stands_yes k id ep st pr an sw sl bw bl A c l xid xan w1 (Kd.C_below hr h1) hc hl ec hec hk; rw [hok] at h; exact h)
  clear hr hc hl hec hk hok
  have HK2 := Aside0.mk hk2
  clear hk2
  go_enter Try.func16, Try.ntmps16
  go_wp2_with fail
  obtain ⟨w1, hw1, h1, h2, h3, h4, hb1, hs1⟩ := four_boxes W (.cells #[.int .i64 id, .int .i64 ep, .int .i64 st, .int .i64 pr, .string an, .int .i64 sw, .int .i64 sl, .int .i64 bw, .int .i64 bl, .slice A l.length c] 27) (.cells #[.int .i64 xid, .int .i64 xep, .int .i64 xpr, .string xan, .int .i64 xrw, .int .i64 xrl, .int .i64 xww, .int .i64 xwl, .int .i64 xlw, .int .i64 xll, .int .i64 xbw, .int .i64 xbl] 31) (.cells #[.int .i64 nw, .int .i64 nl] 24) (.cells #[.int .i64 0, .int .i64 0, .int .i64 0, .int .i64 0, .string ⟨#[]⟩, .int .i64 0, .int .i64 0, .int .i64 0, .int .i64 0, .slice none 0 0] 27)
  rw [hw1]
  have H1 := Aside0.mk h1
  have H2 := Aside0.mk h2
  have H3 := Aside0.mk h3
  have H4 := Aside0.mk h4
  have HB1 := Aside0.mk hb1
  have HS1 := Aside0.mk hs1
  clear hw1 h1 h2 h3 h4 hb1 hs1
  refine (record_of.calls xid xep xpr xan xrw xrl xww xwl xlw xll xbw xbl 1 nw nl xid xep 1 xpr xan xww xwl nw nl [] w1 rfl).mono ?_
  rintro e w2 ⟨vn, rfl, hRn, hb2⟩
  obtain ⟨An, cn, rfl⟩ := Kd.R_slice hRn
  have HB2 := Aside0.mk (below_step HB1.out hb2)
  have HB12 := Aside0.mk hb2
  have HRN := Aside0.mk hRn
  have HS2 := Aside0.mk (show W.heap.size + 4 ≤ w2.heap.size from by have h1 := hb2.size; have h2 := HS1.out; omega)
  clear hb2 hRn HB1
  simp only [List.length_nil]
  go_wp2_with (((with_reducible refine gate_dst (N := 18) rfl ?_); (generalize hw3 : World.alloc w2 _ = w3; have hn3 : w3.heap[w2.heap.size]? = some (.cells #[.int .i64 xid, .int .i64 xep, .int .i64 1, .int .i64 xpr, .string xan, .int .i64 xww, .int .i64 xwl, .int .i64 nw, .int .i64 nl, .slice An 0 cn] 27 (0, 0)) := (by rw [← hw3]; exact blk_new w2 _); have hb23 : Below w2.heap.size w2 w3 := (by rw [← hw3]; exact below_alloc (Below.refl _ _) _); have HN3 := Aside0.mk hn3; have HB3 := Aside0.mk (below_step HB2.out hb23); have h13 := blk_below (blk_below H1.out HB12.out) hb23; have h23 := blk_below (blk_below H2.out HB12.out) hb23; have H33 := Aside0.mk (blk_below (blk_below H3.out HB12.out) hb23); have H43 := Aside0.mk (blk_below (blk_below H4.out HB12.out) hb23); have HX3 := Aside0.mk h23; obtain ⟨c0, c1, c2, c3, c4, c5, c6, c7, c8, c9⟩ := cells10 h13; have x0 : w3.cell? ⟨W.heap.size + 1, 0, none⟩ = some (.int .i64 xid) := (blk_cell h23 0).trans rfl; have x3 : w3.cell? ⟨W.heap.size + 1, 3, none⟩ = some (.string xan) := (blk_cell h23 3).trans rfl; have HRN3 := Aside0.mk (Kd.R_below HRN.out hb23); have HS3 := Aside0.mk (show w2.heap.size < w3.heap.size from (by rw [← hw3]; simp)); clear hw3 hn3 hb23 h13 h23 H1 H2 H3 H4 HB12 HRN; generalize w2.heap.size = N at *)))
  have HO3 := H43
  have HD3 := H33
  have HRN3 := HRN3
  have HNE := Aside0.mk (show W.heap.size + 1 + 1 + 1 ≠ N from by have := HS2.out; omega)
  have HX3 := HX3
  clear c0 c1 c2 c3 c4 c5 c6 c7 c8 c9 x0 x3
  refine (HST.out w3 HB3.out).mono ?_
  rintro e w4 ⟨g, v, rfl, hg, hge, hRv, hb⟩
  obtain ⟨Av, cv, rfl⟩ := Kd.R_slice hRv
  have HG4 := Aside0.mk hg
  have HGE := Aside0.mk (show N < g from by have := HS3.out; omega)
  have HRV4 := Aside0.mk (show Kd.R k44 44 w4 W.heap.size (fun b => b ≠ g ∧ b ≠ W.heap.size + 1 + 1 + 1) (.slice Av l.length cv) l from Kd.R_lower (Kd.R_mono (Kd.R_bound hRv) (fun b hb => ⟨hb.1, by have h1 := hb.2.1; have h2 := HS2.out; have h3 := HS3.out; show b ≠ W.heap.size + 1 + 1 + 1; omega⟩)) (HB3.out.size))
  have HN4 := Aside0.mk (blk_below HN3.out hb)
  have HO4 := Aside0.mk (blk_below HO3.out hb)
  have HD4 := Aside0.mk (blk_below HD3.out hb)
  have HX4 := Aside0.mk (blk_below HX3.out hb)
  have HB4 := Aside0.mk (below_step HB3.out hb)
  have HRN4 := Aside0.mk (Kd.R_below HRN3.out hb)
  clear hb
  clear hg hge hRv
  obtain ⟨n0, n1, n2, n3, n4, n5, n6, n7, n8, n9⟩ := cells10 HN4.out
  go_wp2_with fail
  refine (cell_CheckRecord.calls k xid xep 1 xpr xan xww xwl nw nl An cn [] 0 w4 (Kd.C_nil' _ _ _) (Nat.zero_le _) HK2.out).mono ?_
  rintro e w5 ⟨rfl, hb⟩
  clear n0 n1 n2 n3 n4 n5 n6 n7 n8 n9 
  have HN5 := Aside0.mk (blk_below HN4.out hb)
  have HO5 := Aside0.mk (blk_below HO4.out hb)
  have HD5 := Aside0.mk (blk_below HD4.out hb)
  have HX5 := Aside0.mk (blk_below HX4.out hb)
  have HG5 := Aside0.mk (blk_below HG4.out hb)
  have HB5 := Aside0.mk (below_step HB4.out hb)
  have HRN5 := Aside0.mk (Kd.R_below HRN4.out hb)
  have HRV5 := Aside0.mk (Kd.R_below HRV4.out hb)
  clear hb
  obtain ⟨u0, u1, u2, u3, u4, u5, u6, u7, u8, u9⟩ := cells10 HG5.out
  go_wp2_with fail
  refine (status_at g st w5 u2).mono ?_
  rintro e w6 ⟨rfl, hb⟩
  clear u0 u1 u2 u3 u4 u5 u6 u7 u8 u9 
  have HN6 := Aside0.mk (blk_below HN5.out hb)
  have HO6 := Aside0.mk (blk_below HO5.out hb)
  have HD6 := Aside0.mk (blk_below HD5.out hb)
  have HX6 := Aside0.mk (blk_below HX5.out hb)
  have HG6 := Aside0.mk (blk_below HG5.out hb)
  have HB6 := Aside0.mk (below_step HB5.out hb)
  have HRN6 := Aside0.mk (Kd.R_below HRN5.out hb)
  have HRV6 := Aside0.mk (Kd.R_below HRV5.out hb)
  clear hb
  have ds0 := HS0.out
  have ds3 := HS3b.out
  have ds4 := HS4.out
  obtain ⟨u0, u1, u2, u3, u4, u5, u6, u7, u8, u9⟩ := cells10 HG6.out
  obtain ⟨x0, x1, x2, x3, x4, x5, x6, x7, x8, x9, x10, x11⟩ := cells12 HX6.out
  have de := HE1.out
  have de2 := HE2.out
  go_wp2_with fail
  go_quiet (fail)
  go_wp2_with fail
  go_quiet (fail)
  go_wp2_with fail
  clear u0 u1 u2 u3 u4 u5 u6 u7 u8 u9 x0 x1 x2 x3 x4 x5 x6 x7 x8 x9 x10 x11 
  generalize hw_ : World.drewN (World.drewN w6 _) _ = w7
  have HN7 : Aside0 (w7.heap[N]? = some (.cells #[.int .i64 xid, .int .i64 xep, .int .i64 1, .int .i64 xpr, .string xan, .int .i64 xww, .int .i64 xwl, .int .i64 nw, .int .i64 nl, .slice An 0 cn] 27 (0, 0))) := by rw [← hw_]; exact HN6
  have HO7 : Aside0 (w7.heap[W.heap.size + 1 + 1 + 1]? = some (.cells #[.int .i64 0, .int .i64 0, .int .i64 0, .int .i64 0, .string ⟨#[]⟩, .int .i64 0, .int .i64 0, .int .i64 0, .int .i64 0, .slice none 0 0] 27 (0, 0))) := by rw [← hw_]; exact HO6
  have HD7 : Aside0 (w7.heap[W.heap.size + 1 + 1]? = some (.cells #[.int .i64 nw, .int .i64 nl] 24 (0, 0))) := by rw [← hw_]; exact HD6
  have HX7 : Aside0 (w7.heap[W.heap.size + 1]? = some (.cells #[.int .i64 xid, .int .i64 xep, .int .i64 xpr, .string xan, .int .i64 xrw, .int .i64 xrl, .int .i64 xww, .int .i64 xwl, .int .i64 xlw, .int .i64 xll, .int .i64 xbw, .int .i64 xbl] 31 (0, 0))) := by rw [← hw_]; exact HX6
  have HG7 : Aside0 (w7.heap[g]? = some (.cells #[.int .i64 id, .int .i64 ep, .int .i64 st, .int .i64 pr, .string an, .int .i64 sw, .int .i64 sl, .int .i64 bw, .int .i64 bl, .slice Av l.length cv] 27 (0, 0))) := by rw [← hw_]; exact HG6
  have HB7 : Aside0 (Below W.heap.size W w7) := by rw [← hw_]; exact ⟨pw_below_drewN (pw_below_drewN HB6.out _) _⟩
  have HRN7 : Aside0 (Kd.R k44 44 w7 w1.heap.size (fun _ => True) (.slice An ([] : List S44).length cn) []) := by rw [← hw_]; exact ⟨Kd.R_drewN (Kd.R_drewN HRN6.out _) _⟩
  have HRV7 : Aside0 (Kd.R k44 44 w7 W.heap.size (fun b => b ≠ g ∧ b ≠ W.heap.size + 1 + 1 + 1) (.slice Av l.length cv) l) := by rw [← hw_]; exact ⟨Kd.R_drewN (Kd.R_drewN HRV6.out _) _⟩
  clear hw_
  obtain ⟨u0, u1, u2, u3, u4, u5, u6, u7, u8, u9⟩ := cells10 HG7.out
  obtain ⟨d0, d1⟩ := cells2 HD7.out
  obtain ⟨n0, n1, n2, n3, n4, n5, n6, n7, n8, n9⟩ := cells10 HN7.out
  have hNg : N ≠ g := Nat.ne_of_lt HGE.out
  have hgN : g ≠ N := Ne.symm hNg
  have hND : N ≠ W.heap.size + 1 + 1 := by have := HS2.out; omega
  have hDN : W.heap.size + 1 + 1 ≠ N := Ne.symm hND
  have hND2 : (N == W.heap.size + 1 + 1) = false := beq_eq_false_iff_ne.mpr hND
  have hNg2 : (N == g) = false := beq_eq_false_iff_ne.mpr hNg
  have hgN2 : (g == N) = false := beq_eq_false_iff_ne.mpr hgN
  have hDN2 : (W.heap.size + 1 + 1 == N) = false := beq_eq_false_iff_ne.mpr hDN
  have n5a : ∀ o, (w7.drew.alloc o).cell? ⟨N, 5, none⟩ = some (.int .i64 xww) := fun o => (blk_cell (blk_alloc (blk_drew HN7.out) o) 5).trans rfl
  have n6a : ∀ o, (w7.drew.alloc o).cell? ⟨N, 6, none⟩ = some (.int .i64 xwl) := fun o => (blk_cell (blk_alloc (blk_drew HN7.out) o) 6).trans rfl
  have n5b : ∀ o, (w7.alloc o).cell? ⟨N, 5, none⟩ = some (.int .i64 xww) := fun o => (blk_cell (blk_alloc HN7.out o) 5).trans rfl
  have n6b : ∀ o, (w7.alloc o).cell? ⟨N, 6, none⟩ = some (.int .i64 xwl) := fun o => (blk_cell (blk_alloc HN7.out o) 6).trans rfl
  refine wp_region_noPanic ?_
  refine wp_region_held_drew (S := (fun V => V.cell? ⟨g, 5, none⟩ = some (.int .i64 sw) ∧ V.cell? ⟨g, 6, none⟩ = some (.int .i64 sl) ∧ V.cell? ⟨g, 7, none⟩ = some (.int .i64 bw) ∧ V.cell? ⟨g, 8, none⟩ = some (.int .i64 bl) ∧ V.cell? ⟨W.heap.size + 1 + 1, 0, none⟩ = some (.int .i64 nw) ∧ V.cell? ⟨W.heap.size + 1 + 1, 1, none⟩ = some (.int .i64 nl))) (by kernel_rfl) (by (try dsimp only); go_keep) (fun hHeld => ?_)
  refine take_l (i := 0) (v := ?_) rfl (by kernel_rfl) (by kernel_rfl) (by kernel_rfl) (fun _ _ _ h => h) (Or.inl ⟨by rfl, ?_⟩) (by assumption) ?_
  rotate_left
  · intro w hSw; (try dsimp only at hSw); go_simp; (try with_reducible rfl)
  (try simp only [Act.put, List.setIfInBounds_toArray, List.set_cons_zero, List.set_cons_succ])
  refine take_l (i := 2) (v := ?_) rfl (by kernel_rfl) (by kernel_rfl) (by kernel_rfl) (fun _ _ _ h => h) (Or.inl ⟨by rfl, ?_⟩) (by assumption) ?_
  rotate_left
  · intro w hSw; (try dsimp only at hSw); go_simp; (try with_reducible rfl)
  (try simp only [Act.put, List.setIfInBounds_toArray, List.set_cons_zero, List.set_cons_succ])
  refine take_l (i := 3) (v := ?_) rfl (by kernel_rfl) (by kernel_rfl) (by kernel_rfl) (fun _ _ _ h => h) (Or.inl ⟨by rfl, ?_⟩) (by assumption) ?_
  rotate_left
  · intro w hSw; (try dsimp only at hSw); go_simp; (try with_reducible rfl)
  (try simp only [Act.put, List.setIfInBounds_toArray, List.set_cons_zero, List.set_cons_succ])
  refine take_l (i := 4) (v := ?_) rfl (by kernel_rfl) (by kernel_rfl) (by kernel_rfl) (fun _ _ _ h => h) (Or.inl ⟨by rfl, ?_⟩) (by assumption) ?_
  rotate_left
  · intro w hSw; (try dsimp only at hSw); go_simp; (try with_reducible rfl)
  (try simp only [Act.put, List.setIfInBounds_toArray, List.set_cons_zero, List.set_cons_succ])
  refine take_l (i := 5) (v := ?_) rfl (by kernel_rfl) (by kernel_rfl) (by kernel_rfl) (fun _ _ _ h => h) (Or.inl ⟨by rfl, ?_⟩) (by assumption) ?_
  rotate_left
  · intro w hSw; (try dsimp only at hSw); go_simp; (try with_reducible rfl)
  (try simp only [Act.put, List.setIfInBounds_toArray, List.set_cons_zero, List.set_cons_succ])
  refine take_l (i := 8) (v := ?_) rfl (by kernel_rfl) (by kernel_rfl) (by kernel_rfl) (fun _ _ _ h => h) (Or.inl ⟨by rfl, ?_⟩) (by assumption) ?_
  rotate_left
  · intro w hSw; (try dsimp only at hSw); go_simp; (try with_reducible rfl)
  (try simp only [Act.put, List.setIfInBounds_toArray, List.set_cons_zero, List.set_cons_succ])
  refine take_l (i := 9) (v := ?_) rfl (by kernel_rfl) (by kernel_rfl) (by kernel_rfl) (fun _ _ _ h => h) (Or.inl ⟨by rfl, ?_⟩) (by assumption) ?_
  rotate_left
  · intro w hSw; (try dsimp only at hSw); go_simp; (try with_reducible rfl)
  (try simp only [Act.put, List.setIfInBounds_toArray, List.set_cons_zero, List.set_cons_succ])
  refine take_l (i := 10) (v := ?_) rfl (by kernel_rfl) (by kernel_rfl) (by kernel_rfl) (fun _ _ _ h => h) (Or.inl ⟨by rfl, ?_⟩) (by assumption) ?_
  rotate_left
  · intro w hSw; (try dsimp only at hSw); go_simp; (try with_reducible rfl)
  (try simp only [Act.put, List.setIfInBounds_toArray, List.set_cons_zero, List.set_cons_succ])
  refine take_l (i := 11) (v := ?_) rfl (by kernel_rfl) (by kernel_rfl) (by kernel_rfl) (fun _ _ _ h => h) (Or.inl ⟨by rfl, ?_⟩) (by assumption) ?_
  rotate_left
  · intro w hSw; (try dsimp only at hSw); go_simp; (try with_reducible rfl)
  (try simp only [Act.put, List.setIfInBounds_toArray, List.set_cons_zero, List.set_cons_succ])
  refine take_l (i := 12) (v := ?_) rfl (by kernel_rfl) (by kernel_rfl) (by kernel_rfl) (fun _ _ _ h => h) (Or.inl ⟨by rfl, ?_⟩) (by assumption) ?_
  rotate_left
  · intro w hSw; (try dsimp only at hSw); go_simp; (try with_reducible rfl)
  (try simp only [Act.put, List.setIfInBounds_toArray, List.set_cons_zero, List.set_cons_succ])
  refine wpAnyH_ready (rs := [1, 13]) (by kernel_rfl) (by simp) (cons_l rfl (fun K hK => ?b1) (cons_l rfl (fun K hK => ?b2) (AllReadyH.nil)))
  case' b1 =>
    go_simp
    refine hK.out _ _ (by (try dsimp only); go_keep) (fun hHeld => ?_)
    clear hK K
    (try simp only [Act.put, List.setIfInBounds_toArray, List.set_cons_zero, List.set_cons_succ])
    refine wpAnyH_ready (rs := [6, 13]) (by kernel_rfl) (by simp) (cons_l rfl (fun K hK => ?b3) (cons_l rfl (fun K hK => ?b4) (AllReadyH.nil)))
    case' b3 =>
      go_simp
      refine hK.out _ _ (by (try dsimp only); go_keep) (fun hHeld => ?_)
      clear hK K
      (try simp only [Act.put, List.setIfInBounds_toArray, List.set_cons_zero, List.set_cons_succ])
      refine wpAnyH_ready (rs := [7, 13]) (by kernel_rfl) (by simp) (cons_l rfl (fun K hK => ?b5) (cons_l rfl (fun K hK => ?b6) (AllReadyH.nil)))
      case' b5 =>
        go_simp
        (go_at_call 31; refine (stamp_Max.calls _ 2 [⟨xww, xwl⟩, ⟨sw, sl⟩] m.f0 m.f1 _ ?c1 (Nat.le_refl _) HM.out).mono ?_; (case c1 => first | exact pair_C _ _ _ _ _ | exact Kd.C_alloc (pair_C _ _ _ _ _) _ | (have h_ := pair_C (w7.drew.alloc (.cells #[.int .i64 nw, .int .i64 nl, .int .i64 bw, .int .i64 bl] 24)) xww xwl sw sl; rw [World.size_alloc] at h_; exact h_)); rintro e w8 ⟨rfl, hb8⟩; have HB78 := Aside0.mk (show Below w7.heap.size w7 w8 from (by first | exact below_step (below_alloc (below_drew1 (Below.refl w7.heap.size w7)) _) hb8 | exact below_step (below_alloc (below_alloc (below_drew1 (Below.refl w7.heap.size w7)) _) _) hb8)); (try (have HC8a := Aside0.mk (Kd.C_below (show Kd.C k24 ((w7.drew.alloc (.cells #[.int .i64 xww, .int .i64 xwl, .int .i64 sw, .int .i64 sl] 24)).alloc (.cells #[.int .i64 nw, .int .i64 nl, .int .i64 bw, .int .i64 bl] 24)) (some ⟨w7.heap.size + 1, 0, none⟩) 2 [⟨nw, nl⟩, ⟨bw, bl⟩] from (by have h_ := pair_C (w7.drew.alloc (.cells #[.int .i64 xww, .int .i64 xwl, .int .i64 sw, .int .i64 sl] 24)) nw nl bw bl; rw [World.size_alloc] at h_; exact h_)) hb8))); (try (have HC8b := Aside0.mk (Kd.C_below (Kd.C_alloc (pair_C w7.drew nw nl bw bl) (.cells #[.int .i64 xww, .int .i64 xwl, .int .i64 sw, .int .i64 sl] 24)) hb8))); have qn5 : w8.cell? ⟨N, 5, none⟩ = some (.int .i64 xww) := pw_cell_below HB78.out n5; have qn6 : w8.cell? ⟨N, 6, none⟩ = some (.int .i64 xwl) := pw_cell_below HB78.out n6; have qu5 : w8.cell? ⟨g, 5, none⟩ = some (.int .i64 sw) := pw_cell_below HB78.out u5; have qu6 : w8.cell? ⟨g, 6, none⟩ = some (.int .i64 sl) := pw_cell_below HB78.out u6; have qu7 : w8.cell? ⟨g, 7, none⟩ = some (.int .i64 bw) := pw_cell_below HB78.out u7; have qu8 : w8.cell? ⟨g, 8, none⟩ = some (.int .i64 bl) := pw_cell_below HB78.out u8; have qd0 : w8.cell? ⟨W.heap.size + 1 + 1, 0, none⟩ = some (.int .i64 nw) := pw_cell_below HB78.out d0; have qd1 : w8.cell? ⟨W.heap.size + 1 + 1, 1, none⟩ = some (.int .i64 nl) := pw_cell_below HB78.out d1; have HN8 := Aside0.mk (blk_below HN7.out HB78.out); clear hb8)
        (try go_wp2_with fail)
        refine hK.out _ _ (by (try dsimp only); go_keep) (fun hHeld => ?_)
        clear hK K
        (try simp only [Act.put, List.setIfInBounds_toArray, List.set_cons_zero, List.set_cons_succ])
        refine take_l (i := 15) (v := ?_) rfl (by kernel_rfl) (by kernel_rfl) (by kernel_rfl) (fun _ _ _ h => h) (Or.inl ⟨by rfl, ?_⟩) (by assumption) ?_
        rotate_left
        · intro w hSw; (try dsimp only at hSw); go_simp; (try with_reducible rfl)
        (try simp only [Act.put, List.setIfInBounds_toArray, List.set_cons_zero, List.set_cons_succ])
        refine wpAnyH_ready (rs := [13]) (by kernel_rfl) (by simp) (cons_l rfl (fun K hK => ?b7) (AllReadyH.nil))
        go_simp
        refine hK.out _ _ (by (try dsimp only); go_keep) (fun hHeld => ?_)
        clear hK K
        (try simp only [Act.put, List.setIfInBounds_toArray, List.set_cons_zero, List.set_cons_succ])
        refine wpAnyH_ready (rs := [14]) (by kernel_rfl) (by simp) (cons_l rfl (fun K hK => ?b8) (AllReadyH.nil))
        go_simp
        (go_at_call 31; refine (stamp_Max.calls _ 2 [⟨nw, nl⟩, ⟨bw, bl⟩] m2.f0 m2.f1 _ ?c2 (Nat.le_refl _) HM2.out).mono ?_; (case c2 => first | exact pair_C _ _ _ _ _ | exact HC8a.out | exact HC8b.out ); rintro e w9 ⟨rfl, hb9⟩; have HB79 := Aside0.mk (show Below w7.heap.size w7 w9 from (by first | exact below_step (below_alloc HB78.out _) hb9 | exact below_step HB78.out hb9)); have HN9 := Aside0.mk (blk_below HN7.out HB79.out); have pn5 : w9.cell? ⟨N, 5, none⟩ = some (.int .i64 xww) := pw_cell_below HB79.out n5; have pn6 : w9.cell? ⟨N, 6, none⟩ = some (.int .i64 xwl) := pw_cell_below HB79.out n6; have pu5 : w9.cell? ⟨g, 5, none⟩ = some (.int .i64 sw) := pw_cell_below HB79.out u5; have pu6 : w9.cell? ⟨g, 6, none⟩ = some (.int .i64 sl) := pw_cell_below HB79.out u6; have pu7 : w9.cell? ⟨g, 7, none⟩ = some (.int .i64 bw) := pw_cell_below HB79.out u7; have pu8 : w9.cell? ⟨g, 8, none⟩ = some (.int .i64 bl) := pw_cell_below HB79.out u8; have pd0 : w9.cell? ⟨W.heap.size + 1 + 1, 0, none⟩ = some (.int .i64 nw) := pw_cell_below HB79.out d0; have pd1 : w9.cell? ⟨W.heap.size + 1 + 1, 1, none⟩ = some (.int .i64 nl) := pw_cell_below HB79.out d1; have pn7 : w9.cell? ⟨N, 7, none⟩ = some (.int .i64 nw) := pw_cell_below HB79.out n7; have pn8 : w9.cell? ⟨N, 8, none⟩ = some (.int .i64 nl) := pw_cell_below HB79.out n8; have fn5 := blk_frozen HN9.out 5; have fn6 := blk_frozen HN9.out 6; have fn7 := blk_frozen HN9.out 7; have fn8 := blk_frozen HN9.out 8; clear hb9)
        (try go_wp2_with fail)
        refine hK.out _ _ (by (try dsimp only); go_keep) (fun hHeld => ?_)
        clear hK K
        (try simp only [Act.put, List.setIfInBounds_toArray, List.set_cons_zero, List.set_cons_succ])
        refine wpAnyH_ready (rs := [16]) (by kernel_rfl) (by simp) (cons_l rfl (fun K hK => ?b9) (AllReadyH.nil))
        go_simp
        refine hK.out _ _ (by (try dsimp only); go_keep) (fun hHeld => ?_)
        clear hK K
        (try simp only [Act.put, List.setIfInBounds_toArray, List.set_cons_zero, List.set_cons_succ])
        refine take_l (i := 17) (v := ?_) rfl (by kernel_rfl) (by kernel_rfl) (by kernel_rfl) (fun _ _ _ h => h) (Or.inl ⟨by rfl, ?_⟩) (by assumption) ?_
        rotate_left
        · intro w hSw; (try dsimp only at hSw); go_simp; (try with_reducible rfl)
        (try simp only [Act.put, List.setIfInBounds_toArray, List.set_cons_zero, List.set_cons_succ])
        refine wpAnyH_ready (rs := [18]) (by kernel_rfl) (by simp) (cons_l rfl (fun K hK => ?b10) (AllReadyH.nil))
        go_simp
        refine hK.out _ _ (by (try dsimp only); go_keep) (fun hHeld => ?_)
        clear hK K
        (try simp only [Act.put, List.setIfInBounds_toArray, List.set_cons_zero, List.set_cons_succ])
        refine wpAnyH_done (by kernel_rfl) ?_ _
      case' b6 =>
        go_simp
        refine hK.out _ _ (by (try dsimp only); go_keep) (fun hHeld => ?_)
        clear hK K
        (try simp only [Act.put, List.setIfInBounds_toArray, List.set_cons_zero, List.set_cons_succ])
        refine wpAnyH_ready (rs := [7]) (by kernel_rfl) (by simp) (cons_l rfl (fun K hK => ?b11) (AllReadyH.nil))
        go_simp
        (go_at_call 31; refine (stamp_Max.calls _ 2 [⟨xww, xwl⟩, ⟨sw, sl⟩] m.f0 m.f1 _ ?c1 (Nat.le_refl _) HM.out).mono ?_; (case c1 => first | exact pair_C _ _ _ _ _ | exact Kd.C_alloc (pair_C _ _ _ _ _) _ | (have h_ := pair_C (w7.drew.alloc (.cells #[.int .i64 nw, .int .i64 nl, .int .i64 bw, .int .i64 bl] 24)) xww xwl sw sl; rw [World.size_alloc] at h_; exact h_)); rintro e w8 ⟨rfl, hb8⟩; have HB78 := Aside0.mk (show Below w7.heap.size w7 w8 from (by first | exact below_step (below_alloc (below_drew1 (Below.refl w7.heap.size w7)) _) hb8 | exact below_step (below_alloc (below_alloc (below_drew1 (Below.refl w7.heap.size w7)) _) _) hb8)); (try (have HC8a := Aside0.mk (Kd.C_below (show Kd.C k24 ((w7.drew.alloc (.cells #[.int .i64 xww, .int .i64 xwl, .int .i64 sw, .int .i64 sl] 24)).alloc (.cells #[.int .i64 nw, .int .i64 nl, .int .i64 bw, .int .i64 bl] 24)) (some ⟨w7.heap.size + 1, 0, none⟩) 2 [⟨nw, nl⟩, ⟨bw, bl⟩] from (by have h_ := pair_C (w7.drew.alloc (.cells #[.int .i64 xww, .int .i64 xwl, .int .i64 sw, .int .i64 sl] 24)) nw nl bw bl; rw [World.size_alloc] at h_; exact h_)) hb8))); (try (have HC8b := Aside0.mk (Kd.C_below (Kd.C_alloc (pair_C w7.drew nw nl bw bl) (.cells #[.int .i64 xww, .int .i64 xwl, .int .i64 sw, .int .i64 sl] 24)) hb8))); have qn5 : w8.cell? ⟨N, 5, none⟩ = some (.int .i64 xww) := pw_cell_below HB78.out n5; have qn6 : w8.cell? ⟨N, 6, none⟩ = some (.int .i64 xwl) := pw_cell_below HB78.out n6; have qu5 : w8.cell? ⟨g, 5, none⟩ = some (.int .i64 sw) := pw_cell_below HB78.out u5; have qu6 : w8.cell? ⟨g, 6, none⟩ = some (.int .i64 sl) := pw_cell_below HB78.out u6; have qu7 : w8.cell? ⟨g, 7, none⟩ = some (.int .i64 bw) := pw_cell_below HB78.out u7; have qu8 : w8.cell? ⟨g, 8, none⟩ = some (.int .i64 bl) := pw_cell_below HB78.out u8; have qd0 : w8.cell? ⟨W.heap.size + 1 + 1, 0, none⟩ = some (.int .i64 nw) := pw_cell_below HB78.out d0; have qd1 : w8.cell? ⟨W.heap.size + 1 + 1, 1, none⟩ = some (.int .i64 nl) := pw_cell_below HB78.out d1; have HN8 := Aside0.mk (blk_below HN7.out HB78.out); clear hb8)
        (try go_wp2_with fail)
        refine hK.out _ _ (by (try dsimp only); go_keep) (fun hHeld => ?_)
        clear hK K
        (try simp only [Act.put, List.setIfInBounds_toArray, List.set_cons_zero, List.set_cons_succ])
        refine take_l (i := 15) (v := ?_) rfl (by kernel_rfl) (by kernel_rfl) (by kernel_rfl) (fun _ _ _ h => h) (Or.inl ⟨by rfl, ?_⟩) (by assumption) ?_
        rotate_left
        · intro w hSw; (try dsimp only at hSw); go_simp; (try with_reducible rfl)
        (try simp only [Act.put, List.setIfInBounds_toArray, List.set_cons_zero, List.set_cons_succ])
        refine wpAnyH_ready (rs := [14]) (by kernel_rfl) (by simp) (cons_l rfl (fun K hK => ?b12) (AllReadyH.nil))
        go_simp
        (go_at_call 31; refine (stamp_Max.calls _ 2 [⟨nw, nl⟩, ⟨bw, bl⟩] m2.f0 m2.f1 _ ?c2 (Nat.le_refl _) HM2.out).mono ?_; (case c2 => first | exact pair_C _ _ _ _ _ | exact HC8a.out | exact HC8b.out ); rintro e w9 ⟨rfl, hb9⟩; have HB79 := Aside0.mk (show Below w7.heap.size w7 w9 from (by first | exact below_step (below_alloc HB78.out _) hb9 | exact below_step HB78.out hb9)); have HN9 := Aside0.mk (blk_below HN7.out HB79.out); have pn5 : w9.cell? ⟨N, 5, none⟩ = some (.int .i64 xww) := pw_cell_below HB79.out n5; have pn6 : w9.cell? ⟨N, 6, none⟩ = some (.int .i64 xwl) := pw_cell_below HB79.out n6; have pu5 : w9.cell? ⟨g, 5, none⟩ = some (.int .i64 sw) := pw_cell_below HB79.out u5; have pu6 : w9.cell? ⟨g, 6, none⟩ = some (.int .i64 sl) := pw_cell_below HB79.out u6; have pu7 : w9.cell? ⟨g, 7, none⟩ = some (.int .i64 bw) := pw_cell_below HB79.out u7; have pu8 : w9.cell? ⟨g, 8, none⟩ = some (.int .i64 bl) := pw_cell_below HB79.out u8; have pd0 : w9.cell? ⟨W.heap.size + 1 + 1, 0, none⟩ = some (.int .i64 nw) := pw_cell_below HB79.out d0; have pd1 : w9.cell? ⟨W.heap.size + 1 + 1, 1, none⟩ = some (.int .i64 nl) := pw_cell_below HB79.out d1; have pn7 : w9.cell? ⟨N, 7, none⟩ = some (.int .i64 nw) := pw_cell_below HB79.out n7; have pn8 : w9.cell? ⟨N, 8, none⟩ = some (.int .i64 nl) := pw_cell_below HB79.out n8; have fn5 := blk_frozen HN9.out 5; have fn6 := blk_frozen HN9.out 6; have fn7 := blk_frozen HN9.out 7; have fn8 := blk_frozen HN9.out 8; clear hb9)
        (try go_wp2_with fail)
        refine hK.out _ _ (by (try dsimp only); go_keep) (fun hHeld => ?_)
        clear hK K
        (try simp only [Act.put, List.setIfInBounds_toArray, List.set_cons_zero, List.set_cons_succ])
        refine wpAnyH_ready (rs := [16]) (by kernel_rfl) (by simp) (cons_l rfl (fun K hK => ?b13) (AllReadyH.nil))
        go_simp
        refine hK.out _ _ (by (try dsimp only); go_keep) (fun hHeld => ?_)
        clear hK K
        (try simp only [Act.put, List.setIfInBounds_toArray, List.set_cons_zero, List.set_cons_succ])
        refine take_l (i := 17) (v := ?_) rfl (by kernel_rfl) (by kernel_rfl) (by kernel_rfl) (fun _ _ _ h => h) (Or.inl ⟨by rfl, ?_⟩) (by assumption) ?_
        rotate_left
        · intro w hSw; (try dsimp only at hSw); go_simp; (try with_reducible rfl)
        (try simp only [Act.put, List.setIfInBounds_toArray, List.set_cons_zero, List.set_cons_succ])
        refine wpAnyH_ready (rs := [18]) (by kernel_rfl) (by simp) (cons_l rfl (fun K hK => ?b14) (AllReadyH.nil))
        go_simp
        refine hK.out _ _ (by (try dsimp only); go_keep) (fun hHeld => ?_)
        clear hK K
        (try simp only [Act.put, List.setIfInBounds_toArray, List.set_cons_zero, List.set_cons_succ])
        refine wpAnyH_done (by kernel_rfl) ?_ _
    case' b4 =>
      go_simp
      refine hK.out _ _ (by (try dsimp only); go_keep) (fun hHeld => ?_)
      clear hK K
      (try simp only [Act.put, List.setIfInBounds_toArray, List.set_cons_zero, List.set_cons_succ])
      refine wpAnyH_ready (rs := [6]) (by kernel_rfl) (by simp) (cons_l rfl (fun K hK => ?b15) (AllReadyH.nil))
      go_simp
      refine hK.out _ _ (by (try dsimp only); go_keep) (fun hHeld => ?_)
      clear hK K
      (try simp only [Act.put, List.setIfInBounds_toArray, List.set_cons_zero, List.set_cons_succ])
      refine wpAnyH_ready (rs := [7]) (by kernel_rfl) (by simp) (cons_l rfl (fun K hK => ?b16) (AllReadyH.nil))
      go_simp
      (go_at_call 31; refine (stamp_Max.calls _ 2 [⟨xww, xwl⟩, ⟨sw, sl⟩] m.f0 m.f1 _ ?c1 (Nat.le_refl _) HM.out).mono ?_; (case c1 => first | exact pair_C _ _ _ _ _ | exact Kd.C_alloc (pair_C _ _ _ _ _) _ | (have h_ := pair_C (w7.drew.alloc (.cells #[.int .i64 nw, .int .i64 nl, .int .i64 bw, .int .i64 bl] 24)) xww xwl sw sl; rw [World.size_alloc] at h_; exact h_)); rintro e w8 ⟨rfl, hb8⟩; have HB78 := Aside0.mk (show Below w7.heap.size w7 w8 from (by first | exact below_step (below_alloc (below_drew1 (Below.refl w7.heap.size w7)) _) hb8 | exact below_step (below_alloc (below_alloc (below_drew1 (Below.refl w7.heap.size w7)) _) _) hb8)); (try (have HC8a := Aside0.mk (Kd.C_below (show Kd.C k24 ((w7.drew.alloc (.cells #[.int .i64 xww, .int .i64 xwl, .int .i64 sw, .int .i64 sl] 24)).alloc (.cells #[.int .i64 nw, .int .i64 nl, .int .i64 bw, .int .i64 bl] 24)) (some ⟨w7.heap.size + 1, 0, none⟩) 2 [⟨nw, nl⟩, ⟨bw, bl⟩] from (by have h_ := pair_C (w7.drew.alloc (.cells #[.int .i64 xww, .int .i64 xwl, .int .i64 sw, .int .i64 sl] 24)) nw nl bw bl; rw [World.size_alloc] at h_; exact h_)) hb8))); (try (have HC8b := Aside0.mk (Kd.C_below (Kd.C_alloc (pair_C w7.drew nw nl bw bl) (.cells #[.int .i64 xww, .int .i64 xwl, .int .i64 sw, .int .i64 sl] 24)) hb8))); have qn5 : w8.cell? ⟨N, 5, none⟩ = some (.int .i64 xww) := pw_cell_below HB78.out n5; have qn6 : w8.cell? ⟨N, 6, none⟩ = some (.int .i64 xwl) := pw_cell_below HB78.out n6; have qu5 : w8.cell? ⟨g, 5, none⟩ = some (.int .i64 sw) := pw_cell_below HB78.out u5; have qu6 : w8.cell? ⟨g, 6, none⟩ = some (.int .i64 sl) := pw_cell_below HB78.out u6; have qu7 : w8.cell? ⟨g, 7, none⟩ = some (.int .i64 bw) := pw_cell_below HB78.out u7; have qu8 : w8.cell? ⟨g, 8, none⟩ = some (.int .i64 bl) := pw_cell_below HB78.out u8; have qd0 : w8.cell? ⟨W.heap.size + 1 + 1, 0, none⟩ = some (.int .i64 nw) := pw_cell_below HB78.out d0; have qd1 : w8.cell? ⟨W.heap.size + 1 + 1, 1, none⟩ = some (.int .i64 nl) := pw_cell_below HB78.out d1; have HN8 := Aside0.mk (blk_below HN7.out HB78.out); clear hb8)
      (try go_wp2_with fail)
      refine hK.out _ _ (by (try dsimp only); go_keep) (fun hHeld => ?_)
      clear hK K
      (try simp only [Act.put, List.setIfInBounds_toArray, List.set_cons_zero, List.set_cons_succ])
      refine take_l (i := 15) (v := ?_) rfl (by kernel_rfl) (by kernel_rfl) (by kernel_rfl) (fun _ _ _ h => h) (Or.inl ⟨by rfl, ?_⟩) (by assumption) ?_
      rotate_left
      · intro w hSw; (try dsimp only at hSw); go_simp; (try with_reducible rfl)
      (try simp only [Act.put, List.setIfInBounds_toArray, List.set_cons_zero, List.set_cons_succ])
      refine wpAnyH_ready (rs := [14]) (by kernel_rfl) (by simp) (cons_l rfl (fun K hK => ?b17) (AllReadyH.nil))
      go_simp
      (go_at_call 31; refine (stamp_Max.calls _ 2 [⟨nw, nl⟩, ⟨bw, bl⟩] m2.f0 m2.f1 _ ?c2 (Nat.le_refl _) HM2.out).mono ?_; (case c2 => first | exact pair_C _ _ _ _ _ | exact HC8a.out | exact HC8b.out ); rintro e w9 ⟨rfl, hb9⟩; have HB79 := Aside0.mk (show Below w7.heap.size w7 w9 from (by first | exact below_step (below_alloc HB78.out _) hb9 | exact below_step HB78.out hb9)); have HN9 := Aside0.mk (blk_below HN7.out HB79.out); have pn5 : w9.cell? ⟨N, 5, none⟩ = some (.int .i64 xww) := pw_cell_below HB79.out n5; have pn6 : w9.cell? ⟨N, 6, none⟩ = some (.int .i64 xwl) := pw_cell_below HB79.out n6; have pu5 : w9.cell? ⟨g, 5, none⟩ = some (.int .i64 sw) := pw_cell_below HB79.out u5; have pu6 : w9.cell? ⟨g, 6, none⟩ = some (.int .i64 sl) := pw_cell_below HB79.out u6; have pu7 : w9.cell? ⟨g, 7, none⟩ = some (.int .i64 bw) := pw_cell_below HB79.out u7; have pu8 : w9.cell? ⟨g, 8, none⟩ = some (.int .i64 bl) := pw_cell_below HB79.out u8; have pd0 : w9.cell? ⟨W.heap.size + 1 + 1, 0, none⟩ = some (.int .i64 nw) := pw_cell_below HB79.out d0; have pd1 : w9.cell? ⟨W.heap.size + 1 + 1, 1, none⟩ = some (.int .i64 nl) := pw_cell_below HB79.out d1; have pn7 : w9.cell? ⟨N, 7, none⟩ = some (.int .i64 nw) := pw_cell_below HB79.out n7; have pn8 : w9.cell? ⟨N, 8, none⟩ = some (.int .i64 nl) := pw_cell_below HB79.out n8; have fn5 := blk_frozen HN9.out 5; have fn6 := blk_frozen HN9.out 6; have fn7 := blk_frozen HN9.out 7; have fn8 := blk_frozen HN9.out 8; clear hb9)
      (try go_wp2_with fail)
      refine hK.out _ _ (by (try dsimp only); go_keep) (fun hHeld => ?_)
      clear hK K
      (try simp only [Act.put, List.setIfInBounds_toArray, List.set_cons_zero, List.set_cons_succ])
      refine wpAnyH_ready (rs := [16]) (by kernel_rfl) (by simp) (cons_l rfl (fun K hK => ?b18) (AllReadyH.nil))
      go_simp
      refine hK.out _ _ (by (try dsimp only); go_keep) (fun hHeld => ?_)
      clear hK K
      (try simp only [Act.put, List.setIfInBounds_toArray, List.set_cons_zero, List.set_cons_succ])
      refine take_l (i := 17) (v := ?_) rfl (by kernel_rfl) (by kernel_rfl) (by kernel_rfl) (fun _ _ _ h => h) (Or.inl ⟨by rfl, ?_⟩) (by assumption) ?_
      rotate_left
      · intro w hSw; (try dsimp only at hSw); go_simp; (try with_reducible rfl)
      (try simp only [Act.put, List.setIfInBounds_toArray, List.set_cons_zero, List.set_cons_succ])
      refine wpAnyH_ready (rs := [18]) (by kernel_rfl) (by simp) (cons_l rfl (fun K hK => ?b19) (AllReadyH.nil))
      go_simp
      refine hK.out _ _ (by (try dsimp only); go_keep) (fun hHeld => ?_)
      clear hK K
      (try simp only [Act.put, List.setIfInBounds_toArray, List.set_cons_zero, List.set_cons_succ])
      refine wpAnyH_done (by kernel_rfl) ?_ _
  case' b2 =>
    go_simp
    refine hK.out _ _ (by (try dsimp only); go_keep) (fun hHeld => ?_)
    clear hK K
    (try simp only [Act.put, List.setIfInBounds_toArray, List.set_cons_zero, List.set_cons_succ])
    refine wpAnyH_ready (rs := [1]) (by kernel_rfl) (by simp) (cons_l rfl (fun K hK => ?b20) (AllReadyH.nil))
    go_simp
    refine hK.out _ _ (by (try dsimp only); go_keep) (fun hHeld => ?_)
    clear hK K
    (try simp only [Act.put, List.setIfInBounds_toArray, List.set_cons_zero, List.set_cons_succ])
    refine wpAnyH_ready (rs := [6]) (by kernel_rfl) (by simp) (cons_l rfl (fun K hK => ?b21) (AllReadyH.nil))
    go_simp
    refine hK.out _ _ (by (try dsimp only); go_keep) (fun hHeld => ?_)
    clear hK K
    (try simp only [Act.put, List.setIfInBounds_toArray, List.set_cons_zero, List.set_cons_succ])
    refine wpAnyH_ready (rs := [7]) (by kernel_rfl) (by simp) (cons_l rfl (fun K hK => ?b22) (AllReadyH.nil))
    go_simp
    (go_at_call 31; refine (stamp_Max.calls _ 2 [⟨xww, xwl⟩, ⟨sw, sl⟩] m.f0 m.f1 _ ?c1 (Nat.le_refl _) HM.out).mono ?_; (case c1 => first | exact pair_C _ _ _ _ _ | exact Kd.C_alloc (pair_C _ _ _ _ _) _ | (have h_ := pair_C (w7.drew.alloc (.cells #[.int .i64 nw, .int .i64 nl, .int .i64 bw, .int .i64 bl] 24)) xww xwl sw sl; rw [World.size_alloc] at h_; exact h_)); rintro e w8 ⟨rfl, hb8⟩; have HB78 := Aside0.mk (show Below w7.heap.size w7 w8 from (by first | exact below_step (below_alloc (below_drew1 (Below.refl w7.heap.size w7)) _) hb8 | exact below_step (below_alloc (below_alloc (below_drew1 (Below.refl w7.heap.size w7)) _) _) hb8)); (try (have HC8a := Aside0.mk (Kd.C_below (show Kd.C k24 ((w7.drew.alloc (.cells #[.int .i64 xww, .int .i64 xwl, .int .i64 sw, .int .i64 sl] 24)).alloc (.cells #[.int .i64 nw, .int .i64 nl, .int .i64 bw, .int .i64 bl] 24)) (some ⟨w7.heap.size + 1, 0, none⟩) 2 [⟨nw, nl⟩, ⟨bw, bl⟩] from (by have h_ := pair_C (w7.drew.alloc (.cells #[.int .i64 xww, .int .i64 xwl, .int .i64 sw, .int .i64 sl] 24)) nw nl bw bl; rw [World.size_alloc] at h_; exact h_)) hb8))); (try (have HC8b := Aside0.mk (Kd.C_below (Kd.C_alloc (pair_C w7.drew nw nl bw bl) (.cells #[.int .i64 xww, .int .i64 xwl, .int .i64 sw, .int .i64 sl] 24)) hb8))); have qn5 : w8.cell? ⟨N, 5, none⟩ = some (.int .i64 xww) := pw_cell_below HB78.out n5; have qn6 : w8.cell? ⟨N, 6, none⟩ = some (.int .i64 xwl) := pw_cell_below HB78.out n6; have qu5 : w8.cell? ⟨g, 5, none⟩ = some (.int .i64 sw) := pw_cell_below HB78.out u5; have qu6 : w8.cell? ⟨g, 6, none⟩ = some (.int .i64 sl) := pw_cell_below HB78.out u6; have qu7 : w8.cell? ⟨g, 7, none⟩ = some (.int .i64 bw) := pw_cell_below HB78.out u7; have qu8 : w8.cell? ⟨g, 8, none⟩ = some (.int .i64 bl) := pw_cell_below HB78.out u8; have qd0 : w8.cell? ⟨W.heap.size + 1 + 1, 0, none⟩ = some (.int .i64 nw) := pw_cell_below HB78.out d0; have qd1 : w8.cell? ⟨W.heap.size + 1 + 1, 1, none⟩ = some (.int .i64 nl) := pw_cell_below HB78.out d1; have HN8 := Aside0.mk (blk_below HN7.out HB78.out); clear hb8)
    (try go_wp2_with fail)
    refine hK.out _ _ (by (try dsimp only); go_keep) (fun hHeld => ?_)
    clear hK K
    (try simp only [Act.put, List.setIfInBounds_toArray, List.set_cons_zero, List.set_cons_succ])
    refine take_l (i := 15) (v := ?_) rfl (by kernel_rfl) (by kernel_rfl) (by kernel_rfl) (fun _ _ _ h => h) (Or.inl ⟨by rfl, ?_⟩) (by assumption) ?_
    rotate_left
    · intro w hSw; (try dsimp only at hSw); go_simp; (try with_reducible rfl)
    (try simp only [Act.put, List.setIfInBounds_toArray, List.set_cons_zero, List.set_cons_succ])
    refine wpAnyH_ready (rs := [14]) (by kernel_rfl) (by simp) (cons_l rfl (fun K hK => ?b23) (AllReadyH.nil))
    go_simp
    (go_at_call 31; refine (stamp_Max.calls _ 2 [⟨nw, nl⟩, ⟨bw, bl⟩] m2.f0 m2.f1 _ ?c2 (Nat.le_refl _) HM2.out).mono ?_; (case c2 => first | exact pair_C _ _ _ _ _ | exact HC8a.out | exact HC8b.out ); rintro e w9 ⟨rfl, hb9⟩; have HB79 := Aside0.mk (show Below w7.heap.size w7 w9 from (by first | exact below_step (below_alloc HB78.out _) hb9 | exact below_step HB78.out hb9)); have HN9 := Aside0.mk (blk_below HN7.out HB79.out); have pn5 : w9.cell? ⟨N, 5, none⟩ = some (.int .i64 xww) := pw_cell_below HB79.out n5; have pn6 : w9.cell? ⟨N, 6, none⟩ = some (.int .i64 xwl) := pw_cell_below HB79.out n6; have pu5 : w9.cell? ⟨g, 5, none⟩ = some (.int .i64 sw) := pw_cell_below HB79.out u5; have pu6 : w9.cell? ⟨g, 6, none⟩ = some (.int .i64 sl) := pw_cell_below HB79.out u6; have pu7 : w9.cell? ⟨g, 7, none⟩ = some (.int .i64 bw) := pw_cell_below HB79.out u7; have pu8 : w9.cell? ⟨g, 8, none⟩ = some (.int .i64 bl) := pw_cell_below HB79.out u8; have pd0 : w9.cell? ⟨W.heap.size + 1 + 1, 0, none⟩ = some (.int .i64 nw) := pw_cell_below HB79.out d0; have pd1 : w9.cell? ⟨W.heap.size + 1 + 1, 1, none⟩ = some (.int .i64 nl) := pw_cell_below HB79.out d1; have pn7 : w9.cell? ⟨N, 7, none⟩ = some (.int .i64 nw) := pw_cell_below HB79.out n7; have pn8 : w9.cell? ⟨N, 8, none⟩ = some (.int .i64 nl) := pw_cell_below HB79.out n8; have fn5 := blk_frozen HN9.out 5; have fn6 := blk_frozen HN9.out 6; have fn7 := blk_frozen HN9.out 7; have fn8 := blk_frozen HN9.out 8; clear hb9)
    (try go_wp2_with fail)
    refine hK.out _ _ (by (try dsimp only); go_keep) (fun hHeld => ?_)
    clear hK K
    (try simp only [Act.put, List.setIfInBounds_toArray, List.set_cons_zero, List.set_cons_succ])
    refine wpAnyH_ready (rs := [16]) (by kernel_rfl) (by simp) (cons_l rfl (fun K hK => ?b24) (AllReadyH.nil))
    go_simp
    refine hK.out _ _ (by (try dsimp only); go_keep) (fun hHeld => ?_)
    clear hK K
    (try simp only [Act.put, List.setIfInBounds_toArray, List.set_cons_zero, List.set_cons_succ])
    refine take_l (i := 17) (v := ?_) rfl (by kernel_rfl) (by kernel_rfl) (by kernel_rfl) (fun _ _ _ h => h) (Or.inl ⟨by rfl, ?_⟩) (by assumption) ?_
    rotate_left
    · intro w hSw; (try dsimp only at hSw); go_simp; (try with_reducible rfl)
    (try simp only [Act.put, List.setIfInBounds_toArray, List.set_cons_zero, List.set_cons_succ])
    refine wpAnyH_ready (rs := [18]) (by kernel_rfl) (by simp) (cons_l rfl (fun K hK => ?b25) (AllReadyH.nil))
    go_simp
    refine hK.out _ _ (by (try dsimp only); go_keep) (fun hHeld => ?_)
    clear hK K
    (try simp only [Act.put, List.setIfInBounds_toArray, List.set_cons_zero, List.set_cons_succ])
    refine wpAnyH_done (by kernel_rfl) ?_ _
  all_goals (refine NoPanic.normal ?_)
  all_goals (
    have hA0 := HN9.out
    have hR0 := Kd.R_below HRN7.out HB79.out
    have hA1 := blk_put (cs := #[.int .i64 xid, .int .i64 xep, .int .i64 1, .int .i64 xpr, .string xan, .int .i64 xww, .int .i64 xwl, .int .i64 nw, .int .i64 nl, .slice An 0 cn]) (cs' := #[.int .i64 xid, .int .i64 xep, .int .i64 1, .int .i64 xpr, .string xan, .int .i64 m.f0, .int .i64 xwl, .int .i64 nw, .int .i64 nl, .slice An 0 cn]) hA0 5 (.int .i64 m.f0) rfl
    have hR1 := Kd.R_set hR0 hA0 (by decide) 5 (.int .i64 m.f0)
    have hA2 := blk_put (cs := #[.int .i64 xid, .int .i64 xep, .int .i64 1, .int .i64 xpr, .string xan, .int .i64 m.f0, .int .i64 xwl, .int .i64 nw, .int .i64 nl, .slice An 0 cn]) (cs' := #[.int .i64 xid, .int .i64 xep, .int .i64 1, .int .i64 xpr, .string xan, .int .i64 m.f0, .int .i64 m.f1, .int .i64 nw, .int .i64 nl, .slice An 0 cn]) hA1 6 (.int .i64 m.f1) rfl
    have hR2 := Kd.R_set hR1 hA1 (by decide) 6 (.int .i64 m.f1)
    have hA3 := blk_put (cs := #[.int .i64 xid, .int .i64 xep, .int .i64 1, .int .i64 xpr, .string xan, .int .i64 m.f0, .int .i64 m.f1, .int .i64 nw, .int .i64 nl, .slice An 0 cn]) (cs' := #[.int .i64 xid, .int .i64 xep, .int .i64 1, .int .i64 xpr, .string xan, .int .i64 m.f0, .int .i64 m.f1, .int .i64 m2.f0, .int .i64 nl, .slice An 0 cn]) hA2 7 (.int .i64 m2.f0) rfl
    have hR3 := Kd.R_set hR2 hA2 (by decide) 7 (.int .i64 m2.f0)
    have hA4 := blk_put (cs := #[.int .i64 xid, .int .i64 xep, .int .i64 1, .int .i64 xpr, .string xan, .int .i64 m.f0, .int .i64 m.f1, .int .i64 m2.f0, .int .i64 nl, .slice An 0 cn]) (cs' := #[.int .i64 xid, .int .i64 xep, .int .i64 1, .int .i64 xpr, .string xan, .int .i64 m.f0, .int .i64 m.f1, .int .i64 m2.f0, .int .i64 m2.f1, .slice An 0 cn]) hA3 8 (.int .i64 m2.f1) rfl
    have hR4 := Kd.R_set hR3 hA3 (by decide) 8 (.int .i64 m2.f1)
    have hno : W.heap.size + 1 + 1 + 1 ≠ N := HNE.out
    have hO4 := blk_far (blk_far (blk_far (blk_far (blk_below HO7.out HB79.out) (p := ⟨N, 5, none⟩) hno (.int .i64 m.f0)) (p := ⟨N, 6, none⟩) hno (.int .i64 m.f1)) (p := ⟨N, 7, none⟩) hno (.int .i64 m2.f0)) (p := ⟨N, 8, none⟩) hno (.int .i64 m2.f1)
    have hB4 : Below W.heap.size W ((((w9.setCell ⟨N, 5, none⟩ (.int .i64 m.f0)).setCell ⟨N, 6, none⟩ (.int .i64 m.f1)).setCell ⟨N, 7, none⟩ (.int .i64 m2.f0)).setCell ⟨N, 8, none⟩ (.int .i64 m2.f1)) := by
      have h1 := HS2.out
      exact below_set (below_set (below_set (below_set (below_step HB7.out HB79.out) (by omega)) (by omega)) (by omega)) (by omega)
    generalize (((w9.setCell ⟨N, 5, none⟩ (.int .i64 m.f0)).setCell ⟨N, 6, none⟩ (.int .i64 m.f1)).setCell ⟨N, 7, none⟩ (.int .i64 m2.f0)).setCell ⟨N, 8, none⟩ (.int .i64 m2.f1) = w10 at hA4 hR4 hO4 hB4 ⊢
    have HN10 := Aside0.mk hA4
    have HO10 := Aside0.mk hO4
    have HB10 := Aside0.mk hB4
    have HRN10 := Aside0.mk hR4
    clear hA0 hA1 hA2 hA3 hA4 hR0 hR1 hR2 hR3 hR4 hO4 hB4 n5a n6a n5b n6b pn5 pn6 pu5 pu6 pu7 pu8 pd0 pd1 pn7 pn8 fn5 fn6 fn7 fn8 qn5 qn6 qu5 qu6 qu7 qu8 qd0 qd1
    clear u0 u1 u2 u3 u4 u5 u6 u7 u8 u9 d0 d1 n0 n1 n2 n3 n4 n5 n6 n7 n8 n9 
    obtain ⟨o0, o1, o2, o3, o4, o5, o6, o7, o8, o9⟩ := cells10 HO10.out
    obtain ⟨fo0, fo1, fo2, fo3, fo4, fo5, fo6, fo7, fo8, fo9⟩ := frozen10 HO10.out
    obtain ⟨n0, n1, n2, n3, n4, n5, n6, n7, n8, n9⟩ := cells10 HN10.out
    go_wp2_with fail
    refine bodyPost_ret (results_ct rfl _ _ (W.heap.size + 1 + 1 + 1) 27 #[.int .i64 xid, .int .i64 xep, .int .i64 1, .int .i64 xpr, .string xan, .int .i64 m.f0, .int .i64 m.f1, .int .i64 m2.f0, .int .i64 m2.f1, .slice An 0 cn] (0, 0) _ rfl ?hres Try.underlying27 rfl (by kernel_rfl)) rfl ?_
    case hres => exact (ten_put _ _ _ _ _ _ _ _ _ _ HO10.out)
    exact ⟨.slice An 0 cn, rfl, Kd.R_mono (ok := fun b => b ≠ W.heap.size + 1 + 1 + 1) (ten_far _ _ _ _ _ _ _ _ _ _ (Kd.R_lower (Kd.R_mono (Kd.R_bound HRN10.out) (fun b hb => by have h1 := hb.2.1; have h2 := HS1.out; show b ≠ W.heap.size + 1 + 1 + 1; omega)) (by have := HS1.out; omega)) (fun b hb => hb)) (fun _ _ => trivial), (ten_below _ _ _ _ _ _ _ _ _ _ (HB10.out) (by omega))⟩)
def record_Beat.f (k : Nat) (id ep st pr : Int) (an : ByteArray) (sw sl bw bl : Int) (l : List S44) (has : Bool) (xid xep xpr : Int) (xan : ByteArray) (xrw xrl xww xwl xlw xll xbw xbl nw nl : Int) : Option (Int × Int × Int × Int × ByteArray × Int × Int × Int × Int × List S44 × Int) :=
  (cell_CheckRecord.f k xid xep 1 xpr xan xww xwl nw nl []).bind fun e2 =>
    if has = true then
      if l.length < 1000000000000 then
        (cell_CheckRecord.f k id ep st pr an sw sl bw bl l).bind fun ec =>
          if (decide (ec = 0) && ((id == xid) && (an.toList == xan.toList))) = true ∧ e2 = 0 then
            if st = 0 then some (xid, xep, 1, xpr, xan, xww, xwl, nw, nl, [], 0)
            else if st = 3 then some (id, ep, st, pr, an, sw, sl, bw, bl, l, 203)
            else if st = 4 then some (id, ep, st, pr, an, sw, sl, bw, bl, l, 200)
            else if xep < ep then some (id, ep, st, pr, an, sw, sl, bw, bl, l, 201)
            else if ep < xep then some (xid, xep, 1, xpr, xan, (maxS [⟨xww, xwl⟩, ⟨sw, sl⟩]).f0, (maxS [⟨xww, xwl⟩, ⟨sw, sl⟩]).f1, (maxS [⟨nw, nl⟩, ⟨bw, bl⟩]).f0, (maxS [⟨nw, nl⟩, ⟨bw, bl⟩]).f1, [], 0)
            else some (id, ep, st, pr, an, sw, sl, (maxS [⟨bw, bl⟩, ⟨nw, nl⟩]).f0, (maxS [⟨bw, bl⟩, ⟨nw, nl⟩]).f1, l, 0)
          else some (0, 0, 0, 0, ⟨#[]⟩, 0, 0, 0, 0, [], 2)
      else none
    else if e2 = 0 then some (xid, xep, 1, xpr, xan, xww, xwl, nw, nl, [], 0) else some (0, 0, 0, 0, ⟨#[]⟩, 0, 0, 0, 0, [], 2)
theorem record_Beat.mono : ∀ a0 a1 a2 a3 a4 a5 a6 a7 a8 a9 b c0 c1 c2 c3 c4 c5 c6 c7 c8 c9 c10 c11 d0 d1 k, LeO (record_Beat.f k a0 a1 a2 a3 a4 a5 a6 a7 a8 a9 b c0 c1 c2 c3 c4 c5 c6 c7 c8 c9 c10 c11 d0 d1) (record_Beat.f (k + 1) a0 a1 a2 a3 a4 a5 a6 a7 a8 a9 b c0 c1 c2 c3 c4 c5 c6 c7 c8 c9 c10 c11 d0 d1) := by
  intros
  unfold record_Beat.f
  exact LeO.bind (cell_CheckRecord.mono _ _ _ _ _ _ _ _ _ _ _) fun _ => LeO.ite (LeO.ite (LeO.bind (cell_CheckRecord.mono _ _ _ _ _ _ _ _ _ _ _) fun _ => LeO.refl _) (LeO.refl _)) (LeO.refl _)
theorem record_Beat.calls (k : Nat) (id ep st pr : Int) (an : ByteArray) (sw sl bw bl : Int) (A : Option Addr) (c : Nat) (l : List S44) (has : Bool) (xid xep xpr : Int) (xan : ByteArray) (xrw xrl xww xwl xlw xll xbw xbl nw nl : Int) (r1 r2 r3 r4 : Int) (r5 : ByteArray) (r6 r7 r8 r9 : Int) (r10 : List S44) (r11 : Int) (w : World) (hr0_9 : Kd.C k44 w A l.length l) (hc0_9 : l.length ≤ c) (h : record_Beat.f k id ep st pr an sw sl bw bl l has xid xep xpr xan xrw xrl xww xwl xlw xll xbw xbl nw nl = some (r1, r2, r3, r4, r5, r6, r7, r8, r9, r10, r11)) :
    Calls Try.prog 16 #[.agg #[.int .i64 id, .int .i64 ep, .int .i64 st, .int .i64 pr, .string an, .int .i64 sw, .int .i64 sl, .int .i64 bw, .int .i64 bl, .slice A l.length c], .bool has, .agg #[.int .i64 xid, .int .i64 xep, .int .i64 xpr, .string xan, .int .i64 xrw, .int .i64 xrl, .int .i64 xww, .int .i64 xwl, .int .i64 xlw, .int .i64 xll, .int .i64 xbw, .int .i64 xbl], .agg #[.int .i64 nw, .int .i64 nl]] w fun e w' => ∃ v9_ : Value, e = .returned (.tuple #[.agg #[.int .i64 r1, .int .i64 r2, .int .i64 r3, .int .i64 r4, .string r5, .int .i64 r6, .int .i64 r7, .int .i64 r8, .int .i64 r9, v9_], .int .i64 r11]) ∧ Kd.R k44 44 w' w.heap.size (fun _ => True) v9_ r10 ∧ Below w.heap.size w w' := by
  show Calls _ _ _ _ (recPost r1 r2 r3 r4 r5 r6 r7 r8 r9 r10 r11 w)
  unfold record_Beat.f at h
  obtain ⟨e2, hk2, h⟩ := Option.bind_eq_some_iff.mp h
  have he2 := check_02 _ _ _ _ _ _ _ _ _ _ _ _ hk2
  cases has with
  | false =>
    rw [if_neg (by simp)] at h
    rcases he2 with rfl | rfl
    · rw [if_pos rfl] at h
      simp only [Option.some.injEq, Prod.mk.injEq] at h
      obtain ⟨rfl, rfl, rfl, rfl, rfl, rfl, rfl, rfl, rfl, rfl, rfl⟩ := h
      exact bt_n0 k id ep st pr an sw sl bw bl A c l xid xep xpr xan xrw xrl xww xwl xlw xll xbw xbl nw nl w hk2
    · rw [if_neg (by simp)] at h
      simp only [Option.some.injEq, Prod.mk.injEq] at h
      obtain ⟨rfl, rfl, rfl, rfl, rfl, rfl, rfl, rfl, rfl, rfl, rfl⟩ := h
      exact bt_n2 k id ep st pr an sw sl bw bl A c l xid xep xpr xan xrw xrl xww xwl xlw xll xbw xbl nw nl w hk2
  | true =>
    rw [if_pos rfl] at h
    by_cases hl : l.length < 1000000000000
    case neg => rw [if_neg hl] at h; exact absurd h (by simp)
    rw [if_pos hl] at h
    obtain ⟨ec, hk, h⟩ := Option.bind_eq_some_iff.mp h
    have hec := check_02 _ _ _ _ _ _ _ _ _ _ _ _ hk
    cases hok : (decide (ec = 0) && ((id == xid) && (an.toList == xan.toList)))
    · rw [if_neg (by rw [hok]; simp)] at h
      simp only [Option.some.injEq, Prod.mk.injEq] at h
      obtain ⟨rfl, rfl, rfl, rfl, rfl, rfl, rfl, rfl, rfl, rfl, rfl⟩ := h
      exact bt_y0 k id ep st pr an sw sl bw bl A c l xid xep xpr xan xrw xrl xww xwl xlw xll xbw xbl nw nl w hr0_9 hc0_9 hl ec hec hk hok
    rcases he2 with rfl | rfl
    case inr =>
      rw [if_neg (by simp)] at h
      simp only [Option.some.injEq, Prod.mk.injEq] at h
      obtain ⟨rfl, rfl, rfl, rfl, rfl, rfl, rfl, rfl, rfl, rfl, rfl⟩ := h
      exact bt_y2 k id ep st pr an sw sl bw bl A c l xid xep xpr xan xrw xrl xww xwl xlw xll xbw xbl nw nl w hr0_9 hc0_9 hl ec hec hk hok hk2
    rw [if_pos ⟨hok, rfl⟩] at h
    by_cases q0 : st = 0
    · rw [if_pos q0] at h
      simp only [Option.some.injEq, Prod.mk.injEq] at h
      obtain ⟨rfl, rfl, rfl, rfl, rfl, rfl, rfl, rfl, rfl, rfl, rfl⟩ := h
      exact bt_y00 k id ep st pr an sw sl bw bl A c l xid xep xpr xan xrw xrl xww xwl xlw xll xbw xbl nw nl w hr0_9 hc0_9 hl ec hec hk hok hk2 q0
    rw [if_neg q0] at h
    by_cases q1 : st = 3
    · rw [if_pos q1] at h
      simp only [Option.some.injEq, Prod.mk.injEq] at h
      obtain ⟨rfl, rfl, rfl, rfl, rfl, rfl, rfl, rfl, rfl, rfl, rfl⟩ := h
      exact bt_y3 k id ep st pr an sw sl bw bl A c l xid xep xpr xan xrw xrl xww xwl xlw xll xbw xbl nw nl w hr0_9 hc0_9 hl ec hec hk hok hk2 q1
    rw [if_neg q1] at h
    by_cases q2 : st = 4
    · rw [if_pos q2] at h
      simp only [Option.some.injEq, Prod.mk.injEq] at h
      obtain ⟨rfl, rfl, rfl, rfl, rfl, rfl, rfl, rfl, rfl, rfl, rfl⟩ := h
      exact bt_y4 k id ep st pr an sw sl bw bl A c l xid xep xpr xan xrw xrl xww xwl xlw xll xbw xbl nw nl w hr0_9 hc0_9 hl ec hec hk hok hk2 q2
    rw [if_neg q2] at h
    by_cases q3 : xep < ep
    · rw [if_pos q3] at h
      simp only [Option.some.injEq, Prod.mk.injEq] at h
      obtain ⟨rfl, rfl, rfl, rfl, rfl, rfl, rfl, rfl, rfl, rfl, rfl⟩ := h
      exact bt_ye k id ep st pr an sw sl bw bl A c l xid xep xpr xan xrw xrl xww xwl xlw xll xbw xbl nw nl w hr0_9 hc0_9 hl ec hec hk hok hk2 q0 q1 q2 q3
    rw [if_neg q3] at h
    by_cases q4 : ep < xep
    · rw [if_pos q4] at h
      simp only [Option.some.injEq, Prod.mk.injEq] at h
      obtain ⟨rfl, rfl, rfl, rfl, rfl, rfl, rfl, rfl, rfl, rfl, rfl⟩ := h
      exact bt_yl k id ep st pr an sw sl bw bl A c l xid xep xpr xan xrw xrl xww xwl xlw xll xbw xbl nw nl w hr0_9 hc0_9 hl ec hec hk hok hk2 _ _ rfl rfl q0 q1 q2 q4
    rw [if_neg q4] at h
    simp only [Option.some.injEq, Prod.mk.injEq] at h
    obtain ⟨rfl, rfl, rfl, rfl, rfl, rfl, rfl, rfl, rfl, rfl, rfl⟩ := h
    exact bt_yb k id ep st pr an sw sl bw bl A c l xid xep xpr xan xrw xrl xww xwl xlw xll xbw xbl nw nl w hr0_9 hc0_9 hl ec hec hk hok hk2 _ rfl q0 q1 q2 (by omega)

end Go.Proofs.Ythdmkacnkdmbiaa.PRecordStaged
