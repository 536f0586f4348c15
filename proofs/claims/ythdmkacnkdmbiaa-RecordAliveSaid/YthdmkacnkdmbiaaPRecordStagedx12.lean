/- Written by xprint.py, a program of these sessions (over the print of the kit, with leaves typed by hand): one Lean function for each Go function, and the proof that the Go code comes to its answers. -/
import Derived.Test.YthdmkacnkdmbiaaPRecordStagedx0
import Derived.Test.YthdmkacnkdmbiaaPRecordStagedx1
import Derived.Test.YthdmkacnkdmbiaaPRecordStagedx3
import Derived.Test.YthdmkacnkdmbiaaPRecordStagedx5
import Derived.Test.YthdmkacnkdmbiaaPRecordStagedx6
import Derived.Test.YthdmkacnkdmbiaaPRecordStagedx7
import Derived.Test.YthdmkacnkdmbiaaPRecordStagedx9
import Derived.Test.YthdmkacnkdmbiaaPRecordStagedx11
namespace Go.Proofs.Ythdmkacnkdmbiaa.PRecordStaged
open Go.RowKit Go.Proofs.YthdmkacnkdmbiaaW.PrintWords Go.Proofs.YthdmkacnkdmbiaaW.PrintLast Go.Proofs.YthdmkacnkdmbiaaW.PrintMore
attribute [local go_sem] max2_int min2_int max_two min_two max_three min_three max_four min_four   -- for this text's walks alone
attribute [local go_sem] str_gtr str_leq str_geq
set_option linter.unusedVariables false
set_option linter.unusedSimpArgs false

/-! ### record_Recover: function 18 (a leaf, by hand) -/
attribute [local go_sem high] eqA24
set_option maxHeartbeats 16000000 in
set_option maxRecDepth 100000 in
theorem rc_no (k : Nat) (id ep st pr : Int) (an : ByteArray) (sw sl bw bl : Int) (A : Option Addr) (c : Nat) (l : List S44) (jid jep jst jpr : Int) (jan : ByteArray) (jsw jsl jbw jbl : Int) (B : Option Addr) (d : Nat) (m : List S44) (cm : Bool) (W : World) (hr : Kd.C k44 W A l.length l) (hc : l.length ≤ c) (hr2 : Kd.C k44 W B m.length m) (hd : m.length ≤ d) :
    Calls Try.prog 18 #[.agg #[.int .i64 id, .int .i64 ep, .int .i64 st, .int .i64 pr, .string an, .int .i64 sw, .int .i64 sl, .int .i64 bw, .int .i64 bl, .slice A l.length c], .bool false, .agg #[.int .i64 jid, .int .i64 jep, .int .i64 jst, .int .i64 jpr, .string jan, .int .i64 jsw, .int .i64 jsl, .int .i64 jbw, .int .i64 jbl, .slice B m.length d], .bool cm] W (recPost 0 0 0 0 ⟨#[]⟩ 0 0 0 0 [] 2 W) := by
  clear hr hc hr2 hd
  go_enter Try.func18, Try.ntmps18
  go_wp2_with fail
  obtain ⟨w1, hw1, h1, h2, h3, hb1, hs1⟩ := three_boxes W (.cells #[.int .i64 id, .int .i64 ep, .int .i64 st, .int .i64 pr, .string an, .int .i64 sw, .int .i64 sl, .int .i64 bw, .int .i64 bl, .slice A l.length c] 27) (.cells #[.int .i64 jid, .int .i64 jep, .int .i64 jst, .int .i64 jpr, .string jan, .int .i64 jsw, .int .i64 jsl, .int .i64 jbw, .int .i64 jbl, .slice B m.length d] 27) (.cells #[.int .i64 0, .int .i64 0, .int .i64 0, .int .i64 0, .string ⟨#[]⟩, .int .i64 0, .int .i64 0, .int .i64 0, .int .i64 0, .slice none 0 0] 27)
  rw [hw1]
  have H1 := Aside0.mk h1
  have H2 := Aside0.mk h2
  have H3 := Aside0.mk h3
  have HB1 := Aside0.mk hb1
  have HS1 := Aside0.mk hs1
  clear hw1 h1 h2 h3 hb1 hs1
  refine (stands_no id ep st pr an sw sl bw bl (.slice A l.length c) jid jan w1).mono ?_
  rintro e w2 ⟨rfl, hb2⟩
  have HB2 := Aside0.mk (below_step HB1.out hb2)
  have K3 := Aside0.mk (blk_below H3.out hb2)
  obtain ⟨z0, z1, z2, z3, z4, z5, z6, z7, z8, z9⟩ := cells10 K3.out
  obtain ⟨fz0, fz1, fz2, fz3, fz4, fz5, fz6, fz7, fz8, fz9⟩ := frozen10 K3.out
  clear hb2
  go_wp2_with fail
  refine bodyPost_ret (results_ct rfl _ _ (W.heap.size + 1 + 1) 27 #[.int .i64 0, .int .i64 0, .int .i64 0, .int .i64 0, .string ⟨#[]⟩, .int .i64 0, .int .i64 0, .int .i64 0, .int .i64 0, .slice none 0 0] (0, 0) _ rfl ?hres Try.underlying27 rfl (by kernel_rfl)) rfl ?_
  case hres => exact (ten_put _ _ _ _ _ _ _ _ _ _ K3.out)
  exact ⟨.slice none 0 0, rfl, Kd.R_nil _ _ _ _ _, (ten_below _ _ _ _ _ _ _ _ _ _ (HB2.out) (by omega))⟩
set_option maxHeartbeats 16000000 in
set_option maxRecDepth 100000 in
theorem rc_bad (k : Nat) (id ep st pr : Int) (an : ByteArray) (sw sl bw bl : Int) (A : Option Addr) (c : Nat) (l : List S44) (jid jep jst jpr : Int) (jan : ByteArray) (jsw jsl jbw jbl : Int) (B : Option Addr) (d : Nat) (m : List S44) (cm : Bool) (W : World) (hr : Kd.C k44 W A l.length l) (hc : l.length ≤ c) (hl : l.length < 1000000000000) (hr2 : Kd.C k44 W B m.length m) (hd : m.length ≤ d) (ec : Int) (hec : ec = 0 ∨ ec = 2) (hk : cell_CheckRecord.f k id ep st pr an sw sl bw bl l = some ec) (hok : (decide (ec = 0) && ((id == jid) && (an.toList == jan.toList))) = false) :
    Calls Try.prog 18 #[.agg #[.int .i64 id, .int .i64 ep, .int .i64 st, .int .i64 pr, .string an, .int .i64 sw, .int .i64 sl, .int .i64 bw, .int .i64 bl, .slice A l.length c], .bool true, .agg #[.int .i64 jid, .int .i64 jep, .int .i64 jst, .int .i64 jpr, .string jan, .int .i64 jsw, .int .i64 jsl, .int .i64 jbw, .int .i64 jbl, .slice B m.length d], .bool cm] W (recPost 0 0 0 0 ⟨#[]⟩ 0 0 0 0 [] 2 W) := by
  have HR := Aside0.mk hr
  have HC := Aside0.mk hc
  have HR2 := Aside0.mk hr2
  have HD := Aside0.mk hd
  have HST := Aside0.mk (fun (w1 : World) (h1 : Below W.heap.size W w1) => show Calls Try.prog 26 #[.agg #[.int .i64 id, .int .i64 ep, .int .i64 st, .int .i64 pr, .string an, .int .i64 sw, .int .i64 sl, .int .i64 bw, .int .i64 bl, .slice A l.length c], .bool true, .int .i64 jid, .string jan] w1 (standsPost id ep st pr an sw sl bw bl l w1 false) from by have h := stands_yes k id ep st pr an sw sl bw bl A c l jid jan w1 (Kd.C_below hr h1) hc hl ec hec hk; rw [hok] at h; exact h)
  clear hr hc hl hr2 hd hec hk hok
  go_enter Try.func18, Try.ntmps18
  go_wp2_with fail
  obtain ⟨w1, hw1, h1, h2, h3, hb1, hs1⟩ := three_boxes W (.cells #[.int .i64 id, .int .i64 ep, .int .i64 st, .int .i64 pr, .string an, .int .i64 sw, .int .i64 sl, .int .i64 bw, .int .i64 bl, .slice A l.length c] 27) (.cells #[.int .i64 jid, .int .i64 jep, .int .i64 jst, .int .i64 jpr, .string jan, .int .i64 jsw, .int .i64 jsl, .int .i64 jbw, .int .i64 jbl, .slice B m.length d] 27) (.cells #[.int .i64 0, .int .i64 0, .int .i64 0, .int .i64 0, .string ⟨#[]⟩, .int .i64 0, .int .i64 0, .int .i64 0, .int .i64 0, .slice none 0 0] 27)
  rw [hw1]
  have H1 := Aside0.mk h1
  have H2 := Aside0.mk h2
  have H3 := Aside0.mk h3
  have HB1 := Aside0.mk hb1
  have HS1 := Aside0.mk hs1
  clear hw1 h1 h2 h3 hb1 hs1
  refine (HST.out w1 HB1.out).mono ?_
  rintro e w2 ⟨g, v, rfl, hg, hge, hRv, hb2⟩
  obtain ⟨Av, cv, rfl⟩ := Kd.R_slice hRv
  have HB2 := Aside0.mk (below_step HB1.out hb2)
  have HG2 := Aside0.mk hg
  have HGE := Aside0.mk (show W.heap.size + 1 + 1 < g from by have := HS1.out; omega)
  have HRV := Aside0.mk (show Kd.R k44 44 w2 W.heap.size (fun b => b ≠ g ∧ b ≠ W.heap.size + 1 + 1) (.slice Av l.length cv) l from Kd.R_lower (Kd.R_mono (Kd.R_bound hRv) (fun b hb => ⟨hb.1, by have h1 := hb.2.1; have h2 := HS1.out; omega⟩)) (by have := HS1.out; omega))
  have K2 := Aside0.mk (blk_below H2.out hb2)
  have K3 := Aside0.mk (blk_below H3.out hb2)
  clear hg hge hRv hb2 H1 H2 H3 HB1
  obtain ⟨z0, z1, z2, z3, z4, z5, z6, z7, z8, z9⟩ := cells10 K3.out
  obtain ⟨fz0, fz1, fz2, fz3, fz4, fz5, fz6, fz7, fz8, fz9⟩ := frozen10 K3.out
  go_wp2_with fail
  refine bodyPost_ret (results_ct rfl _ _ (W.heap.size + 1 + 1) 27 #[.int .i64 0, .int .i64 0, .int .i64 0, .int .i64 0, .string ⟨#[]⟩, .int .i64 0, .int .i64 0, .int .i64 0, .int .i64 0, .slice none 0 0] (0, 0) _ rfl ?hres Try.underlying27 rfl (by kernel_rfl)) rfl ?_
  case hres => exact (ten_put _ _ _ _ _ _ _ _ _ _ K3.out)
  exact ⟨.slice none 0 0, rfl, Kd.R_nil _ _ _ _ _, (ten_below _ _ _ _ _ _ _ _ _ _ (HB2.out) (by omega))⟩
set_option maxHeartbeats 16000000 in
set_option maxRecDepth 100000 in
theorem rc_arg (k : Nat) (id ep st pr : Int) (an : ByteArray) (sw sl bw bl : Int) (A : Option Addr) (c : Nat) (l : List S44) (jid jep jst jpr : Int) (jan : ByteArray) (jsw jsl jbw jbl : Int) (B : Option Addr) (d : Nat) (m : List S44) (cm : Bool) (W : World) (hr : Kd.C k44 W A l.length l) (hc : l.length ≤ c) (hl : l.length < 1000000000000) (hr2 : Kd.C k44 W B m.length m) (hd : m.length ≤ d) (ec : Int) (hec : ec = 0 ∨ ec = 2) (hk : cell_CheckRecord.f k id ep st pr an sw sl bw bl l = some ec) (hok : (decide (ec = 0) && ((id == jid) && (an.toList == jan.toList))) = true) (e2 : Int) (hk2 : cell_CheckRecord.f k jid jep jst jpr jan jsw jsl jbw jbl m = some 2) :
    Calls Try.prog 18 #[.agg #[.int .i64 id, .int .i64 ep, .int .i64 st, .int .i64 pr, .string an, .int .i64 sw, .int .i64 sl, .int .i64 bw, .int .i64 bl, .slice A l.length c], .bool true, .agg #[.int .i64 jid, .int .i64 jep, .int .i64 jst, .int .i64 jpr, .string jan, .int .i64 jsw, .int .i64 jsl, .int .i64 jbw, .int .i64 jbl, .slice B m.length d], .bool cm] W (recPost 0 0 0 0 ⟨#[]⟩ 0 0 0 0 [] 2 W) := by
  have HK2 := Aside0.mk hk2
  clear hk2
  have HR := Aside0.mk hr
  have HC := Aside0.mk hc
  have HR2 := Aside0.mk hr2
  have HD := Aside0.mk hd
  have HST := Aside0.mk (fun (w1 : World) (h1 : Below W.heap.size W w1) => show Calls Try.prog 26 #[.agg #[.int .i64 id, .int .i64 ep, .int .i64 st, .int .i64 pr, .string an, .int .i64 sw, .int .i64 sl, .int .i64 bw, .int .i64 bl, .slice A l.length c], .bool true, .int .i64 jid, .string jan] w1 (standsPost id ep st pr an sw sl bw bl l w1 true) from by have h := stands_yes k id ep st pr an sw sl bw bl A c l jid jan w1 (Kd.C_below hr h1) hc hl ec hec hk; rw [hok] at h; exact h)
  clear hr hc hl hr2 hd hec hk hok
  go_enter Try.func18, Try.ntmps18
  go_wp2_with fail
  obtain ⟨w1, hw1, h1, h2, h3, hb1, hs1⟩ := three_boxes W (.cells #[.int .i64 id, .int .i64 ep, .int .i64 st, .int .i64 pr, .string an, .int .i64 sw, .int .i64 sl, .int .i64 bw, .int .i64 bl, .slice A l.length c] 27) (.cells #[.int .i64 jid, .int .i64 jep, .int .i64 jst, .int .i64 jpr, .string jan, .int .i64 jsw, .int .i64 jsl, .int .i64 jbw, .int .i64 jbl, .slice B m.length d] 27) (.cells #[.int .i64 0, .int .i64 0, .int .i64 0, .int .i64 0, .string ⟨#[]⟩, .int .i64 0, .int .i64 0, .int .i64 0, .int .i64 0, .slice none 0 0] 27)
  rw [hw1]
  have H1 := Aside0.mk h1
  have H2 := Aside0.mk h2
  have H3 := Aside0.mk h3
  have HB1 := Aside0.mk hb1
  have HS1 := Aside0.mk hs1
  clear hw1 h1 h2 h3 hb1 hs1
  refine (HST.out w1 HB1.out).mono ?_
  rintro e w2 ⟨g, v, rfl, hg, hge, hRv, hb2⟩
  obtain ⟨Av, cv, rfl⟩ := Kd.R_slice hRv
  have HB2 := Aside0.mk (below_step HB1.out hb2)
  have HG2 := Aside0.mk hg
  have HGE := Aside0.mk (show W.heap.size + 1 + 1 < g from by have := HS1.out; omega)
  have HRV := Aside0.mk (show Kd.R k44 44 w2 W.heap.size (fun b => b ≠ g ∧ b ≠ W.heap.size + 1 + 1) (.slice Av l.length cv) l from Kd.R_lower (Kd.R_mono (Kd.R_bound hRv) (fun b hb => ⟨hb.1, by have h1 := hb.2.1; have h2 := HS1.out; omega⟩)) (by have := HS1.out; omega))
  have K2 := Aside0.mk (blk_below H2.out hb2)
  have K3 := Aside0.mk (blk_below H3.out hb2)
  clear hg hge hRv hb2 H1 H2 H3 HB1
  obtain ⟨y0, y1, y2, y3, y4, y5, y6, y7, y8, y9⟩ := cells10 K2.out
  go_wp2_with fail
  refine (cell_CheckRecord.calls k jid jep jst jpr jan jsw jsl jbw jbl B d m 2 w2 (Kd.C_below HR2.out HB2.out) HD.out HK2.out).mono ?_
  rintro e w4 ⟨rfl, hb24⟩
  have HB24 := Aside0.mk hb24
  have K24 := Aside0.mk (blk_below K2.out hb24)
  have K4 := Aside0.mk (blk_below K3.out hb24)
  have HG4 := Aside0.mk (blk_below HG2.out hb24)
  have HB4 := Aside0.mk (below_step HB2.out hb24)
  have HRV4 := Aside0.mk (Kd.R_below HRV.out hb24)
  clear hb24 y0 y1 y2 y3 y4 y5 y6 y7 y8 y9
  obtain ⟨z0, z1, z2, z3, z4, z5, z6, z7, z8, z9⟩ := cells10 K4.out
  obtain ⟨fz0, fz1, fz2, fz3, fz4, fz5, fz6, fz7, fz8, fz9⟩ := frozen10 K4.out
  go_wp2_with fail
  refine bodyPost_ret (results_ct rfl _ _ (W.heap.size + 1 + 1) 27 #[.int .i64 0, .int .i64 0, .int .i64 0, .int .i64 0, .string ⟨#[]⟩, .int .i64 0, .int .i64 0, .int .i64 0, .int .i64 0, .slice none 0 0] (0, 0) _ rfl ?hres Try.underlying27 rfl (by kernel_rfl)) rfl ?_
  case hres => exact (ten_put _ _ _ _ _ _ _ _ _ _ K4.out)
  exact ⟨.slice none 0 0, rfl, Kd.R_nil _ _ _ _ _, (ten_below _ _ _ _ _ _ _ _ _ _ (HB4.out) (by omega))⟩
set_option maxHeartbeats 16000000 in
set_option maxRecDepth 100000 in
theorem rc_st (k : Nat) (id ep st pr : Int) (an : ByteArray) (sw sl bw bl : Int) (A : Option Addr) (c : Nat) (l : List S44) (jid jep jst jpr : Int) (jan : ByteArray) (jsw jsl jbw jbl : Int) (B : Option Addr) (d : Nat) (m : List S44) (cm : Bool) (W : World) (hr : Kd.C k44 W A l.length l) (hc : l.length ≤ c) (hl : l.length < 1000000000000) (hr2 : Kd.C k44 W B m.length m) (hd : m.length ≤ d) (ec : Int) (hec : ec = 0 ∨ ec = 2) (hk : cell_CheckRecord.f k id ep st pr an sw sl bw bl l = some ec) (hok : (decide (ec = 0) && ((id == jid) && (an.toList == jan.toList))) = true) (e2 : Int) (hk2 : cell_CheckRecord.f k jid jep jst jpr jan jsw jsl jbw jbl m = some 0) (q : ¬ jst = 2) :
    Calls Try.prog 18 #[.agg #[.int .i64 id, .int .i64 ep, .int .i64 st, .int .i64 pr, .string an, .int .i64 sw, .int .i64 sl, .int .i64 bw, .int .i64 bl, .slice A l.length c], .bool true, .agg #[.int .i64 jid, .int .i64 jep, .int .i64 jst, .int .i64 jpr, .string jan, .int .i64 jsw, .int .i64 jsl, .int .i64 jbw, .int .i64 jbl, .slice B m.length d], .bool cm] W (recPost 0 0 0 0 ⟨#[]⟩ 0 0 0 0 [] 2 W) := by
  have HK2 := Aside0.mk hk2
  clear hk2
  have HQ := Aside0.mk q
  clear q
  have HR := Aside0.mk hr
  have HC := Aside0.mk hc
  have HR2 := Aside0.mk hr2
  have HD := Aside0.mk hd
  have HST := Aside0.mk (fun (w1 : World) (h1 : Below W.heap.size W w1) => show Calls Try.prog 26 #[.agg #[.int .i64 id, .int .i64 ep, .int .i64 st, .int .i64 pr, .string an, .int .i64 sw, .int .i64 sl, .int .i64 bw, .int .i64 bl, .slice A l.length c], .bool true, .int .i64 jid, .string jan] w1 (standsPost id ep st pr an sw sl bw bl l w1 true) from by have h := stands_yes k id ep st pr an sw sl bw bl A c l jid jan w1 (Kd.C_below hr h1) hc hl ec hec hk; rw [hok] at h; exact h)
  clear hr hc hl hr2 hd hec hk hok
  go_enter Try.func18, Try.ntmps18
  go_wp2_with fail
  obtain ⟨w1, hw1, h1, h2, h3, hb1, hs1⟩ := three_boxes W (.cells #[.int .i64 id, .int .i64 ep, .int .i64 st, .int .i64 pr, .string an, .int .i64 sw, .int .i64 sl, .int .i64 bw, .int .i64 bl, .slice A l.length c] 27) (.cells #[.int .i64 jid, .int .i64 jep, .int .i64 jst, .int .i64 jpr, .string jan, .int .i64 jsw, .int .i64 jsl, .int .i64 jbw, .int .i64 jbl, .slice B m.length d] 27) (.cells #[.int .i64 0, .int .i64 0, .int .i64 0, .int .i64 0, .string ⟨#[]⟩, .int .i64 0, .int .i64 0, .int .i64 0, .int .i64 0, .slice none 0 0] 27)
  rw [hw1]
  have H1 := Aside0.mk h1
  have H2 := Aside0.mk h2
  have H3 := Aside0.mk h3
  have HB1 := Aside0.mk hb1
  have HS1 := Aside0.mk hs1
  clear hw1 h1 h2 h3 hb1 hs1
  refine (HST.out w1 HB1.out).mono ?_
  rintro e w2 ⟨g, v, rfl, hg, hge, hRv, hb2⟩
  obtain ⟨Av, cv, rfl⟩ := Kd.R_slice hRv
  have HB2 := Aside0.mk (below_step HB1.out hb2)
  have HG2 := Aside0.mk hg
  have HGE := Aside0.mk (show W.heap.size + 1 + 1 < g from by have := HS1.out; omega)
  have HRV := Aside0.mk (show Kd.R k44 44 w2 W.heap.size (fun b => b ≠ g ∧ b ≠ W.heap.size + 1 + 1) (.slice Av l.length cv) l from Kd.R_lower (Kd.R_mono (Kd.R_bound hRv) (fun b hb => ⟨hb.1, by have h1 := hb.2.1; have h2 := HS1.out; omega⟩)) (by have := HS1.out; omega))
  have K2 := Aside0.mk (blk_below H2.out hb2)
  have K3 := Aside0.mk (blk_below H3.out hb2)
  clear hg hge hRv hb2 H1 H2 H3 HB1
  obtain ⟨y0, y1, y2, y3, y4, y5, y6, y7, y8, y9⟩ := cells10 K2.out
  go_wp2_with fail
  refine (cell_CheckRecord.calls k jid jep jst jpr jan jsw jsl jbw jbl B d m 0 w2 (Kd.C_below HR2.out HB2.out) HD.out HK2.out).mono ?_
  rintro e w4 ⟨rfl, hb24⟩
  have HB24 := Aside0.mk hb24
  have K24 := Aside0.mk (blk_below K2.out hb24)
  have K4 := Aside0.mk (blk_below K3.out hb24)
  have HG4 := Aside0.mk (blk_below HG2.out hb24)
  have HB4 := Aside0.mk (below_step HB2.out hb24)
  have HRV4 := Aside0.mk (Kd.R_below HRV.out hb24)
  clear hb24 y0 y1 y2 y3 y4 y5 y6 y7 y8 y9
  obtain ⟨z0, z1, z2, z3, z4, z5, z6, z7, z8, z9⟩ := cells10 K4.out
  obtain ⟨fz0, fz1, fz2, fz3, fz4, fz5, fz6, fz7, fz8, fz9⟩ := frozen10 K4.out
  have x1 : w4.cell? ⟨W.heap.size + 1, 1, none⟩ = some (.int .i64 jep) := (blk_cell K24.out 1).trans rfl
  have x2 : w4.cell? ⟨W.heap.size + 1, 2, none⟩ = some (.int .i64 jst) := (blk_cell K24.out 2).trans rfl
  have x5 : w4.cell? ⟨W.heap.size + 1, 5, none⟩ = some (.int .i64 jsw) := (blk_cell K24.out 5).trans rfl
  have x6 : w4.cell? ⟨W.heap.size + 1, 6, none⟩ = some (.int .i64 jsl) := (blk_cell K24.out 6).trans rfl
  have d1 : (jst != 2) = true := bne_iff_ne.mpr HQ.out
  have d2 : (jst == 2) = false := beq_eq_false_iff_ne.mpr HQ.out
  go_wp2_with fail
  refine bodyPost_ret (results_ct rfl _ _ (W.heap.size + 1 + 1) 27 #[.int .i64 0, .int .i64 0, .int .i64 0, .int .i64 0, .string ⟨#[]⟩, .int .i64 0, .int .i64 0, .int .i64 0, .int .i64 0, .slice none 0 0] (0, 0) _ rfl ?hres Try.underlying27 rfl (by kernel_rfl)) rfl ?_
  case hres => exact (ten_put _ _ _ _ _ _ _ _ _ _ K4.out)
  exact ⟨.slice none 0 0, rfl, Kd.R_nil _ _ _ _ _, (ten_below _ _ _ _ _ _ _ _ _ _ (HB4.out) (by omega))⟩
set_option maxHeartbeats 16000000 in
set_option maxRecDepth 100000 in
theorem rc_o1 (k : Nat) (id ep st pr : Int) (an : ByteArray) (sw sl bw bl : Int) (A : Option Addr) (c : Nat) (l : List S44) (jid jep jst jpr : Int) (jan : ByteArray) (jsw jsl jbw jbl : Int) (B : Option Addr) (d : Nat) (m : List S44) (cm : Bool) (W : World) (hr : Kd.C k44 W A l.length l) (hc : l.length ≤ c) (hl : l.length < 1000000000000) (hr2 : Kd.C k44 W B m.length m) (hd : m.length ≤ d) (ec : Int) (hec : ec = 0 ∨ ec = 2) (hk : cell_CheckRecord.f k id ep st pr an sw sl bw bl l = some ec) (hok : (decide (ec = 0) && ((id == jid) && (an.toList == jan.toList))) = true) (e2 : Int) (hk2 : cell_CheckRecord.f k jid jep jst jpr jan jsw jsl jbw jbl m = some 0) (q : jst = 2) (q2 : ¬ st = 2) :
    Calls Try.prog 18 #[.agg #[.int .i64 id, .int .i64 ep, .int .i64 st, .int .i64 pr, .string an, .int .i64 sw, .int .i64 sl, .int .i64 bw, .int .i64 bl, .slice A l.length c], .bool true, .agg #[.int .i64 jid, .int .i64 jep, .int .i64 jst, .int .i64 jpr, .string jan, .int .i64 jsw, .int .i64 jsl, .int .i64 jbw, .int .i64 jbl, .slice B m.length d], .bool cm] W (recPost id ep st pr an sw sl bw bl l 0 W) := by
  have HK2 := Aside0.mk hk2
  clear hk2
  have HJ1 := Aside0.mk (show (jst == 2) = true from beq_iff_eq.mpr q)
  have HJ2 := Aside0.mk (show (jst != 2) = false from bne_eq_false_iff_eq.mpr q)
  have HQ2 := Aside0.mk q2
  clear q q2
  have HR := Aside0.mk hr
  have HC := Aside0.mk hc
  have HR2 := Aside0.mk hr2
  have HD := Aside0.mk hd
  have HST := Aside0.mk (fun (w1 : World) (h1 : Below W.heap.size W w1) => show Calls Try.prog 26 #[.agg #[.int .i64 id, .int .i64 ep, .int .i64 st, .int .i64 pr, .string an, .int .i64 sw, .int .i64 sl, .int .i64 bw, .int .i64 bl, .slice A l.length c], .bool true, .int .i64 jid, .string jan] w1 (standsPost id ep st pr an sw sl bw bl l w1 true) from by have h := stands_yes k id ep st pr an sw sl bw bl A c l jid jan w1 (Kd.C_below hr h1) hc hl ec hec hk; rw [hok] at h; exact h)
  clear hr hc hl hr2 hd hec hk hok
  go_enter Try.func18, Try.ntmps18
  go_wp2_with fail
  obtain ⟨w1, hw1, h1, h2, h3, hb1, hs1⟩ := three_boxes W (.cells #[.int .i64 id, .int .i64 ep, .int .i64 st, .int .i64 pr, .string an, .int .i64 sw, .int .i64 sl, .int .i64 bw, .int .i64 bl, .slice A l.length c] 27) (.cells #[.int .i64 jid, .int .i64 jep, .int .i64 jst, .int .i64 jpr, .string jan, .int .i64 jsw, .int .i64 jsl, .int .i64 jbw, .int .i64 jbl, .slice B m.length d] 27) (.cells #[.int .i64 0, .int .i64 0, .int .i64 0, .int .i64 0, .string ⟨#[]⟩, .int .i64 0, .int .i64 0, .int .i64 0, .int .i64 0, .slice none 0 0] 27)
  rw [hw1]
  have H1 := Aside0.mk h1
  have H2 := Aside0.mk h2
  have H3 := Aside0.mk h3
  have HB1 := Aside0.mk hb1
  have HS1 := Aside0.mk hs1
  clear hw1 h1 h2 h3 hb1 hs1
  refine (HST.out w1 HB1.out).mono ?_
  rintro e w2 ⟨g, v, rfl, hg, hge, hRv, hb2⟩
  obtain ⟨Av, cv, rfl⟩ := Kd.R_slice hRv
  have HB2 := Aside0.mk (below_step HB1.out hb2)
  have HG2 := Aside0.mk hg
  have HGE := Aside0.mk (show W.heap.size + 1 + 1 < g from by have := HS1.out; omega)
  have HRV := Aside0.mk (show Kd.R k44 44 w2 W.heap.size (fun b => b ≠ g ∧ b ≠ W.heap.size + 1 + 1) (.slice Av l.length cv) l from Kd.R_lower (Kd.R_mono (Kd.R_bound hRv) (fun b hb => ⟨hb.1, by have h1 := hb.2.1; have h2 := HS1.out; omega⟩)) (by have := HS1.out; omega))
  have K2 := Aside0.mk (blk_below H2.out hb2)
  have K3 := Aside0.mk (blk_below H3.out hb2)
  clear hg hge hRv hb2 H1 H2 H3 HB1
  obtain ⟨y0, y1, y2, y3, y4, y5, y6, y7, y8, y9⟩ := cells10 K2.out
  go_wp2_with fail
  refine (cell_CheckRecord.calls k jid jep jst jpr jan jsw jsl jbw jbl B d m 0 w2 (Kd.C_below HR2.out HB2.out) HD.out HK2.out).mono ?_
  rintro e w4 ⟨rfl, hb24⟩
  have HB24 := Aside0.mk hb24
  have K24 := Aside0.mk (blk_below K2.out hb24)
  have K4 := Aside0.mk (blk_below K3.out hb24)
  have HG4 := Aside0.mk (blk_below HG2.out hb24)
  have HB4 := Aside0.mk (below_step HB2.out hb24)
  have HRV4 := Aside0.mk (Kd.R_below HRV.out hb24)
  clear hb24 y0 y1 y2 y3 y4 y5 y6 y7 y8 y9
  obtain ⟨z0, z1, z2, z3, z4, z5, z6, z7, z8, z9⟩ := cells10 K4.out
  obtain ⟨fz0, fz1, fz2, fz3, fz4, fz5, fz6, fz7, fz8, fz9⟩ := frozen10 K4.out
  have x1 : w4.cell? ⟨W.heap.size + 1, 1, none⟩ = some (.int .i64 jep) := (blk_cell K24.out 1).trans rfl
  have x2 : w4.cell? ⟨W.heap.size + 1, 2, none⟩ = some (.int .i64 jst) := (blk_cell K24.out 2).trans rfl
  have x5 : w4.cell? ⟨W.heap.size + 1, 5, none⟩ = some (.int .i64 jsw) := (blk_cell K24.out 5).trans rfl
  have x6 : w4.cell? ⟨W.heap.size + 1, 6, none⟩ = some (.int .i64 jsl) := (blk_cell K24.out 6).trans rfl
  obtain ⟨u0, u1, u2, u3, u4, u5, u6, u7, u8, u9⟩ := cells10 HG4.out
  have dj1 := HJ1.out
  have dj2 := HJ2.out
  have d1 : (st != 2) = true := bne_iff_ne.mpr HQ2.out
  have d2 : (st == 2) = false := beq_eq_false_iff_ne.mpr HQ2.out
  go_wp2_with fail
  go_quiet (fail)
  go_wp2_with fail
  refine bodyPost_ret (results_ct rfl _ _ (W.heap.size + 1 + 1) 27 #[.int .i64 id, .int .i64 ep, .int .i64 st, .int .i64 pr, .string an, .int .i64 sw, .int .i64 sl, .int .i64 bw, .int .i64 bl, .slice Av l.length cv] (0, 0) _ rfl ?hres Try.underlying27 rfl (by kernel_rfl)) rfl ?_
  case hres => exact (by refine blk_put (cs := #[.int .i64 id, .int .i64 ep, .int .i64 st, .int .i64 pr, .string an, .int .i64 sw, .int .i64 sl, .int .i64 bw, .int .i64 bl, .slice none 0 0]) ?_ 9 _ rfl; refine blk_put (cs := #[.int .i64 id, .int .i64 ep, .int .i64 st, .int .i64 pr, .string an, .int .i64 sw, .int .i64 sl, .int .i64 bw, .int .i64 0, .slice none 0 0]) ?_ 8 _ rfl; refine blk_put (cs := #[.int .i64 id, .int .i64 ep, .int .i64 st, .int .i64 pr, .string an, .int .i64 sw, .int .i64 sl, .int .i64 0, .int .i64 0, .slice none 0 0]) ?_ 7 _ rfl; refine blk_put (cs := #[.int .i64 id, .int .i64 ep, .int .i64 st, .int .i64 pr, .string an, .int .i64 sw, .int .i64 0, .int .i64 0, .int .i64 0, .slice none 0 0]) ?_ 6 _ rfl; refine blk_put (cs := #[.int .i64 id, .int .i64 ep, .int .i64 st, .int .i64 pr, .string an, .int .i64 0, .int .i64 0, .int .i64 0, .int .i64 0, .slice none 0 0]) ?_ 5 _ rfl; refine blk_put (cs := #[.int .i64 id, .int .i64 ep, .int .i64 st, .int .i64 pr, .string ⟨#[]⟩, .int .i64 0, .int .i64 0, .int .i64 0, .int .i64 0, .slice none 0 0]) ?_ 4 _ rfl; refine blk_put (cs := #[.int .i64 id, .int .i64 ep, .int .i64 st, .int .i64 0, .string ⟨#[]⟩, .int .i64 0, .int .i64 0, .int .i64 0, .int .i64 0, .slice none 0 0]) ?_ 3 _ rfl; refine blk_put (cs := #[.int .i64 id, .int .i64 ep, .int .i64 0, .int .i64 0, .string ⟨#[]⟩, .int .i64 0, .int .i64 0, .int .i64 0, .int .i64 0, .slice none 0 0]) ?_ 2 _ rfl; refine blk_put (cs := #[.int .i64 id, .int .i64 0, .int .i64 0, .int .i64 0, .string ⟨#[]⟩, .int .i64 0, .int .i64 0, .int .i64 0, .int .i64 0, .slice none 0 0]) ?_ 1 _ rfl; refine blk_put (cs := #[.int .i64 0, .int .i64 0, .int .i64 0, .int .i64 0, .string ⟨#[]⟩, .int .i64 0, .int .i64 0, .int .i64 0, .int .i64 0, .slice none 0 0]) ?_ 0 _ rfl; exact blk_drewN K4.out _)
  exact ⟨.slice Av l.length cv, rfl, Kd.R_mono (ok := fun b => b ≠ g ∧ b ≠ W.heap.size + 1 + 1) (ten_far _ _ _ _ _ _ _ _ _ _ (Kd.R_drewN HRV4.out _) (fun b hb => hb.2)) (fun _ _ => trivial), (ten_below _ _ _ _ _ _ _ _ _ _ (pw_below_drewN HB4.out _) (by omega))⟩
set_option maxHeartbeats 16000000 in
set_option maxRecDepth 100000 in
theorem rc_o2 (k : Nat) (id ep st pr : Int) (an : ByteArray) (sw sl bw bl : Int) (A : Option Addr) (c : Nat) (l : List S44) (jid jep jst jpr : Int) (jan : ByteArray) (jsw jsl jbw jbl : Int) (B : Option Addr) (d : Nat) (m : List S44) (cm : Bool) (W : World) (hr : Kd.C k44 W A l.length l) (hc : l.length ≤ c) (hl : l.length < 1000000000000) (hr2 : Kd.C k44 W B m.length m) (hd : m.length ≤ d) (ec : Int) (hec : ec = 0 ∨ ec = 2) (hk : cell_CheckRecord.f k id ep st pr an sw sl bw bl l = some ec) (hok : (decide (ec = 0) && ((id == jid) && (an.toList == jan.toList))) = true) (e2 : Int) (hk2 : cell_CheckRecord.f k jid jep jst jpr jan jsw jsl jbw jbl m = some 0) (q : jst = 2) (q2 : st = 2) (q3 : ¬ ep = jep) :
    Calls Try.prog 18 #[.agg #[.int .i64 id, .int .i64 ep, .int .i64 st, .int .i64 pr, .string an, .int .i64 sw, .int .i64 sl, .int .i64 bw, .int .i64 bl, .slice A l.length c], .bool true, .agg #[.int .i64 jid, .int .i64 jep, .int .i64 jst, .int .i64 jpr, .string jan, .int .i64 jsw, .int .i64 jsl, .int .i64 jbw, .int .i64 jbl, .slice B m.length d], .bool cm] W (recPost id ep st pr an sw sl bw bl l 0 W) := by
  have HK2 := Aside0.mk hk2
  clear hk2
  have HJ1 := Aside0.mk (show (jst == 2) = true from beq_iff_eq.mpr q)
  have HJ2 := Aside0.mk (show (jst != 2) = false from bne_eq_false_iff_eq.mpr q)
  have HT1 := Aside0.mk (show (st == 2) = true from beq_iff_eq.mpr q2)
  have HT2 := Aside0.mk (show (st != 2) = false from bne_eq_false_iff_eq.mpr q2)
  have HQ3 := Aside0.mk q3
  clear q q2 q3
  have HR := Aside0.mk hr
  have HC := Aside0.mk hc
  have HR2 := Aside0.mk hr2
  have HD := Aside0.mk hd
  have HST := Aside0.mk (fun (w1 : World) (h1 : Below W.heap.size W w1) => show Calls Try.prog 26 #[.agg #[.int .i64 id, .int .i64 ep, .int .i64 st, .int .i64 pr, .string an, .int .i64 sw, .int .i64 sl, .int .i64 bw, .int .i64 bl, .slice A l.length c], .bool true, .int .i64 jid, .string jan] w1 (standsPost id ep st pr an sw sl bw bl l w1 true) from by have h := stands_yes k id ep st pr an sw sl bw bl A c l jid jan w1 (Kd.C_below hr h1) hc hl ec hec hk; rw [hok] at h; exact h)
  clear hr hc hl hr2 hd hec hk hok
  go_enter Try.func18, Try.ntmps18
  go_wp2_with fail
  obtain ⟨w1, hw1, h1, h2, h3, hb1, hs1⟩ := three_boxes W (.cells #[.int .i64 id, .int .i64 ep, .int .i64 st, .int .i64 pr, .string an, .int .i64 sw, .int .i64 sl, .int .i64 bw, .int .i64 bl, .slice A l.length c] 27) (.cells #[.int .i64 jid, .int .i64 jep, .int .i64 jst, .int .i64 jpr, .string jan, .int .i64 jsw, .int .i64 jsl, .int .i64 jbw, .int .i64 jbl, .slice B m.length d] 27) (.cells #[.int .i64 0, .int .i64 0, .int .i64 0, .int .i64 0, .string ⟨#[]⟩, .int .i64 0, .int .i64 0, .int .i64 0, .int .i64 0, .slice none 0 0] 27)
  rw [hw1]
  have H1 := Aside0.mk h1
  have H2 := Aside0.mk h2
  have H3 := Aside0.mk h3
  have HB1 := Aside0.mk hb1
  have HS1 := Aside0.mk hs1
  clear hw1 h1 h2 h3 hb1 hs1
  refine (HST.out w1 HB1.out).mono ?_
  rintro e w2 ⟨g, v, rfl, hg, hge, hRv, hb2⟩
  obtain ⟨Av, cv, rfl⟩ := Kd.R_slice hRv
  have HB2 := Aside0.mk (below_step HB1.out hb2)
  have HG2 := Aside0.mk hg
  have HGE := Aside0.mk (show W.heap.size + 1 + 1 < g from by have := HS1.out; omega)
  have HRV := Aside0.mk (show Kd.R k44 44 w2 W.heap.size (fun b => b ≠ g ∧ b ≠ W.heap.size + 1 + 1) (.slice Av l.length cv) l from Kd.R_lower (Kd.R_mono (Kd.R_bound hRv) (fun b hb => ⟨hb.1, by have h1 := hb.2.1; have h2 := HS1.out; omega⟩)) (by have := HS1.out; omega))
  have K2 := Aside0.mk (blk_below H2.out hb2)
  have K3 := Aside0.mk (blk_below H3.out hb2)
  clear hg hge hRv hb2 H1 H2 H3 HB1
  obtain ⟨y0, y1, y2, y3, y4, y5, y6, y7, y8, y9⟩ := cells10 K2.out
  go_wp2_with fail
  refine (cell_CheckRecord.calls k jid jep jst jpr jan jsw jsl jbw jbl B d m 0 w2 (Kd.C_below HR2.out HB2.out) HD.out HK2.out).mono ?_
  rintro e w4 ⟨rfl, hb24⟩
  have HB24 := Aside0.mk hb24
  have K24 := Aside0.mk (blk_below K2.out hb24)
  have K4 := Aside0.mk (blk_below K3.out hb24)
  have HG4 := Aside0.mk (blk_below HG2.out hb24)
  have HB4 := Aside0.mk (below_step HB2.out hb24)
  have HRV4 := Aside0.mk (Kd.R_below HRV.out hb24)
  clear hb24 y0 y1 y2 y3 y4 y5 y6 y7 y8 y9
  obtain ⟨z0, z1, z2, z3, z4, z5, z6, z7, z8, z9⟩ := cells10 K4.out
  obtain ⟨fz0, fz1, fz2, fz3, fz4, fz5, fz6, fz7, fz8, fz9⟩ := frozen10 K4.out
  have x1 : w4.cell? ⟨W.heap.size + 1, 1, none⟩ = some (.int .i64 jep) := (blk_cell K24.out 1).trans rfl
  have x2 : w4.cell? ⟨W.heap.size + 1, 2, none⟩ = some (.int .i64 jst) := (blk_cell K24.out 2).trans rfl
  have x5 : w4.cell? ⟨W.heap.size + 1, 5, none⟩ = some (.int .i64 jsw) := (blk_cell K24.out 5).trans rfl
  have x6 : w4.cell? ⟨W.heap.size + 1, 6, none⟩ = some (.int .i64 jsl) := (blk_cell K24.out 6).trans rfl
  obtain ⟨u0, u1, u2, u3, u4, u5, u6, u7, u8, u9⟩ := cells10 HG4.out
  have dj1 := HJ1.out
  have dj2 := HJ2.out
  have dt1 := HT1.out
  have dt2 := HT2.out
  have d1 : (ep != jep) = true := bne_iff_ne.mpr HQ3.out
  have d2 : (ep == jep) = false := beq_eq_false_iff_ne.mpr HQ3.out
  go_wp2_with fail
  go_quiet (fail)
  go_wp2_with fail
  refine bodyPost_ret (results_ct rfl _ _ (W.heap.size + 1 + 1) 27 #[.int .i64 id, .int .i64 ep, .int .i64 st, .int .i64 pr, .string an, .int .i64 sw, .int .i64 sl, .int .i64 bw, .int .i64 bl, .slice Av l.length cv] (0, 0) _ rfl ?hres Try.underlying27 rfl (by kernel_rfl)) rfl ?_
  case hres => exact (by refine blk_put (cs := #[.int .i64 id, .int .i64 ep, .int .i64 st, .int .i64 pr, .string an, .int .i64 sw, .int .i64 sl, .int .i64 bw, .int .i64 bl, .slice none 0 0]) ?_ 9 _ rfl; refine blk_put (cs := #[.int .i64 id, .int .i64 ep, .int .i64 st, .int .i64 pr, .string an, .int .i64 sw, .int .i64 sl, .int .i64 bw, .int .i64 0, .slice none 0 0]) ?_ 8 _ rfl; refine blk_put (cs := #[.int .i64 id, .int .i64 ep, .int .i64 st, .int .i64 pr, .string an, .int .i64 sw, .int .i64 sl, .int .i64 0, .int .i64 0, .slice none 0 0]) ?_ 7 _ rfl; refine blk_put (cs := #[.int .i64 id, .int .i64 ep, .int .i64 st, .int .i64 pr, .string an, .int .i64 sw, .int .i64 0, .int .i64 0, .int .i64 0, .slice none 0 0]) ?_ 6 _ rfl; refine blk_put (cs := #[.int .i64 id, .int .i64 ep, .int .i64 st, .int .i64 pr, .string an, .int .i64 0, .int .i64 0, .int .i64 0, .int .i64 0, .slice none 0 0]) ?_ 5 _ rfl; refine blk_put (cs := #[.int .i64 id, .int .i64 ep, .int .i64 st, .int .i64 pr, .string ⟨#[]⟩, .int .i64 0, .int .i64 0, .int .i64 0, .int .i64 0, .slice none 0 0]) ?_ 4 _ rfl; refine blk_put (cs := #[.int .i64 id, .int .i64 ep, .int .i64 st, .int .i64 0, .string ⟨#[]⟩, .int .i64 0, .int .i64 0, .int .i64 0, .int .i64 0, .slice none 0 0]) ?_ 3 _ rfl; refine blk_put (cs := #[.int .i64 id, .int .i64 ep, .int .i64 0, .int .i64 0, .string ⟨#[]⟩, .int .i64 0, .int .i64 0, .int .i64 0, .int .i64 0, .slice none 0 0]) ?_ 2 _ rfl; refine blk_put (cs := #[.int .i64 id, .int .i64 0, .int .i64 0, .int .i64 0, .string ⟨#[]⟩, .int .i64 0, .int .i64 0, .int .i64 0, .int .i64 0, .slice none 0 0]) ?_ 1 _ rfl; refine blk_put (cs := #[.int .i64 0, .int .i64 0, .int .i64 0, .int .i64 0, .string ⟨#[]⟩, .int .i64 0, .int .i64 0, .int .i64 0, .int .i64 0, .slice none 0 0]) ?_ 0 _ rfl; exact blk_drewN K4.out _)
  exact ⟨.slice Av l.length cv, rfl, Kd.R_mono (ok := fun b => b ≠ g ∧ b ≠ W.heap.size + 1 + 1) (ten_far _ _ _ _ _ _ _ _ _ _ (Kd.R_drewN HRV4.out _) (fun b hb => hb.2)) (fun _ _ => trivial), (ten_below _ _ _ _ _ _ _ _ _ _ (pw_below_drewN HB4.out _) (by omega))⟩
set_option maxHeartbeats 16000000 in
set_option maxRecDepth 100000 in
theorem rc_o3 (k : Nat) (id ep st pr : Int) (an : ByteArray) (sw sl bw bl : Int) (A : Option Addr) (c : Nat) (l : List S44) (jid jep jst jpr : Int) (jan : ByteArray) (jsw jsl jbw jbl : Int) (B : Option Addr) (d : Nat) (m : List S44) (cm : Bool) (W : World) (hr : Kd.C k44 W A l.length l) (hc : l.length ≤ c) (hl : l.length < 1000000000000) (hr2 : Kd.C k44 W B m.length m) (hd : m.length ≤ d) (ec : Int) (hec : ec = 0 ∨ ec = 2) (hk : cell_CheckRecord.f k id ep st pr an sw sl bw bl l = some ec) (hok : (decide (ec = 0) && ((id == jid) && (an.toList == jan.toList))) = true) (e2 : Int) (hk2 : cell_CheckRecord.f k jid jep jst jpr jan jsw jsl jbw jbl m = some 0) (q : jst = 2) (q2 : st = 2) (q3 : ep = jep) (q4 : (sw == jsw && (sl == jsl)) = false) :
    Calls Try.prog 18 #[.agg #[.int .i64 id, .int .i64 ep, .int .i64 st, .int .i64 pr, .string an, .int .i64 sw, .int .i64 sl, .int .i64 bw, .int .i64 bl, .slice A l.length c], .bool true, .agg #[.int .i64 jid, .int .i64 jep, .int .i64 jst, .int .i64 jpr, .string jan, .int .i64 jsw, .int .i64 jsl, .int .i64 jbw, .int .i64 jbl, .slice B m.length d], .bool cm] W (recPost id ep st pr an sw sl bw bl l 0 W) := by
  have HK2 := Aside0.mk hk2
  clear hk2
  have HJ1 := Aside0.mk (show (jst == 2) = true from beq_iff_eq.mpr q)
  have HJ2 := Aside0.mk (show (jst != 2) = false from bne_eq_false_iff_eq.mpr q)
  have HT1 := Aside0.mk (show (st == 2) = true from beq_iff_eq.mpr q2)
  have HT2 := Aside0.mk (show (st != 2) = false from bne_eq_false_iff_eq.mpr q2)
  have HE1 := Aside0.mk (show (ep == jep) = true from beq_iff_eq.mpr q3)
  have HE2 := Aside0.mk (show (ep != jep) = false from bne_eq_false_iff_eq.mpr q3)
  have HQ4 := Aside0.mk q4
  clear q q2 q3 q4
  have HR := Aside0.mk hr
  have HC := Aside0.mk hc
  have HR2 := Aside0.mk hr2
  have HD := Aside0.mk hd
  have HST := Aside0.mk (fun (w1 : World) (h1 : Below W.heap.size W w1) => show Calls Try.prog 26 #[.agg #[.int .i64 id, .int .i64 ep, .int .i64 st, .int .i64 pr, .string an, .int .i64 sw, .int .i64 sl, .int .i64 bw, .int .i64 bl, .slice A l.length c], .bool true, .int .i64 jid, .string jan] w1 (standsPost id ep st pr an sw sl bw bl l w1 true) from by have h := stands_yes k id ep st pr an sw sl bw bl A c l jid jan w1 (Kd.C_below hr h1) hc hl ec hec hk; rw [hok] at h; exact h)
  clear hr hc hl hr2 hd hec hk hok
  go_enter Try.func18, Try.ntmps18
  go_wp2_with fail
  obtain ⟨w1, hw1, h1, h2, h3, hb1, hs1⟩ := three_boxes W (.cells #[.int .i64 id, .int .i64 ep, .int .i64 st, .int .i64 pr, .string an, .int .i64 sw, .int .i64 sl, .int .i64 bw, .int .i64 bl, .slice A l.length c] 27) (.cells #[.int .i64 jid, .int .i64 jep, .int .i64 jst, .int .i64 jpr, .string jan, .int .i64 jsw, .int .i64 jsl, .int .i64 jbw, .int .i64 jbl, .slice B m.length d] 27) (.cells #[.int .i64 0, .int .i64 0, .int .i64 0, .int .i64 0, .string ⟨#[]⟩, .int .i64 0, .int .i64 0, .int .i64 0, .int .i64 0, .slice none 0 0] 27)
  rw [hw1]
  have H1 := Aside0.mk h1
  have H2 := Aside0.mk h2
  have H3 := Aside0.mk h3
  have HB1 := Aside0.mk hb1
  have HS1 := Aside0.mk hs1
  clear hw1 h1 h2 h3 hb1 hs1
  refine (HST.out w1 HB1.out).mono ?_
  rintro e w2 ⟨g, v, rfl, hg, hge, hRv, hb2⟩
  obtain ⟨Av, cv, rfl⟩ := Kd.R_slice hRv
  have HB2 := Aside0.mk (below_step HB1.out hb2)
  have HG2 := Aside0.mk hg
  have HGE := Aside0.mk (show W.heap.size + 1 + 1 < g from by have := HS1.out; omega)
  have HRV := Aside0.mk (show Kd.R k44 44 w2 W.heap.size (fun b => b ≠ g ∧ b ≠ W.heap.size + 1 + 1) (.slice Av l.length cv) l from Kd.R_lower (Kd.R_mono (Kd.R_bound hRv) (fun b hb => ⟨hb.1, by have h1 := hb.2.1; have h2 := HS1.out; omega⟩)) (by have := HS1.out; omega))
  have K2 := Aside0.mk (blk_below H2.out hb2)
  have K3 := Aside0.mk (blk_below H3.out hb2)
  clear hg hge hRv hb2 H1 H2 H3 HB1
  obtain ⟨y0, y1, y2, y3, y4, y5, y6, y7, y8, y9⟩ := cells10 K2.out
  go_wp2_with fail
  refine (cell_CheckRecord.calls k jid jep jst jpr jan jsw jsl jbw jbl B d m 0 w2 (Kd.C_below HR2.out HB2.out) HD.out HK2.out).mono ?_
  rintro e w4 ⟨rfl, hb24⟩
  have HB24 := Aside0.mk hb24
  have K24 := Aside0.mk (blk_below K2.out hb24)
  have K4 := Aside0.mk (blk_below K3.out hb24)
  have HG4 := Aside0.mk (blk_below HG2.out hb24)
  have HB4 := Aside0.mk (below_step HB2.out hb24)
  have HRV4 := Aside0.mk (Kd.R_below HRV.out hb24)
  clear hb24 y0 y1 y2 y3 y4 y5 y6 y7 y8 y9
  obtain ⟨z0, z1, z2, z3, z4, z5, z6, z7, z8, z9⟩ := cells10 K4.out
  obtain ⟨fz0, fz1, fz2, fz3, fz4, fz5, fz6, fz7, fz8, fz9⟩ := frozen10 K4.out
  have x1 : w4.cell? ⟨W.heap.size + 1, 1, none⟩ = some (.int .i64 jep) := (blk_cell K24.out 1).trans rfl
  have x2 : w4.cell? ⟨W.heap.size + 1, 2, none⟩ = some (.int .i64 jst) := (blk_cell K24.out 2).trans rfl
  have x5 : w4.cell? ⟨W.heap.size + 1, 5, none⟩ = some (.int .i64 jsw) := (blk_cell K24.out 5).trans rfl
  have x6 : w4.cell? ⟨W.heap.size + 1, 6, none⟩ = some (.int .i64 jsl) := (blk_cell K24.out 6).trans rfl
  obtain ⟨u0, u1, u2, u3, u4, u5, u6, u7, u8, u9⟩ := cells10 HG4.out
  have dj1 := HJ1.out
  have dj2 := HJ2.out
  have dt1 := HT1.out
  have dt2 := HT2.out
  have de1 := HE1.out
  have de2 := HE2.out
  have d4 := HQ4.out
  go_wp2_with fail
  go_quiet (fail)
  go_wp2_with fail
  refine bodyPost_ret (results_ct rfl _ _ (W.heap.size + 1 + 1) 27 #[.int .i64 id, .int .i64 ep, .int .i64 st, .int .i64 pr, .string an, .int .i64 sw, .int .i64 sl, .int .i64 bw, .int .i64 bl, .slice Av l.length cv] (0, 0) _ rfl ?hres Try.underlying27 rfl (by kernel_rfl)) rfl ?_
  case hres => exact (by refine blk_put (cs := #[.int .i64 id, .int .i64 ep, .int .i64 st, .int .i64 pr, .string an, .int .i64 sw, .int .i64 sl, .int .i64 bw, .int .i64 bl, .slice none 0 0]) ?_ 9 _ rfl; refine blk_put (cs := #[.int .i64 id, .int .i64 ep, .int .i64 st, .int .i64 pr, .string an, .int .i64 sw, .int .i64 sl, .int .i64 bw, .int .i64 0, .slice none 0 0]) ?_ 8 _ rfl; refine blk_put (cs := #[.int .i64 id, .int .i64 ep, .int .i64 st, .int .i64 pr, .string an, .int .i64 sw, .int .i64 sl, .int .i64 0, .int .i64 0, .slice none 0 0]) ?_ 7 _ rfl; refine blk_put (cs := #[.int .i64 id, .int .i64 ep, .int .i64 st, .int .i64 pr, .string an, .int .i64 sw, .int .i64 0, .int .i64 0, .int .i64 0, .slice none 0 0]) ?_ 6 _ rfl; refine blk_put (cs := #[.int .i64 id, .int .i64 ep, .int .i64 st, .int .i64 pr, .string an, .int .i64 0, .int .i64 0, .int .i64 0, .int .i64 0, .slice none 0 0]) ?_ 5 _ rfl; refine blk_put (cs := #[.int .i64 id, .int .i64 ep, .int .i64 st, .int .i64 pr, .string ⟨#[]⟩, .int .i64 0, .int .i64 0, .int .i64 0, .int .i64 0, .slice none 0 0]) ?_ 4 _ rfl; refine blk_put (cs := #[.int .i64 id, .int .i64 ep, .int .i64 st, .int .i64 0, .string ⟨#[]⟩, .int .i64 0, .int .i64 0, .int .i64 0, .int .i64 0, .slice none 0 0]) ?_ 3 _ rfl; refine blk_put (cs := #[.int .i64 id, .int .i64 ep, .int .i64 0, .int .i64 0, .string ⟨#[]⟩, .int .i64 0, .int .i64 0, .int .i64 0, .int .i64 0, .slice none 0 0]) ?_ 2 _ rfl; refine blk_put (cs := #[.int .i64 id, .int .i64 0, .int .i64 0, .int .i64 0, .string ⟨#[]⟩, .int .i64 0, .int .i64 0, .int .i64 0, .int .i64 0, .slice none 0 0]) ?_ 1 _ rfl; refine blk_put (cs := #[.int .i64 0, .int .i64 0, .int .i64 0, .int .i64 0, .string ⟨#[]⟩, .int .i64 0, .int .i64 0, .int .i64 0, .int .i64 0, .slice none 0 0]) ?_ 0 _ rfl; exact blk_drewN K4.out _)
  exact ⟨.slice Av l.length cv, rfl, Kd.R_mono (ok := fun b => b ≠ g ∧ b ≠ W.heap.size + 1 + 1) (ten_far _ _ _ _ _ _ _ _ _ _ (Kd.R_drewN HRV4.out _) (fun b hb => hb.2)) (fun _ _ => trivial), (ten_below _ _ _ _ _ _ _ _ _ _ (pw_below_drewN HB4.out _) (by omega))⟩
set_option maxHeartbeats 16000000 in
set_option maxRecDepth 100000 in
theorem rc_o4t (k : Nat) (id ep st pr : Int) (an : ByteArray) (sw sl bw bl : Int) (A : Option Addr) (c : Nat) (l : List S44) (jid jep jst jpr : Int) (jan : ByteArray) (jsw jsl jbw jbl : Int) (B : Option Addr) (d : Nat) (m : List S44) (cm : Bool) (W : World) (hr : Kd.C k44 W A l.length l) (hc : l.length ≤ c) (hl : l.length < 1000000000000) (hr2 : Kd.C k44 W B m.length m) (hd : m.length ≤ d) (ec : Int) (hec : ec = 0 ∨ ec = 2) (hk : cell_CheckRecord.f k id ep st pr an sw sl bw bl l = some ec) (hok : (decide (ec = 0) && ((id == jid) && (an.toList == jan.toList))) = true) (e2 : Int) (hk2 : cell_CheckRecord.f k jid jep jst jpr jan jsw jsl jbw jbl m = some 0) (q : jst = 2) (q2 : st = 2) (q3 : ep = jep) (q4 : (sw == jsw && (sl == jsl)) = true) (qc : cm = true) :
    Calls Try.prog 18 #[.agg #[.int .i64 id, .int .i64 ep, .int .i64 st, .int .i64 pr, .string an, .int .i64 sw, .int .i64 sl, .int .i64 bw, .int .i64 bl, .slice A l.length c], .bool true, .agg #[.int .i64 jid, .int .i64 jep, .int .i64 jst, .int .i64 jpr, .string jan, .int .i64 jsw, .int .i64 jsl, .int .i64 jbw, .int .i64 jbl, .slice B m.length d], .bool cm] W (recPost id ep 3 pr an sw sl bw bl [] 0 W) := by
  have HK2 := Aside0.mk hk2
  clear hk2
  have HJ1 := Aside0.mk (show (jst == 2) = true from beq_iff_eq.mpr q)
  have HJ2 := Aside0.mk (show (jst != 2) = false from bne_eq_false_iff_eq.mpr q)
  have HT1 := Aside0.mk (show (st == 2) = true from beq_iff_eq.mpr q2)
  have HT2 := Aside0.mk (show (st != 2) = false from bne_eq_false_iff_eq.mpr q2)
  have HE1 := Aside0.mk (show (ep == jep) = true from beq_iff_eq.mpr q3)
  have HE2 := Aside0.mk (show (ep != jep) = false from bne_eq_false_iff_eq.mpr q3)
  have HQ4 := Aside0.mk q4
  subst qc
  clear q q2 q3 q4
  have HR := Aside0.mk hr
  have HC := Aside0.mk hc
  have HR2 := Aside0.mk hr2
  have HD := Aside0.mk hd
  have HST := Aside0.mk (fun (w1 : World) (h1 : Below W.heap.size W w1) => show Calls Try.prog 26 #[.agg #[.int .i64 id, .int .i64 ep, .int .i64 st, .int .i64 pr, .string an, .int .i64 sw, .int .i64 sl, .int .i64 bw, .int .i64 bl, .slice A l.length c], .bool true, .int .i64 jid, .string jan] w1 (standsPost id ep st pr an sw sl bw bl l w1 true) from by have h := stands_yes k id ep st pr an sw sl bw bl A c l jid jan w1 (Kd.C_below hr h1) hc hl ec hec hk; rw [hok] at h; exact h)
  clear hr hc hl hr2 hd hec hk hok
  go_enter Try.func18, Try.ntmps18
  go_wp2_with fail
  obtain ⟨w1, hw1, h1, h2, h3, hb1, hs1⟩ := three_boxes W (.cells #[.int .i64 id, .int .i64 ep, .int .i64 st, .int .i64 pr, .string an, .int .i64 sw, .int .i64 sl, .int .i64 bw, .int .i64 bl, .slice A l.length c] 27) (.cells #[.int .i64 jid, .int .i64 jep, .int .i64 jst, .int .i64 jpr, .string jan, .int .i64 jsw, .int .i64 jsl, .int .i64 jbw, .int .i64 jbl, .slice B m.length d] 27) (.cells #[.int .i64 0, .int .i64 0, .int .i64 0, .int .i64 0, .string ⟨#[]⟩, .int .i64 0, .int .i64 0, .int .i64 0, .int .i64 0, .slice none 0 0] 27)
  rw [hw1]
  have H1 := Aside0.mk h1
  have H2 := Aside0.mk h2
  have H3 := Aside0.mk h3
  have HB1 := Aside0.mk hb1
  have HS1 := Aside0.mk hs1
  clear hw1 h1 h2 h3 hb1 hs1
  refine (HST.out w1 HB1.out).mono ?_
  rintro e w2 ⟨g, v, rfl, hg, hge, hRv, hb2⟩
  obtain ⟨Av, cv, rfl⟩ := Kd.R_slice hRv
  have HB2 := Aside0.mk (below_step HB1.out hb2)
  have HG2 := Aside0.mk hg
  have HGE := Aside0.mk (show W.heap.size + 1 + 1 < g from by have := HS1.out; omega)
  have HRV := Aside0.mk (show Kd.R k44 44 w2 W.heap.size (fun b => b ≠ g ∧ b ≠ W.heap.size + 1 + 1) (.slice Av l.length cv) l from Kd.R_lower (Kd.R_mono (Kd.R_bound hRv) (fun b hb => ⟨hb.1, by have h1 := hb.2.1; have h2 := HS1.out; omega⟩)) (by have := HS1.out; omega))
  have K2 := Aside0.mk (blk_below H2.out hb2)
  have K3 := Aside0.mk (blk_below H3.out hb2)
  clear hg hge hRv hb2 H1 H2 H3 HB1
  obtain ⟨y0, y1, y2, y3, y4, y5, y6, y7, y8, y9⟩ := cells10 K2.out
  go_wp2_with fail
  refine (cell_CheckRecord.calls k jid jep jst jpr jan jsw jsl jbw jbl B d m 0 w2 (Kd.C_below HR2.out HB2.out) HD.out HK2.out).mono ?_
  rintro e w4 ⟨rfl, hb24⟩
  have HB24 := Aside0.mk hb24
  have K24 := Aside0.mk (blk_below K2.out hb24)
  have K4 := Aside0.mk (blk_below K3.out hb24)
  have HG4 := Aside0.mk (blk_below HG2.out hb24)
  have HB4 := Aside0.mk (below_step HB2.out hb24)
  have HRV4 := Aside0.mk (Kd.R_below HRV.out hb24)
  clear hb24 y0 y1 y2 y3 y4 y5 y6 y7 y8 y9
  obtain ⟨z0, z1, z2, z3, z4, z5, z6, z7, z8, z9⟩ := cells10 K4.out
  obtain ⟨fz0, fz1, fz2, fz3, fz4, fz5, fz6, fz7, fz8, fz9⟩ := frozen10 K4.out
  have x1 : w4.cell? ⟨W.heap.size + 1, 1, none⟩ = some (.int .i64 jep) := (blk_cell K24.out 1).trans rfl
  have x2 : w4.cell? ⟨W.heap.size + 1, 2, none⟩ = some (.int .i64 jst) := (blk_cell K24.out 2).trans rfl
  have x5 : w4.cell? ⟨W.heap.size + 1, 5, none⟩ = some (.int .i64 jsw) := (blk_cell K24.out 5).trans rfl
  have x6 : w4.cell? ⟨W.heap.size + 1, 6, none⟩ = some (.int .i64 jsl) := (blk_cell K24.out 6).trans rfl
  obtain ⟨u0, u1, u2, u3, u4, u5, u6, u7, u8, u9⟩ := cells10 HG4.out
  have dj1 := HJ1.out
  have dj2 := HJ2.out
  have dt1 := HT1.out
  have dt2 := HT2.out
  have de1 := HE1.out
  have de2 := HE2.out
  have d4 := HQ4.out
  have fu2 := blk_frozen HG4.out 2
  have fu9 := blk_frozen HG4.out 9
  have hgn : g ≠ W.heap.size + 1 + 1 := by have := HGE.out; omega
  have hgn2 := Ne.symm hgn
  go_wp2_with fail
  go_quiet (fail)
  go_wp2_with (((with_reducible refine gate_dst (N := 77) rfl ?_); generalize hw6 : World.setCell (World.setCell (World.setCell (World.drewN w4 _) _ _) _ _) _ _ = w6; have HG6 := Aside0.mk (show w6.heap[g]? = some (.cells #[.int .i64 id, .int .i64 ep, .int .i64 3, .int .i64 pr, .string an, .int .i64 sw, .int .i64 sl, .int .i64 bw, .int .i64 bl, .slice none 0 0] 27 (0, 0)) from by rw [← hw6]; exact blk_put (cs := #[.int .i64 id, .int .i64 ep, .int .i64 4, .int .i64 pr, .string an, .int .i64 sw, .int .i64 sl, .int .i64 bw, .int .i64 bl, .slice none 0 0]) (blk_put (cs := #[.int .i64 id, .int .i64 ep, .int .i64 st, .int .i64 pr, .string an, .int .i64 sw, .int .i64 sl, .int .i64 bw, .int .i64 bl, .slice none 0 0]) (blk_put (cs := #[.int .i64 id, .int .i64 ep, .int .i64 st, .int .i64 pr, .string an, .int .i64 sw, .int .i64 sl, .int .i64 bw, .int .i64 bl, .slice Av l.length cv]) (blk_drewN HG4.out _) 9 _ rfl) 2 _ rfl) 2 _ rfl); have K6 := Aside0.mk (show w6.heap[W.heap.size + 1 + 1]? = some (.cells #[.int .i64 0, .int .i64 0, .int .i64 0, .int .i64 0, .string ⟨#[]⟩, .int .i64 0, .int .i64 0, .int .i64 0, .int .i64 0, .slice none 0 0] 27 (0, 0)) from by rw [← hw6]; exact blk_far (blk_far (blk_far (blk_drewN K4.out _) hgn2 _) hgn2 _) hgn2 _); have HB6 := Aside0.mk (show Below W.heap.size W w6 from by rw [← hw6]; have := HGE.out; exact below_set (below_set (below_set (pw_below_drewN HB4.out _) (by omega)) (by omega)) (by omega)); clear hw6 z0 z1 z2 z3 z4 z5 z6 z7 z8 z9 fz0 fz1 fz2 fz3 fz4 fz5 fz6 fz7 fz8 fz9 u0 u1 u2 u3 u4 u5 u6 u7 u8 u9 fu2 fu9; obtain ⟨z0, z1, z2, z3, z4, z5, z6, z7, z8, z9⟩ := cells10 K6.out; obtain ⟨fz0, fz1, fz2, fz3, fz4, fz5, fz6, fz7, fz8, fz9⟩ := frozen10 K6.out; obtain ⟨u0, u1, u2, u3, u4, u5, u6, u7, u8, u9⟩ := cells10 HG6.out))
  refine bodyPost_ret (results_ct rfl _ _ (W.heap.size + 1 + 1) 27 #[.int .i64 id, .int .i64 ep, .int .i64 3, .int .i64 pr, .string an, .int .i64 sw, .int .i64 sl, .int .i64 bw, .int .i64 bl, .slice none 0 0] (0, 0) _ rfl ?hres Try.underlying27 rfl (by kernel_rfl)) rfl ?_
  case hres => exact (ten_put _ _ _ _ _ _ _ _ _ _ K6.out)
  exact ⟨.slice none 0 0, rfl, Kd.R_nil _ _ _ _ _, (ten_below _ _ _ _ _ _ _ _ _ _ (HB6.out) (by omega))⟩
set_option maxHeartbeats 16000000 in
set_option maxRecDepth 100000 in
theorem rc_o4f (k : Nat) (id ep st pr : Int) (an : ByteArray) (sw sl bw bl : Int) (A : Option Addr) (c : Nat) (l : List S44) (jid jep jst jpr : Int) (jan : ByteArray) (jsw jsl jbw jbl : Int) (B : Option Addr) (d : Nat) (m : List S44) (cm : Bool) (W : World) (hr : Kd.C k44 W A l.length l) (hc : l.length ≤ c) (hl : l.length < 1000000000000) (hr2 : Kd.C k44 W B m.length m) (hd : m.length ≤ d) (ec : Int) (hec : ec = 0 ∨ ec = 2) (hk : cell_CheckRecord.f k id ep st pr an sw sl bw bl l = some ec) (hok : (decide (ec = 0) && ((id == jid) && (an.toList == jan.toList))) = true) (e2 : Int) (hk2 : cell_CheckRecord.f k jid jep jst jpr jan jsw jsl jbw jbl m = some 0) (q : jst = 2) (q2 : st = 2) (q3 : ep = jep) (q4 : (sw == jsw && (sl == jsl)) = true) (qc : cm = false) :
    Calls Try.prog 18 #[.agg #[.int .i64 id, .int .i64 ep, .int .i64 st, .int .i64 pr, .string an, .int .i64 sw, .int .i64 sl, .int .i64 bw, .int .i64 bl, .slice A l.length c], .bool true, .agg #[.int .i64 jid, .int .i64 jep, .int .i64 jst, .int .i64 jpr, .string jan, .int .i64 jsw, .int .i64 jsl, .int .i64 jbw, .int .i64 jbl, .slice B m.length d], .bool cm] W (recPost id ep 4 pr an sw sl bw bl [] 0 W) := by
  have HK2 := Aside0.mk hk2
  clear hk2
  have HJ1 := Aside0.mk (show (jst == 2) = true from beq_iff_eq.mpr q)
  have HJ2 := Aside0.mk (show (jst != 2) = false from bne_eq_false_iff_eq.mpr q)
  have HT1 := Aside0.mk (show (st == 2) = true from beq_iff_eq.mpr q2)
  have HT2 := Aside0.mk (show (st != 2) = false from bne_eq_false_iff_eq.mpr q2)
  have HE1 := Aside0.mk (show (ep == jep) = true from beq_iff_eq.mpr q3)
  have HE2 := Aside0.mk (show (ep != jep) = false from bne_eq_false_iff_eq.mpr q3)
  have HQ4 := Aside0.mk q4
  subst qc
  clear q q2 q3 q4
  have HR := Aside0.mk hr
  have HC := Aside0.mk hc
  have HR2 := Aside0.mk hr2
  have HD := Aside0.mk hd
  have HST := Aside0.mk (fun (w1 : World) (h1 : Below W.heap.size W w1) => show Calls Try.prog 26 #[.agg #[.int .i64 id, .int .i64 ep, .int .i64 st, .int .i64 pr, .string an, .int .i64 sw, .int .i64 sl, .int .i64 bw, .int .i64 bl, .slice A l.length c], .bool true, .int .i64 jid, .string jan] w1 (standsPost id ep st pr an sw sl bw bl l w1 true) from by have h := stands_yes k id ep st pr an sw sl bw bl A c l jid jan w1 (Kd.C_below hr h1) hc hl ec hec hk; rw [hok] at h; exact h)
  clear hr hc hl hr2 hd hec hk hok
  go_enter Try.func18, Try.ntmps18
  go_wp2_with fail
  obtain ⟨w1, hw1, h1, h2, h3, hb1, hs1⟩ := three_boxes W (.cells #[.int .i64 id, .int .i64 ep, .int .i64 st, .int .i64 pr, .string an, .int .i64 sw, .int .i64 sl, .int .i64 bw, .int .i64 bl, .slice A l.length c] 27) (.cells #[.int .i64 jid, .int .i64 jep, .int .i64 jst, .int .i64 jpr, .string jan, .int .i64 jsw, .int .i64 jsl, .int .i64 jbw, .int .i64 jbl, .slice B m.length d] 27) (.cells #[.int .i64 0, .int .i64 0, .int .i64 0, .int .i64 0, .string ⟨#[]⟩, .int .i64 0, .int .i64 0, .int .i64 0, .int .i64 0, .slice none 0 0] 27)
  rw [hw1]
  have H1 := Aside0.mk h1
  have H2 := Aside0.mk h2
  have H3 := Aside0.mk h3
  have HB1 := Aside0.mk hb1
  have HS1 := Aside0.mk hs1
  clear hw1 h1 h2 h3 hb1 hs1
  refine (HST.out w1 HB1.out).mono ?_
  rintro e w2 ⟨g, v, rfl, hg, hge, hRv, hb2⟩
  obtain ⟨Av, cv, rfl⟩ := Kd.R_slice hRv
  have HB2 := Aside0.mk (below_step HB1.out hb2)
  have HG2 := Aside0.mk hg
  have HGE := Aside0.mk (show W.heap.size + 1 + 1 < g from by have := HS1.out; omega)
  have HRV := Aside0.mk (show Kd.R k44 44 w2 W.heap.size (fun b => b ≠ g ∧ b ≠ W.heap.size + 1 + 1) (.slice Av l.length cv) l from Kd.R_lower (Kd.R_mono (Kd.R_bound hRv) (fun b hb => ⟨hb.1, by have h1 := hb.2.1; have h2 := HS1.out; omega⟩)) (by have := HS1.out; omega))
  have K2 := Aside0.mk (blk_below H2.out hb2)
  have K3 := Aside0.mk (blk_below H3.out hb2)
  clear hg hge hRv hb2 H1 H2 H3 HB1
  obtain ⟨y0, y1, y2, y3, y4, y5, y6, y7, y8, y9⟩ := cells10 K2.out
  go_wp2_with fail
  refine (cell_CheckRecord.calls k jid jep jst jpr jan jsw jsl jbw jbl B d m 0 w2 (Kd.C_below HR2.out HB2.out) HD.out HK2.out).mono ?_
  rintro e w4 ⟨rfl, hb24⟩
  have HB24 := Aside0.mk hb24
  have K24 := Aside0.mk (blk_below K2.out hb24)
  have K4 := Aside0.mk (blk_below K3.out hb24)
  have HG4 := Aside0.mk (blk_below HG2.out hb24)
  have HB4 := Aside0.mk (below_step HB2.out hb24)
  have HRV4 := Aside0.mk (Kd.R_below HRV.out hb24)
  clear hb24 y0 y1 y2 y3 y4 y5 y6 y7 y8 y9
  obtain ⟨z0, z1, z2, z3, z4, z5, z6, z7, z8, z9⟩ := cells10 K4.out
  obtain ⟨fz0, fz1, fz2, fz3, fz4, fz5, fz6, fz7, fz8, fz9⟩ := frozen10 K4.out
  have x1 : w4.cell? ⟨W.heap.size + 1, 1, none⟩ = some (.int .i64 jep) := (blk_cell K24.out 1).trans rfl
  have x2 : w4.cell? ⟨W.heap.size + 1, 2, none⟩ = some (.int .i64 jst) := (blk_cell K24.out 2).trans rfl
  have x5 : w4.cell? ⟨W.heap.size + 1, 5, none⟩ = some (.int .i64 jsw) := (blk_cell K24.out 5).trans rfl
  have x6 : w4.cell? ⟨W.heap.size + 1, 6, none⟩ = some (.int .i64 jsl) := (blk_cell K24.out 6).trans rfl
  obtain ⟨u0, u1, u2, u3, u4, u5, u6, u7, u8, u9⟩ := cells10 HG4.out
  have dj1 := HJ1.out
  have dj2 := HJ2.out
  have dt1 := HT1.out
  have dt2 := HT2.out
  have de1 := HE1.out
  have de2 := HE2.out
  have d4 := HQ4.out
  have fu2 := blk_frozen HG4.out 2
  have fu9 := blk_frozen HG4.out 9
  have hgn : g ≠ W.heap.size + 1 + 1 := by have := HGE.out; omega
  have hgn2 := Ne.symm hgn
  go_wp2_with fail
  go_quiet (fail)
  go_wp2_with fail
  refine bodyPost_ret (results_ct rfl _ _ (W.heap.size + 1 + 1) 27 #[.int .i64 id, .int .i64 ep, .int .i64 4, .int .i64 pr, .string an, .int .i64 sw, .int .i64 sl, .int .i64 bw, .int .i64 bl, .slice none 0 0] (0, 0) _ rfl ?hres Try.underlying27 rfl (by kernel_rfl)) rfl ?_
  case hres => exact (by refine blk_put (cs := #[.int .i64 id, .int .i64 ep, .int .i64 4, .int .i64 pr, .string an, .int .i64 sw, .int .i64 sl, .int .i64 bw, .int .i64 bl, .slice none 0 0]) ?_ 9 _ rfl; refine blk_put (cs := #[.int .i64 id, .int .i64 ep, .int .i64 4, .int .i64 pr, .string an, .int .i64 sw, .int .i64 sl, .int .i64 bw, .int .i64 0, .slice none 0 0]) ?_ 8 _ rfl; refine blk_put (cs := #[.int .i64 id, .int .i64 ep, .int .i64 4, .int .i64 pr, .string an, .int .i64 sw, .int .i64 sl, .int .i64 0, .int .i64 0, .slice none 0 0]) ?_ 7 _ rfl; refine blk_put (cs := #[.int .i64 id, .int .i64 ep, .int .i64 4, .int .i64 pr, .string an, .int .i64 sw, .int .i64 0, .int .i64 0, .int .i64 0, .slice none 0 0]) ?_ 6 _ rfl; refine blk_put (cs := #[.int .i64 id, .int .i64 ep, .int .i64 4, .int .i64 pr, .string an, .int .i64 0, .int .i64 0, .int .i64 0, .int .i64 0, .slice none 0 0]) ?_ 5 _ rfl; refine blk_put (cs := #[.int .i64 id, .int .i64 ep, .int .i64 4, .int .i64 pr, .string ⟨#[]⟩, .int .i64 0, .int .i64 0, .int .i64 0, .int .i64 0, .slice none 0 0]) ?_ 4 _ rfl; refine blk_put (cs := #[.int .i64 id, .int .i64 ep, .int .i64 4, .int .i64 0, .string ⟨#[]⟩, .int .i64 0, .int .i64 0, .int .i64 0, .int .i64 0, .slice none 0 0]) ?_ 3 _ rfl; refine blk_put (cs := #[.int .i64 id, .int .i64 ep, .int .i64 0, .int .i64 0, .string ⟨#[]⟩, .int .i64 0, .int .i64 0, .int .i64 0, .int .i64 0, .slice none 0 0]) ?_ 2 _ rfl; refine blk_put (cs := #[.int .i64 id, .int .i64 0, .int .i64 0, .int .i64 0, .string ⟨#[]⟩, .int .i64 0, .int .i64 0, .int .i64 0, .int .i64 0, .slice none 0 0]) ?_ 1 _ rfl; refine blk_put (cs := #[.int .i64 0, .int .i64 0, .int .i64 0, .int .i64 0, .string ⟨#[]⟩, .int .i64 0, .int .i64 0, .int .i64 0, .int .i64 0, .slice none 0 0]) ?_ 0 _ rfl; refine blk_far ?_ hgn2 _; refine blk_far ?_ hgn2 _; exact blk_drewN K4.out _)
  exact ⟨.slice none 0 0, rfl, Kd.R_nil _ _ _ _ _, (by refine below_set ?_ (by omega); refine below_set ?_ (by omega); refine below_set ?_ (by omega); refine below_set ?_ (by omega); refine below_set ?_ (by omega); refine below_set ?_ (by omega); refine below_set ?_ (by omega); refine below_set ?_ (by omega); refine below_set ?_ (by omega); refine below_set ?_ (by omega); refine below_set ?_ (by have := HGE.out; omega); refine below_set ?_ (by have := HGE.out; omega); exact pw_below_drewN HB4.out _)⟩
def record_Recover.f (k : Nat) (id ep st pr : Int) (an : ByteArray) (sw sl bw bl : Int) (l : List S44) (has : Bool) (jid jep jst jpr : Int) (jan : ByteArray) (jsw jsl jbw jbl : Int) (m : List S44) (cm : Bool) : Option (Int × Int × Int × Int × ByteArray × Int × Int × Int × Int × List S44 × Int) :=
  if has = true then
    if l.length < 1000000000000 then
      (cell_CheckRecord.f k id ep st pr an sw sl bw bl l).bind fun ec => (cell_CheckRecord.f k jid jep jst jpr jan jsw jsl jbw jbl m).bind fun e2 =>
        if (decide (ec = 0) && ((id == jid) && (an.toList == jan.toList))) = true ∧ e2 = 0 ∧ jst = 2 then
          if st = 2 ∧ ep = jep ∧ (sw == jsw && (sl == jsl)) = true then some (id, ep, (if cm = true then 3 else 4), pr, an, sw, sl, bw, bl, [], 0)
          else some (id, ep, st, pr, an, sw, sl, bw, bl, l, 0)
        else some (0, 0, 0, 0, ⟨#[]⟩, 0, 0, 0, 0, [], 2)
    else none
  else some (0, 0, 0, 0, ⟨#[]⟩, 0, 0, 0, 0, [], 2)
theorem record_Recover.mono : ∀ a0 a1 a2 a3 a4 a5 a6 a7 a8 a9 b c0 c1 c2 c3 c4 c5 c6 c7 c8 c9 d k, LeO (record_Recover.f k a0 a1 a2 a3 a4 a5 a6 a7 a8 a9 b c0 c1 c2 c3 c4 c5 c6 c7 c8 c9 d) (record_Recover.f (k + 1) a0 a1 a2 a3 a4 a5 a6 a7 a8 a9 b c0 c1 c2 c3 c4 c5 c6 c7 c8 c9 d) := by
  intros
  unfold record_Recover.f
  exact LeO.ite (LeO.ite (LeO.bind (cell_CheckRecord.mono _ _ _ _ _ _ _ _ _ _ _) fun _ => LeO.bind (cell_CheckRecord.mono _ _ _ _ _ _ _ _ _ _ _) fun _ => LeO.refl _) (LeO.refl _)) (LeO.refl _)
theorem record_Recover.calls (k : Nat) (id ep st pr : Int) (an : ByteArray) (sw sl bw bl : Int) (A : Option Addr) (c : Nat) (l : List S44) (has : Bool) (jid jep jst jpr : Int) (jan : ByteArray) (jsw jsl jbw jbl : Int) (B : Option Addr) (d : Nat) (m : List S44) (cm : Bool) (r1 r2 r3 r4 : Int) (r5 : ByteArray) (r6 r7 r8 r9 : Int) (r10 : List S44) (r11 : Int) (w : World) (hr0_9 : Kd.C k44 w A l.length l) (hc0_9 : l.length ≤ c) (hr2_9 : Kd.C k44 w B m.length m) (hc2_9 : m.length ≤ d) (h : record_Recover.f k id ep st pr an sw sl bw bl l has jid jep jst jpr jan jsw jsl jbw jbl m cm = some (r1, r2, r3, r4, r5, r6, r7, r8, r9, r10, r11)) :
    Calls Try.prog 18 #[.agg #[.int .i64 id, .int .i64 ep, .int .i64 st, .int .i64 pr, .string an, .int .i64 sw, .int .i64 sl, .int .i64 bw, .int .i64 bl, .slice A l.length c], .bool has, .agg #[.int .i64 jid, .int .i64 jep, .int .i64 jst, .int .i64 jpr, .string jan, .int .i64 jsw, .int .i64 jsl, .int .i64 jbw, .int .i64 jbl, .slice B m.length d], .bool cm] w fun e w' => ∃ v9_ : Value, e = .returned (.tuple #[.agg #[.int .i64 r1, .int .i64 r2, .int .i64 r3, .int .i64 r4, .string r5, .int .i64 r6, .int .i64 r7, .int .i64 r8, .int .i64 r9, v9_], .int .i64 r11]) ∧ Kd.R k44 44 w' w.heap.size (fun _ => True) v9_ r10 ∧ Below w.heap.size w w' := by
  show Calls _ _ _ _ (recPost r1 r2 r3 r4 r5 r6 r7 r8 r9 r10 r11 w)
  unfold record_Recover.f at h
  cases has with
  | false =>
    rw [if_neg (by simp)] at h
    simp only [Option.some.injEq, Prod.mk.injEq] at h
    obtain ⟨rfl, rfl, rfl, rfl, rfl, rfl, rfl, rfl, rfl, rfl, rfl⟩ := h
    exact rc_no k id ep st pr an sw sl bw bl A c l jid jep jst jpr jan jsw jsl jbw jbl B d m cm w hr0_9 hc0_9 hr2_9 hc2_9
  | true =>
    rw [if_pos rfl] at h
    by_cases hl : l.length < 1000000000000
    case neg => rw [if_neg hl] at h; exact absurd h (by simp)
    rw [if_pos hl] at h
    obtain ⟨ec, hk, h⟩ := Option.bind_eq_some_iff.mp h
    obtain ⟨e2, hk2, h⟩ := Option.bind_eq_some_iff.mp h
    have hec := check_02 _ _ _ _ _ _ _ _ _ _ _ _ hk
    have he2 := check_02 _ _ _ _ _ _ _ _ _ _ _ _ hk2
    cases hok : (decide (ec = 0) && ((id == jid) && (an.toList == jan.toList)))
    · rw [if_neg (by rw [hok]; simp)] at h
      simp only [Option.some.injEq, Prod.mk.injEq] at h
      obtain ⟨rfl, rfl, rfl, rfl, rfl, rfl, rfl, rfl, rfl, rfl, rfl⟩ := h
      exact rc_bad k id ep st pr an sw sl bw bl A c l jid jep jst jpr jan jsw jsl jbw jbl B d m cm w hr0_9 hc0_9 hl hr2_9 hc2_9 ec hec hk hok
    rcases he2 with rfl | rfl
    case inr =>
      rw [if_neg (by simp)] at h
      simp only [Option.some.injEq, Prod.mk.injEq] at h
      obtain ⟨rfl, rfl, rfl, rfl, rfl, rfl, rfl, rfl, rfl, rfl, rfl⟩ := h
      exact rc_arg k id ep st pr an sw sl bw bl A c l jid jep jst jpr jan jsw jsl jbw jbl B d m cm w hr0_9 hc0_9 hl hr2_9 hc2_9 ec hec hk hok 0 hk2
    by_cases q : jst = 2
    case neg =>
      rw [if_neg (by simp [q])] at h
      simp only [Option.some.injEq, Prod.mk.injEq] at h
      obtain ⟨rfl, rfl, rfl, rfl, rfl, rfl, rfl, rfl, rfl, rfl, rfl⟩ := h
      exact rc_st k id ep st pr an sw sl bw bl A c l jid jep jst jpr jan jsw jsl jbw jbl B d m cm w hr0_9 hc0_9 hl hr2_9 hc2_9 ec hec hk hok 0 hk2 q
    rw [if_pos ⟨hok, rfl, q⟩] at h
    by_cases q2 : st = 2
    case neg =>
      rw [if_neg (fun x => q2 x.1)] at h
      simp only [Option.some.injEq, Prod.mk.injEq] at h
      obtain ⟨rfl, rfl, rfl, rfl, rfl, rfl, rfl, rfl, rfl, rfl, rfl⟩ := h
      exact rc_o1 k id ep st pr an sw sl bw bl A c l jid jep jst jpr jan jsw jsl jbw jbl B d m cm w hr0_9 hc0_9 hl hr2_9 hc2_9 ec hec hk hok 0 hk2 q q2
    by_cases q3 : ep = jep
    case neg =>
      rw [if_neg (fun x => q3 x.2.1)] at h
      simp only [Option.some.injEq, Prod.mk.injEq] at h
      obtain ⟨rfl, rfl, rfl, rfl, rfl, rfl, rfl, rfl, rfl, rfl, rfl⟩ := h
      exact rc_o2 k id ep st pr an sw sl bw bl A c l jid jep jst jpr jan jsw jsl jbw jbl B d m cm w hr0_9 hc0_9 hl hr2_9 hc2_9 ec hec hk hok 0 hk2 q q2 q3
    cases q4 : (sw == jsw && (sl == jsl))
    · rw [if_neg (by rw [q4]; simp)] at h
      simp only [Option.some.injEq, Prod.mk.injEq] at h
      obtain ⟨rfl, rfl, rfl, rfl, rfl, rfl, rfl, rfl, rfl, rfl, rfl⟩ := h
      exact rc_o3 k id ep st pr an sw sl bw bl A c l jid jep jst jpr jan jsw jsl jbw jbl B d m cm w hr0_9 hc0_9 hl hr2_9 hc2_9 ec hec hk hok 0 hk2 q q2 q3 q4
    rw [if_pos ⟨q2, q3, q4⟩] at h
    simp only [Option.some.injEq, Prod.mk.injEq] at h
    obtain ⟨rfl, rfl, rfl, rfl, rfl, rfl, rfl, rfl, rfl, rfl, rfl⟩ := h
    cases cm
    · exact rc_o4f k id ep st pr an sw sl bw bl A c l jid jep jst jpr jan jsw jsl jbw jbl B d m false w hr0_9 hc0_9 hl hr2_9 hc2_9 ec hec hk hok 0 hk2 q q2 q3 q4 rfl
    · exact rc_o4t k id ep st pr an sw sl bw bl A c l jid jep jst jpr jan jsw jsl jbw jbl B d m true w hr0_9 hc0_9 hl hr2_9 hc2_9 ec hec hk hok 0 hk2 q q2 q3 q4 rfl

/-! ### scriptoriumlaw20_Deed_does: function 9 (a leaf, by hand) -/
def scriptoriumlaw20_Deed_does.f (k : Nat) (a0_0 : Int) (a0_1 : Int) (a0_2 : Int) (a0_3 : Bool) (a0_4 : Int) (a0_5 : Int) (a0_6 : Int) (a0_7 : ByteArray) (a0_8 : Int) (a0_9 : Int) (a0_10 : Int) (a0_11 : Int) (a0_12 : Int) (a0_13 : Int) (a0_14 : Int) (a0_15 : Int) (a0_16 : Int) (a0_17 : Int) (a0_18 : Int) (a0_19 : Int) (a0_20 : ByteArray) (a0_21 : Int) (a0_22 : Int) (a0_23 : Int) (a0_24 : Int) (l0_25 : List (S44)) (l0_26 : List (S44)) (a0_27 : Int) (a0_28 : Int) (a0_29 : Int) (a0_30 : Int) (a1_0 : Int) (a1_1 : Int) (a1_2 : Int) (a1_3 : Int) (a1_4 : ByteArray) (a1_5 : Int) (a1_6 : Int) (a1_7 : Int) (a1_8 : Int) (l1_9 : List (S44)) (a2 : Bool) : Option (Int × Int × Int × Int × ByteArray × Int × Int × Int × Int × (List (S44)) × Int) :=
  (scriptoriumref00_Bring.f a0_0 4).bind fun t => if t = 0 then record_End.f k a1_0 a1_1 a1_2 a1_3 a1_4 a1_5 a1_6 a1_7 a1_8 l1_9 a2 a0_4 a0_5 a0_6 a0_7 a0_8 a0_9 a0_10 a0_11 a0_12 a0_13 a0_14 a0_15 a0_1 l0_26 a0_29 a0_30 else if t = 1 then record_Beat.f k a1_0 a1_1 a1_2 a1_3 a1_4 a1_5 a1_6 a1_7 a1_8 l1_9 a2 a0_4 a0_5 a0_6 a0_7 a0_8 a0_9 a0_10 a0_11 a0_12 a0_13 a0_14 a0_15 a0_29 a0_30 else if t = 2 then record_Push.f k a1_0 a1_1 a1_2 a1_3 a1_4 a1_5 a1_6 a1_7 a1_8 l1_9 a2 a0_16 a0_17 a0_18 a0_19 a0_20 a0_21 a0_22 a0_23 a0_24 l0_25 a0_2 a0_3 a0_27 a0_28 a0_29 a0_30 else record_Recover.f k a1_0 a1_1 a1_2 a1_3 a1_4 a1_5 a1_6 a1_7 a1_8 l1_9 a2 a0_16 a0_17 a0_18 a0_19 a0_20 a0_21 a0_22 a0_23 a0_24 l0_25 a0_3
theorem scriptoriumlaw20_Deed_does.mono : ∀ a0_0 a0_1 a0_2 a0_3 a0_4 a0_5 a0_6 a0_7 a0_8 a0_9 a0_10 a0_11 a0_12 a0_13 a0_14 a0_15 a0_16 a0_17 a0_18 a0_19 a0_20 a0_21 a0_22 a0_23 a0_24 l0_25 l0_26 a0_27 a0_28 a0_29 a0_30 a1_0 a1_1 a1_2 a1_3 a1_4 a1_5 a1_6 a1_7 a1_8 l1_9 a2 k, LeO (scriptoriumlaw20_Deed_does.f k a0_0 a0_1 a0_2 a0_3 a0_4 a0_5 a0_6 a0_7 a0_8 a0_9 a0_10 a0_11 a0_12 a0_13 a0_14 a0_15 a0_16 a0_17 a0_18 a0_19 a0_20 a0_21 a0_22 a0_23 a0_24 l0_25 l0_26 a0_27 a0_28 a0_29 a0_30 a1_0 a1_1 a1_2 a1_3 a1_4 a1_5 a1_6 a1_7 a1_8 l1_9 a2) (scriptoriumlaw20_Deed_does.f (k + 1) a0_0 a0_1 a0_2 a0_3 a0_4 a0_5 a0_6 a0_7 a0_8 a0_9 a0_10 a0_11 a0_12 a0_13 a0_14 a0_15 a0_16 a0_17 a0_18 a0_19 a0_20 a0_21 a0_22 a0_23 a0_24 l0_25 l0_26 a0_27 a0_28 a0_29 a0_30 a1_0 a1_1 a1_2 a1_3 a1_4 a1_5 a1_6 a1_7 a1_8 l1_9 a2) := by
  intros
  unfold scriptoriumlaw20_Deed_does.f
  exact LeO.bind (LeO.refl _) fun _ => LeO.ite (record_End.mono _ _ _ _ _ _ _ _ _ _ _ _ _ _ _ _ _ _ _ _ _ _ _ _ _ _ _ _) (LeO.ite (record_Beat.mono _ _ _ _ _ _ _ _ _ _ _ _ _ _ _ _ _ _ _ _ _ _ _ _ _ _) (LeO.ite (record_Push.mono _ _ _ _ _ _ _ _ _ _ _ _ _ _ _ _ _ _ _ _ _ _ _ _ _ _ _ _) (record_Recover.mono _ _ _ _ _ _ _ _ _ _ _ _ _ _ _ _ _ _ _ _ _ _ _)))
set_option maxHeartbeats 16000000 in
set_option maxRecDepth 100000 in
theorem scriptoriumlaw20_Deed_does.calls (k : Nat) (a0_0 : Int) (a0_1 : Int) (a0_2 : Int) (a0_3 : Bool) (a0_4 : Int) (a0_5 : Int) (a0_6 : Int) (a0_7 : ByteArray) (a0_8 : Int) (a0_9 : Int) (a0_10 : Int) (a0_11 : Int) (a0_12 : Int) (a0_13 : Int) (a0_14 : Int) (a0_15 : Int) (a0_16 : Int) (a0_17 : Int) (a0_18 : Int) (a0_19 : Int) (a0_20 : ByteArray) (a0_21 : Int) (a0_22 : Int) (a0_23 : Int) (a0_24 : Int) (A0_25 : Option Addr) (c0_25 : Nat) (l0_25 : List (S44)) (A0_26 : Option Addr) (c0_26 : Nat) (l0_26 : List (S44)) (a0_27 : Int) (a0_28 : Int) (a0_29 : Int) (a0_30 : Int) (a1_0 : Int) (a1_1 : Int) (a1_2 : Int) (a1_3 : Int) (a1_4 : ByteArray) (a1_5 : Int) (a1_6 : Int) (a1_7 : Int) (a1_8 : Int) (A1_9 : Option Addr) (c1_9 : Nat) (l1_9 : List (S44)) (a2 : Bool) (r1 : Int) (r2 : Int) (r3 : Int) (r4 : Int) (r5 : ByteArray) (r6 : Int) (r7 : Int) (r8 : Int) (r9 : Int) (r10 : List (S44)) (r11 : Int) (w : World) (hr0_25 : Kd.C k44 w A0_25 l0_25.length l0_25) (hc0_25 : l0_25.length ≤ c0_25) (hr0_26 : Kd.C k44 w A0_26 l0_26.length l0_26) (hc0_26 : l0_26.length ≤ c0_26) (hr1_9 : Kd.C k44 w A1_9 l1_9.length l1_9) (hc1_9 : l1_9.length ≤ c1_9) (h : scriptoriumlaw20_Deed_does.f k a0_0 a0_1 a0_2 a0_3 a0_4 a0_5 a0_6 a0_7 a0_8 a0_9 a0_10 a0_11 a0_12 a0_13 a0_14 a0_15 a0_16 a0_17 a0_18 a0_19 a0_20 a0_21 a0_22 a0_23 a0_24 l0_25 l0_26 a0_27 a0_28 a0_29 a0_30 a1_0 a1_1 a1_2 a1_3 a1_4 a1_5 a1_6 a1_7 a1_8 l1_9 a2 = some (r1, r2, r3, r4, r5, r6, r7, r8, r9, r10, r11)) :
    Calls Try.prog 9 #[.agg #[.int .i64 a0_0, .int .i64 a0_1, .int .i64 a0_2, .bool a0_3, .int .i64 a0_4, .int .i64 a0_5, .int .i64 a0_6, .string a0_7, .int .i64 a0_8, .int .i64 a0_9, .int .i64 a0_10, .int .i64 a0_11, .int .i64 a0_12, .int .i64 a0_13, .int .i64 a0_14, .int .i64 a0_15, .int .i64 a0_16, .int .i64 a0_17, .int .i64 a0_18, .int .i64 a0_19, .string a0_20, .int .i64 a0_21, .int .i64 a0_22, .int .i64 a0_23, .int .i64 a0_24, .slice A0_25 l0_25.length c0_25, .slice A0_26 l0_26.length c0_26, .int .i64 a0_27, .int .i64 a0_28, .int .i64 a0_29, .int .i64 a0_30], .agg #[.int .i64 a1_0, .int .i64 a1_1, .int .i64 a1_2, .int .i64 a1_3, .string a1_4, .int .i64 a1_5, .int .i64 a1_6, .int .i64 a1_7, .int .i64 a1_8, .slice A1_9 l1_9.length c1_9], .bool a2] w fun e w' => ∃ v9_ : Value, e = .returned (.tuple #[.agg #[.int .i64 r1, .int .i64 r2, .int .i64 r3, .int .i64 r4, .string r5, .int .i64 r6, .int .i64 r7, .int .i64 r8, .int .i64 r9, v9_], .int .i64 r11]) ∧ Kd.R k44 44 w' w.heap.size (fun _ => True) v9_ r10 ∧ Below w.heap.size w w' := by
  show Calls _ _ _ _ (recPost r1 r2 r3 r4 r5 r6 r7 r8 r9 r10 r11 w)
  unfold scriptoriumlaw20_Deed_does.f at h
  obtain ⟨t, ht, h⟩ := Option.bind_eq_some_iff.mp h
  have HT := Aside0.mk ht
  have HF := Aside0.mk h
  have H25 := Aside0.mk hr0_25
  have H26 := Aside0.mk hr0_26
  have H9 := Aside0.mk hr1_9
  clear ht h hr0_25 hr0_26 hr1_9
  go_enter Try.func9, Try.ntmps9
  go_wp2_with fail
  obtain ⟨w1, hw1, h1, h2, h3, hb1, hs1⟩ := three_boxes w (.cells #[.int .i64 a0_0, .int .i64 a0_1, .int .i64 a0_2, .bool a0_3, .int .i64 a0_4, .int .i64 a0_5, .int .i64 a0_6, .string a0_7, .int .i64 a0_8, .int .i64 a0_9, .int .i64 a0_10, .int .i64 a0_11, .int .i64 a0_12, .int .i64 a0_13, .int .i64 a0_14, .int .i64 a0_15, .int .i64 a0_16, .int .i64 a0_17, .int .i64 a0_18, .int .i64 a0_19, .string a0_20, .int .i64 a0_21, .int .i64 a0_22, .int .i64 a0_23, .int .i64 a0_24, .slice A0_25 l0_25.length c0_25, .slice A0_26 l0_26.length c0_26, .int .i64 a0_27, .int .i64 a0_28, .int .i64 a0_29, .int .i64 a0_30] 33) (.cells #[.int .i64 a1_0, .int .i64 a1_1, .int .i64 a1_2, .int .i64 a1_3, .string a1_4, .int .i64 a1_5, .int .i64 a1_6, .int .i64 a1_7, .int .i64 a1_8, .slice A1_9 l1_9.length c1_9] 27) (.cells #[.int .i64 0, .int .i64 0, .int .i64 0, .int .i64 0, .string ⟨#[]⟩, .int .i64 0, .int .i64 0, .int .i64 0, .int .i64 0, .slice none 0 0] 27)
  rw [hw1]
  clear hw1
  have S1 := Aside0.mk ((Stt.nil hb1).more h1 |>.more h2 |>.more h3)
  have x0 : w1.cell? ⟨w.heap.size, 0, none⟩ = some (.int .i64 a0_0) := (blk_cell h1 0).trans rfl
  clear h1 h2 h3 hb1 hs1
  go_wp2_with fail
  refine (scriptoriumref00_Bring.calls a0_0 4 t w1 HT.out).mono ?_
  rintro e w2 ⟨rfl, hb⟩
  have S2 := Aside0.mk (S1.out.step hb.below)
  clear hb x0 S1
  by_cases q0 : t = 0
  case pos =>
    have h := HF.out
    clear HF
    rw [if_pos q0] at h
    have HF := Aside0.mk h
    clear h
    have d0 : (t == 0) = true := beq_iff_eq.mpr q0
    have d1 : (t == 1) = false := beq_eq_false_iff_ne.mpr (by omega)
    have d2 : (t == 2) = false := beq_eq_false_iff_ne.mpr (by omega)
    clear q0
    have x4 : w2.cell? ⟨w.heap.size, 4, none⟩ = some (.int .i64 a0_4) := (blk_cell S2.out.bx2 4).trans rfl
    have x5 : w2.cell? ⟨w.heap.size, 5, none⟩ = some (.int .i64 a0_5) := (blk_cell S2.out.bx2 5).trans rfl
    have x6 : w2.cell? ⟨w.heap.size, 6, none⟩ = some (.int .i64 a0_6) := (blk_cell S2.out.bx2 6).trans rfl
    have x7 : w2.cell? ⟨w.heap.size, 7, none⟩ = some (.string a0_7) := (blk_cell S2.out.bx2 7).trans rfl
    have x8 : w2.cell? ⟨w.heap.size, 8, none⟩ = some (.int .i64 a0_8) := (blk_cell S2.out.bx2 8).trans rfl
    have x9 : w2.cell? ⟨w.heap.size, 9, none⟩ = some (.int .i64 a0_9) := (blk_cell S2.out.bx2 9).trans rfl
    have x10 : w2.cell? ⟨w.heap.size, 10, none⟩ = some (.int .i64 a0_10) := (blk_cell S2.out.bx2 10).trans rfl
    have x11 : w2.cell? ⟨w.heap.size, 11, none⟩ = some (.int .i64 a0_11) := (blk_cell S2.out.bx2 11).trans rfl
    have x12 : w2.cell? ⟨w.heap.size, 12, none⟩ = some (.int .i64 a0_12) := (blk_cell S2.out.bx2 12).trans rfl
    have x13 : w2.cell? ⟨w.heap.size, 13, none⟩ = some (.int .i64 a0_13) := (blk_cell S2.out.bx2 13).trans rfl
    have x14 : w2.cell? ⟨w.heap.size, 14, none⟩ = some (.int .i64 a0_14) := (blk_cell S2.out.bx2 14).trans rfl
    have x15 : w2.cell? ⟨w.heap.size, 15, none⟩ = some (.int .i64 a0_15) := (blk_cell S2.out.bx2 15).trans rfl
    have x1 : w2.cell? ⟨w.heap.size, 1, none⟩ = some (.int .i64 a0_1) := (blk_cell S2.out.bx2 1).trans rfl
    have x26 : w2.cell? ⟨w.heap.size, 26, none⟩ = some (.slice A0_26 l0_26.length c0_26) := (blk_cell S2.out.bx2 26).trans rfl
    have x29 : w2.cell? ⟨w.heap.size, 29, none⟩ = some (.int .i64 a0_29) := (blk_cell S2.out.bx2 29).trans rfl
    have x30 : w2.cell? ⟨w.heap.size, 30, none⟩ = some (.int .i64 a0_30) := (blk_cell S2.out.bx2 30).trans rfl
    obtain ⟨y0, y1, y2, y3, y4, y5, y6, y7, y8, y9⟩ := cells10 S2.out.bx1
    go_wp2_with fail
    refine (show Calls _ _ _ _ (recPost r1 r2 r3 r4 r5 r6 r7 r8 r9 r10 r11 _) from record_End.calls k a1_0 a1_1 a1_2 a1_3 a1_4 a1_5 a1_6 a1_7 a1_8 A1_9 c1_9 l1_9 a2 a0_4 a0_5 a0_6 a0_7 a0_8 a0_9 a0_10 a0_11 a0_12 a0_13 a0_14 a0_15 a0_1 A0_26 c0_26 l0_26 a0_29 a0_30 r1 r2 r3 r4 r5 r6 r7 r8 r9 r10 r11 w2 (Kd.C_below H9.out S2.out.below) hc1_9 (Kd.C_below H26.out S2.out.below) hc0_26 HF.out).mono ?_
    rintro e w3 ⟨v, rfl, hR, hb⟩
    obtain ⟨Av, cv, rfl⟩ := Kd.R_slice hR
    have HR := Aside0.mk (Kd.R_lower (Kd.R_mono (ok' := fun b => b ≠ w.heap.size + 1 + 1) (Kd.R_bound hR) (fun b hb_ => Nat.ne_of_gt (Nat.lt_of_lt_of_le (blk_lt S2.out.bx0) hb_.2.1))) S2.out.below.size)
    have S3 := Aside0.mk (S2.out.step hb)
    clear hR hb x4 x5 x6 x7 x8 x9 x10 x11 x12 x13 x14 x15 x1 x26 x29 x30 y0 y1 y2 y3 y4 y5 y6 y7 y8 y9
    obtain ⟨o0, o1, o2, o3, o4, o5, o6, o7, o8, o9⟩ := cells10 S3.out.bx0
    obtain ⟨fo0, fo1, fo2, fo3, fo4, fo5, fo6, fo7, fo8, fo9⟩ := frozen10 S3.out.bx0
    go_wp2_with fail
    refine bodyPost_ret (results_ct rfl _ _ _ _ _ (0, 0) _ rfl (ten_put _ _ _ _ _ _ _ _ _ _ S3.out.bx0) Try.underlying27 rfl (by kernel_rfl)) rfl ?_
    exact post_row _ _ _ _ _ _ _ _ _ _ S3.out.below (Nat.le_add_right _ 2) HR.out (fun _ h => h)
  have h := HF.out
  clear HF
  rw [if_neg q0] at h
  have HF := Aside0.mk h
  clear h
  by_cases q1 : t = 1
  case pos =>
    have h := HF.out
    clear HF
    rw [if_pos q1] at h
    have HF := Aside0.mk h
    clear h
    have d0 : (t == 0) = false := beq_eq_false_iff_ne.mpr (by omega)
    have d1 : (t == 1) = true := beq_iff_eq.mpr q1
    have d2 : (t == 2) = false := beq_eq_false_iff_ne.mpr (by omega)
    clear q0 q1
    have x4 : w2.cell? ⟨w.heap.size, 4, none⟩ = some (.int .i64 a0_4) := (blk_cell S2.out.bx2 4).trans rfl
    have x5 : w2.cell? ⟨w.heap.size, 5, none⟩ = some (.int .i64 a0_5) := (blk_cell S2.out.bx2 5).trans rfl
    have x6 : w2.cell? ⟨w.heap.size, 6, none⟩ = some (.int .i64 a0_6) := (blk_cell S2.out.bx2 6).trans rfl
    have x7 : w2.cell? ⟨w.heap.size, 7, none⟩ = some (.string a0_7) := (blk_cell S2.out.bx2 7).trans rfl
    have x8 : w2.cell? ⟨w.heap.size, 8, none⟩ = some (.int .i64 a0_8) := (blk_cell S2.out.bx2 8).trans rfl
    have x9 : w2.cell? ⟨w.heap.size, 9, none⟩ = some (.int .i64 a0_9) := (blk_cell S2.out.bx2 9).trans rfl
    have x10 : w2.cell? ⟨w.heap.size, 10, none⟩ = some (.int .i64 a0_10) := (blk_cell S2.out.bx2 10).trans rfl
    have x11 : w2.cell? ⟨w.heap.size, 11, none⟩ = some (.int .i64 a0_11) := (blk_cell S2.out.bx2 11).trans rfl
    have x12 : w2.cell? ⟨w.heap.size, 12, none⟩ = some (.int .i64 a0_12) := (blk_cell S2.out.bx2 12).trans rfl
    have x13 : w2.cell? ⟨w.heap.size, 13, none⟩ = some (.int .i64 a0_13) := (blk_cell S2.out.bx2 13).trans rfl
    have x14 : w2.cell? ⟨w.heap.size, 14, none⟩ = some (.int .i64 a0_14) := (blk_cell S2.out.bx2 14).trans rfl
    have x15 : w2.cell? ⟨w.heap.size, 15, none⟩ = some (.int .i64 a0_15) := (blk_cell S2.out.bx2 15).trans rfl
    have x29 : w2.cell? ⟨w.heap.size, 29, none⟩ = some (.int .i64 a0_29) := (blk_cell S2.out.bx2 29).trans rfl
    have x30 : w2.cell? ⟨w.heap.size, 30, none⟩ = some (.int .i64 a0_30) := (blk_cell S2.out.bx2 30).trans rfl
    obtain ⟨y0, y1, y2, y3, y4, y5, y6, y7, y8, y9⟩ := cells10 S2.out.bx1
    go_wp2_with fail
    refine (show Calls _ _ _ _ (recPost r1 r2 r3 r4 r5 r6 r7 r8 r9 r10 r11 _) from record_Beat.calls k a1_0 a1_1 a1_2 a1_3 a1_4 a1_5 a1_6 a1_7 a1_8 A1_9 c1_9 l1_9 a2 a0_4 a0_5 a0_6 a0_7 a0_8 a0_9 a0_10 a0_11 a0_12 a0_13 a0_14 a0_15 a0_29 a0_30 r1 r2 r3 r4 r5 r6 r7 r8 r9 r10 r11 w2 (Kd.C_below H9.out S2.out.below) hc1_9 HF.out).mono ?_
    rintro e w3 ⟨v, rfl, hR, hb⟩
    obtain ⟨Av, cv, rfl⟩ := Kd.R_slice hR
    have HR := Aside0.mk (Kd.R_lower (Kd.R_mono (ok' := fun b => b ≠ w.heap.size + 1 + 1) (Kd.R_bound hR) (fun b hb_ => Nat.ne_of_gt (Nat.lt_of_lt_of_le (blk_lt S2.out.bx0) hb_.2.1))) S2.out.below.size)
    have S3 := Aside0.mk (S2.out.step hb)
    clear hR hb x4 x5 x6 x7 x8 x9 x10 x11 x12 x13 x14 x15 x29 x30 y0 y1 y2 y3 y4 y5 y6 y7 y8 y9
    obtain ⟨o0, o1, o2, o3, o4, o5, o6, o7, o8, o9⟩ := cells10 S3.out.bx0
    obtain ⟨fo0, fo1, fo2, fo3, fo4, fo5, fo6, fo7, fo8, fo9⟩ := frozen10 S3.out.bx0
    go_wp2_with fail
    refine bodyPost_ret (results_ct rfl _ _ _ _ _ (0, 0) _ rfl (ten_put _ _ _ _ _ _ _ _ _ _ S3.out.bx0) Try.underlying27 rfl (by kernel_rfl)) rfl ?_
    exact post_row _ _ _ _ _ _ _ _ _ _ S3.out.below (Nat.le_add_right _ 2) HR.out (fun _ h => h)
  have h := HF.out
  clear HF
  rw [if_neg q1] at h
  have HF := Aside0.mk h
  clear h
  by_cases q2 : t = 2
  case pos =>
    have h := HF.out
    clear HF
    rw [if_pos q2] at h
    have HF := Aside0.mk h
    clear h
    have d0 : (t == 0) = false := beq_eq_false_iff_ne.mpr (by omega)
    have d1 : (t == 1) = false := beq_eq_false_iff_ne.mpr (by omega)
    have d2 : (t == 2) = true := beq_iff_eq.mpr q2
    clear q0 q1 q2
    have x16 : w2.cell? ⟨w.heap.size, 16, none⟩ = some (.int .i64 a0_16) := (blk_cell S2.out.bx2 16).trans rfl
    have x17 : w2.cell? ⟨w.heap.size, 17, none⟩ = some (.int .i64 a0_17) := (blk_cell S2.out.bx2 17).trans rfl
    have x18 : w2.cell? ⟨w.heap.size, 18, none⟩ = some (.int .i64 a0_18) := (blk_cell S2.out.bx2 18).trans rfl
    have x19 : w2.cell? ⟨w.heap.size, 19, none⟩ = some (.int .i64 a0_19) := (blk_cell S2.out.bx2 19).trans rfl
    have x20 : w2.cell? ⟨w.heap.size, 20, none⟩ = some (.string a0_20) := (blk_cell S2.out.bx2 20).trans rfl
    have x21 : w2.cell? ⟨w.heap.size, 21, none⟩ = some (.int .i64 a0_21) := (blk_cell S2.out.bx2 21).trans rfl
    have x22 : w2.cell? ⟨w.heap.size, 22, none⟩ = some (.int .i64 a0_22) := (blk_cell S2.out.bx2 22).trans rfl
    have x23 : w2.cell? ⟨w.heap.size, 23, none⟩ = some (.int .i64 a0_23) := (blk_cell S2.out.bx2 23).trans rfl
    have x24 : w2.cell? ⟨w.heap.size, 24, none⟩ = some (.int .i64 a0_24) := (blk_cell S2.out.bx2 24).trans rfl
    have x25 : w2.cell? ⟨w.heap.size, 25, none⟩ = some (.slice A0_25 l0_25.length c0_25) := (blk_cell S2.out.bx2 25).trans rfl
    have x2 : w2.cell? ⟨w.heap.size, 2, none⟩ = some (.int .i64 a0_2) := (blk_cell S2.out.bx2 2).trans rfl
    have x3 : w2.cell? ⟨w.heap.size, 3, none⟩ = some (.bool a0_3) := (blk_cell S2.out.bx2 3).trans rfl
    have x27 : w2.cell? ⟨w.heap.size, 27, none⟩ = some (.int .i64 a0_27) := (blk_cell S2.out.bx2 27).trans rfl
    have x28 : w2.cell? ⟨w.heap.size, 28, none⟩ = some (.int .i64 a0_28) := (blk_cell S2.out.bx2 28).trans rfl
    have x29 : w2.cell? ⟨w.heap.size, 29, none⟩ = some (.int .i64 a0_29) := (blk_cell S2.out.bx2 29).trans rfl
    have x30 : w2.cell? ⟨w.heap.size, 30, none⟩ = some (.int .i64 a0_30) := (blk_cell S2.out.bx2 30).trans rfl
    obtain ⟨y0, y1, y2, y3, y4, y5, y6, y7, y8, y9⟩ := cells10 S2.out.bx1
    go_wp2_with fail
    refine (show Calls _ _ _ _ (recPost r1 r2 r3 r4 r5 r6 r7 r8 r9 r10 r11 _) from record_Push.calls k a1_0 a1_1 a1_2 a1_3 a1_4 a1_5 a1_6 a1_7 a1_8 A1_9 c1_9 l1_9 a2 a0_16 a0_17 a0_18 a0_19 a0_20 a0_21 a0_22 a0_23 a0_24 A0_25 c0_25 l0_25 a0_2 a0_3 a0_27 a0_28 a0_29 a0_30 r1 r2 r3 r4 r5 r6 r7 r8 r9 r10 r11 w2 (Kd.C_below H9.out S2.out.below) hc1_9 (Kd.C_below H25.out S2.out.below) hc0_25 HF.out).mono ?_
    rintro e w3 ⟨v, rfl, hR, hb⟩
    obtain ⟨Av, cv, rfl⟩ := Kd.R_slice hR
    have HR := Aside0.mk (Kd.R_lower (Kd.R_mono (ok' := fun b => b ≠ w.heap.size + 1 + 1) (Kd.R_bound hR) (fun b hb_ => Nat.ne_of_gt (Nat.lt_of_lt_of_le (blk_lt S2.out.bx0) hb_.2.1))) S2.out.below.size)
    have S3 := Aside0.mk (S2.out.step hb)
    clear hR hb x16 x17 x18 x19 x20 x21 x22 x23 x24 x25 x2 x3 x27 x28 x29 x30 y0 y1 y2 y3 y4 y5 y6 y7 y8 y9
    obtain ⟨o0, o1, o2, o3, o4, o5, o6, o7, o8, o9⟩ := cells10 S3.out.bx0
    obtain ⟨fo0, fo1, fo2, fo3, fo4, fo5, fo6, fo7, fo8, fo9⟩ := frozen10 S3.out.bx0
    go_wp2_with fail
    refine bodyPost_ret (results_ct rfl _ _ _ _ _ (0, 0) _ rfl (ten_put _ _ _ _ _ _ _ _ _ _ S3.out.bx0) Try.underlying27 rfl (by kernel_rfl)) rfl ?_
    exact post_row _ _ _ _ _ _ _ _ _ _ S3.out.below (Nat.le_add_right _ 2) HR.out (fun _ h => h)
  have h := HF.out
  clear HF
  rw [if_neg q2] at h
  have HF := Aside0.mk h
  clear h
  have d0 : (t == 0) = false := beq_eq_false_iff_ne.mpr q0
  have d1 : (t == 1) = false := beq_eq_false_iff_ne.mpr q1
  have d2 : (t == 2) = false := beq_eq_false_iff_ne.mpr q2
  clear q0 q1 q2
  have x16 : w2.cell? ⟨w.heap.size, 16, none⟩ = some (.int .i64 a0_16) := (blk_cell S2.out.bx2 16).trans rfl
  have x17 : w2.cell? ⟨w.heap.size, 17, none⟩ = some (.int .i64 a0_17) := (blk_cell S2.out.bx2 17).trans rfl
  have x18 : w2.cell? ⟨w.heap.size, 18, none⟩ = some (.int .i64 a0_18) := (blk_cell S2.out.bx2 18).trans rfl
  have x19 : w2.cell? ⟨w.heap.size, 19, none⟩ = some (.int .i64 a0_19) := (blk_cell S2.out.bx2 19).trans rfl
  have x20 : w2.cell? ⟨w.heap.size, 20, none⟩ = some (.string a0_20) := (blk_cell S2.out.bx2 20).trans rfl
  have x21 : w2.cell? ⟨w.heap.size, 21, none⟩ = some (.int .i64 a0_21) := (blk_cell S2.out.bx2 21).trans rfl
  have x22 : w2.cell? ⟨w.heap.size, 22, none⟩ = some (.int .i64 a0_22) := (blk_cell S2.out.bx2 22).trans rfl
  have x23 : w2.cell? ⟨w.heap.size, 23, none⟩ = some (.int .i64 a0_23) := (blk_cell S2.out.bx2 23).trans rfl
  have x24 : w2.cell? ⟨w.heap.size, 24, none⟩ = some (.int .i64 a0_24) := (blk_cell S2.out.bx2 24).trans rfl
  have x25 : w2.cell? ⟨w.heap.size, 25, none⟩ = some (.slice A0_25 l0_25.length c0_25) := (blk_cell S2.out.bx2 25).trans rfl
  have x3 : w2.cell? ⟨w.heap.size, 3, none⟩ = some (.bool a0_3) := (blk_cell S2.out.bx2 3).trans rfl
  obtain ⟨y0, y1, y2, y3, y4, y5, y6, y7, y8, y9⟩ := cells10 S2.out.bx1
  go_wp2_with fail
  refine (show Calls _ _ _ _ (recPost r1 r2 r3 r4 r5 r6 r7 r8 r9 r10 r11 _) from record_Recover.calls k a1_0 a1_1 a1_2 a1_3 a1_4 a1_5 a1_6 a1_7 a1_8 A1_9 c1_9 l1_9 a2 a0_16 a0_17 a0_18 a0_19 a0_20 a0_21 a0_22 a0_23 a0_24 A0_25 c0_25 l0_25 a0_3 r1 r2 r3 r4 r5 r6 r7 r8 r9 r10 r11 w2 (Kd.C_below H9.out S2.out.below) hc1_9 (Kd.C_below H25.out S2.out.below) hc0_25 HF.out).mono ?_
  rintro e w3 ⟨v, rfl, hR, hb⟩
  obtain ⟨Av, cv, rfl⟩ := Kd.R_slice hR
  have HR := Aside0.mk (Kd.R_lower (Kd.R_mono (ok' := fun b => b ≠ w.heap.size + 1 + 1) (Kd.R_bound hR) (fun b hb_ => Nat.ne_of_gt (Nat.lt_of_lt_of_le (blk_lt S2.out.bx0) hb_.2.1))) S2.out.below.size)
  have S3 := Aside0.mk (S2.out.step hb)
  clear hR hb x16 x17 x18 x19 x20 x21 x22 x23 x24 x25 x3 y0 y1 y2 y3 y4 y5 y6 y7 y8 y9
  obtain ⟨o0, o1, o2, o3, o4, o5, o6, o7, o8, o9⟩ := cells10 S3.out.bx0
  obtain ⟨fo0, fo1, fo2, fo3, fo4, fo5, fo6, fo7, fo8, fo9⟩ := frozen10 S3.out.bx0
  go_wp2_with fail
  refine bodyPost_ret (results_ct rfl _ _ _ _ _ (0, 0) _ rfl (ten_put _ _ _ _ _ _ _ _ _ _ S3.out.bx0) Try.underlying27 rfl (by kernel_rfl)) rfl ?_
  exact post_row _ _ _ _ _ _ _ _ _ _ S3.out.below (Nat.le_add_right _ 2) HR.out (fun _ h => h)

end Go.Proofs.Ythdmkacnkdmbiaa.PRecordStaged
