/- Written by xprint.py, a program of these sessions (over the print of the kit, with leaves typed by hand): one Lean function for each Go function, and the proof that the Go code comes to its answers. -/
import Derived.Test.YthdmkacnkdmbiaaPRecordStagedx14a
import Derived.Test.YthdmkacnkdmbiaaPRecordStagedx14b
import Derived.Test.YthdmkacnkdmbiaaPRecordStagedx14c
import Derived.Test.YthdmkacnkdmbiaaPRecordStagedx0
import Derived.Test.YthdmkacnkdmbiaaPRecordStagedx1
import Derived.Test.YthdmkacnkdmbiaaPRecordStagedx3
import Derived.Test.YthdmkacnkdmbiaaPRecordStagedx6
import Derived.Test.YthdmkacnkdmbiaaPRecordStagedx7
import Derived.Test.YthdmkacnkdmbiaaPRecordStagedx9
import Derived.Test.YthdmkacnkdmbiaaPRecordStagedx11
import Derived.Test.YthdmkacnkdmbiaaPRecordStagedx12
import Derived.Test.YthdmkacnkdmbiaaPRecordStagedx13
namespace Go.Proofs.Ythdmkacnkdmbiaa.PRecordStaged
open Go.RowKit Go.Proofs.YthdmkacnkdmbiaaW.PrintWords Go.Proofs.YthdmkacnkdmbiaaW.PrintLast Go.Proofs.YthdmkacnkdmbiaaW.PrintMore
attribute [local go_sem] max2_int min2_int max_two min_two max_three min_three max_four min_four   -- for this text's walks alone
attribute [local go_sem] str_gtr str_leq str_geq
set_option linter.unusedVariables false
set_option linter.unusedSimpArgs false

attribute [local go_sem high] eqA24
def scriptoriumlaw20_awake.f : Option (Bool) := some true
set_option maxHeartbeats 16000000 in
set_option maxRecDepth 100000 in
theorem scriptoriumlaw20_awake.calls (r : Bool) (w : World) (h : scriptoriumlaw20_awake.f = some r) :
    Calls Try.prog 11 #[] w fun e w' => e = .returned (.bool r) ∧ Below w.heap.size w w' := by
  obtain rfl := Option.some.inj h
  go_enter Try.func11, Try.ntmps11
  have S0 := Aside0.mk (Mem.nil (Below.refl w.heap.size w))
  go_wp2_with fail
  refine (scriptoriumlaw20_txn.calls 7 0 5 ⟨#[97]⟩ 10 0 10 0 0 0 0 0 _ rfl).mono ?_
  rintro e w1 ⟨rfl, hb⟩
  have S1 := Aside0.mk (S0.out.step hb)
  clear hb S0
  go_wp2_with fail
  refine (scriptoriumlaw20_at.calls 20 20 0 _ rfl).mono ?_
  rintro e w2 ⟨rfl, hb⟩
  have S2 := Aside0.mk (S1.out.step hb)
  clear hb S1
  go_wp2_with fail
  refine (show Calls _ _ _ _ (recPost 7 0 1 5 ⟨#[97]⟩ 10 0 20 0 [] 0 _) from record_Beat.calls 40 0 0 0 0 ⟨#[]⟩ 0 0 0 0 none 0 [] false 7 0 5 ⟨#[97]⟩ 10 0 10 0 0 0 0 0 20 0 7 0 1 5 ⟨#[97]⟩ 10 0 20 0 [] 0 _ (Kd.C_nil' _ _ _) (Nat.zero_le _) (by kernel_rfl)).mono ?_
  rintro e w3 ⟨va, rfl, hR, hb⟩
  obtain ⟨Aa, ca, rfl⟩ := Kd.R_slice hR
  have S3 := Aside0.mk (S2.out.step hb)
  clear hb S2
  go_wp2_with fail
  have hMA := S3.out.alloc #[.int .i64 7, .int .i64 0, .int .i64 1, .int .i64 5, .string ⟨#[97]⟩, .int .i64 10, .int .i64 0, .int .i64 20, .int .i64 0, .slice Aa 0 ca] 27
  generalize hwa : World.alloc w3 _ = w4 at hMA ⊢
  have S4 := Aside0.mk hMA
  clear hwa hMA S3
  generalize w3.heap.size = ba at S4 ⊢
  go_upto_region 2 with fail
  go_cut [3, 4] (fun v_ e_ wc => ∃ (Ab : Option Addr) (cb bb : Nat), v_ = .pointer (some ⟨bb, 0, none⟩) ∧ e_ = .int .i64 0 ∧ Aside0 (Mem w wc [(bb, #[.int .i64 7, .int .i64 0, .int .i64 1, .int .i64 5, .string ⟨#[97]⟩, .int .i64 30, .int .i64 1, .int .i64 20, .int .i64 0, .slice Ab 0 cb], 27), (ba, #[.int .i64 7, .int .i64 0, .int .i64 1, .int .i64 5, .string ⟨#[97]⟩, .int .i64 10, .int .i64 0, .int .i64 20, .int .i64 0, .slice Aa 0 ca], 27)] []))
  case first =>
    refine wp_region_noPanic ?_
    have SD := Aside0.mk S4.out.drew
    refine wp_region_held_drew (S := (fun V => V.heap[ba]? = some (.cells #[.int .i64 7, .int .i64 0, .int .i64 1, .int .i64 5, .string ⟨#[97]⟩, .int .i64 10, .int .i64 0, .int .i64 20, .int .i64 0, .slice Aa 0 ca] 27 (0, 0)))) (by kernel_rfl) SD.out.bx0 (fun hHeld => ?_)
    generalize hwd : World.drew w4 = wd at hHeld SD ⊢
    clear hwd
    refine wpAnyH_take (i := 0) (oi := ⟨some 27, _, _, _, _, none⟩) (v := _) rfl (by kernel_rfl) (by kernel_rfl) (by kernel_rfl) (fun _ _ _ h => h) (yieldsIf_load_row (by rfl) 27 _ rfl ba rfl _ _ (0, 0) _ (fun V h => h) Try.underlying27 rfl (by kernel_rfl)) (by with_reducible assumption) ?_
    try simp only [Act.put, List.setIfInBounds_toArray, List.set_cons_zero, List.set_cons_succ]
    refine wpAnyH_ready (rs := [1, 8]) (by kernel_rfl) (by simp) ?_
    refine AllReadyH.cons (o := ⟨some 28, _, _, _, _, none⟩) rfl (fun K hK => ?_) ?_
    · go_simp
      refine (scriptoriumlaw20_known.calls 0 7 0 1 5 ⟨#[97]⟩ 10 0 0 0 [] _ rfl).mono ?_
      rintro e wc0 ⟨vk, rfl, hk, hb⟩
      obtain ⟨Ak, ck, rfl⟩ := Kd.R_slice hk
      clear hk
      have Sc0 := Aside0.mk (SD.out.step hb)
      refine hK.out _ _ Sc0.out.bx0 (fun hHeld => ?_)
      clear hK K
      try simp only [Act.put, List.setIfInBounds_toArray, List.set_cons_zero, List.set_cons_succ]
      refine wpAnyH_ready (rs := [2, 8]) (by kernel_rfl) (by simp) ?_
      refine AllReadyH.cons (o := ⟨some 29, _, _, _, _, none⟩) rfl (fun K hK => ?_) ?_
      · go_simp
        refine (scriptoriumlaw20_at.calls 30 30 0 _ rfl).mono ?_
        rintro e wc1 ⟨rfl, hb⟩
        have Sc1 := Aside0.mk (Sc0.out.step hb)
        refine hK.out _ _ Sc1.out.bx0 (fun hHeld => ?_)
        clear hK K
        try simp only [Act.put, List.setIfInBounds_toArray, List.set_cons_zero, List.set_cons_succ]
        refine wpAnyH_ready (rs := [3, 8]) (by kernel_rfl) (by simp) ?_
        refine AllReadyH.cons (o := ⟨some 30, _, _, _, _, none⟩) rfl (fun K hK => ?_) ?_
        · go_simp
          refine (scriptoriumlaw20_at.calls 20 20 0 _ rfl).mono ?_
          rintro e wc2 ⟨rfl, hb⟩
          have Sc2 := Aside0.mk (Sc1.out.step hb)
          refine hK.out _ _ Sc2.out.bx0 (fun hHeld => ?_)
          clear hK K
          try simp only [Act.put, List.setIfInBounds_toArray, List.set_cons_zero, List.set_cons_succ]
          refine wpAnyH_ready (rs := [4, 8]) (by kernel_rfl) (by simp) ?_
          refine AllReadyH.cons (o := ⟨some 31, _, _, _, _, none⟩) rfl (fun K hK => ?_) ?_
          · go_simp
            refine (show Calls _ _ _ _ (recPost 7 0 1 5 ⟨#[97]⟩ 30 1 20 0 [] 0 _) from record_Push.calls 40 7 0 1 5 ⟨#[97]⟩ 10 0 20 0 Aa ca [] true 7 0 1 5 ⟨#[97]⟩ 10 0 0 0 Ak ck [] 6 false 30 0 20 0 7 0 1 5 ⟨#[97]⟩ 30 1 20 0 [] 0 _ (Kd.C_nil' _ _ _) (Nat.zero_le _) (Kd.C_nil' _ _ _) (Nat.zero_le _) (by kernel_rfl)).mono ?_
            rintro e wc3 ⟨vb, rfl, hR, hb⟩
            obtain ⟨Ab, cb, rfl⟩ := Kd.R_slice hR
            have Sc3 := Aside0.mk (Sc2.out.step hb)
            refine hK.out _ _ Sc3.out.bx0 (fun hHeld => ?_)
            clear hK K
            try simp only [Act.put, List.setIfInBounds_toArray, List.set_cons_zero, List.set_cons_succ]
            refine wpAnyH_take (i := 5) (oi := ⟨some 26, _, _, _, _, none⟩) (v := ?v2) rfl (by kernel_rfl) (by kernel_rfl) (by kernel_rfl) (fun _ _ _ h => h) (Or.inl ⟨by rfl, ?hy2⟩) (by with_reducible assumption) ?rest2
            case hy2 => (intro V_ hSw; (try dsimp only at hSw); go_simp; (try with_reducible rfl))
            case' rest2 => skip
            try simp only [Act.put, List.setIfInBounds_toArray, List.set_cons_zero, List.set_cons_succ]
            refine wpAnyH_take (i := 6) (oi := ⟨some 32, _, _, _, _, none⟩) (v := ?v3) rfl (by kernel_rfl) (by kernel_rfl) (by kernel_rfl) (fun _ _ _ h => h) (Or.inl ⟨by rfl, ?hy3⟩) (by with_reducible assumption) ?rest3
            case hy3 => (intro V_ hSw; (try dsimp only at hSw); go_simp; (try with_reducible rfl))
            case' rest3 => skip
            try simp only [Act.put, List.setIfInBounds_toArray, List.set_cons_zero, List.set_cons_succ]
            refine wpAnyH_take (i := 7) (oi := ⟨some 33, _, _, _, _, none⟩) (v := ?v4) rfl (by kernel_rfl) (by kernel_rfl) (by kernel_rfl) (fun _ _ _ h => h) (Or.inl ⟨by rfl, ?hy4⟩) (by with_reducible assumption) ?rest4
            case hy4 => (intro V_ hSw; (try dsimp only at hSw); go_simp; (try with_reducible rfl))
            case' rest4 => skip
            try simp only [Act.put, List.setIfInBounds_toArray, List.set_cons_zero, List.set_cons_succ]
            refine wpAnyH_ready (rs := [8]) (by kernel_rfl) (by simp) ?_
            refine AllReadyH.cons (o := ⟨some 3, _, _, _, _, none⟩) rfl (fun K hK => ?_) ?_
            · go_simp
              refine hK.out _ _ (blk_alloc Sc3.out.bx0 _) (fun hHeld => ?_)
              clear hK K
              try simp only [Act.put, List.setIfInBounds_toArray, List.set_cons_zero, List.set_cons_succ]
              refine wpAnyH_ready (rs := [9]) (by kernel_rfl) (by simp) ?_
              refine AllReadyH.cons (o := ⟨none, _, _, _, _, none⟩) rfl (fun K hK => ?_) ?_
              · go_simp
                have hMA := Sc3.out.alloc #[.int .i64 7, .int .i64 0, .int .i64 1, .int .i64 5, .string ⟨#[97]⟩, .int .i64 30, .int .i64 1, .int .i64 20, .int .i64 0, .slice Ab 0 cb] 27
                generalize hwa : World.alloc wc3 _ = w5 at hMA ⊢
                have S_ := Aside0.mk hMA
                clear hwa hMA
                refine hK.out _ _ S_.out.bx1 (fun hHeld => ?_)
                clear hK K
                try simp only [Act.put, List.setIfInBounds_toArray, List.set_cons_zero, List.set_cons_succ]
                refine wpAnyH_take (i := 10) (oi := ⟨some 4, _, _, _, _, none⟩) (v := ?v5) rfl (by kernel_rfl) (by kernel_rfl) (by kernel_rfl) (fun _ _ _ h => h) (Or.inl ⟨by rfl, ?hy5⟩) (by with_reducible assumption) ?rest5
                case hy5 => (intro V_ hSw; (try dsimp only at hSw); go_simp; (try with_reducible rfl))
                case' rest5 => skip
                try simp only [Act.put, List.setIfInBounds_toArray, List.set_cons_zero, List.set_cons_succ]
                refine wpAnyH_done (by kernel_rfl) ?_ _
                refine NoPanic.normal ?_
                go_wp2_with fail
                go_meet
                case rel => exact ⟨_, _, _, rfl, rfl, S_⟩
              exact AllReadyH.nil
            exact AllReadyH.nil
          refine AllReadyH.cons (o := ⟨some 3, _, _, _, _, none⟩) rfl (fun K hK => ?_) ?_
          · go_simp
            have hMA := Sc2.out.alloc #[.int .i64 0, .int .i64 0, .int .i64 0, .int .i64 0, .string ⟨#[]⟩, .int .i64 0, .int .i64 0, .int .i64 0, .int .i64 0, .slice none 0 0] 27
            generalize hwa : World.alloc wc2 _ = wa at hMA ⊢
            have SA := Aside0.mk hMA
            clear hwa hMA
            generalize wc2.heap.size = bn at SA ⊢
            refine hK.out _ _ SA.out.bx1 (fun hHeld => ?_)
            clear hK K
            try simp only [Act.put, List.setIfInBounds_toArray, List.set_cons_zero, List.set_cons_succ]
            refine wpAnyH_ready (rs := [4]) (by kernel_rfl) (by simp) ?_
            refine AllReadyH.cons (o := ⟨some 31, _, _, _, _, none⟩) rfl (fun K hK => ?_) ?_
            · go_simp
              refine (show Calls _ _ _ _ (recPost 7 0 1 5 ⟨#[97]⟩ 30 1 20 0 [] 0 _) from record_Push.calls 40 7 0 1 5 ⟨#[97]⟩ 10 0 20 0 Aa ca [] true 7 0 1 5 ⟨#[97]⟩ 10 0 0 0 Ak ck [] 6 false 30 0 20 0 7 0 1 5 ⟨#[97]⟩ 30 1 20 0 [] 0 _ (Kd.C_nil' _ _ _) (Nat.zero_le _) (Kd.C_nil' _ _ _) (Nat.zero_le _) (by kernel_rfl)).mono ?_
              rintro e wa3 ⟨vb, rfl, hR, hb⟩
              obtain ⟨Ab, cb, rfl⟩ := Kd.R_slice hR
              have Sa3 := Aside0.mk (SA.out.step hb)
              refine hK.out _ _ Sa3.out.bx1 (fun hHeld => ?_)
              clear hK K
              try simp only [Act.put, List.setIfInBounds_toArray, List.set_cons_zero, List.set_cons_succ]
              refine wpAnyH_take (i := 5) (oi := ⟨some 26, _, _, _, _, none⟩) (v := ?v6) rfl (by kernel_rfl) (by kernel_rfl) (by kernel_rfl) (fun _ _ _ h => h) (Or.inl ⟨by rfl, ?hy6⟩) (by with_reducible assumption) ?rest6
              case hy6 => (intro V_ hSw; (try dsimp only at hSw); go_simp; (try with_reducible rfl))
              case' rest6 => skip
              try simp only [Act.put, List.setIfInBounds_toArray, List.set_cons_zero, List.set_cons_succ]
              refine wpAnyH_take (i := 6) (oi := ⟨some 32, _, _, _, _, none⟩) (v := ?v7) rfl (by kernel_rfl) (by kernel_rfl) (by kernel_rfl) (fun _ _ _ h => h) (Or.inl ⟨by rfl, ?hy7⟩) (by with_reducible assumption) ?rest7
              case hy7 => (intro V_ hSw; (try dsimp only at hSw); go_simp; (try with_reducible rfl))
              case' rest7 => skip
              try simp only [Act.put, List.setIfInBounds_toArray, List.set_cons_zero, List.set_cons_succ]
              refine wpAnyH_take (i := 7) (oi := ⟨some 33, _, _, _, _, none⟩) (v := ?v8) rfl (by kernel_rfl) (by kernel_rfl) (by kernel_rfl) (fun _ _ _ h => h) (Or.inl ⟨by rfl, ?hy8⟩) (by with_reducible assumption) ?rest8
              case hy8 => (intro V_ hSw; (try dsimp only at hSw); go_simp; (try with_reducible rfl))
              case' rest8 => skip
              try simp only [Act.put, List.setIfInBounds_toArray, List.set_cons_zero, List.set_cons_succ]
              refine wpAnyH_ready (rs := [9]) (by kernel_rfl) (by simp) ?_
              refine AllReadyH.cons (o := ⟨none, _, _, _, _, none⟩) rfl (fun K hK => ?_) ?_
              · obtain ⟨z0, z1, z2, z3, z4, z5, z6, z7, z8, z9⟩ := cells10 Sa3.out.bx0
                obtain ⟨fz0, fz1, fz2, fz3, fz4, fz5, fz6, fz7, fz8, fz9⟩ := frozen10 Sa3.out.bx0
                go_simp
                clear z0 z1 z2 z3 z4 z5 z6 z7 z8 z9 fz0 fz1 fz2 fz3 fz4 fz5 fz6 fz7 fz8 fz9
                have S_ := Aside0.mk (Sa3.out.ten0 (.int .i64 7) (.int .i64 0) (.int .i64 1) (.int .i64 5) (.string ⟨#[97]⟩) (.int .i64 30) (.int .i64 1) (.int .i64 20) (.int .i64 0) (.slice Ab 0 cb) (by decide))
                refine hK.out _ _ S_.out.bx1 (fun hHeld => ?_)
                clear hK K
                try simp only [Act.put, List.setIfInBounds_toArray, List.set_cons_zero, List.set_cons_succ]
                refine wpAnyH_take (i := 10) (oi := ⟨some 4, _, _, _, _, none⟩) (v := ?v9) rfl (by kernel_rfl) (by kernel_rfl) (by kernel_rfl) (fun _ _ _ h => h) (Or.inl ⟨by rfl, ?hy9⟩) (by with_reducible assumption) ?rest9
                case hy9 => (intro V_ hSw; (try dsimp only at hSw); go_simp; (try with_reducible rfl))
                case' rest9 => skip
                try simp only [Act.put, List.setIfInBounds_toArray, List.set_cons_zero, List.set_cons_succ]
                refine wpAnyH_done (by kernel_rfl) ?_ _
                refine NoPanic.normal ?_
                go_wp2_with fail
                go_meet
                case rel => exact ⟨_, _, _, rfl, rfl, S_⟩
              exact AllReadyH.nil
            exact AllReadyH.nil
          exact AllReadyH.nil
        refine AllReadyH.cons (o := ⟨some 3, _, _, _, _, none⟩) rfl (fun K hK => ?_) ?_
        · go_simp
          have hMA := Sc1.out.alloc #[.int .i64 0, .int .i64 0, .int .i64 0, .int .i64 0, .string ⟨#[]⟩, .int .i64 0, .int .i64 0, .int .i64 0, .int .i64 0, .slice none 0 0] 27
          generalize hwa : World.alloc wc1 _ = wa at hMA ⊢
          have SA := Aside0.mk hMA
          clear hwa hMA
          generalize wc1.heap.size = bn at SA ⊢
          refine hK.out _ _ SA.out.bx1 (fun hHeld => ?_)
          clear hK K
          try simp only [Act.put, List.setIfInBounds_toArray, List.set_cons_zero, List.set_cons_succ]
          refine wpAnyH_ready (rs := [3]) (by kernel_rfl) (by simp) ?_
          refine AllReadyH.cons (o := ⟨some 30, _, _, _, _, none⟩) rfl (fun K hK => ?_) ?_
          · go_simp
            refine (scriptoriumlaw20_at.calls 20 20 0 _ rfl).mono ?_
            rintro e wa2 ⟨rfl, hb⟩
            have Sa2 := Aside0.mk (SA.out.step hb)
            refine hK.out _ _ Sa2.out.bx1 (fun hHeld => ?_)
            clear hK K
            try simp only [Act.put, List.setIfInBounds_toArray, List.set_cons_zero, List.set_cons_succ]
            refine wpAnyH_ready (rs := [4]) (by kernel_rfl) (by simp) ?_
            refine AllReadyH.cons (o := ⟨some 31, _, _, _, _, none⟩) rfl (fun K hK => ?_) ?_
            · go_simp
              refine (show Calls _ _ _ _ (recPost 7 0 1 5 ⟨#[97]⟩ 30 1 20 0 [] 0 _) from record_Push.calls 40 7 0 1 5 ⟨#[97]⟩ 10 0 20 0 Aa ca [] true 7 0 1 5 ⟨#[97]⟩ 10 0 0 0 Ak ck [] 6 false 30 0 20 0 7 0 1 5 ⟨#[97]⟩ 30 1 20 0 [] 0 _ (Kd.C_nil' _ _ _) (Nat.zero_le _) (Kd.C_nil' _ _ _) (Nat.zero_le _) (by kernel_rfl)).mono ?_
              rintro e wa3 ⟨vb, rfl, hR, hb⟩
              obtain ⟨Ab, cb, rfl⟩ := Kd.R_slice hR
              have Sa3 := Aside0.mk (Sa2.out.step hb)
              refine hK.out _ _ Sa3.out.bx1 (fun hHeld => ?_)
              clear hK K
              try simp only [Act.put, List.setIfInBounds_toArray, List.set_cons_zero, List.set_cons_succ]
              refine wpAnyH_take (i := 5) (oi := ⟨some 26, _, _, _, _, none⟩) (v := ?v10) rfl (by kernel_rfl) (by kernel_rfl) (by kernel_rfl) (fun _ _ _ h => h) (Or.inl ⟨by rfl, ?hy10⟩) (by with_reducible assumption) ?rest10
              case hy10 => (intro V_ hSw; (try dsimp only at hSw); go_simp; (try with_reducible rfl))
              case' rest10 => skip
              try simp only [Act.put, List.setIfInBounds_toArray, List.set_cons_zero, List.set_cons_succ]
              refine wpAnyH_take (i := 6) (oi := ⟨some 32, _, _, _, _, none⟩) (v := ?v11) rfl (by kernel_rfl) (by kernel_rfl) (by kernel_rfl) (fun _ _ _ h => h) (Or.inl ⟨by rfl, ?hy11⟩) (by with_reducible assumption) ?rest11
              case hy11 => (intro V_ hSw; (try dsimp only at hSw); go_simp; (try with_reducible rfl))
              case' rest11 => skip
              try simp only [Act.put, List.setIfInBounds_toArray, List.set_cons_zero, List.set_cons_succ]
              refine wpAnyH_take (i := 7) (oi := ⟨some 33, _, _, _, _, none⟩) (v := ?v12) rfl (by kernel_rfl) (by kernel_rfl) (by kernel_rfl) (fun _ _ _ h => h) (Or.inl ⟨by rfl, ?hy12⟩) (by with_reducible assumption) ?rest12
              case hy12 => (intro V_ hSw; (try dsimp only at hSw); go_simp; (try with_reducible rfl))
              case' rest12 => skip
              try simp only [Act.put, List.setIfInBounds_toArray, List.set_cons_zero, List.set_cons_succ]
              refine wpAnyH_ready (rs := [9]) (by kernel_rfl) (by simp) ?_
              refine AllReadyH.cons (o := ⟨none, _, _, _, _, none⟩) rfl (fun K hK => ?_) ?_
              · obtain ⟨z0, z1, z2, z3, z4, z5, z6, z7, z8, z9⟩ := cells10 Sa3.out.bx0
                obtain ⟨fz0, fz1, fz2, fz3, fz4, fz5, fz6, fz7, fz8, fz9⟩ := frozen10 Sa3.out.bx0
                go_simp
                clear z0 z1 z2 z3 z4 z5 z6 z7 z8 z9 fz0 fz1 fz2 fz3 fz4 fz5 fz6 fz7 fz8 fz9
                have S_ := Aside0.mk (Sa3.out.ten0 (.int .i64 7) (.int .i64 0) (.int .i64 1) (.int .i64 5) (.string ⟨#[97]⟩) (.int .i64 30) (.int .i64 1) (.int .i64 20) (.int .i64 0) (.slice Ab 0 cb) (by decide))
                refine hK.out _ _ S_.out.bx1 (fun hHeld => ?_)
                clear hK K
                try simp only [Act.put, List.setIfInBounds_toArray, List.set_cons_zero, List.set_cons_succ]
                refine wpAnyH_take (i := 10) (oi := ⟨some 4, _, _, _, _, none⟩) (v := ?v13) rfl (by kernel_rfl) (by kernel_rfl) (by kernel_rfl) (fun _ _ _ h => h) (Or.inl ⟨by rfl, ?hy13⟩) (by with_reducible assumption) ?rest13
                case hy13 => (intro V_ hSw; (try dsimp only at hSw); go_simp; (try with_reducible rfl))
                case' rest13 => skip
                try simp only [Act.put, List.setIfInBounds_toArray, List.set_cons_zero, List.set_cons_succ]
                refine wpAnyH_done (by kernel_rfl) ?_ _
                refine NoPanic.normal ?_
                go_wp2_with fail
                go_meet
                case rel => exact ⟨_, _, _, rfl, rfl, S_⟩
              exact AllReadyH.nil
            exact AllReadyH.nil
          exact AllReadyH.nil
        exact AllReadyH.nil
      refine AllReadyH.cons (o := ⟨some 3, _, _, _, _, none⟩) rfl (fun K hK => ?_) ?_
      · go_simp
        have hMA := Sc0.out.alloc #[.int .i64 0, .int .i64 0, .int .i64 0, .int .i64 0, .string ⟨#[]⟩, .int .i64 0, .int .i64 0, .int .i64 0, .int .i64 0, .slice none 0 0] 27
        generalize hwa : World.alloc wc0 _ = wa at hMA ⊢
        have SA := Aside0.mk hMA
        clear hwa hMA
        generalize wc0.heap.size = bn at SA ⊢
        refine hK.out _ _ SA.out.bx1 (fun hHeld => ?_)
        clear hK K
        try simp only [Act.put, List.setIfInBounds_toArray, List.set_cons_zero, List.set_cons_succ]
        refine wpAnyH_ready (rs := [2]) (by kernel_rfl) (by simp) ?_
        refine AllReadyH.cons (o := ⟨some 29, _, _, _, _, none⟩) rfl (fun K hK => ?_) ?_
        · go_simp
          refine (scriptoriumlaw20_at.calls 30 30 0 _ rfl).mono ?_
          rintro e wa1 ⟨rfl, hb⟩
          have Sa1 := Aside0.mk (SA.out.step hb)
          refine hK.out _ _ Sa1.out.bx1 (fun hHeld => ?_)
          clear hK K
          try simp only [Act.put, List.setIfInBounds_toArray, List.set_cons_zero, List.set_cons_succ]
          refine wpAnyH_ready (rs := [3]) (by kernel_rfl) (by simp) ?_
          refine AllReadyH.cons (o := ⟨some 30, _, _, _, _, none⟩) rfl (fun K hK => ?_) ?_
          · go_simp
            refine (scriptoriumlaw20_at.calls 20 20 0 _ rfl).mono ?_
            rintro e wa2 ⟨rfl, hb⟩
            have Sa2 := Aside0.mk (Sa1.out.step hb)
            refine hK.out _ _ Sa2.out.bx1 (fun hHeld => ?_)
            clear hK K
            try simp only [Act.put, List.setIfInBounds_toArray, List.set_cons_zero, List.set_cons_succ]
            refine wpAnyH_ready (rs := [4]) (by kernel_rfl) (by simp) ?_
            refine AllReadyH.cons (o := ⟨some 31, _, _, _, _, none⟩) rfl (fun K hK => ?_) ?_
            · go_simp
              refine (show Calls _ _ _ _ (recPost 7 0 1 5 ⟨#[97]⟩ 30 1 20 0 [] 0 _) from record_Push.calls 40 7 0 1 5 ⟨#[97]⟩ 10 0 20 0 Aa ca [] true 7 0 1 5 ⟨#[97]⟩ 10 0 0 0 Ak ck [] 6 false 30 0 20 0 7 0 1 5 ⟨#[97]⟩ 30 1 20 0 [] 0 _ (Kd.C_nil' _ _ _) (Nat.zero_le _) (Kd.C_nil' _ _ _) (Nat.zero_le _) (by kernel_rfl)).mono ?_
              rintro e wa3 ⟨vb, rfl, hR, hb⟩
              obtain ⟨Ab, cb, rfl⟩ := Kd.R_slice hR
              have Sa3 := Aside0.mk (Sa2.out.step hb)
              refine hK.out _ _ Sa3.out.bx1 (fun hHeld => ?_)
              clear hK K
              try simp only [Act.put, List.setIfInBounds_toArray, List.set_cons_zero, List.set_cons_succ]
              refine wpAnyH_take (i := 5) (oi := ⟨some 26, _, _, _, _, none⟩) (v := ?v14) rfl (by kernel_rfl) (by kernel_rfl) (by kernel_rfl) (fun _ _ _ h => h) (Or.inl ⟨by rfl, ?hy14⟩) (by with_reducible assumption) ?rest14
              case hy14 => (intro V_ hSw; (try dsimp only at hSw); go_simp; (try with_reducible rfl))
              case' rest14 => skip
              try simp only [Act.put, List.setIfInBounds_toArray, List.set_cons_zero, List.set_cons_succ]
              refine wpAnyH_take (i := 6) (oi := ⟨some 32, _, _, _, _, none⟩) (v := ?v15) rfl (by kernel_rfl) (by kernel_rfl) (by kernel_rfl) (fun _ _ _ h => h) (Or.inl ⟨by rfl, ?hy15⟩) (by with_reducible assumption) ?rest15
              case hy15 => (intro V_ hSw; (try dsimp only at hSw); go_simp; (try with_reducible rfl))
              case' rest15 => skip
              try simp only [Act.put, List.setIfInBounds_toArray, List.set_cons_zero, List.set_cons_succ]
              refine wpAnyH_take (i := 7) (oi := ⟨some 33, _, _, _, _, none⟩) (v := ?v16) rfl (by kernel_rfl) (by kernel_rfl) (by kernel_rfl) (fun _ _ _ h => h) (Or.inl ⟨by rfl, ?hy16⟩) (by with_reducible assumption) ?rest16
              case hy16 => (intro V_ hSw; (try dsimp only at hSw); go_simp; (try with_reducible rfl))
              case' rest16 => skip
              try simp only [Act.put, List.setIfInBounds_toArray, List.set_cons_zero, List.set_cons_succ]
              refine wpAnyH_ready (rs := [9]) (by kernel_rfl) (by simp) ?_
              refine AllReadyH.cons (o := ⟨none, _, _, _, _, none⟩) rfl (fun K hK => ?_) ?_
              · obtain ⟨z0, z1, z2, z3, z4, z5, z6, z7, z8, z9⟩ := cells10 Sa3.out.bx0
                obtain ⟨fz0, fz1, fz2, fz3, fz4, fz5, fz6, fz7, fz8, fz9⟩ := frozen10 Sa3.out.bx0
                go_simp
                clear z0 z1 z2 z3 z4 z5 z6 z7 z8 z9 fz0 fz1 fz2 fz3 fz4 fz5 fz6 fz7 fz8 fz9
                have S_ := Aside0.mk (Sa3.out.ten0 (.int .i64 7) (.int .i64 0) (.int .i64 1) (.int .i64 5) (.string ⟨#[97]⟩) (.int .i64 30) (.int .i64 1) (.int .i64 20) (.int .i64 0) (.slice Ab 0 cb) (by decide))
                refine hK.out _ _ S_.out.bx1 (fun hHeld => ?_)
                clear hK K
                try simp only [Act.put, List.setIfInBounds_toArray, List.set_cons_zero, List.set_cons_succ]
                refine wpAnyH_take (i := 10) (oi := ⟨some 4, _, _, _, _, none⟩) (v := ?v17) rfl (by kernel_rfl) (by kernel_rfl) (by kernel_rfl) (fun _ _ _ h => h) (Or.inl ⟨by rfl, ?hy17⟩) (by with_reducible assumption) ?rest17
                case hy17 => (intro V_ hSw; (try dsimp only at hSw); go_simp; (try with_reducible rfl))
                case' rest17 => skip
                try simp only [Act.put, List.setIfInBounds_toArray, List.set_cons_zero, List.set_cons_succ]
                refine wpAnyH_done (by kernel_rfl) ?_ _
                refine NoPanic.normal ?_
                go_wp2_with fail
                go_meet
                case rel => exact ⟨_, _, _, rfl, rfl, S_⟩
              exact AllReadyH.nil
            exact AllReadyH.nil
          exact AllReadyH.nil
        exact AllReadyH.nil
      exact AllReadyH.nil
    refine AllReadyH.cons (o := ⟨some 3, _, _, _, _, none⟩) rfl (fun K hK => ?_) ?_
    · go_simp
      have hMA := SD.out.alloc #[.int .i64 0, .int .i64 0, .int .i64 0, .int .i64 0, .string ⟨#[]⟩, .int .i64 0, .int .i64 0, .int .i64 0, .int .i64 0, .slice none 0 0] 27
      generalize hwa : World.alloc wd _ = wa at hMA ⊢
      have SA := Aside0.mk hMA
      clear hwa hMA
      generalize wd.heap.size = bn at SA ⊢
      refine hK.out _ _ SA.out.bx1 (fun hHeld => ?_)
      clear hK K
      try simp only [Act.put, List.setIfInBounds_toArray, List.set_cons_zero, List.set_cons_succ]
      refine wpAnyH_ready (rs := [1]) (by kernel_rfl) (by simp) ?_
      refine AllReadyH.cons (o := ⟨some 28, _, _, _, _, none⟩) rfl (fun K hK => ?_) ?_
      · go_simp
        refine (scriptoriumlaw20_known.calls 0 7 0 1 5 ⟨#[97]⟩ 10 0 0 0 [] _ rfl).mono ?_
        rintro e wa0 ⟨vk, rfl, hk, hb⟩
        obtain ⟨Ak, ck, rfl⟩ := Kd.R_slice hk
        clear hk
        have Sa0 := Aside0.mk (SA.out.step hb)
        refine hK.out _ _ Sa0.out.bx1 (fun hHeld => ?_)
        clear hK K
        try simp only [Act.put, List.setIfInBounds_toArray, List.set_cons_zero, List.set_cons_succ]
        refine wpAnyH_ready (rs := [2]) (by kernel_rfl) (by simp) ?_
        refine AllReadyH.cons (o := ⟨some 29, _, _, _, _, none⟩) rfl (fun K hK => ?_) ?_
        · go_simp
          refine (scriptoriumlaw20_at.calls 30 30 0 _ rfl).mono ?_
          rintro e wa1 ⟨rfl, hb⟩
          have Sa1 := Aside0.mk (Sa0.out.step hb)
          refine hK.out _ _ Sa1.out.bx1 (fun hHeld => ?_)
          clear hK K
          try simp only [Act.put, List.setIfInBounds_toArray, List.set_cons_zero, List.set_cons_succ]
          refine wpAnyH_ready (rs := [3]) (by kernel_rfl) (by simp) ?_
          refine AllReadyH.cons (o := ⟨some 30, _, _, _, _, none⟩) rfl (fun K hK => ?_) ?_
          · go_simp
            refine (scriptoriumlaw20_at.calls 20 20 0 _ rfl).mono ?_
            rintro e wa2 ⟨rfl, hb⟩
            have Sa2 := Aside0.mk (Sa1.out.step hb)
            refine hK.out _ _ Sa2.out.bx1 (fun hHeld => ?_)
            clear hK K
            try simp only [Act.put, List.setIfInBounds_toArray, List.set_cons_zero, List.set_cons_succ]
            refine wpAnyH_ready (rs := [4]) (by kernel_rfl) (by simp) ?_
            refine AllReadyH.cons (o := ⟨some 31, _, _, _, _, none⟩) rfl (fun K hK => ?_) ?_
            · go_simp
              refine (show Calls _ _ _ _ (recPost 7 0 1 5 ⟨#[97]⟩ 30 1 20 0 [] 0 _) from record_Push.calls 40 7 0 1 5 ⟨#[97]⟩ 10 0 20 0 Aa ca [] true 7 0 1 5 ⟨#[97]⟩ 10 0 0 0 Ak ck [] 6 false 30 0 20 0 7 0 1 5 ⟨#[97]⟩ 30 1 20 0 [] 0 _ (Kd.C_nil' _ _ _) (Nat.zero_le _) (Kd.C_nil' _ _ _) (Nat.zero_le _) (by kernel_rfl)).mono ?_
              rintro e wa3 ⟨vb, rfl, hR, hb⟩
              obtain ⟨Ab, cb, rfl⟩ := Kd.R_slice hR
              have Sa3 := Aside0.mk (Sa2.out.step hb)
              refine hK.out _ _ Sa3.out.bx1 (fun hHeld => ?_)
              clear hK K
              try simp only [Act.put, List.setIfInBounds_toArray, List.set_cons_zero, List.set_cons_succ]
              refine wpAnyH_take (i := 5) (oi := ⟨some 26, _, _, _, _, none⟩) (v := ?v18) rfl (by kernel_rfl) (by kernel_rfl) (by kernel_rfl) (fun _ _ _ h => h) (Or.inl ⟨by rfl, ?hy18⟩) (by with_reducible assumption) ?rest18
              case hy18 => (intro V_ hSw; (try dsimp only at hSw); go_simp; (try with_reducible rfl))
              case' rest18 => skip
              try simp only [Act.put, List.setIfInBounds_toArray, List.set_cons_zero, List.set_cons_succ]
              refine wpAnyH_take (i := 6) (oi := ⟨some 32, _, _, _, _, none⟩) (v := ?v19) rfl (by kernel_rfl) (by kernel_rfl) (by kernel_rfl) (fun _ _ _ h => h) (Or.inl ⟨by rfl, ?hy19⟩) (by with_reducible assumption) ?rest19
              case hy19 => (intro V_ hSw; (try dsimp only at hSw); go_simp; (try with_reducible rfl))
              case' rest19 => skip
              try simp only [Act.put, List.setIfInBounds_toArray, List.set_cons_zero, List.set_cons_succ]
              refine wpAnyH_take (i := 7) (oi := ⟨some 33, _, _, _, _, none⟩) (v := ?v20) rfl (by kernel_rfl) (by kernel_rfl) (by kernel_rfl) (fun _ _ _ h => h) (Or.inl ⟨by rfl, ?hy20⟩) (by with_reducible assumption) ?rest20
              case hy20 => (intro V_ hSw; (try dsimp only at hSw); go_simp; (try with_reducible rfl))
              case' rest20 => skip
              try simp only [Act.put, List.setIfInBounds_toArray, List.set_cons_zero, List.set_cons_succ]
              refine wpAnyH_ready (rs := [9]) (by kernel_rfl) (by simp) ?_
              refine AllReadyH.cons (o := ⟨none, _, _, _, _, none⟩) rfl (fun K hK => ?_) ?_
              · obtain ⟨z0, z1, z2, z3, z4, z5, z6, z7, z8, z9⟩ := cells10 Sa3.out.bx0
                obtain ⟨fz0, fz1, fz2, fz3, fz4, fz5, fz6, fz7, fz8, fz9⟩ := frozen10 Sa3.out.bx0
                go_simp
                clear z0 z1 z2 z3 z4 z5 z6 z7 z8 z9 fz0 fz1 fz2 fz3 fz4 fz5 fz6 fz7 fz8 fz9
                have S_ := Aside0.mk (Sa3.out.ten0 (.int .i64 7) (.int .i64 0) (.int .i64 1) (.int .i64 5) (.string ⟨#[97]⟩) (.int .i64 30) (.int .i64 1) (.int .i64 20) (.int .i64 0) (.slice Ab 0 cb) (by decide))
                refine hK.out _ _ S_.out.bx1 (fun hHeld => ?_)
                clear hK K
                try simp only [Act.put, List.setIfInBounds_toArray, List.set_cons_zero, List.set_cons_succ]
                refine wpAnyH_take (i := 10) (oi := ⟨some 4, _, _, _, _, none⟩) (v := ?v21) rfl (by kernel_rfl) (by kernel_rfl) (by kernel_rfl) (fun _ _ _ h => h) (Or.inl ⟨by rfl, ?hy21⟩) (by with_reducible assumption) ?rest21
                case hy21 => (intro V_ hSw; (try dsimp only at hSw); go_simp; (try with_reducible rfl))
                case' rest21 => skip
                try simp only [Act.put, List.setIfInBounds_toArray, List.set_cons_zero, List.set_cons_succ]
                refine wpAnyH_done (by kernel_rfl) ?_ _
                refine NoPanic.normal ?_
                go_wp2_with fail
                go_meet
                case rel => exact ⟨_, _, _, rfl, rfl, S_⟩
              exact AllReadyH.nil
            exact AllReadyH.nil
          exact AllReadyH.nil
        exact AllReadyH.nil
      exact AllReadyH.nil
    exact AllReadyH.nil
  case rest =>
  obtain ⟨Ab, cb, bb, rfl, rfl, S5⟩ := hcut
  rename World => w5
  clear S4
  go_upto_region 3 with fail
  go_cut [5, 6] (fun v_ e_ wc => ∃ (Ac : Option Addr) (cc bc : Nat), v_ = .pointer (some ⟨bc, 0, none⟩) ∧ e_ = .int .i64 202 ∧ Aside0 (Mem w wc [(bc, #[.int .i64 7, .int .i64 0, .int .i64 1, .int .i64 5, .string ⟨#[97]⟩, .int .i64 30, .int .i64 1, .int .i64 20, .int .i64 0, .slice Ac 0 cc], 27), (bb, #[.int .i64 7, .int .i64 0, .int .i64 1, .int .i64 5, .string ⟨#[97]⟩, .int .i64 30, .int .i64 1, .int .i64 20, .int .i64 0, .slice Ab 0 cb], 27), (ba, #[.int .i64 7, .int .i64 0, .int .i64 1, .int .i64 5, .string ⟨#[97]⟩, .int .i64 10, .int .i64 0, .int .i64 20, .int .i64 0, .slice Aa 0 ca], 27)] []))
  case first =>
    refine wp_region_noPanic ?_
    have SD := Aside0.mk S5.out.drew
    refine wp_region_held_drew (S := (fun V => V.heap[bb]? = some (.cells #[.int .i64 7, .int .i64 0, .int .i64 1, .int .i64 5, .string ⟨#[97]⟩, .int .i64 30, .int .i64 1, .int .i64 20, .int .i64 0, .slice Ab 0 cb] 27 (0, 0)))) (by kernel_rfl) SD.out.bx0 (fun hHeld => ?_)
    generalize hwd : World.drew w5 = wd at hHeld SD ⊢
    clear hwd
    refine wpAnyH_take (i := 0) (oi := ⟨some 35, _, _, _, _, none⟩) (v := _) rfl (by kernel_rfl) (by kernel_rfl) (by kernel_rfl) (fun _ _ _ h => h) (yieldsIf_load_row (by rfl) 27 _ rfl bb rfl _ _ (0, 0) _ (fun V h => h) Try.underlying27 rfl (by kernel_rfl)) (by with_reducible assumption) ?_
    try simp only [Act.put, List.setIfInBounds_toArray, List.set_cons_zero, List.set_cons_succ]
    refine wpAnyH_ready (rs := [1, 7]) (by kernel_rfl) (by simp) ?_
    refine AllReadyH.cons (o := ⟨some 36, _, _, _, _, none⟩) rfl (fun K hK => ?_) ?_
    · go_simp
      refine (scriptoriumlaw20_txn.calls 7 0 5 ⟨#[97]⟩ 10 0 10 0 0 0 0 0 _ rfl).mono ?_
      rintro e wc0 ⟨rfl, hb⟩
      have Sc0 := Aside0.mk (SD.out.step hb)
      refine hK.out _ _ Sc0.out.bx0 (fun hHeld => ?_)
      clear hK K
      try simp only [Act.put, List.setIfInBounds_toArray, List.set_cons_zero, List.set_cons_succ]
      refine wpAnyH_ready (rs := [2, 7]) (by kernel_rfl) (by simp) ?_
      refine AllReadyH.cons (o := ⟨some 37, _, _, _, _, none⟩) rfl (fun K hK => ?_) ?_
      · go_simp
        refine (scriptoriumlaw20_at.calls 31 31 0 _ rfl).mono ?_
        rintro e wc1 ⟨rfl, hb⟩
        have Sc1 := Aside0.mk (Sc0.out.step hb)
        refine hK.out _ _ Sc1.out.bx0 (fun hHeld => ?_)
        clear hK K
        try simp only [Act.put, List.setIfInBounds_toArray, List.set_cons_zero, List.set_cons_succ]
        refine wpAnyH_ready (rs := [3, 7]) (by kernel_rfl) (by simp) ?_
        refine AllReadyH.cons (o := ⟨some 38, _, _, _, _, none⟩) rfl (fun K hK => ?_) ?_
        · go_simp
          refine (show Calls _ _ _ _ (recPost 7 0 1 5 ⟨#[97]⟩ 30 1 20 0 [] 202 _) from record_End.calls 40 7 0 1 5 ⟨#[97]⟩ 30 1 20 0 Ab cb [] true 7 0 5 ⟨#[97]⟩ 10 0 10 0 0 0 0 0 3 none 0 [] 31 0 7 0 1 5 ⟨#[97]⟩ 30 1 20 0 [] 202 _ (Kd.C_nil' _ _ _) (Nat.zero_le _) (Kd.C_nil' _ _ _) (Nat.zero_le _) (by kernel_rfl)).mono ?_
          rintro e wc2 ⟨vc, rfl, hR, hb⟩
          obtain ⟨Ac, cc, rfl⟩ := Kd.R_slice hR
          have Sc2 := Aside0.mk (Sc1.out.step hb)
          refine hK.out _ _ Sc2.out.bx0 (fun hHeld => ?_)
          clear hK K
          try simp only [Act.put, List.setIfInBounds_toArray, List.set_cons_zero, List.set_cons_succ]
          refine wpAnyH_take (i := 4) (oi := ⟨some 34, _, _, _, _, none⟩) (v := ?v23) rfl (by kernel_rfl) (by kernel_rfl) (by kernel_rfl) (fun _ _ _ h => h) (Or.inl ⟨by rfl, ?hy23⟩) (by with_reducible assumption) ?rest23
          case hy23 => (intro V_ hSw; (try dsimp only at hSw); go_simp; (try with_reducible rfl))
          case' rest23 => skip
          try simp only [Act.put, List.setIfInBounds_toArray, List.set_cons_zero, List.set_cons_succ]
          refine wpAnyH_take (i := 5) (oi := ⟨some 39, _, _, _, _, none⟩) (v := ?v24) rfl (by kernel_rfl) (by kernel_rfl) (by kernel_rfl) (fun _ _ _ h => h) (Or.inl ⟨by rfl, ?hy24⟩) (by with_reducible assumption) ?rest24
          case hy24 => (intro V_ hSw; (try dsimp only at hSw); go_simp; (try with_reducible rfl))
          case' rest24 => skip
          try simp only [Act.put, List.setIfInBounds_toArray, List.set_cons_zero, List.set_cons_succ]
          refine wpAnyH_take (i := 6) (oi := ⟨some 40, _, _, _, _, none⟩) (v := ?v25) rfl (by kernel_rfl) (by kernel_rfl) (by kernel_rfl) (fun _ _ _ h => h) (Or.inl ⟨by rfl, ?hy25⟩) (by with_reducible assumption) ?rest25
          case hy25 => (intro V_ hSw; (try dsimp only at hSw); go_simp; (try with_reducible rfl))
          case' rest25 => skip
          try simp only [Act.put, List.setIfInBounds_toArray, List.set_cons_zero, List.set_cons_succ]
          refine wpAnyH_ready (rs := [7]) (by kernel_rfl) (by simp) ?_
          refine AllReadyH.cons (o := ⟨some 5, _, _, _, _, none⟩) rfl (fun K hK => ?_) ?_
          · go_simp
            refine hK.out _ _ (blk_alloc Sc2.out.bx0 _) (fun hHeld => ?_)
            clear hK K
            try simp only [Act.put, List.setIfInBounds_toArray, List.set_cons_zero, List.set_cons_succ]
            refine wpAnyH_ready (rs := [8]) (by kernel_rfl) (by simp) ?_
            refine AllReadyH.cons (o := ⟨none, _, _, _, _, none⟩) rfl (fun K hK => ?_) ?_
            · go_simp
              have hMA := Sc2.out.alloc #[.int .i64 7, .int .i64 0, .int .i64 1, .int .i64 5, .string ⟨#[97]⟩, .int .i64 30, .int .i64 1, .int .i64 20, .int .i64 0, .slice Ac 0 cc] 27
              generalize hwa : World.alloc wc2 _ = w5 at hMA ⊢
              have S_ := Aside0.mk hMA
              clear hwa hMA
              refine hK.out _ _ S_.out.bx1 (fun hHeld => ?_)
              clear hK K
              try simp only [Act.put, List.setIfInBounds_toArray, List.set_cons_zero, List.set_cons_succ]
              refine wpAnyH_take (i := 9) (oi := ⟨some 6, _, _, _, _, none⟩) (v := ?v26) rfl (by kernel_rfl) (by kernel_rfl) (by kernel_rfl) (fun _ _ _ h => h) (Or.inl ⟨by rfl, ?hy26⟩) (by with_reducible assumption) ?rest26
              case hy26 => (intro V_ hSw; (try dsimp only at hSw); go_simp; (try with_reducible rfl))
              case' rest26 => skip
              try simp only [Act.put, List.setIfInBounds_toArray, List.set_cons_zero, List.set_cons_succ]
              refine wpAnyH_done (by kernel_rfl) ?_ _
              refine NoPanic.normal ?_
              go_wp2_with fail
              go_meet
              case rel => exact ⟨_, _, _, rfl, rfl, S_⟩
            exact AllReadyH.nil
          exact AllReadyH.nil
        refine AllReadyH.cons (o := ⟨some 5, _, _, _, _, none⟩) rfl (fun K hK => ?_) ?_
        · go_simp
          have hMA := Sc1.out.alloc #[.int .i64 0, .int .i64 0, .int .i64 0, .int .i64 0, .string ⟨#[]⟩, .int .i64 0, .int .i64 0, .int .i64 0, .int .i64 0, .slice none 0 0] 27
          generalize hwa : World.alloc wc1 _ = wa at hMA ⊢
          have SA := Aside0.mk hMA
          clear hwa hMA
          generalize wc1.heap.size = bn at SA ⊢
          refine hK.out _ _ SA.out.bx1 (fun hHeld => ?_)
          clear hK K
          try simp only [Act.put, List.setIfInBounds_toArray, List.set_cons_zero, List.set_cons_succ]
          refine wpAnyH_ready (rs := [3]) (by kernel_rfl) (by simp) ?_
          refine AllReadyH.cons (o := ⟨some 38, _, _, _, _, none⟩) rfl (fun K hK => ?_) ?_
          · go_simp
            refine (show Calls _ _ _ _ (recPost 7 0 1 5 ⟨#[97]⟩ 30 1 20 0 [] 202 _) from record_End.calls 40 7 0 1 5 ⟨#[97]⟩ 30 1 20 0 Ab cb [] true 7 0 5 ⟨#[97]⟩ 10 0 10 0 0 0 0 0 3 none 0 [] 31 0 7 0 1 5 ⟨#[97]⟩ 30 1 20 0 [] 202 _ (Kd.C_nil' _ _ _) (Nat.zero_le _) (Kd.C_nil' _ _ _) (Nat.zero_le _) (by kernel_rfl)).mono ?_
            rintro e wa2 ⟨vc, rfl, hR, hb⟩
            obtain ⟨Ac, cc, rfl⟩ := Kd.R_slice hR
            have Sa2 := Aside0.mk (SA.out.step hb)
            refine hK.out _ _ Sa2.out.bx1 (fun hHeld => ?_)
            clear hK K
            try simp only [Act.put, List.setIfInBounds_toArray, List.set_cons_zero, List.set_cons_succ]
            refine wpAnyH_take (i := 4) (oi := ⟨some 34, _, _, _, _, none⟩) (v := ?v27) rfl (by kernel_rfl) (by kernel_rfl) (by kernel_rfl) (fun _ _ _ h => h) (Or.inl ⟨by rfl, ?hy27⟩) (by with_reducible assumption) ?rest27
            case hy27 => (intro V_ hSw; (try dsimp only at hSw); go_simp; (try with_reducible rfl))
            case' rest27 => skip
            try simp only [Act.put, List.setIfInBounds_toArray, List.set_cons_zero, List.set_cons_succ]
            refine wpAnyH_take (i := 5) (oi := ⟨some 39, _, _, _, _, none⟩) (v := ?v28) rfl (by kernel_rfl) (by kernel_rfl) (by kernel_rfl) (fun _ _ _ h => h) (Or.inl ⟨by rfl, ?hy28⟩) (by with_reducible assumption) ?rest28
            case hy28 => (intro V_ hSw; (try dsimp only at hSw); go_simp; (try with_reducible rfl))
            case' rest28 => skip
            try simp only [Act.put, List.setIfInBounds_toArray, List.set_cons_zero, List.set_cons_succ]
            refine wpAnyH_take (i := 6) (oi := ⟨some 40, _, _, _, _, none⟩) (v := ?v29) rfl (by kernel_rfl) (by kernel_rfl) (by kernel_rfl) (fun _ _ _ h => h) (Or.inl ⟨by rfl, ?hy29⟩) (by with_reducible assumption) ?rest29
            case hy29 => (intro V_ hSw; (try dsimp only at hSw); go_simp; (try with_reducible rfl))
            case' rest29 => skip
            try simp only [Act.put, List.setIfInBounds_toArray, List.set_cons_zero, List.set_cons_succ]
            refine wpAnyH_ready (rs := [8]) (by kernel_rfl) (by simp) ?_
            refine AllReadyH.cons (o := ⟨none, _, _, _, _, none⟩) rfl (fun K hK => ?_) ?_
            · obtain ⟨z0, z1, z2, z3, z4, z5, z6, z7, z8, z9⟩ := cells10 Sa2.out.bx0
              obtain ⟨fz0, fz1, fz2, fz3, fz4, fz5, fz6, fz7, fz8, fz9⟩ := frozen10 Sa2.out.bx0
              go_simp
              clear z0 z1 z2 z3 z4 z5 z6 z7 z8 z9 fz0 fz1 fz2 fz3 fz4 fz5 fz6 fz7 fz8 fz9
              have S_ := Aside0.mk (Sa2.out.ten0 (.int .i64 7) (.int .i64 0) (.int .i64 1) (.int .i64 5) (.string ⟨#[97]⟩) (.int .i64 30) (.int .i64 1) (.int .i64 20) (.int .i64 0) (.slice Ac 0 cc) (by decide))
              refine hK.out _ _ S_.out.bx1 (fun hHeld => ?_)
              clear hK K
              try simp only [Act.put, List.setIfInBounds_toArray, List.set_cons_zero, List.set_cons_succ]
              refine wpAnyH_take (i := 9) (oi := ⟨some 6, _, _, _, _, none⟩) (v := ?v30) rfl (by kernel_rfl) (by kernel_rfl) (by kernel_rfl) (fun _ _ _ h => h) (Or.inl ⟨by rfl, ?hy30⟩) (by with_reducible assumption) ?rest30
              case hy30 => (intro V_ hSw; (try dsimp only at hSw); go_simp; (try with_reducible rfl))
              case' rest30 => skip
              try simp only [Act.put, List.setIfInBounds_toArray, List.set_cons_zero, List.set_cons_succ]
              refine wpAnyH_done (by kernel_rfl) ?_ _
              refine NoPanic.normal ?_
              go_wp2_with fail
              go_meet
              case rel => exact ⟨_, _, _, rfl, rfl, S_⟩
            exact AllReadyH.nil
          exact AllReadyH.nil
        exact AllReadyH.nil
      refine AllReadyH.cons (o := ⟨some 5, _, _, _, _, none⟩) rfl (fun K hK => ?_) ?_
      · go_simp
        have hMA := Sc0.out.alloc #[.int .i64 0, .int .i64 0, .int .i64 0, .int .i64 0, .string ⟨#[]⟩, .int .i64 0, .int .i64 0, .int .i64 0, .int .i64 0, .slice none 0 0] 27
        generalize hwa : World.alloc wc0 _ = wa at hMA ⊢
        have SA := Aside0.mk hMA
        clear hwa hMA
        generalize wc0.heap.size = bn at SA ⊢
        refine hK.out _ _ SA.out.bx1 (fun hHeld => ?_)
        clear hK K
        try simp only [Act.put, List.setIfInBounds_toArray, List.set_cons_zero, List.set_cons_succ]
        refine wpAnyH_ready (rs := [2]) (by kernel_rfl) (by simp) ?_
        refine AllReadyH.cons (o := ⟨some 37, _, _, _, _, none⟩) rfl (fun K hK => ?_) ?_
        · go_simp
          refine (scriptoriumlaw20_at.calls 31 31 0 _ rfl).mono ?_
          rintro e wa1 ⟨rfl, hb⟩
          have Sa1 := Aside0.mk (SA.out.step hb)
          refine hK.out _ _ Sa1.out.bx1 (fun hHeld => ?_)
          clear hK K
          try simp only [Act.put, List.setIfInBounds_toArray, List.set_cons_zero, List.set_cons_succ]
          refine wpAnyH_ready (rs := [3]) (by kernel_rfl) (by simp) ?_
          refine AllReadyH.cons (o := ⟨some 38, _, _, _, _, none⟩) rfl (fun K hK => ?_) ?_
          · go_simp
            refine (show Calls _ _ _ _ (recPost 7 0 1 5 ⟨#[97]⟩ 30 1 20 0 [] 202 _) from record_End.calls 40 7 0 1 5 ⟨#[97]⟩ 30 1 20 0 Ab cb [] true 7 0 5 ⟨#[97]⟩ 10 0 10 0 0 0 0 0 3 none 0 [] 31 0 7 0 1 5 ⟨#[97]⟩ 30 1 20 0 [] 202 _ (Kd.C_nil' _ _ _) (Nat.zero_le _) (Kd.C_nil' _ _ _) (Nat.zero_le _) (by kernel_rfl)).mono ?_
            rintro e wa2 ⟨vc, rfl, hR, hb⟩
            obtain ⟨Ac, cc, rfl⟩ := Kd.R_slice hR
            have Sa2 := Aside0.mk (Sa1.out.step hb)
            refine hK.out _ _ Sa2.out.bx1 (fun hHeld => ?_)
            clear hK K
            try simp only [Act.put, List.setIfInBounds_toArray, List.set_cons_zero, List.set_cons_succ]
            refine wpAnyH_take (i := 4) (oi := ⟨some 34, _, _, _, _, none⟩) (v := ?v31) rfl (by kernel_rfl) (by kernel_rfl) (by kernel_rfl) (fun _ _ _ h => h) (Or.inl ⟨by rfl, ?hy31⟩) (by with_reducible assumption) ?rest31
            case hy31 => (intro V_ hSw; (try dsimp only at hSw); go_simp; (try with_reducible rfl))
            case' rest31 => skip
            try simp only [Act.put, List.setIfInBounds_toArray, List.set_cons_zero, List.set_cons_succ]
            refine wpAnyH_take (i := 5) (oi := ⟨some 39, _, _, _, _, none⟩) (v := ?v32) rfl (by kernel_rfl) (by kernel_rfl) (by kernel_rfl) (fun _ _ _ h => h) (Or.inl ⟨by rfl, ?hy32⟩) (by with_reducible assumption) ?rest32
            case hy32 => (intro V_ hSw; (try dsimp only at hSw); go_simp; (try with_reducible rfl))
            case' rest32 => skip
            try simp only [Act.put, List.setIfInBounds_toArray, List.set_cons_zero, List.set_cons_succ]
            refine wpAnyH_take (i := 6) (oi := ⟨some 40, _, _, _, _, none⟩) (v := ?v33) rfl (by kernel_rfl) (by kernel_rfl) (by kernel_rfl) (fun _ _ _ h => h) (Or.inl ⟨by rfl, ?hy33⟩) (by with_reducible assumption) ?rest33
            case hy33 => (intro V_ hSw; (try dsimp only at hSw); go_simp; (try with_reducible rfl))
            case' rest33 => skip
            try simp only [Act.put, List.setIfInBounds_toArray, List.set_cons_zero, List.set_cons_succ]
            refine wpAnyH_ready (rs := [8]) (by kernel_rfl) (by simp) ?_
            refine AllReadyH.cons (o := ⟨none, _, _, _, _, none⟩) rfl (fun K hK => ?_) ?_
            · obtain ⟨z0, z1, z2, z3, z4, z5, z6, z7, z8, z9⟩ := cells10 Sa2.out.bx0
              obtain ⟨fz0, fz1, fz2, fz3, fz4, fz5, fz6, fz7, fz8, fz9⟩ := frozen10 Sa2.out.bx0
              go_simp
              clear z0 z1 z2 z3 z4 z5 z6 z7 z8 z9 fz0 fz1 fz2 fz3 fz4 fz5 fz6 fz7 fz8 fz9
              have S_ := Aside0.mk (Sa2.out.ten0 (.int .i64 7) (.int .i64 0) (.int .i64 1) (.int .i64 5) (.string ⟨#[97]⟩) (.int .i64 30) (.int .i64 1) (.int .i64 20) (.int .i64 0) (.slice Ac 0 cc) (by decide))
              refine hK.out _ _ S_.out.bx1 (fun hHeld => ?_)
              clear hK K
              try simp only [Act.put, List.setIfInBounds_toArray, List.set_cons_zero, List.set_cons_succ]
              refine wpAnyH_take (i := 9) (oi := ⟨some 6, _, _, _, _, none⟩) (v := ?v34) rfl (by kernel_rfl) (by kernel_rfl) (by kernel_rfl) (fun _ _ _ h => h) (Or.inl ⟨by rfl, ?hy34⟩) (by with_reducible assumption) ?rest34
              case hy34 => (intro V_ hSw; (try dsimp only at hSw); go_simp; (try with_reducible rfl))
              case' rest34 => skip
              try simp only [Act.put, List.setIfInBounds_toArray, List.set_cons_zero, List.set_cons_succ]
              refine wpAnyH_done (by kernel_rfl) ?_ _
              refine NoPanic.normal ?_
              go_wp2_with fail
              go_meet
              case rel => exact ⟨_, _, _, rfl, rfl, S_⟩
            exact AllReadyH.nil
          exact AllReadyH.nil
        exact AllReadyH.nil
      exact AllReadyH.nil
    refine AllReadyH.cons (o := ⟨some 5, _, _, _, _, none⟩) rfl (fun K hK => ?_) ?_
    · go_simp
      have hMA := SD.out.alloc #[.int .i64 0, .int .i64 0, .int .i64 0, .int .i64 0, .string ⟨#[]⟩, .int .i64 0, .int .i64 0, .int .i64 0, .int .i64 0, .slice none 0 0] 27
      generalize hwa : World.alloc wd _ = wa at hMA ⊢
      have SA := Aside0.mk hMA
      clear hwa hMA
      generalize wd.heap.size = bn at SA ⊢
      refine hK.out _ _ SA.out.bx1 (fun hHeld => ?_)
      clear hK K
      try simp only [Act.put, List.setIfInBounds_toArray, List.set_cons_zero, List.set_cons_succ]
      refine wpAnyH_ready (rs := [1]) (by kernel_rfl) (by simp) ?_
      refine AllReadyH.cons (o := ⟨some 36, _, _, _, _, none⟩) rfl (fun K hK => ?_) ?_
      · go_simp
        refine (scriptoriumlaw20_txn.calls 7 0 5 ⟨#[97]⟩ 10 0 10 0 0 0 0 0 _ rfl).mono ?_
        rintro e wa0 ⟨rfl, hb⟩
        have Sa0 := Aside0.mk (SA.out.step hb)
        refine hK.out _ _ Sa0.out.bx1 (fun hHeld => ?_)
        clear hK K
        try simp only [Act.put, List.setIfInBounds_toArray, List.set_cons_zero, List.set_cons_succ]
        refine wpAnyH_ready (rs := [2]) (by kernel_rfl) (by simp) ?_
        refine AllReadyH.cons (o := ⟨some 37, _, _, _, _, none⟩) rfl (fun K hK => ?_) ?_
        · go_simp
          refine (scriptoriumlaw20_at.calls 31 31 0 _ rfl).mono ?_
          rintro e wa1 ⟨rfl, hb⟩
          have Sa1 := Aside0.mk (Sa0.out.step hb)
          refine hK.out _ _ Sa1.out.bx1 (fun hHeld => ?_)
          clear hK K
          try simp only [Act.put, List.setIfInBounds_toArray, List.set_cons_zero, List.set_cons_succ]
          refine wpAnyH_ready (rs := [3]) (by kernel_rfl) (by simp) ?_
          refine AllReadyH.cons (o := ⟨some 38, _, _, _, _, none⟩) rfl (fun K hK => ?_) ?_
          · go_simp
            refine (show Calls _ _ _ _ (recPost 7 0 1 5 ⟨#[97]⟩ 30 1 20 0 [] 202 _) from record_End.calls 40 7 0 1 5 ⟨#[97]⟩ 30 1 20 0 Ab cb [] true 7 0 5 ⟨#[97]⟩ 10 0 10 0 0 0 0 0 3 none 0 [] 31 0 7 0 1 5 ⟨#[97]⟩ 30 1 20 0 [] 202 _ (Kd.C_nil' _ _ _) (Nat.zero_le _) (Kd.C_nil' _ _ _) (Nat.zero_le _) (by kernel_rfl)).mono ?_
            rintro e wa2 ⟨vc, rfl, hR, hb⟩
            obtain ⟨Ac, cc, rfl⟩ := Kd.R_slice hR
            have Sa2 := Aside0.mk (Sa1.out.step hb)
            refine hK.out _ _ Sa2.out.bx1 (fun hHeld => ?_)
            clear hK K
            try simp only [Act.put, List.setIfInBounds_toArray, List.set_cons_zero, List.set_cons_succ]
            refine wpAnyH_take (i := 4) (oi := ⟨some 34, _, _, _, _, none⟩) (v := ?v35) rfl (by kernel_rfl) (by kernel_rfl) (by kernel_rfl) (fun _ _ _ h => h) (Or.inl ⟨by rfl, ?hy35⟩) (by with_reducible assumption) ?rest35
            case hy35 => (intro V_ hSw; (try dsimp only at hSw); go_simp; (try with_reducible rfl))
            case' rest35 => skip
            try simp only [Act.put, List.setIfInBounds_toArray, List.set_cons_zero, List.set_cons_succ]
            refine wpAnyH_take (i := 5) (oi := ⟨some 39, _, _, _, _, none⟩) (v := ?v36) rfl (by kernel_rfl) (by kernel_rfl) (by kernel_rfl) (fun _ _ _ h => h) (Or.inl ⟨by rfl, ?hy36⟩) (by with_reducible assumption) ?rest36
            case hy36 => (intro V_ hSw; (try dsimp only at hSw); go_simp; (try with_reducible rfl))
            case' rest36 => skip
            try simp only [Act.put, List.setIfInBounds_toArray, List.set_cons_zero, List.set_cons_succ]
            refine wpAnyH_take (i := 6) (oi := ⟨some 40, _, _, _, _, none⟩) (v := ?v37) rfl (by kernel_rfl) (by kernel_rfl) (by kernel_rfl) (fun _ _ _ h => h) (Or.inl ⟨by rfl, ?hy37⟩) (by with_reducible assumption) ?rest37
            case hy37 => (intro V_ hSw; (try dsimp only at hSw); go_simp; (try with_reducible rfl))
            case' rest37 => skip
            try simp only [Act.put, List.setIfInBounds_toArray, List.set_cons_zero, List.set_cons_succ]
            refine wpAnyH_ready (rs := [8]) (by kernel_rfl) (by simp) ?_
            refine AllReadyH.cons (o := ⟨none, _, _, _, _, none⟩) rfl (fun K hK => ?_) ?_
            · obtain ⟨z0, z1, z2, z3, z4, z5, z6, z7, z8, z9⟩ := cells10 Sa2.out.bx0
              obtain ⟨fz0, fz1, fz2, fz3, fz4, fz5, fz6, fz7, fz8, fz9⟩ := frozen10 Sa2.out.bx0
              go_simp
              clear z0 z1 z2 z3 z4 z5 z6 z7 z8 z9 fz0 fz1 fz2 fz3 fz4 fz5 fz6 fz7 fz8 fz9
              have S_ := Aside0.mk (Sa2.out.ten0 (.int .i64 7) (.int .i64 0) (.int .i64 1) (.int .i64 5) (.string ⟨#[97]⟩) (.int .i64 30) (.int .i64 1) (.int .i64 20) (.int .i64 0) (.slice Ac 0 cc) (by decide))
              refine hK.out _ _ S_.out.bx1 (fun hHeld => ?_)
              clear hK K
              try simp only [Act.put, List.setIfInBounds_toArray, List.set_cons_zero, List.set_cons_succ]
              refine wpAnyH_take (i := 9) (oi := ⟨some 6, _, _, _, _, none⟩) (v := ?v38) rfl (by kernel_rfl) (by kernel_rfl) (by kernel_rfl) (fun _ _ _ h => h) (Or.inl ⟨by rfl, ?hy38⟩) (by with_reducible assumption) ?rest38
              case hy38 => (intro V_ hSw; (try dsimp only at hSw); go_simp; (try with_reducible rfl))
              case' rest38 => skip
              try simp only [Act.put, List.setIfInBounds_toArray, List.set_cons_zero, List.set_cons_succ]
              refine wpAnyH_done (by kernel_rfl) ?_ _
              refine NoPanic.normal ?_
              go_wp2_with fail
              go_meet
              case rel => exact ⟨_, _, _, rfl, rfl, S_⟩
            exact AllReadyH.nil
          exact AllReadyH.nil
        exact AllReadyH.nil
      exact AllReadyH.nil
    exact AllReadyH.nil
  case rest =>
  obtain ⟨Ac, cc, bc, rfl, rfl, S6⟩ := hcut
  rename World => w6
  clear S5
  exact (by assumption : ∀ (a : Act) (w : World), Code.wp Try.prog (tailC 4 Try.f11.body) _ a w → _) _ _ (awake_t4 w w6 ba Aa ca bb Ab cb bc Ac cc _ _ _ _ _ _ _ _ _ _ _ _ _ _ _ _ _ _ _ _ _ _ _ _ _ _ _ _ _ _ _ _ _ _ _ _ _ _ _ _ _ _ _ _ _ _ _ _ _ _ _ _ _ _ _ _ _ _ _ _ _ _ _ _ _ _ _ _ _ _ _ _ _ _ _ _ _ _ _ _ _ _ _ _ _ _ _ _ _ _ _ _ _ _ _ _ _ _ _ _ _ _ _ _ _ _ _ _ _ _ _ _ _ _ _ _ _ _ _ _ _ _ _ _ _ _ _ _ _ _ _ _ _ _ _ _ _ _ _ _ _ _ _ _ _ _ _ _ _ _ _ _ _ _ _ _ _ _ _ _ _ _ S6)

end Go.Proofs.Ythdmkacnkdmbiaa.PRecordStaged
