/- Written by xprint.py, a program of these sessions (over the print of the kit, with leaves typed by hand): one Lean function for each Go function, and the proof that the Go code comes to its answers. -/
import Derived.Test.YthdmkacnkdmbiaaPRecordStagedx14a
import Derived.Test.YthdmkacnkdmbiaaPRecordStagedx14b
import Derived.Test.YthdmkacnkdmbiaaPRecordStagedx0
import Derived.Test.YthdmkacnkdmbiaaPRecordStagedx1
import Derived.Test.YthdmkacnkdmbiaaPRecordStagedx3
import Derived.Test.YthdmkacnkdmbiaaPRecordStagedx6
import Derived.Test.YthdmkacnkdmbiaaPRecordStagedx7
import Derived.Test.YthdmkacnkdmbiaaPRecordStagedx9
import Derived.Test.YthdmkacnkdmbiaaPRecordStagedx11
import Derived.Test.YthdmkacnkdmbiaaPRecordStagedx12
import Derived.Test.YthdmkacnkdmbiaaPRecordStagedx13
namespace Go.Proofs.Ythdmkacnkdmbiaa.PRecordStaged
open Go.RowKit Go.Proofs.YthdmkacnkdmbiaaW.PrintWords Go.Proofs.YthdmkacnkdmbiaaW.PrintLast Go.Proofs.YthdmkacnkdmbiaaW.PrintMore
attribute [local go_sem] max2_int min2_int max_two min_two max_three min_three max_four min_four   -- for this text's walks alone
attribute [local go_sem] str_gtr str_leq str_geq
set_option linter.unusedVariables false
set_option linter.unusedSimpArgs false

attribute [local go_sem high] eqA24
set_option maxHeartbeats 16000000 in
set_option maxRecDepth 100000 in
theorem awake_t4 (w w6 : World) (ba : Nat) (Aa : Option Addr) (ca : Nat) (bb : Nat) (Ab : Option Addr) (cb : Nat) (bc : Nat) (Ac : Option Addr) (cc : Nat) (sl0 sl7 sl8 sl9 sl10 sl11 sl12 sl13 sl14 sl15 sl16 sl17 sl18 sl19 sl20 sl21 sl22 sl23 sl24 sl25 sl26 sl27 sl28 sl29 sl30 sl31 sl32 sl33 sl34 sl35 sl36 sl37 sl38 sl39 sl40 sl41 sl42 sl43 sl44 sl45 sl46 sl47 sl48 sl49 sl50 sl51 sl52 sl53 sl54 sl55 sl56 sl57 sl58 sl59 sl60 sl61 sl62 sl63 sl64 sl65 sl66 sl67 sl68 sl69 sl70 sl71 sl72 sl73 sl74 sl75 sl76 sl77 sl78 sl79 sl80 sl81 sl82 sl83 sl84 sl85 sl86 sl87 sl88 sl89 sl90 sl91 sl92 sl93 sl94 sl95 sl96 sl97 sl98 sl99 sl100 sl101 sl102 sl103 sl104 sl105 sl106 sl107 sl108 sl109 sl110 sl111 sl112 sl113 sl114 sl115 sl116 sl117 sl118 sl119 sl120 sl121 sl122 sl123 sl124 sl125 sl126 sl127 sl128 sl129 sl130 sl131 sl132 sl133 sl134 sl135 sl136 sl137 sl138 sl139 sl140 sl141 sl142 sl143 sl144 sl145 sl146 sl147 sl148 sl149 sl150 sl151 sl152 sl153 sl154 sl155 sl156 sl157 sl158 sl159 sl160 sl161 sl162 sl163 sl164 sl165 sl166 sl167 : Value) (S6 : Aside0 (Mem w w6 [(bc, #[.int .i64 7, .int .i64 0, .int .i64 1, .int .i64 5, .string ⟨#[97]⟩, .int .i64 30, .int .i64 1, .int .i64 20, .int .i64 0, .slice Ac 0 cc], 27), (bb, #[.int .i64 7, .int .i64 0, .int .i64 1, .int .i64 5, .string ⟨#[97]⟩, .int .i64 30, .int .i64 1, .int .i64 20, .int .i64 0, .slice Ab 0 cb], 27), (ba, #[.int .i64 7, .int .i64 0, .int .i64 1, .int .i64 5, .string ⟨#[97]⟩, .int .i64 10, .int .i64 0, .int .i64 20, .int .i64 0, .slice Aa 0 ca], 27)] [])) :
    Code.wp Try.prog (tailC 4 Try.f11.body) (bodyPost Try.prog Try.f11 fun e w' => e = .returned (.bool true) ∧ Below w.heap.size w w') ⟨List.toArray (sl0 :: .pointer (some ⟨ba, 0, none⟩) :: .int .i64 0 :: .pointer (some ⟨bb, 0, none⟩) :: .int .i64 0 :: .pointer (some ⟨bc, 0, none⟩) :: .int .i64 202 :: sl7 :: sl8 :: sl9 :: sl10 :: sl11 :: sl12 :: sl13 :: sl14 :: sl15 :: sl16 :: sl17 :: sl18 :: sl19 :: sl20 :: sl21 :: sl22 :: sl23 :: sl24 :: sl25 :: sl26 :: sl27 :: sl28 :: sl29 :: sl30 :: sl31 :: sl32 :: sl33 :: sl34 :: sl35 :: sl36 :: sl37 :: sl38 :: sl39 :: sl40 :: sl41 :: sl42 :: sl43 :: sl44 :: sl45 :: sl46 :: sl47 :: sl48 :: sl49 :: sl50 :: sl51 :: sl52 :: sl53 :: sl54 :: sl55 :: sl56 :: sl57 :: sl58 :: sl59 :: sl60 :: sl61 :: sl62 :: sl63 :: sl64 :: sl65 :: sl66 :: sl67 :: sl68 :: sl69 :: sl70 :: sl71 :: sl72 :: sl73 :: sl74 :: sl75 :: sl76 :: sl77 :: sl78 :: sl79 :: sl80 :: sl81 :: sl82 :: sl83 :: sl84 :: sl85 :: sl86 :: sl87 :: sl88 :: sl89 :: sl90 :: sl91 :: sl92 :: sl93 :: sl94 :: sl95 :: sl96 :: sl97 :: sl98 :: sl99 :: sl100 :: sl101 :: sl102 :: sl103 :: sl104 :: sl105 :: sl106 :: sl107 :: sl108 :: sl109 :: sl110 :: sl111 :: sl112 :: sl113 :: sl114 :: sl115 :: sl116 :: sl117 :: sl118 :: sl119 :: sl120 :: sl121 :: sl122 :: sl123 :: sl124 :: sl125 :: sl126 :: sl127 :: sl128 :: sl129 :: sl130 :: sl131 :: sl132 :: sl133 :: sl134 :: sl135 :: sl136 :: sl137 :: sl138 :: sl139 :: sl140 :: sl141 :: sl142 :: sl143 :: sl144 :: sl145 :: sl146 :: sl147 :: sl148 :: sl149 :: sl150 :: sl151 :: sl152 :: sl153 :: sl154 :: sl155 :: sl156 :: sl157 :: sl158 :: sl159 :: sl160 :: sl161 :: sl162 :: sl163 :: sl164 :: sl165 :: sl166 :: sl167 :: []), []⟩ w6 := by
  change Code.wp _ (Code.seq _ _) _ _ _
  go_upto_region 4 with fail
  go_cut [7, 8] (fun v_ e_ wc => ∃ (bh : Nat), v_ = .pointer (some ⟨bh, 0, none⟩) ∧ e_ = .int .i64 120 ∧ Aside0 (Mem w wc [(bc, #[.int .i64 7, .int .i64 0, .int .i64 1, .int .i64 5, .string ⟨#[97]⟩, .int .i64 30, .int .i64 1, .int .i64 20, .int .i64 0, .slice Ac 0 cc], 27), (bb, #[.int .i64 7, .int .i64 0, .int .i64 1, .int .i64 5, .string ⟨#[97]⟩, .int .i64 30, .int .i64 1, .int .i64 20, .int .i64 0, .slice Ab 0 cb], 27), (ba, #[.int .i64 7, .int .i64 0, .int .i64 1, .int .i64 5, .string ⟨#[97]⟩, .int .i64 10, .int .i64 0, .int .i64 20, .int .i64 0, .slice Aa 0 ca], 27)] []))
  case first =>
    refine wp_region_noPanic ?_
    have SD := Aside0.mk S6.out.drew
    refine wp_region_held_drew (S := (fun V => V.heap[ba]? = some (.cells #[.int .i64 7, .int .i64 0, .int .i64 1, .int .i64 5, .string ⟨#[97]⟩, .int .i64 10, .int .i64 0, .int .i64 20, .int .i64 0, .slice Aa 0 ca] 27 (0, 0)))) (by kernel_rfl) SD.out.bx2 (fun hHeld => ?_)
    generalize hwd : World.drew w6 = wd at hHeld SD ⊢
    clear hwd
    refine wpAnyH_take (i := 0) (oi := ⟨some 42, _, _, _, _, none⟩) (v := _) rfl (by kernel_rfl) (by kernel_rfl) (by kernel_rfl) (fun _ _ _ h => h) (yieldsIf_load_row (by rfl) 27 _ rfl ba rfl _ _ (0, 0) _ (fun V h => h) Try.underlying27 rfl (by kernel_rfl)) (by with_reducible assumption) ?_
    try simp only [Act.put, List.setIfInBounds_toArray, List.set_cons_zero, List.set_cons_succ]
    refine wpAnyH_ready (rs := [1, 8]) (by kernel_rfl) (by simp) ?_
    refine AllReadyH.cons (o := ⟨some 43, _, _, _, _, none⟩) rfl (fun K hK => ?_) ?_
    · go_simp
      refine (scriptoriumlaw20_known.calls 0 7 0 1 5 ⟨#[97]⟩ 10 0 0 0 [] _ rfl).mono ?_
      rintro e wc0 ⟨vk, rfl, hk, hb⟩
      obtain ⟨Ak, ck, rfl⟩ := Kd.R_slice hk
      clear hk
      have Sc0 := Aside0.mk (SD.out.step hb)
      refine hK.out _ _ Sc0.out.bx2 (fun hHeld => ?_)
      clear hK K
      try simp only [Act.put, List.setIfInBounds_toArray, List.set_cons_zero, List.set_cons_succ]
      refine wpAnyH_ready (rs := [2, 8]) (by kernel_rfl) (by simp) ?_
      refine AllReadyH.cons (o := ⟨some 44, _, _, _, _, none⟩) rfl (fun K hK => ?_) ?_
      · go_simp
        refine (scriptoriumlaw20_at.calls 30 30 0 _ rfl).mono ?_
        rintro e wc1 ⟨rfl, hb⟩
        have Sc1 := Aside0.mk (Sc0.out.step hb)
        refine hK.out _ _ Sc1.out.bx2 (fun hHeld => ?_)
        clear hK K
        try simp only [Act.put, List.setIfInBounds_toArray, List.set_cons_zero, List.set_cons_succ]
        refine wpAnyH_ready (rs := [3, 8]) (by kernel_rfl) (by simp) ?_
        refine AllReadyH.cons (o := ⟨some 45, _, _, _, _, none⟩) rfl (fun K hK => ?_) ?_
        · go_simp
          refine (scriptoriumlaw20_at.calls 70 70 0 _ rfl).mono ?_
          rintro e wc2 ⟨rfl, hb⟩
          have Sc2 := Aside0.mk (Sc1.out.step hb)
          refine hK.out _ _ Sc2.out.bx2 (fun hHeld => ?_)
          clear hK K
          try simp only [Act.put, List.setIfInBounds_toArray, List.set_cons_zero, List.set_cons_succ]
          refine wpAnyH_ready (rs := [4, 8]) (by kernel_rfl) (by simp) ?_
          refine AllReadyH.cons (o := ⟨some 46, _, _, _, _, none⟩) rfl (fun K hK => ?_) ?_
          · go_simp
            refine (show Calls _ _ _ _ (recPost 7 0 1 5 ⟨#[97]⟩ 10 0 20 0 [] 120 _) from record_Push.calls 40 7 0 1 5 ⟨#[97]⟩ 10 0 20 0 Aa ca [] true 7 0 1 5 ⟨#[97]⟩ 10 0 0 0 Ak ck [] 4 true 30 0 70 0 7 0 1 5 ⟨#[97]⟩ 10 0 20 0 [] 120 _ (Kd.C_nil' _ _ _) (Nat.zero_le _) (Kd.C_nil' _ _ _) (Nat.zero_le _) (by kernel_rfl)).mono ?_
            rintro e wc3 ⟨vh, rfl, hR, hb⟩
            obtain ⟨Ah, ch, rfl⟩ := Kd.R_slice hR
            have Sc3 := Aside0.mk (Sc2.out.step hb)
            refine hK.out _ _ Sc3.out.bx2 (fun hHeld => ?_)
            clear hK K
            try simp only [Act.put, List.setIfInBounds_toArray, List.set_cons_zero, List.set_cons_succ]
            refine wpAnyH_take (i := 5) (oi := ⟨some 41, _, _, _, _, none⟩) (v := ?v40) rfl (by kernel_rfl) (by kernel_rfl) (by kernel_rfl) (fun _ _ _ h => h) (Or.inl ⟨by rfl, ?hy40⟩) (by with_reducible assumption) ?rest40
            case hy40 => (intro V_ hSw; (try dsimp only at hSw); go_simp; (try with_reducible rfl))
            case' rest40 => skip
            try simp only [Act.put, List.setIfInBounds_toArray, List.set_cons_zero, List.set_cons_succ]
            refine wpAnyH_take (i := 6) (oi := ⟨some 47, _, _, _, _, none⟩) (v := ?v41) rfl (by kernel_rfl) (by kernel_rfl) (by kernel_rfl) (fun _ _ _ h => h) (Or.inl ⟨by rfl, ?hy41⟩) (by with_reducible assumption) ?rest41
            case hy41 => (intro V_ hSw; (try dsimp only at hSw); go_simp; (try with_reducible rfl))
            case' rest41 => skip
            try simp only [Act.put, List.setIfInBounds_toArray, List.set_cons_zero, List.set_cons_succ]
            refine wpAnyH_take (i := 7) (oi := ⟨some 48, _, _, _, _, none⟩) (v := ?v42) rfl (by kernel_rfl) (by kernel_rfl) (by kernel_rfl) (fun _ _ _ h => h) (Or.inl ⟨by rfl, ?hy42⟩) (by with_reducible assumption) ?rest42
            case hy42 => (intro V_ hSw; (try dsimp only at hSw); go_simp; (try with_reducible rfl))
            case' rest42 => skip
            try simp only [Act.put, List.setIfInBounds_toArray, List.set_cons_zero, List.set_cons_succ]
            refine wpAnyH_ready (rs := [8]) (by kernel_rfl) (by simp) ?_
            refine AllReadyH.cons (o := ⟨some 7, _, _, _, _, none⟩) rfl (fun K hK => ?_) ?_
            · go_simp
              refine hK.out _ _ (blk_alloc Sc3.out.bx2 _) (fun hHeld => ?_)
              clear hK K
              try simp only [Act.put, List.setIfInBounds_toArray, List.set_cons_zero, List.set_cons_succ]
              refine wpAnyH_ready (rs := [9]) (by kernel_rfl) (by simp) ?_
              refine AllReadyH.cons (o := ⟨none, _, _, _, _, none⟩) rfl (fun K hK => ?_) ?_
              · go_simp
                have hMA := Sc3.out.alloc #[.int .i64 7, .int .i64 0, .int .i64 1, .int .i64 5, .string ⟨#[97]⟩, .int .i64 10, .int .i64 0, .int .i64 20, .int .i64 0, .slice Ah 0 ch] 27
                generalize hwa : World.alloc wc3 _ = w5 at hMA ⊢
                have S_ := Aside0.mk hMA
                clear hwa hMA
                refine hK.out _ _ S_.out.bx3 (fun hHeld => ?_)
                clear hK K
                try simp only [Act.put, List.setIfInBounds_toArray, List.set_cons_zero, List.set_cons_succ]
                refine wpAnyH_take (i := 10) (oi := ⟨some 8, _, _, _, _, none⟩) (v := ?v43) rfl (by kernel_rfl) (by kernel_rfl) (by kernel_rfl) (fun _ _ _ h => h) (Or.inl ⟨by rfl, ?hy43⟩) (by with_reducible assumption) ?rest43
                case hy43 => (intro V_ hSw; (try dsimp only at hSw); go_simp; (try with_reducible rfl))
                case' rest43 => skip
                try simp only [Act.put, List.setIfInBounds_toArray, List.set_cons_zero, List.set_cons_succ]
                refine wpAnyH_done (by kernel_rfl) ?_ _
                refine NoPanic.normal ?_
                go_wp2_with fail
                go_meet
                case rel => exact ⟨_, rfl, rfl, ⟨S_.out.sub (.cons _ (List.Sublist.refl _)) (fun r q => q)⟩⟩
              exact AllReadyH.nil
            exact AllReadyH.nil
          refine AllReadyH.cons (o := ⟨some 7, _, _, _, _, none⟩) rfl (fun K hK => ?_) ?_
          · go_simp
            have hMA := Sc2.out.alloc #[.int .i64 0, .int .i64 0, .int .i64 0, .int .i64 0, .string ⟨#[]⟩, .int .i64 0, .int .i64 0, .int .i64 0, .int .i64 0, .slice none 0 0] 27
            generalize hwa : World.alloc wc2 _ = wa at hMA ⊢
            have SA := Aside0.mk hMA
            clear hwa hMA
            generalize wc2.heap.size = bn at SA ⊢
            refine hK.out _ _ SA.out.bx3 (fun hHeld => ?_)
            clear hK K
            try simp only [Act.put, List.setIfInBounds_toArray, List.set_cons_zero, List.set_cons_succ]
            refine wpAnyH_ready (rs := [4]) (by kernel_rfl) (by simp) ?_
            refine AllReadyH.cons (o := ⟨some 46, _, _, _, _, none⟩) rfl (fun K hK => ?_) ?_
            · go_simp
              refine (show Calls _ _ _ _ (recPost 7 0 1 5 ⟨#[97]⟩ 10 0 20 0 [] 120 _) from record_Push.calls 40 7 0 1 5 ⟨#[97]⟩ 10 0 20 0 Aa ca [] true 7 0 1 5 ⟨#[97]⟩ 10 0 0 0 Ak ck [] 4 true 30 0 70 0 7 0 1 5 ⟨#[97]⟩ 10 0 20 0 [] 120 _ (Kd.C_nil' _ _ _) (Nat.zero_le _) (Kd.C_nil' _ _ _) (Nat.zero_le _) (by kernel_rfl)).mono ?_
              rintro e wa3 ⟨vh, rfl, hR, hb⟩
              obtain ⟨Ah, ch, rfl⟩ := Kd.R_slice hR
              have Sa3 := Aside0.mk (SA.out.step hb)
              refine hK.out _ _ Sa3.out.bx3 (fun hHeld => ?_)
              clear hK K
              try simp only [Act.put, List.setIfInBounds_toArray, List.set_cons_zero, List.set_cons_succ]
              refine wpAnyH_take (i := 5) (oi := ⟨some 41, _, _, _, _, none⟩) (v := ?v44) rfl (by kernel_rfl) (by kernel_rfl) (by kernel_rfl) (fun _ _ _ h => h) (Or.inl ⟨by rfl, ?hy44⟩) (by with_reducible assumption) ?rest44
              case hy44 => (intro V_ hSw; (try dsimp only at hSw); go_simp; (try with_reducible rfl))
              case' rest44 => skip
              try simp only [Act.put, List.setIfInBounds_toArray, List.set_cons_zero, List.set_cons_succ]
              refine wpAnyH_take (i := 6) (oi := ⟨some 47, _, _, _, _, none⟩) (v := ?v45) rfl (by kernel_rfl) (by kernel_rfl) (by kernel_rfl) (fun _ _ _ h => h) (Or.inl ⟨by rfl, ?hy45⟩) (by with_reducible assumption) ?rest45
              case hy45 => (intro V_ hSw; (try dsimp only at hSw); go_simp; (try with_reducible rfl))
              case' rest45 => skip
              try simp only [Act.put, List.setIfInBounds_toArray, List.set_cons_zero, List.set_cons_succ]
              refine wpAnyH_take (i := 7) (oi := ⟨some 48, _, _, _, _, none⟩) (v := ?v46) rfl (by kernel_rfl) (by kernel_rfl) (by kernel_rfl) (fun _ _ _ h => h) (Or.inl ⟨by rfl, ?hy46⟩) (by with_reducible assumption) ?rest46
              case hy46 => (intro V_ hSw; (try dsimp only at hSw); go_simp; (try with_reducible rfl))
              case' rest46 => skip
              try simp only [Act.put, List.setIfInBounds_toArray, List.set_cons_zero, List.set_cons_succ]
              refine wpAnyH_ready (rs := [9]) (by kernel_rfl) (by simp) ?_
              refine AllReadyH.cons (o := ⟨none, _, _, _, _, none⟩) rfl (fun K hK => ?_) ?_
              · obtain ⟨z0, z1, z2, z3, z4, z5, z6, z7, z8, z9⟩ := cells10 Sa3.out.bx0
                obtain ⟨fz0, fz1, fz2, fz3, fz4, fz5, fz6, fz7, fz8, fz9⟩ := frozen10 Sa3.out.bx0
                go_simp
                clear z0 z1 z2 z3 z4 z5 z6 z7 z8 z9 fz0 fz1 fz2 fz3 fz4 fz5 fz6 fz7 fz8 fz9
                have S_ := Aside0.mk (Sa3.out.ten0 (.int .i64 7) (.int .i64 0) (.int .i64 1) (.int .i64 5) (.string ⟨#[97]⟩) (.int .i64 10) (.int .i64 0) (.int .i64 20) (.int .i64 0) (.slice Ah 0 ch) (by decide))
                refine hK.out _ _ S_.out.bx3 (fun hHeld => ?_)
                clear hK K
                try simp only [Act.put, List.setIfInBounds_toArray, List.set_cons_zero, List.set_cons_succ]
                refine wpAnyH_take (i := 10) (oi := ⟨some 8, _, _, _, _, none⟩) (v := ?v47) rfl (by kernel_rfl) (by kernel_rfl) (by kernel_rfl) (fun _ _ _ h => h) (Or.inl ⟨by rfl, ?hy47⟩) (by with_reducible assumption) ?rest47
                case hy47 => (intro V_ hSw; (try dsimp only at hSw); go_simp; (try with_reducible rfl))
                case' rest47 => skip
                try simp only [Act.put, List.setIfInBounds_toArray, List.set_cons_zero, List.set_cons_succ]
                refine wpAnyH_done (by kernel_rfl) ?_ _
                refine NoPanic.normal ?_
                go_wp2_with fail
                go_meet
                case rel => exact ⟨_, rfl, rfl, ⟨S_.out.sub (.cons _ (List.Sublist.refl _)) (fun r q => q)⟩⟩
              exact AllReadyH.nil
            exact AllReadyH.nil
          exact AllReadyH.nil
        refine AllReadyH.cons (o := ⟨some 7, _, _, _, _, none⟩) rfl (fun K hK => ?_) ?_
        · go_simp
          have hMA := Sc1.out.alloc #[.int .i64 0, .int .i64 0, .int .i64 0, .int .i64 0, .string ⟨#[]⟩, .int .i64 0, .int .i64 0, .int .i64 0, .int .i64 0, .slice none 0 0] 27
          generalize hwa : World.alloc wc1 _ = wa at hMA ⊢
          have SA := Aside0.mk hMA
          clear hwa hMA
          generalize wc1.heap.size = bn at SA ⊢
          refine hK.out _ _ SA.out.bx3 (fun hHeld => ?_)
          clear hK K
          try simp only [Act.put, List.setIfInBounds_toArray, List.set_cons_zero, List.set_cons_succ]
          refine wpAnyH_ready (rs := [3]) (by kernel_rfl) (by simp) ?_
          refine AllReadyH.cons (o := ⟨some 45, _, _, _, _, none⟩) rfl (fun K hK => ?_) ?_
          · go_simp
            refine (scriptoriumlaw20_at.calls 70 70 0 _ rfl).mono ?_
            rintro e wa2 ⟨rfl, hb⟩
            have Sa2 := Aside0.mk (SA.out.step hb)
            refine hK.out _ _ Sa2.out.bx3 (fun hHeld => ?_)
            clear hK K
            try simp only [Act.put, List.setIfInBounds_toArray, List.set_cons_zero, List.set_cons_succ]
            refine wpAnyH_ready (rs := [4]) (by kernel_rfl) (by simp) ?_
            refine AllReadyH.cons (o := ⟨some 46, _, _, _, _, none⟩) rfl (fun K hK => ?_) ?_
            · go_simp
              refine (show Calls _ _ _ _ (recPost 7 0 1 5 ⟨#[97]⟩ 10 0 20 0 [] 120 _) from record_Push.calls 40 7 0 1 5 ⟨#[97]⟩ 10 0 20 0 Aa ca [] true 7 0 1 5 ⟨#[97]⟩ 10 0 0 0 Ak ck [] 4 true 30 0 70 0 7 0 1 5 ⟨#[97]⟩ 10 0 20 0 [] 120 _ (Kd.C_nil' _ _ _) (Nat.zero_le _) (Kd.C_nil' _ _ _) (Nat.zero_le _) (by kernel_rfl)).mono ?_
              rintro e wa3 ⟨vh, rfl, hR, hb⟩
              obtain ⟨Ah, ch, rfl⟩ := Kd.R_slice hR
              have Sa3 := Aside0.mk (Sa2.out.step hb)
              refine hK.out _ _ Sa3.out.bx3 (fun hHeld => ?_)
              clear hK K
              try simp only [Act.put, List.setIfInBounds_toArray, List.set_cons_zero, List.set_cons_succ]
              refine wpAnyH_take (i := 5) (oi := ⟨some 41, _, _, _, _, none⟩) (v := ?v48) rfl (by kernel_rfl) (by kernel_rfl) (by kernel_rfl) (fun _ _ _ h => h) (Or.inl ⟨by rfl, ?hy48⟩) (by with_reducible assumption) ?rest48
              case hy48 => (intro V_ hSw; (try dsimp only at hSw); go_simp; (try with_reducible rfl))
              case' rest48 => skip
              try simp only [Act.put, List.setIfInBounds_toArray, List.set_cons_zero, List.set_cons_succ]
              refine wpAnyH_take (i := 6) (oi := ⟨some 47, _, _, _, _, none⟩) (v := ?v49) rfl (by kernel_rfl) (by kernel_rfl) (by kernel_rfl) (fun _ _ _ h => h) (Or.inl ⟨by rfl, ?hy49⟩) (by with_reducible assumption) ?rest49
              case hy49 => (intro V_ hSw; (try dsimp only at hSw); go_simp; (try with_reducible rfl))
              case' rest49 => skip
              try simp only [Act.put, List.setIfInBounds_toArray, List.set_cons_zero, List.set_cons_succ]
              refine wpAnyH_take (i := 7) (oi := ⟨some 48, _, _, _, _, none⟩) (v := ?v50) rfl (by kernel_rfl) (by kernel_rfl) (by kernel_rfl) (fun _ _ _ h => h) (Or.inl ⟨by rfl, ?hy50⟩) (by with_reducible assumption) ?rest50
              case hy50 => (intro V_ hSw; (try dsimp only at hSw); go_simp; (try with_reducible rfl))
              case' rest50 => skip
              try simp only [Act.put, List.setIfInBounds_toArray, List.set_cons_zero, List.set_cons_succ]
              refine wpAnyH_ready (rs := [9]) (by kernel_rfl) (by simp) ?_
              refine AllReadyH.cons (o := ⟨none, _, _, _, _, none⟩) rfl (fun K hK => ?_) ?_
              · obtain ⟨z0, z1, z2, z3, z4, z5, z6, z7, z8, z9⟩ := cells10 Sa3.out.bx0
                obtain ⟨fz0, fz1, fz2, fz3, fz4, fz5, fz6, fz7, fz8, fz9⟩ := frozen10 Sa3.out.bx0
                go_simp
                clear z0 z1 z2 z3 z4 z5 z6 z7 z8 z9 fz0 fz1 fz2 fz3 fz4 fz5 fz6 fz7 fz8 fz9
                have S_ := Aside0.mk (Sa3.out.ten0 (.int .i64 7) (.int .i64 0) (.int .i64 1) (.int .i64 5) (.string ⟨#[97]⟩) (.int .i64 10) (.int .i64 0) (.int .i64 20) (.int .i64 0) (.slice Ah 0 ch) (by decide))
                refine hK.out _ _ S_.out.bx3 (fun hHeld => ?_)
                clear hK K
                try simp only [Act.put, List.setIfInBounds_toArray, List.set_cons_zero, List.set_cons_succ]
                refine wpAnyH_take (i := 10) (oi := ⟨some 8, _, _, _, _, none⟩) (v := ?v51) rfl (by kernel_rfl) (by kernel_rfl) (by kernel_rfl) (fun _ _ _ h => h) (Or.inl ⟨by rfl, ?hy51⟩) (by with_reducible assumption) ?rest51
                case hy51 => (intro V_ hSw; (try dsimp only at hSw); go_simp; (try with_reducible rfl))
                case' rest51 => skip
                try simp only [Act.put, List.setIfInBounds_toArray, List.set_cons_zero, List.set_cons_succ]
                refine wpAnyH_done (by kernel_rfl) ?_ _
                refine NoPanic.normal ?_
                go_wp2_with fail
                go_meet
                case rel => exact ⟨_, rfl, rfl, ⟨S_.out.sub (.cons _ (List.Sublist.refl _)) (fun r q => q)⟩⟩
              exact AllReadyH.nil
            exact AllReadyH.nil
          exact AllReadyH.nil
        exact AllReadyH.nil
      refine AllReadyH.cons (o := ⟨some 7, _, _, _, _, none⟩) rfl (fun K hK => ?_) ?_
      · go_simp
        have hMA := Sc0.out.alloc #[.int .i64 0, .int .i64 0, .int .i64 0, .int .i64 0, .string ⟨#[]⟩, .int .i64 0, .int .i64 0, .int .i64 0, .int .i64 0, .slice none 0 0] 27
        generalize hwa : World.alloc wc0 _ = wa at hMA ⊢
        have SA := Aside0.mk hMA
        clear hwa hMA
        generalize wc0.heap.size = bn at SA ⊢
        refine hK.out _ _ SA.out.bx3 (fun hHeld => ?_)
        clear hK K
        try simp only [Act.put, List.setIfInBounds_toArray, List.set_cons_zero, List.set_cons_succ]
        refine wpAnyH_ready (rs := [2]) (by kernel_rfl) (by simp) ?_
        refine AllReadyH.cons (o := ⟨some 44, _, _, _, _, none⟩) rfl (fun K hK => ?_) ?_
        · go_simp
          refine (scriptoriumlaw20_at.calls 30 30 0 _ rfl).mono ?_
          rintro e wa1 ⟨rfl, hb⟩
          have Sa1 := Aside0.mk (SA.out.step hb)
          refine hK.out _ _ Sa1.out.bx3 (fun hHeld => ?_)
          clear hK K
          try simp only [Act.put, List.setIfInBounds_toArray, List.set_cons_zero, List.set_cons_succ]
          refine wpAnyH_ready (rs := [3]) (by kernel_rfl) (by simp) ?_
          refine AllReadyH.cons (o := ⟨some 45, _, _, _, _, none⟩) rfl (fun K hK => ?_) ?_
          · go_simp
            refine (scriptoriumlaw20_at.calls 70 70 0 _ rfl).mono ?_
            rintro e wa2 ⟨rfl, hb⟩
            have Sa2 := Aside0.mk (Sa1.out.step hb)
            refine hK.out _ _ Sa2.out.bx3 (fun hHeld => ?_)
            clear hK K
            try simp only [Act.put, List.setIfInBounds_toArray, List.set_cons_zero, List.set_cons_succ]
            refine wpAnyH_ready (rs := [4]) (by kernel_rfl) (by simp) ?_
            refine AllReadyH.cons (o := ⟨some 46, _, _, _, _, none⟩) rfl (fun K hK => ?_) ?_
            · go_simp
              refine (show Calls _ _ _ _ (recPost 7 0 1 5 ⟨#[97]⟩ 10 0 20 0 [] 120 _) from record_Push.calls 40 7 0 1 5 ⟨#[97]⟩ 10 0 20 0 Aa ca [] true 7 0 1 5 ⟨#[97]⟩ 10 0 0 0 Ak ck [] 4 true 30 0 70 0 7 0 1 5 ⟨#[97]⟩ 10 0 20 0 [] 120 _ (Kd.C_nil' _ _ _) (Nat.zero_le _) (Kd.C_nil' _ _ _) (Nat.zero_le _) (by kernel_rfl)).mono ?_
              rintro e wa3 ⟨vh, rfl, hR, hb⟩
              obtain ⟨Ah, ch, rfl⟩ := Kd.R_slice hR
              have Sa3 := Aside0.mk (Sa2.out.step hb)
              refine hK.out _ _ Sa3.out.bx3 (fun hHeld => ?_)
              clear hK K
              try simp only [Act.put, List.setIfInBounds_toArray, List.set_cons_zero, List.set_cons_succ]
              refine wpAnyH_take (i := 5) (oi := ⟨some 41, _, _, _, _, none⟩) (v := ?v52) rfl (by kernel_rfl) (by kernel_rfl) (by kernel_rfl) (fun _ _ _ h => h) (Or.inl ⟨by rfl, ?hy52⟩) (by with_reducible assumption) ?rest52
              case hy52 => (intro V_ hSw; (try dsimp only at hSw); go_simp; (try with_reducible rfl))
              case' rest52 => skip
              try simp only [Act.put, List.setIfInBounds_toArray, List.set_cons_zero, List.set_cons_succ]
              refine wpAnyH_take (i := 6) (oi := ⟨some 47, _, _, _, _, none⟩) (v := ?v53) rfl (by kernel_rfl) (by kernel_rfl) (by kernel_rfl) (fun _ _ _ h => h) (Or.inl ⟨by rfl, ?hy53⟩) (by with_reducible assumption) ?rest53
              case hy53 => (intro V_ hSw; (try dsimp only at hSw); go_simp; (try with_reducible rfl))
              case' rest53 => skip
              try simp only [Act.put, List.setIfInBounds_toArray, List.set_cons_zero, List.set_cons_succ]
              refine wpAnyH_take (i := 7) (oi := ⟨some 48, _, _, _, _, none⟩) (v := ?v54) rfl (by kernel_rfl) (by kernel_rfl) (by kernel_rfl) (fun _ _ _ h => h) (Or.inl ⟨by rfl, ?hy54⟩) (by with_reducible assumption) ?rest54
              case hy54 => (intro V_ hSw; (try dsimp only at hSw); go_simp; (try with_reducible rfl))
              case' rest54 => skip
              try simp only [Act.put, List.setIfInBounds_toArray, List.set_cons_zero, List.set_cons_succ]
              refine wpAnyH_ready (rs := [9]) (by kernel_rfl) (by simp) ?_
              refine AllReadyH.cons (o := ⟨none, _, _, _, _, none⟩) rfl (fun K hK => ?_) ?_
              · obtain ⟨z0, z1, z2, z3, z4, z5, z6, z7, z8, z9⟩ := cells10 Sa3.out.bx0
                obtain ⟨fz0, fz1, fz2, fz3, fz4, fz5, fz6, fz7, fz8, fz9⟩ := frozen10 Sa3.out.bx0
                go_simp
                clear z0 z1 z2 z3 z4 z5 z6 z7 z8 z9 fz0 fz1 fz2 fz3 fz4 fz5 fz6 fz7 fz8 fz9
                have S_ := Aside0.mk (Sa3.out.ten0 (.int .i64 7) (.int .i64 0) (.int .i64 1) (.int .i64 5) (.string ⟨#[97]⟩) (.int .i64 10) (.int .i64 0) (.int .i64 20) (.int .i64 0) (.slice Ah 0 ch) (by decide))
                refine hK.out _ _ S_.out.bx3 (fun hHeld => ?_)
                clear hK K
                try simp only [Act.put, List.setIfInBounds_toArray, List.set_cons_zero, List.set_cons_succ]
                refine wpAnyH_take (i := 10) (oi := ⟨some 8, _, _, _, _, none⟩) (v := ?v55) rfl (by kernel_rfl) (by kernel_rfl) (by kernel_rfl) (fun _ _ _ h => h) (Or.inl ⟨by rfl, ?hy55⟩) (by with_reducible assumption) ?rest55
                case hy55 => (intro V_ hSw; (try dsimp only at hSw); go_simp; (try with_reducible rfl))
                case' rest55 => skip
                try simp only [Act.put, List.setIfInBounds_toArray, List.set_cons_zero, List.set_cons_succ]
                refine wpAnyH_done (by kernel_rfl) ?_ _
                refine NoPanic.normal ?_
                go_wp2_with fail
                go_meet
                case rel => exact ⟨_, rfl, rfl, ⟨S_.out.sub (.cons _ (List.Sublist.refl _)) (fun r q => q)⟩⟩
              exact AllReadyH.nil
            exact AllReadyH.nil
          exact AllReadyH.nil
        exact AllReadyH.nil
      exact AllReadyH.nil
    refine AllReadyH.cons (o := ⟨some 7, _, _, _, _, none⟩) rfl (fun K hK => ?_) ?_
    · go_simp
      have hMA := SD.out.alloc #[.int .i64 0, .int .i64 0, .int .i64 0, .int .i64 0, .string ⟨#[]⟩, .int .i64 0, .int .i64 0, .int .i64 0, .int .i64 0, .slice none 0 0] 27
      generalize hwa : World.alloc wd _ = wa at hMA ⊢
      have SA := Aside0.mk hMA
      clear hwa hMA
      generalize wd.heap.size = bn at SA ⊢
      refine hK.out _ _ SA.out.bx3 (fun hHeld => ?_)
      clear hK K
      try simp only [Act.put, List.setIfInBounds_toArray, List.set_cons_zero, List.set_cons_succ]
      refine wpAnyH_ready (rs := [1]) (by kernel_rfl) (by simp) ?_
      refine AllReadyH.cons (o := ⟨some 43, _, _, _, _, none⟩) rfl (fun K hK => ?_) ?_
      · go_simp
        refine (scriptoriumlaw20_known.calls 0 7 0 1 5 ⟨#[97]⟩ 10 0 0 0 [] _ rfl).mono ?_
        rintro e wa0 ⟨vk, rfl, hk, hb⟩
        obtain ⟨Ak, ck, rfl⟩ := Kd.R_slice hk
        clear hk
        have Sa0 := Aside0.mk (SA.out.step hb)
        refine hK.out _ _ Sa0.out.bx3 (fun hHeld => ?_)
        clear hK K
        try simp only [Act.put, List.setIfInBounds_toArray, List.set_cons_zero, List.set_cons_succ]
        refine wpAnyH_ready (rs := [2]) (by kernel_rfl) (by simp) ?_
        refine AllReadyH.cons (o := ⟨some 44, _, _, _, _, none⟩) rfl (fun K hK => ?_) ?_
        · go_simp
          refine (scriptoriumlaw20_at.calls 30 30 0 _ rfl).mono ?_
          rintro e wa1 ⟨rfl, hb⟩
          have Sa1 := Aside0.mk (Sa0.out.step hb)
          refine hK.out _ _ Sa1.out.bx3 (fun hHeld => ?_)
          clear hK K
          try simp only [Act.put, List.setIfInBounds_toArray, List.set_cons_zero, List.set_cons_succ]
          refine wpAnyH_ready (rs := [3]) (by kernel_rfl) (by simp) ?_
          refine AllReadyH.cons (o := ⟨some 45, _, _, _, _, none⟩) rfl (fun K hK => ?_) ?_
          · go_simp
            refine (scriptoriumlaw20_at.calls 70 70 0 _ rfl).mono ?_
            rintro e wa2 ⟨rfl, hb⟩
            have Sa2 := Aside0.mk (Sa1.out.step hb)
            refine hK.out _ _ Sa2.out.bx3 (fun hHeld => ?_)
            clear hK K
            try simp only [Act.put, List.setIfInBounds_toArray, List.set_cons_zero, List.set_cons_succ]
            refine wpAnyH_ready (rs := [4]) (by kernel_rfl) (by simp) ?_
            refine AllReadyH.cons (o := ⟨some 46, _, _, _, _, none⟩) rfl (fun K hK => ?_) ?_
            · go_simp
              refine (show Calls _ _ _ _ (recPost 7 0 1 5 ⟨#[97]⟩ 10 0 20 0 [] 120 _) from record_Push.calls 40 7 0 1 5 ⟨#[97]⟩ 10 0 20 0 Aa ca [] true 7 0 1 5 ⟨#[97]⟩ 10 0 0 0 Ak ck [] 4 true 30 0 70 0 7 0 1 5 ⟨#[97]⟩ 10 0 20 0 [] 120 _ (Kd.C_nil' _ _ _) (Nat.zero_le _) (Kd.C_nil' _ _ _) (Nat.zero_le _) (by kernel_rfl)).mono ?_
              rintro e wa3 ⟨vh, rfl, hR, hb⟩
              obtain ⟨Ah, ch, rfl⟩ := Kd.R_slice hR
              have Sa3 := Aside0.mk (Sa2.out.step hb)
              refine hK.out _ _ Sa3.out.bx3 (fun hHeld => ?_)
              clear hK K
              try simp only [Act.put, List.setIfInBounds_toArray, List.set_cons_zero, List.set_cons_succ]
              refine wpAnyH_take (i := 5) (oi := ⟨some 41, _, _, _, _, none⟩) (v := ?v56) rfl (by kernel_rfl) (by kernel_rfl) (by kernel_rfl) (fun _ _ _ h => h) (Or.inl ⟨by rfl, ?hy56⟩) (by with_reducible assumption) ?rest56
              case hy56 => (intro V_ hSw; (try dsimp only at hSw); go_simp; (try with_reducible rfl))
              case' rest56 => skip
              try simp only [Act.put, List.setIfInBounds_toArray, List.set_cons_zero, List.set_cons_succ]
              refine wpAnyH_take (i := 6) (oi := ⟨some 47, _, _, _, _, none⟩) (v := ?v57) rfl (by kernel_rfl) (by kernel_rfl) (by kernel_rfl) (fun _ _ _ h => h) (Or.inl ⟨by rfl, ?hy57⟩) (by with_reducible assumption) ?rest57
              case hy57 => (intro V_ hSw; (try dsimp only at hSw); go_simp; (try with_reducible rfl))
              case' rest57 => skip
              try simp only [Act.put, List.setIfInBounds_toArray, List.set_cons_zero, List.set_cons_succ]
              refine wpAnyH_take (i := 7) (oi := ⟨some 48, _, _, _, _, none⟩) (v := ?v58) rfl (by kernel_rfl) (by kernel_rfl) (by kernel_rfl) (fun _ _ _ h => h) (Or.inl ⟨by rfl, ?hy58⟩) (by with_reducible assumption) ?rest58
              case hy58 => (intro V_ hSw; (try dsimp only at hSw); go_simp; (try with_reducible rfl))
              case' rest58 => skip
              try simp only [Act.put, List.setIfInBounds_toArray, List.set_cons_zero, List.set_cons_succ]
              refine wpAnyH_ready (rs := [9]) (by kernel_rfl) (by simp) ?_
              refine AllReadyH.cons (o := ⟨none, _, _, _, _, none⟩) rfl (fun K hK => ?_) ?_
              · obtain ⟨z0, z1, z2, z3, z4, z5, z6, z7, z8, z9⟩ := cells10 Sa3.out.bx0
                obtain ⟨fz0, fz1, fz2, fz3, fz4, fz5, fz6, fz7, fz8, fz9⟩ := frozen10 Sa3.out.bx0
                go_simp
                clear z0 z1 z2 z3 z4 z5 z6 z7 z8 z9 fz0 fz1 fz2 fz3 fz4 fz5 fz6 fz7 fz8 fz9
                have S_ := Aside0.mk (Sa3.out.ten0 (.int .i64 7) (.int .i64 0) (.int .i64 1) (.int .i64 5) (.string ⟨#[97]⟩) (.int .i64 10) (.int .i64 0) (.int .i64 20) (.int .i64 0) (.slice Ah 0 ch) (by decide))
                refine hK.out _ _ S_.out.bx3 (fun hHeld => ?_)
                clear hK K
                try simp only [Act.put, List.setIfInBounds_toArray, List.set_cons_zero, List.set_cons_succ]
                refine wpAnyH_take (i := 10) (oi := ⟨some 8, _, _, _, _, none⟩) (v := ?v59) rfl (by kernel_rfl) (by kernel_rfl) (by kernel_rfl) (fun _ _ _ h => h) (Or.inl ⟨by rfl, ?hy59⟩) (by with_reducible assumption) ?rest59
                case hy59 => (intro V_ hSw; (try dsimp only at hSw); go_simp; (try with_reducible rfl))
                case' rest59 => skip
                try simp only [Act.put, List.setIfInBounds_toArray, List.set_cons_zero, List.set_cons_succ]
                refine wpAnyH_done (by kernel_rfl) ?_ _
                refine NoPanic.normal ?_
                go_wp2_with fail
                go_meet
                case rel => exact ⟨_, rfl, rfl, ⟨S_.out.sub (.cons _ (List.Sublist.refl _)) (fun r q => q)⟩⟩
              exact AllReadyH.nil
            exact AllReadyH.nil
          exact AllReadyH.nil
        exact AllReadyH.nil
      exact AllReadyH.nil
    exact AllReadyH.nil
  case rest =>
  obtain ⟨bh, rfl, rfl, S7⟩ := hcut
  rename World => w7
  clear S6
  go_upto_region 5 with fail
  go_cut [9, 10] (fun v_ e_ wc => ∃ (Ad : Option Addr) (cd bd : Nat), v_ = .pointer (some ⟨bd, 0, none⟩) ∧ e_ = .int .i64 0 ∧ Aside0 (Mem w wc [(bd, #[.int .i64 7, .int .i64 0, .int .i64 4, .int .i64 5, .string ⟨#[97]⟩, .int .i64 10, .int .i64 0, .int .i64 20, .int .i64 0, .slice Ad 0 cd], 27), (bc, #[.int .i64 7, .int .i64 0, .int .i64 1, .int .i64 5, .string ⟨#[97]⟩, .int .i64 30, .int .i64 1, .int .i64 20, .int .i64 0, .slice Ac 0 cc], 27), (bb, #[.int .i64 7, .int .i64 0, .int .i64 1, .int .i64 5, .string ⟨#[97]⟩, .int .i64 30, .int .i64 1, .int .i64 20, .int .i64 0, .slice Ab 0 cb], 27), (ba, #[.int .i64 7, .int .i64 0, .int .i64 1, .int .i64 5, .string ⟨#[97]⟩, .int .i64 10, .int .i64 0, .int .i64 20, .int .i64 0, .slice Aa 0 ca], 27)] []))
  case first =>
    refine wp_region_noPanic ?_
    have SD := Aside0.mk S7.out.drew
    refine wp_region_held_drew (S := (fun V => V.heap[ba]? = some (.cells #[.int .i64 7, .int .i64 0, .int .i64 1, .int .i64 5, .string ⟨#[97]⟩, .int .i64 10, .int .i64 0, .int .i64 20, .int .i64 0, .slice Aa 0 ca] 27 (0, 0)))) (by kernel_rfl) SD.out.bx2 (fun hHeld => ?_)
    generalize hwd : World.drew w7 = wd at hHeld SD ⊢
    clear hwd
    refine wpAnyH_take (i := 0) (oi := ⟨some 50, _, _, _, _, none⟩) (v := _) rfl (by kernel_rfl) (by kernel_rfl) (by kernel_rfl) (fun _ _ _ h => h) (yieldsIf_load_row (by rfl) 27 _ rfl ba rfl _ _ (0, 0) _ (fun V h => h) Try.underlying27 rfl (by kernel_rfl)) (by with_reducible assumption) ?_
    try simp only [Act.put, List.setIfInBounds_toArray, List.set_cons_zero, List.set_cons_succ]
    refine wpAnyH_ready (rs := [1, 8]) (by kernel_rfl) (by simp) ?_
    refine AllReadyH.cons (o := ⟨some 51, _, _, _, _, none⟩) rfl (fun K hK => ?_) ?_
    · go_simp
      refine (scriptoriumlaw20_known.calls 0 7 0 1 5 ⟨#[97]⟩ 10 0 0 0 [] _ rfl).mono ?_
      rintro e wc0 ⟨vk, rfl, hk, hb⟩
      obtain ⟨Ak, ck, rfl⟩ := Kd.R_slice hk
      clear hk
      have Sc0 := Aside0.mk (SD.out.step hb)
      refine hK.out _ _ Sc0.out.bx2 (fun hHeld => ?_)
      clear hK K
      try simp only [Act.put, List.setIfInBounds_toArray, List.set_cons_zero, List.set_cons_succ]
      refine wpAnyH_ready (rs := [2, 8]) (by kernel_rfl) (by simp) ?_
      refine AllReadyH.cons (o := ⟨some 52, _, _, _, _, none⟩) rfl (fun K hK => ?_) ?_
      · go_simp
        refine (scriptoriumlaw20_at.calls 30 30 0 _ rfl).mono ?_
        rintro e wc1 ⟨rfl, hb⟩
        have Sc1 := Aside0.mk (Sc0.out.step hb)
        refine hK.out _ _ Sc1.out.bx2 (fun hHeld => ?_)
        clear hK K
        try simp only [Act.put, List.setIfInBounds_toArray, List.set_cons_zero, List.set_cons_succ]
        refine wpAnyH_ready (rs := [3, 8]) (by kernel_rfl) (by simp) ?_
        refine AllReadyH.cons (o := ⟨some 53, _, _, _, _, none⟩) rfl (fun K hK => ?_) ?_
        · go_simp
          refine (scriptoriumlaw20_at.calls 71 71 0 _ rfl).mono ?_
          rintro e wc2 ⟨rfl, hb⟩
          have Sc2 := Aside0.mk (Sc1.out.step hb)
          refine hK.out _ _ Sc2.out.bx2 (fun hHeld => ?_)
          clear hK K
          try simp only [Act.put, List.setIfInBounds_toArray, List.set_cons_zero, List.set_cons_succ]
          refine wpAnyH_ready (rs := [4, 8]) (by kernel_rfl) (by simp) ?_
          refine AllReadyH.cons (o := ⟨some 54, _, _, _, _, none⟩) rfl (fun K hK => ?_) ?_
          · go_simp
            refine (show Calls _ _ _ _ (recPost 7 0 4 5 ⟨#[97]⟩ 10 0 20 0 [] 0 _) from record_Push.calls 40 7 0 1 5 ⟨#[97]⟩ 10 0 20 0 Aa ca [] true 7 0 1 5 ⟨#[97]⟩ 10 0 0 0 Ak ck [] 4 true 30 0 71 0 7 0 4 5 ⟨#[97]⟩ 10 0 20 0 [] 0 _ (Kd.C_nil' _ _ _) (Nat.zero_le _) (Kd.C_nil' _ _ _) (Nat.zero_le _) (by kernel_rfl)).mono ?_
            rintro e wc3 ⟨vd, rfl, hR, hb⟩
            obtain ⟨Ad, cd, rfl⟩ := Kd.R_slice hR
            have Sc3 := Aside0.mk (Sc2.out.step hb)
            refine hK.out _ _ Sc3.out.bx2 (fun hHeld => ?_)
            clear hK K
            try simp only [Act.put, List.setIfInBounds_toArray, List.set_cons_zero, List.set_cons_succ]
            refine wpAnyH_take (i := 5) (oi := ⟨some 49, _, _, _, _, none⟩) (v := ?v61) rfl (by kernel_rfl) (by kernel_rfl) (by kernel_rfl) (fun _ _ _ h => h) (Or.inl ⟨by rfl, ?hy61⟩) (by with_reducible assumption) ?rest61
            case hy61 => (intro V_ hSw; (try dsimp only at hSw); go_simp; (try with_reducible rfl))
            case' rest61 => skip
            try simp only [Act.put, List.setIfInBounds_toArray, List.set_cons_zero, List.set_cons_succ]
            refine wpAnyH_take (i := 6) (oi := ⟨some 55, _, _, _, _, none⟩) (v := ?v62) rfl (by kernel_rfl) (by kernel_rfl) (by kernel_rfl) (fun _ _ _ h => h) (Or.inl ⟨by rfl, ?hy62⟩) (by with_reducible assumption) ?rest62
            case hy62 => (intro V_ hSw; (try dsimp only at hSw); go_simp; (try with_reducible rfl))
            case' rest62 => skip
            try simp only [Act.put, List.setIfInBounds_toArray, List.set_cons_zero, List.set_cons_succ]
            refine wpAnyH_take (i := 7) (oi := ⟨some 56, _, _, _, _, none⟩) (v := ?v63) rfl (by kernel_rfl) (by kernel_rfl) (by kernel_rfl) (fun _ _ _ h => h) (Or.inl ⟨by rfl, ?hy63⟩) (by with_reducible assumption) ?rest63
            case hy63 => (intro V_ hSw; (try dsimp only at hSw); go_simp; (try with_reducible rfl))
            case' rest63 => skip
            try simp only [Act.put, List.setIfInBounds_toArray, List.set_cons_zero, List.set_cons_succ]
            refine wpAnyH_ready (rs := [8]) (by kernel_rfl) (by simp) ?_
            refine AllReadyH.cons (o := ⟨some 9, _, _, _, _, none⟩) rfl (fun K hK => ?_) ?_
            · go_simp
              refine hK.out _ _ (blk_alloc Sc3.out.bx2 _) (fun hHeld => ?_)
              clear hK K
              try simp only [Act.put, List.setIfInBounds_toArray, List.set_cons_zero, List.set_cons_succ]
              refine wpAnyH_ready (rs := [9]) (by kernel_rfl) (by simp) ?_
              refine AllReadyH.cons (o := ⟨none, _, _, _, _, none⟩) rfl (fun K hK => ?_) ?_
              · go_simp
                have hMA := Sc3.out.alloc #[.int .i64 7, .int .i64 0, .int .i64 4, .int .i64 5, .string ⟨#[97]⟩, .int .i64 10, .int .i64 0, .int .i64 20, .int .i64 0, .slice Ad 0 cd] 27
                generalize hwa : World.alloc wc3 _ = w5 at hMA ⊢
                have S_ := Aside0.mk hMA
                clear hwa hMA
                refine hK.out _ _ S_.out.bx3 (fun hHeld => ?_)
                clear hK K
                try simp only [Act.put, List.setIfInBounds_toArray, List.set_cons_zero, List.set_cons_succ]
                refine wpAnyH_take (i := 10) (oi := ⟨some 10, _, _, _, _, none⟩) (v := ?v64) rfl (by kernel_rfl) (by kernel_rfl) (by kernel_rfl) (fun _ _ _ h => h) (Or.inl ⟨by rfl, ?hy64⟩) (by with_reducible assumption) ?rest64
                case hy64 => (intro V_ hSw; (try dsimp only at hSw); go_simp; (try with_reducible rfl))
                case' rest64 => skip
                try simp only [Act.put, List.setIfInBounds_toArray, List.set_cons_zero, List.set_cons_succ]
                refine wpAnyH_done (by kernel_rfl) ?_ _
                refine NoPanic.normal ?_
                go_wp2_with fail
                go_meet
                case rel => exact ⟨_, _, _, rfl, rfl, S_⟩
              exact AllReadyH.nil
            exact AllReadyH.nil
          refine AllReadyH.cons (o := ⟨some 9, _, _, _, _, none⟩) rfl (fun K hK => ?_) ?_
          · go_simp
            have hMA := Sc2.out.alloc #[.int .i64 0, .int .i64 0, .int .i64 0, .int .i64 0, .string ⟨#[]⟩, .int .i64 0, .int .i64 0, .int .i64 0, .int .i64 0, .slice none 0 0] 27
            generalize hwa : World.alloc wc2 _ = wa at hMA ⊢
            have SA := Aside0.mk hMA
            clear hwa hMA
            generalize wc2.heap.size = bn at SA ⊢
            refine hK.out _ _ SA.out.bx3 (fun hHeld => ?_)
            clear hK K
            try simp only [Act.put, List.setIfInBounds_toArray, List.set_cons_zero, List.set_cons_succ]
            refine wpAnyH_ready (rs := [4]) (by kernel_rfl) (by simp) ?_
            refine AllReadyH.cons (o := ⟨some 54, _, _, _, _, none⟩) rfl (fun K hK => ?_) ?_
            · go_simp
              refine (show Calls _ _ _ _ (recPost 7 0 4 5 ⟨#[97]⟩ 10 0 20 0 [] 0 _) from record_Push.calls 40 7 0 1 5 ⟨#[97]⟩ 10 0 20 0 Aa ca [] true 7 0 1 5 ⟨#[97]⟩ 10 0 0 0 Ak ck [] 4 true 30 0 71 0 7 0 4 5 ⟨#[97]⟩ 10 0 20 0 [] 0 _ (Kd.C_nil' _ _ _) (Nat.zero_le _) (Kd.C_nil' _ _ _) (Nat.zero_le _) (by kernel_rfl)).mono ?_
              rintro e wa3 ⟨vd, rfl, hR, hb⟩
              obtain ⟨Ad, cd, rfl⟩ := Kd.R_slice hR
              have Sa3 := Aside0.mk (SA.out.step hb)
              refine hK.out _ _ Sa3.out.bx3 (fun hHeld => ?_)
              clear hK K
              try simp only [Act.put, List.setIfInBounds_toArray, List.set_cons_zero, List.set_cons_succ]
              refine wpAnyH_take (i := 5) (oi := ⟨some 49, _, _, _, _, none⟩) (v := ?v65) rfl (by kernel_rfl) (by kernel_rfl) (by kernel_rfl) (fun _ _ _ h => h) (Or.inl ⟨by rfl, ?hy65⟩) (by with_reducible assumption) ?rest65
              case hy65 => (intro V_ hSw; (try dsimp only at hSw); go_simp; (try with_reducible rfl))
              case' rest65 => skip
              try simp only [Act.put, List.setIfInBounds_toArray, List.set_cons_zero, List.set_cons_succ]
              refine wpAnyH_take (i := 6) (oi := ⟨some 55, _, _, _, _, none⟩) (v := ?v66) rfl (by kernel_rfl) (by kernel_rfl) (by kernel_rfl) (fun _ _ _ h => h) (Or.inl ⟨by rfl, ?hy66⟩) (by with_reducible assumption) ?rest66
              case hy66 => (intro V_ hSw; (try dsimp only at hSw); go_simp; (try with_reducible rfl))
              case' rest66 => skip
              try simp only [Act.put, List.setIfInBounds_toArray, List.set_cons_zero, List.set_cons_succ]
              refine wpAnyH_take (i := 7) (oi := ⟨some 56, _, _, _, _, none⟩) (v := ?v67) rfl (by kernel_rfl) (by kernel_rfl) (by kernel_rfl) (fun _ _ _ h => h) (Or.inl ⟨by rfl, ?hy67⟩) (by with_reducible assumption) ?rest67
              case hy67 => (intro V_ hSw; (try dsimp only at hSw); go_simp; (try with_reducible rfl))
              case' rest67 => skip
              try simp only [Act.put, List.setIfInBounds_toArray, List.set_cons_zero, List.set_cons_succ]
              refine wpAnyH_ready (rs := [9]) (by kernel_rfl) (by simp) ?_
              refine AllReadyH.cons (o := ⟨none, _, _, _, _, none⟩) rfl (fun K hK => ?_) ?_
              · obtain ⟨z0, z1, z2, z3, z4, z5, z6, z7, z8, z9⟩ := cells10 Sa3.out.bx0
                obtain ⟨fz0, fz1, fz2, fz3, fz4, fz5, fz6, fz7, fz8, fz9⟩ := frozen10 Sa3.out.bx0
                go_simp
                clear z0 z1 z2 z3 z4 z5 z6 z7 z8 z9 fz0 fz1 fz2 fz3 fz4 fz5 fz6 fz7 fz8 fz9
                have S_ := Aside0.mk (Sa3.out.ten0 (.int .i64 7) (.int .i64 0) (.int .i64 4) (.int .i64 5) (.string ⟨#[97]⟩) (.int .i64 10) (.int .i64 0) (.int .i64 20) (.int .i64 0) (.slice Ad 0 cd) (by decide))
                refine hK.out _ _ S_.out.bx3 (fun hHeld => ?_)
                clear hK K
                try simp only [Act.put, List.setIfInBounds_toArray, List.set_cons_zero, List.set_cons_succ]
                refine wpAnyH_take (i := 10) (oi := ⟨some 10, _, _, _, _, none⟩) (v := ?v68) rfl (by kernel_rfl) (by kernel_rfl) (by kernel_rfl) (fun _ _ _ h => h) (Or.inl ⟨by rfl, ?hy68⟩) (by with_reducible assumption) ?rest68
                case hy68 => (intro V_ hSw; (try dsimp only at hSw); go_simp; (try with_reducible rfl))
                case' rest68 => skip
                try simp only [Act.put, List.setIfInBounds_toArray, List.set_cons_zero, List.set_cons_succ]
                refine wpAnyH_done (by kernel_rfl) ?_ _
                refine NoPanic.normal ?_
                go_wp2_with fail
                go_meet
                case rel => exact ⟨_, _, _, rfl, rfl, S_⟩
              exact AllReadyH.nil
            exact AllReadyH.nil
          exact AllReadyH.nil
        refine AllReadyH.cons (o := ⟨some 9, _, _, _, _, none⟩) rfl (fun K hK => ?_) ?_
        · go_simp
          have hMA := Sc1.out.alloc #[.int .i64 0, .int .i64 0, .int .i64 0, .int .i64 0, .string ⟨#[]⟩, .int .i64 0, .int .i64 0, .int .i64 0, .int .i64 0, .slice none 0 0] 27
          generalize hwa : World.alloc wc1 _ = wa at hMA ⊢
          have SA := Aside0.mk hMA
          clear hwa hMA
          generalize wc1.heap.size = bn at SA ⊢
          refine hK.out _ _ SA.out.bx3 (fun hHeld => ?_)
          clear hK K
          try simp only [Act.put, List.setIfInBounds_toArray, List.set_cons_zero, List.set_cons_succ]
          refine wpAnyH_ready (rs := [3]) (by kernel_rfl) (by simp) ?_
          refine AllReadyH.cons (o := ⟨some 53, _, _, _, _, none⟩) rfl (fun K hK => ?_) ?_
          · go_simp
            refine (scriptoriumlaw20_at.calls 71 71 0 _ rfl).mono ?_
            rintro e wa2 ⟨rfl, hb⟩
            have Sa2 := Aside0.mk (SA.out.step hb)
            refine hK.out _ _ Sa2.out.bx3 (fun hHeld => ?_)
            clear hK K
            try simp only [Act.put, List.setIfInBounds_toArray, List.set_cons_zero, List.set_cons_succ]
            refine wpAnyH_ready (rs := [4]) (by kernel_rfl) (by simp) ?_
            refine AllReadyH.cons (o := ⟨some 54, _, _, _, _, none⟩) rfl (fun K hK => ?_) ?_
            · go_simp
              refine (show Calls _ _ _ _ (recPost 7 0 4 5 ⟨#[97]⟩ 10 0 20 0 [] 0 _) from record_Push.calls 40 7 0 1 5 ⟨#[97]⟩ 10 0 20 0 Aa ca [] true 7 0 1 5 ⟨#[97]⟩ 10 0 0 0 Ak ck [] 4 true 30 0 71 0 7 0 4 5 ⟨#[97]⟩ 10 0 20 0 [] 0 _ (Kd.C_nil' _ _ _) (Nat.zero_le _) (Kd.C_nil' _ _ _) (Nat.zero_le _) (by kernel_rfl)).mono ?_
              rintro e wa3 ⟨vd, rfl, hR, hb⟩
              obtain ⟨Ad, cd, rfl⟩ := Kd.R_slice hR
              have Sa3 := Aside0.mk (Sa2.out.step hb)
              refine hK.out _ _ Sa3.out.bx3 (fun hHeld => ?_)
              clear hK K
              try simp only [Act.put, List.setIfInBounds_toArray, List.set_cons_zero, List.set_cons_succ]
              refine wpAnyH_take (i := 5) (oi := ⟨some 49, _, _, _, _, none⟩) (v := ?v69) rfl (by kernel_rfl) (by kernel_rfl) (by kernel_rfl) (fun _ _ _ h => h) (Or.inl ⟨by rfl, ?hy69⟩) (by with_reducible assumption) ?rest69
              case hy69 => (intro V_ hSw; (try dsimp only at hSw); go_simp; (try with_reducible rfl))
              case' rest69 => skip
              try simp only [Act.put, List.setIfInBounds_toArray, List.set_cons_zero, List.set_cons_succ]
              refine wpAnyH_take (i := 6) (oi := ⟨some 55, _, _, _, _, none⟩) (v := ?v70) rfl (by kernel_rfl) (by kernel_rfl) (by kernel_rfl) (fun _ _ _ h => h) (Or.inl ⟨by rfl, ?hy70⟩) (by with_reducible assumption) ?rest70
              case hy70 => (intro V_ hSw; (try dsimp only at hSw); go_simp; (try with_reducible rfl))
              case' rest70 => skip
              try simp only [Act.put, List.setIfInBounds_toArray, List.set_cons_zero, List.set_cons_succ]
              refine wpAnyH_take (i := 7) (oi := ⟨some 56, _, _, _, _, none⟩) (v := ?v71) rfl (by kernel_rfl) (by kernel_rfl) (by kernel_rfl) (fun _ _ _ h => h) (Or.inl ⟨by rfl, ?hy71⟩) (by with_reducible assumption) ?rest71
              case hy71 => (intro V_ hSw; (try dsimp only at hSw); go_simp; (try with_reducible rfl))
              case' rest71 => skip
              try simp only [Act.put, List.setIfInBounds_toArray, List.set_cons_zero, List.set_cons_succ]
              refine wpAnyH_ready (rs := [9]) (by kernel_rfl) (by simp) ?_
              refine AllReadyH.cons (o := ⟨none, _, _, _, _, none⟩) rfl (fun K hK => ?_) ?_
              · obtain ⟨z0, z1, z2, z3, z4, z5, z6, z7, z8, z9⟩ := cells10 Sa3.out.bx0
                obtain ⟨fz0, fz1, fz2, fz3, fz4, fz5, fz6, fz7, fz8, fz9⟩ := frozen10 Sa3.out.bx0
                go_simp
                clear z0 z1 z2 z3 z4 z5 z6 z7 z8 z9 fz0 fz1 fz2 fz3 fz4 fz5 fz6 fz7 fz8 fz9
                have S_ := Aside0.mk (Sa3.out.ten0 (.int .i64 7) (.int .i64 0) (.int .i64 4) (.int .i64 5) (.string ⟨#[97]⟩) (.int .i64 10) (.int .i64 0) (.int .i64 20) (.int .i64 0) (.slice Ad 0 cd) (by decide))
                refine hK.out _ _ S_.out.bx3 (fun hHeld => ?_)
                clear hK K
                try simp only [Act.put, List.setIfInBounds_toArray, List.set_cons_zero, List.set_cons_succ]
                refine wpAnyH_take (i := 10) (oi := ⟨some 10, _, _, _, _, none⟩) (v := ?v72) rfl (by kernel_rfl) (by kernel_rfl) (by kernel_rfl) (fun _ _ _ h => h) (Or.inl ⟨by rfl, ?hy72⟩) (by with_reducible assumption) ?rest72
                case hy72 => (intro V_ hSw; (try dsimp only at hSw); go_simp; (try with_reducible rfl))
                case' rest72 => skip
                try simp only [Act.put, List.setIfInBounds_toArray, List.set_cons_zero, List.set_cons_succ]
                refine wpAnyH_done (by kernel_rfl) ?_ _
                refine NoPanic.normal ?_
                go_wp2_with fail
                go_meet
                case rel => exact ⟨_, _, _, rfl, rfl, S_⟩
              exact AllReadyH.nil
            exact AllReadyH.nil
          exact AllReadyH.nil
        exact AllReadyH.nil
      refine AllReadyH.cons (o := ⟨some 9, _, _, _, _, none⟩) rfl (fun K hK => ?_) ?_
      · go_simp
        have hMA := Sc0.out.alloc #[.int .i64 0, .int .i64 0, .int .i64 0, .int .i64 0, .string ⟨#[]⟩, .int .i64 0, .int .i64 0, .int .i64 0, .int .i64 0, .slice none 0 0] 27
        generalize hwa : World.alloc wc0 _ = wa at hMA ⊢
        have SA := Aside0.mk hMA
        clear hwa hMA
        generalize wc0.heap.size = bn at SA ⊢
        refine hK.out _ _ SA.out.bx3 (fun hHeld => ?_)
        clear hK K
        try simp only [Act.put, List.setIfInBounds_toArray, List.set_cons_zero, List.set_cons_succ]
        refine wpAnyH_ready (rs := [2]) (by kernel_rfl) (by simp) ?_
        refine AllReadyH.cons (o := ⟨some 52, _, _, _, _, none⟩) rfl (fun K hK => ?_) ?_
        · go_simp
          refine (scriptoriumlaw20_at.calls 30 30 0 _ rfl).mono ?_
          rintro e wa1 ⟨rfl, hb⟩
          have Sa1 := Aside0.mk (SA.out.step hb)
          refine hK.out _ _ Sa1.out.bx3 (fun hHeld => ?_)
          clear hK K
          try simp only [Act.put, List.setIfInBounds_toArray, List.set_cons_zero, List.set_cons_succ]
          refine wpAnyH_ready (rs := [3]) (by kernel_rfl) (by simp) ?_
          refine AllReadyH.cons (o := ⟨some 53, _, _, _, _, none⟩) rfl (fun K hK => ?_) ?_
          · go_simp
            refine (scriptoriumlaw20_at.calls 71 71 0 _ rfl).mono ?_
            rintro e wa2 ⟨rfl, hb⟩
            have Sa2 := Aside0.mk (Sa1.out.step hb)
            refine hK.out _ _ Sa2.out.bx3 (fun hHeld => ?_)
            clear hK K
            try simp only [Act.put, List.setIfInBounds_toArray, List.set_cons_zero, List.set_cons_succ]
            refine wpAnyH_ready (rs := [4]) (by kernel_rfl) (by simp) ?_
            refine AllReadyH.cons (o := ⟨some 54, _, _, _, _, none⟩) rfl (fun K hK => ?_) ?_
            · go_simp
              refine (show Calls _ _ _ _ (recPost 7 0 4 5 ⟨#[97]⟩ 10 0 20 0 [] 0 _) from record_Push.calls 40 7 0 1 5 ⟨#[97]⟩ 10 0 20 0 Aa ca [] true 7 0 1 5 ⟨#[97]⟩ 10 0 0 0 Ak ck [] 4 true 30 0 71 0 7 0 4 5 ⟨#[97]⟩ 10 0 20 0 [] 0 _ (Kd.C_nil' _ _ _) (Nat.zero_le _) (Kd.C_nil' _ _ _) (Nat.zero_le _) (by kernel_rfl)).mono ?_
              rintro e wa3 ⟨vd, rfl, hR, hb⟩
              obtain ⟨Ad, cd, rfl⟩ := Kd.R_slice hR
              have Sa3 := Aside0.mk (Sa2.out.step hb)
              refine hK.out _ _ Sa3.out.bx3 (fun hHeld => ?_)
              clear hK K
              try simp only [Act.put, List.setIfInBounds_toArray, List.set_cons_zero, List.set_cons_succ]
              refine wpAnyH_take (i := 5) (oi := ⟨some 49, _, _, _, _, none⟩) (v := ?v73) rfl (by kernel_rfl) (by kernel_rfl) (by kernel_rfl) (fun _ _ _ h => h) (Or.inl ⟨by rfl, ?hy73⟩) (by with_reducible assumption) ?rest73
              case hy73 => (intro V_ hSw; (try dsimp only at hSw); go_simp; (try with_reducible rfl))
              case' rest73 => skip
              try simp only [Act.put, List.setIfInBounds_toArray, List.set_cons_zero, List.set_cons_succ]
              refine wpAnyH_take (i := 6) (oi := ⟨some 55, _, _, _, _, none⟩) (v := ?v74) rfl (by kernel_rfl) (by kernel_rfl) (by kernel_rfl) (fun _ _ _ h => h) (Or.inl ⟨by rfl, ?hy74⟩) (by with_reducible assumption) ?rest74
              case hy74 => (intro V_ hSw; (try dsimp only at hSw); go_simp; (try with_reducible rfl))
              case' rest74 => skip
              try simp only [Act.put, List.setIfInBounds_toArray, List.set_cons_zero, List.set_cons_succ]
              refine wpAnyH_take (i := 7) (oi := ⟨some 56, _, _, _, _, none⟩) (v := ?v75) rfl (by kernel_rfl) (by kernel_rfl) (by kernel_rfl) (fun _ _ _ h => h) (Or.inl ⟨by rfl, ?hy75⟩) (by with_reducible assumption) ?rest75
              case hy75 => (intro V_ hSw; (try dsimp only at hSw); go_simp; (try with_reducible rfl))
              case' rest75 => skip
              try simp only [Act.put, List.setIfInBounds_toArray, List.set_cons_zero, List.set_cons_succ]
              refine wpAnyH_ready (rs := [9]) (by kernel_rfl) (by simp) ?_
              refine AllReadyH.cons (o := ⟨none, _, _, _, _, none⟩) rfl (fun K hK => ?_) ?_
              · obtain ⟨z0, z1, z2, z3, z4, z5, z6, z7, z8, z9⟩ := cells10 Sa3.out.bx0
                obtain ⟨fz0, fz1, fz2, fz3, fz4, fz5, fz6, fz7, fz8, fz9⟩ := frozen10 Sa3.out.bx0
                go_simp
                clear z0 z1 z2 z3 z4 z5 z6 z7 z8 z9 fz0 fz1 fz2 fz3 fz4 fz5 fz6 fz7 fz8 fz9
                have S_ := Aside0.mk (Sa3.out.ten0 (.int .i64 7) (.int .i64 0) (.int .i64 4) (.int .i64 5) (.string ⟨#[97]⟩) (.int .i64 10) (.int .i64 0) (.int .i64 20) (.int .i64 0) (.slice Ad 0 cd) (by decide))
                refine hK.out _ _ S_.out.bx3 (fun hHeld => ?_)
                clear hK K
                try simp only [Act.put, List.setIfInBounds_toArray, List.set_cons_zero, List.set_cons_succ]
                refine wpAnyH_take (i := 10) (oi := ⟨some 10, _, _, _, _, none⟩) (v := ?v76) rfl (by kernel_rfl) (by kernel_rfl) (by kernel_rfl) (fun _ _ _ h => h) (Or.inl ⟨by rfl, ?hy76⟩) (by with_reducible assumption) ?rest76
                case hy76 => (intro V_ hSw; (try dsimp only at hSw); go_simp; (try with_reducible rfl))
                case' rest76 => skip
                try simp only [Act.put, List.setIfInBounds_toArray, List.set_cons_zero, List.set_cons_succ]
                refine wpAnyH_done (by kernel_rfl) ?_ _
                refine NoPanic.normal ?_
                go_wp2_with fail
                go_meet
                case rel => exact ⟨_, _, _, rfl, rfl, S_⟩
              exact AllReadyH.nil
            exact AllReadyH.nil
          exact AllReadyH.nil
        exact AllReadyH.nil
      exact AllReadyH.nil
    refine AllReadyH.cons (o := ⟨some 9, _, _, _, _, none⟩) rfl (fun K hK => ?_) ?_
    · go_simp
      have hMA := SD.out.alloc #[.int .i64 0, .int .i64 0, .int .i64 0, .int .i64 0, .string ⟨#[]⟩, .int .i64 0, .int .i64 0, .int .i64 0, .int .i64 0, .slice none 0 0] 27
      generalize hwa : World.alloc wd _ = wa at hMA ⊢
      have SA := Aside0.mk hMA
      clear hwa hMA
      generalize wd.heap.size = bn at SA ⊢
      refine hK.out _ _ SA.out.bx3 (fun hHeld => ?_)
      clear hK K
      try simp only [Act.put, List.setIfInBounds_toArray, List.set_cons_zero, List.set_cons_succ]
      refine wpAnyH_ready (rs := [1]) (by kernel_rfl) (by simp) ?_
      refine AllReadyH.cons (o := ⟨some 51, _, _, _, _, none⟩) rfl (fun K hK => ?_) ?_
      · go_simp
        refine (scriptoriumlaw20_known.calls 0 7 0 1 5 ⟨#[97]⟩ 10 0 0 0 [] _ rfl).mono ?_
        rintro e wa0 ⟨vk, rfl, hk, hb⟩
        obtain ⟨Ak, ck, rfl⟩ := Kd.R_slice hk
        clear hk
        have Sa0 := Aside0.mk (SA.out.step hb)
        refine hK.out _ _ Sa0.out.bx3 (fun hHeld => ?_)
        clear hK K
        try simp only [Act.put, List.setIfInBounds_toArray, List.set_cons_zero, List.set_cons_succ]
        refine wpAnyH_ready (rs := [2]) (by kernel_rfl) (by simp) ?_
        refine AllReadyH.cons (o := ⟨some 52, _, _, _, _, none⟩) rfl (fun K hK => ?_) ?_
        · go_simp
          refine (scriptoriumlaw20_at.calls 30 30 0 _ rfl).mono ?_
          rintro e wa1 ⟨rfl, hb⟩
          have Sa1 := Aside0.mk (Sa0.out.step hb)
          refine hK.out _ _ Sa1.out.bx3 (fun hHeld => ?_)
          clear hK K
          try simp only [Act.put, List.setIfInBounds_toArray, List.set_cons_zero, List.set_cons_succ]
          refine wpAnyH_ready (rs := [3]) (by kernel_rfl) (by simp) ?_
          refine AllReadyH.cons (o := ⟨some 53, _, _, _, _, none⟩) rfl (fun K hK => ?_) ?_
          · go_simp
            refine (scriptoriumlaw20_at.calls 71 71 0 _ rfl).mono ?_
            rintro e wa2 ⟨rfl, hb⟩
            have Sa2 := Aside0.mk (Sa1.out.step hb)
            refine hK.out _ _ Sa2.out.bx3 (fun hHeld => ?_)
            clear hK K
            try simp only [Act.put, List.setIfInBounds_toArray, List.set_cons_zero, List.set_cons_succ]
            refine wpAnyH_ready (rs := [4]) (by kernel_rfl) (by simp) ?_
            refine AllReadyH.cons (o := ⟨some 54, _, _, _, _, none⟩) rfl (fun K hK => ?_) ?_
            · go_simp
              refine (show Calls _ _ _ _ (recPost 7 0 4 5 ⟨#[97]⟩ 10 0 20 0 [] 0 _) from record_Push.calls 40 7 0 1 5 ⟨#[97]⟩ 10 0 20 0 Aa ca [] true 7 0 1 5 ⟨#[97]⟩ 10 0 0 0 Ak ck [] 4 true 30 0 71 0 7 0 4 5 ⟨#[97]⟩ 10 0 20 0 [] 0 _ (Kd.C_nil' _ _ _) (Nat.zero_le _) (Kd.C_nil' _ _ _) (Nat.zero_le _) (by kernel_rfl)).mono ?_
              rintro e wa3 ⟨vd, rfl, hR, hb⟩
              obtain ⟨Ad, cd, rfl⟩ := Kd.R_slice hR
              have Sa3 := Aside0.mk (Sa2.out.step hb)
              refine hK.out _ _ Sa3.out.bx3 (fun hHeld => ?_)
              clear hK K
              try simp only [Act.put, List.setIfInBounds_toArray, List.set_cons_zero, List.set_cons_succ]
              refine wpAnyH_take (i := 5) (oi := ⟨some 49, _, _, _, _, none⟩) (v := ?v77) rfl (by kernel_rfl) (by kernel_rfl) (by kernel_rfl) (fun _ _ _ h => h) (Or.inl ⟨by rfl, ?hy77⟩) (by with_reducible assumption) ?rest77
              case hy77 => (intro V_ hSw; (try dsimp only at hSw); go_simp; (try with_reducible rfl))
              case' rest77 => skip
              try simp only [Act.put, List.setIfInBounds_toArray, List.set_cons_zero, List.set_cons_succ]
              refine wpAnyH_take (i := 6) (oi := ⟨some 55, _, _, _, _, none⟩) (v := ?v78) rfl (by kernel_rfl) (by kernel_rfl) (by kernel_rfl) (fun _ _ _ h => h) (Or.inl ⟨by rfl, ?hy78⟩) (by with_reducible assumption) ?rest78
              case hy78 => (intro V_ hSw; (try dsimp only at hSw); go_simp; (try with_reducible rfl))
              case' rest78 => skip
              try simp only [Act.put, List.setIfInBounds_toArray, List.set_cons_zero, List.set_cons_succ]
              refine wpAnyH_take (i := 7) (oi := ⟨some 56, _, _, _, _, none⟩) (v := ?v79) rfl (by kernel_rfl) (by kernel_rfl) (by kernel_rfl) (fun _ _ _ h => h) (Or.inl ⟨by rfl, ?hy79⟩) (by with_reducible assumption) ?rest79
              case hy79 => (intro V_ hSw; (try dsimp only at hSw); go_simp; (try with_reducible rfl))
              case' rest79 => skip
              try simp only [Act.put, List.setIfInBounds_toArray, List.set_cons_zero, List.set_cons_succ]
              refine wpAnyH_ready (rs := [9]) (by kernel_rfl) (by simp) ?_
              refine AllReadyH.cons (o := ⟨none, _, _, _, _, none⟩) rfl (fun K hK => ?_) ?_
              · obtain ⟨z0, z1, z2, z3, z4, z5, z6, z7, z8, z9⟩ := cells10 Sa3.out.bx0
                obtain ⟨fz0, fz1, fz2, fz3, fz4, fz5, fz6, fz7, fz8, fz9⟩ := frozen10 Sa3.out.bx0
                go_simp
                clear z0 z1 z2 z3 z4 z5 z6 z7 z8 z9 fz0 fz1 fz2 fz3 fz4 fz5 fz6 fz7 fz8 fz9
                have S_ := Aside0.mk (Sa3.out.ten0 (.int .i64 7) (.int .i64 0) (.int .i64 4) (.int .i64 5) (.string ⟨#[97]⟩) (.int .i64 10) (.int .i64 0) (.int .i64 20) (.int .i64 0) (.slice Ad 0 cd) (by decide))
                refine hK.out _ _ S_.out.bx3 (fun hHeld => ?_)
                clear hK K
                try simp only [Act.put, List.setIfInBounds_toArray, List.set_cons_zero, List.set_cons_succ]
                refine wpAnyH_take (i := 10) (oi := ⟨some 10, _, _, _, _, none⟩) (v := ?v80) rfl (by kernel_rfl) (by kernel_rfl) (by kernel_rfl) (fun _ _ _ h => h) (Or.inl ⟨by rfl, ?hy80⟩) (by with_reducible assumption) ?rest80
                case hy80 => (intro V_ hSw; (try dsimp only at hSw); go_simp; (try with_reducible rfl))
                case' rest80 => skip
                try simp only [Act.put, List.setIfInBounds_toArray, List.set_cons_zero, List.set_cons_succ]
                refine wpAnyH_done (by kernel_rfl) ?_ _
                refine NoPanic.normal ?_
                go_wp2_with fail
                go_meet
                case rel => exact ⟨_, _, _, rfl, rfl, S_⟩
              exact AllReadyH.nil
            exact AllReadyH.nil
          exact AllReadyH.nil
        exact AllReadyH.nil
      exact AllReadyH.nil
    exact AllReadyH.nil
  case rest =>
  obtain ⟨Ad, cd, bd, rfl, rfl, S8⟩ := hcut
  rename World => w8
  clear S7
  exact (by assumption : ∀ (a : Act) (w : World), Code.wp Try.prog (tailC 6 Try.f11.body) _ a w → _) _ _ (awake_t6 w w8 ba Aa ca bb Ab cb bc Ac cc bd Ad cd _ _ _ _ _ _ _ _ _ _ _ _ _ _ _ _ _ _ _ _ _ _ _ _ _ _ _ _ _ _ _ _ _ _ _ _ _ _ _ _ _ _ _ _ _ _ _ _ _ _ _ _ _ _ _ _ _ _ _ _ _ _ _ _ _ _ _ _ _ _ _ _ _ _ _ _ _ _ _ _ _ _ _ _ _ _ _ _ _ _ _ _ _ _ _ _ _ _ _ _ _ _ _ _ _ _ _ _ _ _ _ _ _ _ _ _ _ _ _ _ _ _ _ _ _ _ _ _ _ _ _ _ _ _ _ _ _ _ _ _ _ _ _ _ _ _ _ _ _ _ _ _ _ _ _ _ _ _ _ S8)
end Go.Proofs.Ythdmkacnkdmbiaa.PRecordStaged
