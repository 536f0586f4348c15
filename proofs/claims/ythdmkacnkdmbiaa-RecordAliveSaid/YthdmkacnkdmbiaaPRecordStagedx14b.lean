/- Written by xprint.py, a program of these sessions (over the print of the kit, with leaves typed by hand): one Lean function for each Go function, and the proof that the Go code comes to its answers. -/
import Derived.Test.YthdmkacnkdmbiaaPRecordStagedx14a
import Derived.Test.YthdmkacnkdmbiaaPRecordStagedx0
import Derived.Test.YthdmkacnkdmbiaaPRecordStagedx1
import Derived.Test.YthdmkacnkdmbiaaPRecordStagedx3
import Derived.Test.YthdmkacnkdmbiaaPRecordStagedx6
import Derived.Test.YthdmkacnkdmbiaaPRecordStagedx7
import Derived.Test.YthdmkacnkdmbiaaPRecordStagedx9
import Derived.Test.YthdmkacnkdmbiaaPRecordStagedx11
import Derived.Test.YthdmkacnkdmbiaaPRecordStagedx12
import Derived.Test.YthdmkacnkdmbiaaPRecordStagedx13
namespace Go.Proofs.Ythdmkacnkdmbiaa.PRecordStaged
open Go.RowKit Go.Proofs.YthdmkacnkdmbiaaW.PrintWords Go.Proofs.YthdmkacnkdmbiaaW.PrintLast Go.Proofs.YthdmkacnkdmbiaaW.PrintMore
attribute [local go_sem] max2_int min2_int max_two min_two max_three min_three max_four min_four   -- for this text's walks alone
attribute [local go_sem] str_gtr str_leq str_geq
set_option linter.unusedVariables false
set_option linter.unusedSimpArgs false

attribute [local go_sem high] eqA24
set_option maxHeartbeats 16000000 in
set_option maxRecDepth 100000 in
theorem awake_t6 (w w8 : World) (ba : Nat) (Aa : Option Addr) (ca : Nat) (bb : Nat) (Ab : Option Addr) (cb : Nat) (bc : Nat) (Ac : Option Addr) (cc : Nat) (bd : Nat) (Ad : Option Addr) (cd : Nat) (sl0 sl7 sl11 sl12 sl13 sl14 sl15 sl16 sl17 sl18 sl19 sl20 sl21 sl22 sl23 sl24 sl25 sl26 sl27 sl28 sl29 sl30 sl31 sl32 sl33 sl34 sl35 sl36 sl37 sl38 sl39 sl40 sl41 sl42 sl43 sl44 sl45 sl46 sl47 sl48 sl49 sl50 sl51 sl52 sl53 sl54 sl55 sl56 sl57 sl58 sl59 sl60 sl61 sl62 sl63 sl64 sl65 sl66 sl67 sl68 sl69 sl70 sl71 sl72 sl73 sl74 sl75 sl76 sl77 sl78 sl79 sl80 sl81 sl82 sl83 sl84 sl85 sl86 sl87 sl88 sl89 sl90 sl91 sl92 sl93 sl94 sl95 sl96 sl97 sl98 sl99 sl100 sl101 sl102 sl103 sl104 sl105 sl106 sl107 sl108 sl109 sl110 sl111 sl112 sl113 sl114 sl115 sl116 sl117 sl118 sl119 sl120 sl121 sl122 sl123 sl124 sl125 sl126 sl127 sl128 sl129 sl130 sl131 sl132 sl133 sl134 sl135 sl136 sl137 sl138 sl139 sl140 sl141 sl142 sl143 sl144 sl145 sl146 sl147 sl148 sl149 sl150 sl151 sl152 sl153 sl154 sl155 sl156 sl157 sl158 sl159 sl160 sl161 sl162 sl163 sl164 sl165 sl166 sl167 : Value) (S8 : Aside0 (Mem w w8 [(bd, #[.int .i64 7, .int .i64 0, .int .i64 4, .int .i64 5, .string ⟨#[97]⟩, .int .i64 10, .int .i64 0, .int .i64 20, .int .i64 0, .slice Ad 0 cd], 27), (bc, #[.int .i64 7, .int .i64 0, .int .i64 1, .int .i64 5, .string ⟨#[97]⟩, .int .i64 30, .int .i64 1, .int .i64 20, .int .i64 0, .slice Ac 0 cc], 27), (bb, #[.int .i64 7, .int .i64 0, .int .i64 1, .int .i64 5, .string ⟨#[97]⟩, .int .i64 30, .int .i64 1, .int .i64 20, .int .i64 0, .slice Ab 0 cb], 27), (ba, #[.int .i64 7, .int .i64 0, .int .i64 1, .int .i64 5, .string ⟨#[97]⟩, .int .i64 10, .int .i64 0, .int .i64 20, .int .i64 0, .slice Aa 0 ca], 27)] [])) :
    Code.wp Try.prog (tailC 6 Try.f11.body) (bodyPost Try.prog Try.f11 fun e w' => e = .returned (.bool true) ∧ Below w.heap.size w w') ⟨List.toArray (sl0 :: .pointer (some ⟨ba, 0, none⟩) :: .int .i64 0 :: .pointer (some ⟨bb, 0, none⟩) :: .int .i64 0 :: .pointer (some ⟨bc, 0, none⟩) :: .int .i64 202 :: sl7 :: .int .i64 120 :: .pointer (some ⟨bd, 0, none⟩) :: .int .i64 0 :: sl11 :: sl12 :: sl13 :: sl14 :: sl15 :: sl16 :: sl17 :: sl18 :: sl19 :: sl20 :: sl21 :: sl22 :: sl23 :: sl24 :: sl25 :: sl26 :: sl27 :: sl28 :: sl29 :: sl30 :: sl31 :: sl32 :: sl33 :: sl34 :: sl35 :: sl36 :: sl37 :: sl38 :: sl39 :: sl40 :: sl41 :: sl42 :: sl43 :: sl44 :: sl45 :: sl46 :: sl47 :: sl48 :: sl49 :: sl50 :: sl51 :: sl52 :: sl53 :: sl54 :: sl55 :: sl56 :: sl57 :: sl58 :: sl59 :: sl60 :: sl61 :: sl62 :: sl63 :: sl64 :: sl65 :: sl66 :: sl67 :: sl68 :: sl69 :: sl70 :: sl71 :: sl72 :: sl73 :: sl74 :: sl75 :: sl76 :: sl77 :: sl78 :: sl79 :: sl80 :: sl81 :: sl82 :: sl83 :: sl84 :: sl85 :: sl86 :: sl87 :: sl88 :: sl89 :: sl90 :: sl91 :: sl92 :: sl93 :: sl94 :: sl95 :: sl96 :: sl97 :: sl98 :: sl99 :: sl100 :: sl101 :: sl102 :: sl103 :: sl104 :: sl105 :: sl106 :: sl107 :: sl108 :: sl109 :: sl110 :: sl111 :: sl112 :: sl113 :: sl114 :: sl115 :: sl116 :: sl117 :: sl118 :: sl119 :: sl120 :: sl121 :: sl122 :: sl123 :: sl124 :: sl125 :: sl126 :: sl127 :: sl128 :: sl129 :: sl130 :: sl131 :: sl132 :: sl133 :: sl134 :: sl135 :: sl136 :: sl137 :: sl138 :: sl139 :: sl140 :: sl141 :: sl142 :: sl143 :: sl144 :: sl145 :: sl146 :: sl147 :: sl148 :: sl149 :: sl150 :: sl151 :: sl152 :: sl153 :: sl154 :: sl155 :: sl156 :: sl157 :: sl158 :: sl159 :: sl160 :: sl161 :: sl162 :: sl163 :: sl164 :: sl165 :: sl166 :: sl167 :: []), []⟩ w8 := by
  change Code.wp _ (Code.seq _ _) _ _ _
  go_wp2_with fail
  refine (scriptoriumlaw20_txn.calls 7 0 5 ⟨#[97]⟩ 10 0 10 0 0 0 0 0 _ rfl).mono ?_
  rintro e w9 ⟨rfl, hb⟩
  have S9 := Aside0.mk (S8.out.step hb)
  clear hb S8
  go_wp2_with fail
  have HK := Aside0.mk (one_C w9 ⟨#[98]⟩ 2)
  have hMA := S9.out.step (below_alloc (Below.refl w9.heap.size w9) (.cells #[.string ⟨#[98]⟩, .int .i64 2] 44))
  generalize hwa : World.alloc w9 _ = w10 at HK hMA ⊢
  have S10 := Aside0.mk hMA
  clear hwa hMA S9
  generalize w9.heap.size = bk at HK ⊢
  refine (scriptoriumlaw20_at.calls 20 20 0 _ rfl).mono ?_
  rintro e w11 ⟨rfl, hb⟩
  have HK2 := Aside0.mk (Kd.C_below HK.out hb)
  have S11 := Aside0.mk (S10.out.step hb)
  clear hb HK S10
  go_wp2_with fail
  refine (show Calls _ _ _ _ (recPost 7 0 2 5 ⟨#[97]⟩ 10 0 20 0 [(⟨⟨#[98]⟩, 2⟩ : S44)] 0 _) from record_End.calls 40 0 0 0 0 ⟨#[]⟩ 0 0 0 0 none 0 [] false 7 0 5 ⟨#[97]⟩ 10 0 10 0 0 0 0 0 2 (some ⟨bk, 0, none⟩) 1 [(⟨⟨#[98]⟩, 2⟩ : S44)] 20 0 7 0 2 5 ⟨#[97]⟩ 10 0 20 0 [(⟨⟨#[98]⟩, 2⟩ : S44)] 0 _ (Kd.C_nil' _ _ _) (Nat.zero_le _) HK2.out (Nat.le_refl _) (by kernel_rfl)).mono ?_
  rintro e w12 ⟨vs, rfl, hR, hb⟩
  obtain ⟨As, cs, rfl⟩ := Kd.R_slice hR
  have S12 := Aside0.mk ((S11.out.step hb).row' hR rfl S11.out.below.size)
  clear hb hR S11 HK2
  go_wp2_with fail
  have hMA := S12.out.alloc #[.int .i64 7, .int .i64 0, .int .i64 2, .int .i64 5, .string ⟨#[97]⟩, .int .i64 10, .int .i64 0, .int .i64 20, .int .i64 0, .slice As 1 cs] 27
  generalize hwa : World.alloc w12 _ = w13 at hMA ⊢
  have S13 := Aside0.mk hMA
  clear hwa hMA S12
  generalize w12.heap.size = bs at S13 ⊢
  go_upto_region 7 with fail
  go_cut [13, 14] (fun v_ e_ wc => ∃ (bk_ : Nat), v_ = .pointer (some ⟨bk_, 0, none⟩) ∧ e_ = .int .i64 120 ∧ Aside0 (Mem w wc [(bs, #[.int .i64 7, .int .i64 0, .int .i64 2, .int .i64 5, .string ⟨#[97]⟩, .int .i64 10, .int .i64 0, .int .i64 20, .int .i64 0, .slice As 1 cs], 27), (bd, #[.int .i64 7, .int .i64 0, .int .i64 4, .int .i64 5, .string ⟨#[97]⟩, .int .i64 10, .int .i64 0, .int .i64 20, .int .i64 0, .slice Ad 0 cd], 27), (bc, #[.int .i64 7, .int .i64 0, .int .i64 1, .int .i64 5, .string ⟨#[97]⟩, .int .i64 30, .int .i64 1, .int .i64 20, .int .i64 0, .slice Ac 0 cc], 27), (bb, #[.int .i64 7, .int .i64 0, .int .i64 1, .int .i64 5, .string ⟨#[97]⟩, .int .i64 30, .int .i64 1, .int .i64 20, .int .i64 0, .slice Ab 0 cb], 27), (ba, #[.int .i64 7, .int .i64 0, .int .i64 1, .int .i64 5, .string ⟨#[97]⟩, .int .i64 10, .int .i64 0, .int .i64 20, .int .i64 0, .slice Aa 0 ca], 27)] [(As, cs, [(⟨⟨#[98]⟩, 2⟩ : S44)])]))
  case first =>
    refine wp_region_noPanic ?_
    have SD := Aside0.mk S13.out.drew
    refine wp_region_held_drew (S := (fun V => V.heap[bs]? = some (.cells #[.int .i64 7, .int .i64 0, .int .i64 2, .int .i64 5, .string ⟨#[97]⟩, .int .i64 10, .int .i64 0, .int .i64 20, .int .i64 0, .slice As 1 cs] 27 (0, 0)))) (by kernel_rfl) SD.out.bx0 (fun hHeld => ?_)
    generalize hwd : World.drew w13 = wd at hHeld SD ⊢
    clear hwd
    refine wpAnyH_take (i := 0) (oi := ⟨some 67, _, _, _, _, none⟩) (v := _) rfl (by kernel_rfl) (by kernel_rfl) (by kernel_rfl) (fun _ _ _ h => h) (yieldsIf_load_row (by rfl) 27 _ rfl bs rfl _ _ (0, 0) _ (fun V h => h) Try.underlying27 rfl (by kernel_rfl)) (by with_reducible assumption) ?_
    try simp only [Act.put, List.setIfInBounds_toArray, List.set_cons_zero, List.set_cons_succ]
    refine wpAnyH_ready (rs := [1, 8]) (by kernel_rfl) (by simp) ?_
    refine AllReadyH.cons (o := ⟨some 68, _, _, _, _, none⟩) rfl (fun K hK => ?_) ?_
    · go_simp
      refine (scriptoriumlaw20_known.calls 0 7 0 1 5 ⟨#[97]⟩ 10 0 0 0 [] _ rfl).mono ?_
      rintro e wc0 ⟨vk, rfl, hk, hb⟩
      obtain ⟨Ak, ck, rfl⟩ := Kd.R_slice hk
      clear hk
      have Sc0 := Aside0.mk (SD.out.step hb)
      refine hK.out _ _ Sc0.out.bx0 (fun hHeld => ?_)
      clear hK K
      try simp only [Act.put, List.setIfInBounds_toArray, List.set_cons_zero, List.set_cons_succ]
      refine wpAnyH_ready (rs := [2, 8]) (by kernel_rfl) (by simp) ?_
      refine AllReadyH.cons (o := ⟨some 69, _, _, _, _, none⟩) rfl (fun K hK => ?_) ?_
      · go_simp
        refine (scriptoriumlaw20_at.calls 30 30 0 _ rfl).mono ?_
        rintro e wc1 ⟨rfl, hb⟩
        have Sc1 := Aside0.mk (Sc0.out.step hb)
        refine hK.out _ _ Sc1.out.bx0 (fun hHeld => ?_)
        clear hK K
        try simp only [Act.put, List.setIfInBounds_toArray, List.set_cons_zero, List.set_cons_succ]
        refine wpAnyH_ready (rs := [3, 8]) (by kernel_rfl) (by simp) ?_
        refine AllReadyH.cons (o := ⟨some 70, _, _, _, _, none⟩) rfl (fun K hK => ?_) ?_
        · go_simp
          refine (scriptoriumlaw20_at.calls 21 21 0 _ rfl).mono ?_
          rintro e wc2 ⟨rfl, hb⟩
          have Sc2 := Aside0.mk (Sc1.out.step hb)
          refine hK.out _ _ Sc2.out.bx0 (fun hHeld => ?_)
          clear hK K
          try simp only [Act.put, List.setIfInBounds_toArray, List.set_cons_zero, List.set_cons_succ]
          refine wpAnyH_ready (rs := [4, 8]) (by kernel_rfl) (by simp) ?_
          refine AllReadyH.cons (o := ⟨some 71, _, _, _, _, none⟩) rfl (fun K hK => ?_) ?_
          · go_simp
            refine (show Calls _ _ _ _ (recPost 7 0 2 5 ⟨#[97]⟩ 10 0 20 0 [(⟨⟨#[98]⟩, 2⟩ : S44)] 120 _) from record_Push.calls 40 7 0 2 5 ⟨#[97]⟩ 10 0 20 0 As cs [(⟨⟨#[98]⟩, 2⟩ : S44)] true 7 0 1 5 ⟨#[97]⟩ 10 0 0 0 Ak ck [] 1000 true 30 0 21 0 7 0 2 5 ⟨#[97]⟩ 10 0 20 0 [(⟨⟨#[98]⟩, 2⟩ : S44)] 120 _ (Sc2.out.rd (.head _)).1 (Sc2.out.rd (.head _)).2 (Kd.C_nil' _ _ _) (Nat.zero_le _) (by kernel_rfl)).mono ?_
            rintro e wc3 ⟨vk_, rfl, hR, hb⟩
            obtain ⟨Ak_, ck_, rfl⟩ := Kd.R_slice hR
            have Sc3 := Aside0.mk (Sc2.out.step hb)
            refine hK.out _ _ Sc3.out.bx0 (fun hHeld => ?_)
            clear hK K
            try simp only [Act.put, List.setIfInBounds_toArray, List.set_cons_zero, List.set_cons_succ]
            refine wpAnyH_take (i := 5) (oi := ⟨some 66, _, _, _, _, none⟩) (v := ?v82) rfl (by kernel_rfl) (by kernel_rfl) (by kernel_rfl) (fun _ _ _ h => h) (Or.inl ⟨by rfl, ?hy82⟩) (by with_reducible assumption) ?rest82
            case hy82 => (intro V_ hSw; (try dsimp only at hSw); go_simp; (try with_reducible rfl))
            case' rest82 => skip
            try simp only [Act.put, List.setIfInBounds_toArray, List.set_cons_zero, List.set_cons_succ]
            refine wpAnyH_take (i := 6) (oi := ⟨some 72, _, _, _, _, none⟩) (v := ?v83) rfl (by kernel_rfl) (by kernel_rfl) (by kernel_rfl) (fun _ _ _ h => h) (Or.inl ⟨by rfl, ?hy83⟩) (by with_reducible assumption) ?rest83
            case hy83 => (intro V_ hSw; (try dsimp only at hSw); go_simp; (try with_reducible rfl))
            case' rest83 => skip
            try simp only [Act.put, List.setIfInBounds_toArray, List.set_cons_zero, List.set_cons_succ]
            refine wpAnyH_take (i := 7) (oi := ⟨some 73, _, _, _, _, none⟩) (v := ?v84) rfl (by kernel_rfl) (by kernel_rfl) (by kernel_rfl) (fun _ _ _ h => h) (Or.inl ⟨by rfl, ?hy84⟩) (by with_reducible assumption) ?rest84
            case hy84 => (intro V_ hSw; (try dsimp only at hSw); go_simp; (try with_reducible rfl))
            case' rest84 => skip
            try simp only [Act.put, List.setIfInBounds_toArray, List.set_cons_zero, List.set_cons_succ]
            refine wpAnyH_ready (rs := [8]) (by kernel_rfl) (by simp) ?_
            refine AllReadyH.cons (o := ⟨some 13, _, _, _, _, none⟩) rfl (fun K hK => ?_) ?_
            · go_simp
              refine hK.out _ _ (blk_alloc Sc3.out.bx0 _) (fun hHeld => ?_)
              clear hK K
              try simp only [Act.put, List.setIfInBounds_toArray, List.set_cons_zero, List.set_cons_succ]
              refine wpAnyH_ready (rs := [9]) (by kernel_rfl) (by simp) ?_
              refine AllReadyH.cons (o := ⟨none, _, _, _, _, none⟩) rfl (fun K hK => ?_) ?_
              · go_simp
                have hMA := Sc3.out.alloc #[.int .i64 7, .int .i64 0, .int .i64 2, .int .i64 5, .string ⟨#[97]⟩, .int .i64 10, .int .i64 0, .int .i64 20, .int .i64 0, .slice Ak_ 1 ck_] 27
                generalize hwa : World.alloc wc3 _ = w5 at hMA ⊢
                have S_ := Aside0.mk hMA
                clear hwa hMA
                refine hK.out _ _ S_.out.bx1 (fun hHeld => ?_)
                clear hK K
                try simp only [Act.put, List.setIfInBounds_toArray, List.set_cons_zero, List.set_cons_succ]
                refine wpAnyH_take (i := 10) (oi := ⟨some 14, _, _, _, _, none⟩) (v := ?v85) rfl (by kernel_rfl) (by kernel_rfl) (by kernel_rfl) (fun _ _ _ h => h) (Or.inl ⟨by rfl, ?hy85⟩) (by with_reducible assumption) ?rest85
                case hy85 => (intro V_ hSw; (try dsimp only at hSw); go_simp; (try with_reducible rfl))
                case' rest85 => skip
                try simp only [Act.put, List.setIfInBounds_toArray, List.set_cons_zero, List.set_cons_succ]
                refine wpAnyH_done (by kernel_rfl) ?_ _
                refine NoPanic.normal ?_
                go_wp2_with fail
                go_meet
                case rel => exact ⟨_, rfl, rfl, ⟨S_.out.sub (.cons _ (List.Sublist.refl _)) (fun r q => q)⟩⟩
              exact AllReadyH.nil
            exact AllReadyH.nil
          refine AllReadyH.cons (o := ⟨some 13, _, _, _, _, none⟩) rfl (fun K hK => ?_) ?_
          · go_simp
            have hMA := Sc2.out.alloc #[.int .i64 0, .int .i64 0, .int .i64 0, .int .i64 0, .string ⟨#[]⟩, .int .i64 0, .int .i64 0, .int .i64 0, .int .i64 0, .slice none 0 0] 27
            generalize hwa : World.alloc wc2 _ = wa at hMA ⊢
            have SA := Aside0.mk hMA
            clear hwa hMA
            generalize wc2.heap.size = bn at SA ⊢
            refine hK.out _ _ SA.out.bx1 (fun hHeld => ?_)
            clear hK K
            try simp only [Act.put, List.setIfInBounds_toArray, List.set_cons_zero, List.set_cons_succ]
            refine wpAnyH_ready (rs := [4]) (by kernel_rfl) (by simp) ?_
            refine AllReadyH.cons (o := ⟨some 71, _, _, _, _, none⟩) rfl (fun K hK => ?_) ?_
            · go_simp
              refine (show Calls _ _ _ _ (recPost 7 0 2 5 ⟨#[97]⟩ 10 0 20 0 [(⟨⟨#[98]⟩, 2⟩ : S44)] 120 _) from record_Push.calls 40 7 0 2 5 ⟨#[97]⟩ 10 0 20 0 As cs [(⟨⟨#[98]⟩, 2⟩ : S44)] true 7 0 1 5 ⟨#[97]⟩ 10 0 0 0 Ak ck [] 1000 true 30 0 21 0 7 0 2 5 ⟨#[97]⟩ 10 0 20 0 [(⟨⟨#[98]⟩, 2⟩ : S44)] 120 _ (SA.out.rd (.head _)).1 (SA.out.rd (.head _)).2 (Kd.C_nil' _ _ _) (Nat.zero_le _) (by kernel_rfl)).mono ?_
              rintro e wa3 ⟨vk_, rfl, hR, hb⟩
              obtain ⟨Ak_, ck_, rfl⟩ := Kd.R_slice hR
              have Sa3 := Aside0.mk (SA.out.step hb)
              refine hK.out _ _ Sa3.out.bx1 (fun hHeld => ?_)
              clear hK K
              try simp only [Act.put, List.setIfInBounds_toArray, List.set_cons_zero, List.set_cons_succ]
              refine wpAnyH_take (i := 5) (oi := ⟨some 66, _, _, _, _, none⟩) (v := ?v86) rfl (by kernel_rfl) (by kernel_rfl) (by kernel_rfl) (fun _ _ _ h => h) (Or.inl ⟨by rfl, ?hy86⟩) (by with_reducible assumption) ?rest86
              case hy86 => (intro V_ hSw; (try dsimp only at hSw); go_simp; (try with_reducible rfl))
              case' rest86 => skip
              try simp only [Act.put, List.setIfInBounds_toArray, List.set_cons_zero, List.set_cons_succ]
              refine wpAnyH_take (i := 6) (oi := ⟨some 72, _, _, _, _, none⟩) (v := ?v87) rfl (by kernel_rfl) (by kernel_rfl) (by kernel_rfl) (fun _ _ _ h => h) (Or.inl ⟨by rfl, ?hy87⟩) (by with_reducible assumption) ?rest87
              case hy87 => (intro V_ hSw; (try dsimp only at hSw); go_simp; (try with_reducible rfl))
              case' rest87 => skip
              try simp only [Act.put, List.setIfInBounds_toArray, List.set_cons_zero, List.set_cons_succ]
              refine wpAnyH_take (i := 7) (oi := ⟨some 73, _, _, _, _, none⟩) (v := ?v88) rfl (by kernel_rfl) (by kernel_rfl) (by kernel_rfl) (fun _ _ _ h => h) (Or.inl ⟨by rfl, ?hy88⟩) (by with_reducible assumption) ?rest88
              case hy88 => (intro V_ hSw; (try dsimp only at hSw); go_simp; (try with_reducible rfl))
              case' rest88 => skip
              try simp only [Act.put, List.setIfInBounds_toArray, List.set_cons_zero, List.set_cons_succ]
              refine wpAnyH_ready (rs := [9]) (by kernel_rfl) (by simp) ?_
              refine AllReadyH.cons (o := ⟨none, _, _, _, _, none⟩) rfl (fun K hK => ?_) ?_
              · obtain ⟨z0, z1, z2, z3, z4, z5, z6, z7, z8, z9⟩ := cells10 Sa3.out.bx0
                obtain ⟨fz0, fz1, fz2, fz3, fz4, fz5, fz6, fz7, fz8, fz9⟩ := frozen10 Sa3.out.bx0
                go_simp
                clear z0 z1 z2 z3 z4 z5 z6 z7 z8 z9 fz0 fz1 fz2 fz3 fz4 fz5 fz6 fz7 fz8 fz9
                have S_ := Aside0.mk (Sa3.out.ten0 (.int .i64 7) (.int .i64 0) (.int .i64 2) (.int .i64 5) (.string ⟨#[97]⟩) (.int .i64 10) (.int .i64 0) (.int .i64 20) (.int .i64 0) (.slice Ak_ 1 ck_) (by decide))
                refine hK.out _ _ S_.out.bx1 (fun hHeld => ?_)
                clear hK K
                try simp only [Act.put, List.setIfInBounds_toArray, List.set_cons_zero, List.set_cons_succ]
                refine wpAnyH_take (i := 10) (oi := ⟨some 14, _, _, _, _, none⟩) (v := ?v89) rfl (by kernel_rfl) (by kernel_rfl) (by kernel_rfl) (fun _ _ _ h => h) (Or.inl ⟨by rfl, ?hy89⟩) (by with_reducible assumption) ?rest89
                case hy89 => (intro V_ hSw; (try dsimp only at hSw); go_simp; (try with_reducible rfl))
                case' rest89 => skip
                try simp only [Act.put, List.setIfInBounds_toArray, List.set_cons_zero, List.set_cons_succ]
                refine wpAnyH_done (by kernel_rfl) ?_ _
                refine NoPanic.normal ?_
                go_wp2_with fail
                go_meet
                case rel => exact ⟨_, rfl, rfl, ⟨S_.out.sub (.cons _ (List.Sublist.refl _)) (fun r q => q)⟩⟩
              exact AllReadyH.nil
            exact AllReadyH.nil
          exact AllReadyH.nil
        refine AllReadyH.cons (o := ⟨some 13, _, _, _, _, none⟩) rfl (fun K hK => ?_) ?_
        · go_simp
          have hMA := Sc1.out.alloc #[.int .i64 0, .int .i64 0, .int .i64 0, .int .i64 0, .string ⟨#[]⟩, .int .i64 0, .int .i64 0, .int .i64 0, .int .i64 0, .slice none 0 0] 27
          generalize hwa : World.alloc wc1 _ = wa at hMA ⊢
          have SA := Aside0.mk hMA
          clear hwa hMA
          generalize wc1.heap.size = bn at SA ⊢
          refine hK.out _ _ SA.out.bx1 (fun hHeld => ?_)
          clear hK K
          try simp only [Act.put, List.setIfInBounds_toArray, List.set_cons_zero, List.set_cons_succ]
          refine wpAnyH_ready (rs := [3]) (by kernel_rfl) (by simp) ?_
          refine AllReadyH.cons (o := ⟨some 70, _, _, _, _, none⟩) rfl (fun K hK => ?_) ?_
          · go_simp
            refine (scriptoriumlaw20_at.calls 21 21 0 _ rfl).mono ?_
            rintro e wa2 ⟨rfl, hb⟩
            have Sa2 := Aside0.mk (SA.out.step hb)
            refine hK.out _ _ Sa2.out.bx1 (fun hHeld => ?_)
            clear hK K
            try simp only [Act.put, List.setIfInBounds_toArray, List.set_cons_zero, List.set_cons_succ]
            refine wpAnyH_ready (rs := [4]) (by kernel_rfl) (by simp) ?_
            refine AllReadyH.cons (o := ⟨some 71, _, _, _, _, none⟩) rfl (fun K hK => ?_) ?_
            · go_simp
              refine (show Calls _ _ _ _ (recPost 7 0 2 5 ⟨#[97]⟩ 10 0 20 0 [(⟨⟨#[98]⟩, 2⟩ : S44)] 120 _) from record_Push.calls 40 7 0 2 5 ⟨#[97]⟩ 10 0 20 0 As cs [(⟨⟨#[98]⟩, 2⟩ : S44)] true 7 0 1 5 ⟨#[97]⟩ 10 0 0 0 Ak ck [] 1000 true 30 0 21 0 7 0 2 5 ⟨#[97]⟩ 10 0 20 0 [(⟨⟨#[98]⟩, 2⟩ : S44)] 120 _ (Sa2.out.rd (.head _)).1 (Sa2.out.rd (.head _)).2 (Kd.C_nil' _ _ _) (Nat.zero_le _) (by kernel_rfl)).mono ?_
              rintro e wa3 ⟨vk_, rfl, hR, hb⟩
              obtain ⟨Ak_, ck_, rfl⟩ := Kd.R_slice hR
              have Sa3 := Aside0.mk (Sa2.out.step hb)
              refine hK.out _ _ Sa3.out.bx1 (fun hHeld => ?_)
              clear hK K
              try simp only [Act.put, List.setIfInBounds_toArray, List.set_cons_zero, List.set_cons_succ]
              refine wpAnyH_take (i := 5) (oi := ⟨some 66, _, _, _, _, none⟩) (v := ?v90) rfl (by kernel_rfl) (by kernel_rfl) (by kernel_rfl) (fun _ _ _ h => h) (Or.inl ⟨by rfl, ?hy90⟩) (by with_reducible assumption) ?rest90
              case hy90 => (intro V_ hSw; (try dsimp only at hSw); go_simp; (try with_reducible rfl))
              case' rest90 => skip
              try simp only [Act.put, List.setIfInBounds_toArray, List.set_cons_zero, List.set_cons_succ]
              refine wpAnyH_take (i := 6) (oi := ⟨some 72, _, _, _, _, none⟩) (v := ?v91) rfl (by kernel_rfl) (by kernel_rfl) (by kernel_rfl) (fun _ _ _ h => h) (Or.inl ⟨by rfl, ?hy91⟩) (by with_reducible assumption) ?rest91
              case hy91 => (intro V_ hSw; (try dsimp only at hSw); go_simp; (try with_reducible rfl))
              case' rest91 => skip
              try simp only [Act.put, List.setIfInBounds_toArray, List.set_cons_zero, List.set_cons_succ]
              refine wpAnyH_take (i := 7) (oi := ⟨some 73, _, _, _, _, none⟩) (v := ?v92) rfl (by kernel_rfl) (by kernel_rfl) (by kernel_rfl) (fun _ _ _ h => h) (Or.inl ⟨by rfl, ?hy92⟩) (by with_reducible assumption) ?rest92
              case hy92 => (intro V_ hSw; (try dsimp only at hSw); go_simp; (try with_reducible rfl))
              case' rest92 => skip
              try simp only [Act.put, List.setIfInBounds_toArray, List.set_cons_zero, List.set_cons_succ]
              refine wpAnyH_ready (rs := [9]) (by kernel_rfl) (by simp) ?_
              refine AllReadyH.cons (o := ⟨none, _, _, _, _, none⟩) rfl (fun K hK => ?_) ?_
              · obtain ⟨z0, z1, z2, z3, z4, z5, z6, z7, z8, z9⟩ := cells10 Sa3.out.bx0
                obtain ⟨fz0, fz1, fz2, fz3, fz4, fz5, fz6, fz7, fz8, fz9⟩ := frozen10 Sa3.out.bx0
                go_simp
                clear z0 z1 z2 z3 z4 z5 z6 z7 z8 z9 fz0 fz1 fz2 fz3 fz4 fz5 fz6 fz7 fz8 fz9
                have S_ := Aside0.mk (Sa3.out.ten0 (.int .i64 7) (.int .i64 0) (.int .i64 2) (.int .i64 5) (.string ⟨#[97]⟩) (.int .i64 10) (.int .i64 0) (.int .i64 20) (.int .i64 0) (.slice Ak_ 1 ck_) (by decide))
                refine hK.out _ _ S_.out.bx1 (fun hHeld => ?_)
                clear hK K
                try simp only [Act.put, List.setIfInBounds_toArray, List.set_cons_zero, List.set_cons_succ]
                refine wpAnyH_take (i := 10) (oi := ⟨some 14, _, _, _, _, none⟩) (v := ?v93) rfl (by kernel_rfl) (by kernel_rfl) (by kernel_rfl) (fun _ _ _ h => h) (Or.inl ⟨by rfl, ?hy93⟩) (by with_reducible assumption) ?rest93
                case hy93 => (intro V_ hSw; (try dsimp only at hSw); go_simp; (try with_reducible rfl))
                case' rest93 => skip
                try simp only [Act.put, List.setIfInBounds_toArray, List.set_cons_zero, List.set_cons_succ]
                refine wpAnyH_done (by kernel_rfl) ?_ _
                refine NoPanic.normal ?_
                go_wp2_with fail
                go_meet
                case rel => exact ⟨_, rfl, rfl, ⟨S_.out.sub (.cons _ (List.Sublist.refl _)) (fun r q => q)⟩⟩
              exact AllReadyH.nil
            exact AllReadyH.nil
          exact AllReadyH.nil
        exact AllReadyH.nil
      refine AllReadyH.cons (o := ⟨some 13, _, _, _, _, none⟩) rfl (fun K hK => ?_) ?_
      · go_simp
        have hMA := Sc0.out.alloc #[.int .i64 0, .int .i64 0, .int .i64 0, .int .i64 0, .string ⟨#[]⟩, .int .i64 0, .int .i64 0, .int .i64 0, .int .i64 0, .slice none 0 0] 27
        generalize hwa : World.alloc wc0 _ = wa at hMA ⊢
        have SA := Aside0.mk hMA
        clear hwa hMA
        generalize wc0.heap.size = bn at SA ⊢
        refine hK.out _ _ SA.out.bx1 (fun hHeld => ?_)
        clear hK K
        try simp only [Act.put, List.setIfInBounds_toArray, List.set_cons_zero, List.set_cons_succ]
        refine wpAnyH_ready (rs := [2]) (by kernel_rfl) (by simp) ?_
        refine AllReadyH.cons (o := ⟨some 69, _, _, _, _, none⟩) rfl (fun K hK => ?_) ?_
        · go_simp
          refine (scriptoriumlaw20_at.calls 30 30 0 _ rfl).mono ?_
          rintro e wa1 ⟨rfl, hb⟩
          have Sa1 := Aside0.mk (SA.out.step hb)
          refine hK.out _ _ Sa1.out.bx1 (fun hHeld => ?_)
          clear hK K
          try simp only [Act.put, List.setIfInBounds_toArray, List.set_cons_zero, List.set_cons_succ]
          refine wpAnyH_ready (rs := [3]) (by kernel_rfl) (by simp) ?_
          refine AllReadyH.cons (o := ⟨some 70, _, _, _, _, none⟩) rfl (fun K hK => ?_) ?_
          · go_simp
            refine (scriptoriumlaw20_at.calls 21 21 0 _ rfl).mono ?_
            rintro e wa2 ⟨rfl, hb⟩
            have Sa2 := Aside0.mk (Sa1.out.step hb)
            refine hK.out _ _ Sa2.out.bx1 (fun hHeld => ?_)
            clear hK K
            try simp only [Act.put, List.setIfInBounds_toArray, List.set_cons_zero, List.set_cons_succ]
            refine wpAnyH_ready (rs := [4]) (by kernel_rfl) (by simp) ?_
            refine AllReadyH.cons (o := ⟨some 71, _, _, _, _, none⟩) rfl (fun K hK => ?_) ?_
            · go_simp
              refine (show Calls _ _ _ _ (recPost 7 0 2 5 ⟨#[97]⟩ 10 0 20 0 [(⟨⟨#[98]⟩, 2⟩ : S44)] 120 _) from record_Push.calls 40 7 0 2 5 ⟨#[97]⟩ 10 0 20 0 As cs [(⟨⟨#[98]⟩, 2⟩ : S44)] true 7 0 1 5 ⟨#[97]⟩ 10 0 0 0 Ak ck [] 1000 true 30 0 21 0 7 0 2 5 ⟨#[97]⟩ 10 0 20 0 [(⟨⟨#[98]⟩, 2⟩ : S44)] 120 _ (Sa2.out.rd (.head _)).1 (Sa2.out.rd (.head _)).2 (Kd.C_nil' _ _ _) (Nat.zero_le _) (by kernel_rfl)).mono ?_
              rintro e wa3 ⟨vk_, rfl, hR, hb⟩
              obtain ⟨Ak_, ck_, rfl⟩ := Kd.R_slice hR
              have Sa3 := Aside0.mk (Sa2.out.step hb)
              refine hK.out _ _ Sa3.out.bx1 (fun hHeld => ?_)
              clear hK K
              try simp only [Act.put, List.setIfInBounds_toArray, List.set_cons_zero, List.set_cons_succ]
              refine wpAnyH_take (i := 5) (oi := ⟨some 66, _, _, _, _, none⟩) (v := ?v94) rfl (by kernel_rfl) (by kernel_rfl) (by kernel_rfl) (fun _ _ _ h => h) (Or.inl ⟨by rfl, ?hy94⟩) (by with_reducible assumption) ?rest94
              case hy94 => (intro V_ hSw; (try dsimp only at hSw); go_simp; (try with_reducible rfl))
              case' rest94 => skip
              try simp only [Act.put, List.setIfInBounds_toArray, List.set_cons_zero, List.set_cons_succ]
              refine wpAnyH_take (i := 6) (oi := ⟨some 72, _, _, _, _, none⟩) (v := ?v95) rfl (by kernel_rfl) (by kernel_rfl) (by kernel_rfl) (fun _ _ _ h => h) (Or.inl ⟨by rfl, ?hy95⟩) (by with_reducible assumption) ?rest95
              case hy95 => (intro V_ hSw; (try dsimp only at hSw); go_simp; (try with_reducible rfl))
              case' rest95 => skip
              try simp only [Act.put, List.setIfInBounds_toArray, List.set_cons_zero, List.set_cons_succ]
              refine wpAnyH_take (i := 7) (oi := ⟨some 73, _, _, _, _, none⟩) (v := ?v96) rfl (by kernel_rfl) (by kernel_rfl) (by kernel_rfl) (fun _ _ _ h => h) (Or.inl ⟨by rfl, ?hy96⟩) (by with_reducible assumption) ?rest96
              case hy96 => (intro V_ hSw; (try dsimp only at hSw); go_simp; (try with_reducible rfl))
              case' rest96 => skip
              try simp only [Act.put, List.setIfInBounds_toArray, List.set_cons_zero, List.set_cons_succ]
              refine wpAnyH_ready (rs := [9]) (by kernel_rfl) (by simp) ?_
              refine AllReadyH.cons (o := ⟨none, _, _, _, _, none⟩) rfl (fun K hK => ?_) ?_
              · obtain ⟨z0, z1, z2, z3, z4, z5, z6, z7, z8, z9⟩ := cells10 Sa3.out.bx0
                obtain ⟨fz0, fz1, fz2, fz3, fz4, fz5, fz6, fz7, fz8, fz9⟩ := frozen10 Sa3.out.bx0
                go_simp
                clear z0 z1 z2 z3 z4 z5 z6 z7 z8 z9 fz0 fz1 fz2 fz3 fz4 fz5 fz6 fz7 fz8 fz9
                have S_ := Aside0.mk (Sa3.out.ten0 (.int .i64 7) (.int .i64 0) (.int .i64 2) (.int .i64 5) (.string ⟨#[97]⟩) (.int .i64 10) (.int .i64 0) (.int .i64 20) (.int .i64 0) (.slice Ak_ 1 ck_) (by decide))
                refine hK.out _ _ S_.out.bx1 (fun hHeld => ?_)
                clear hK K
                try simp only [Act.put, List.setIfInBounds_toArray, List.set_cons_zero, List.set_cons_succ]
                refine wpAnyH_take (i := 10) (oi := ⟨some 14, _, _, _, _, none⟩) (v := ?v97) rfl (by kernel_rfl) (by kernel_rfl) (by kernel_rfl) (fun _ _ _ h => h) (Or.inl ⟨by rfl, ?hy97⟩) (by with_reducible assumption) ?rest97
                case hy97 => (intro V_ hSw; (try dsimp only at hSw); go_simp; (try with_reducible rfl))
                case' rest97 => skip
                try simp only [Act.put, List.setIfInBounds_toArray, List.set_cons_zero, List.set_cons_succ]
                refine wpAnyH_done (by kernel_rfl) ?_ _
                refine NoPanic.normal ?_
                go_wp2_with fail
                go_meet
                case rel => exact ⟨_, rfl, rfl, ⟨S_.out.sub (.cons _ (List.Sublist.refl _)) (fun r q => q)⟩⟩
              exact AllReadyH.nil
            exact AllReadyH.nil
          exact AllReadyH.nil
        exact AllReadyH.nil
      exact AllReadyH.nil
    refine AllReadyH.cons (o := ⟨some 13, _, _, _, _, none⟩) rfl (fun K hK => ?_) ?_
    · go_simp
      have hMA := SD.out.alloc #[.int .i64 0, .int .i64 0, .int .i64 0, .int .i64 0, .string ⟨#[]⟩, .int .i64 0, .int .i64 0, .int .i64 0, .int .i64 0, .slice none 0 0] 27
      generalize hwa : World.alloc wd _ = wa at hMA ⊢
      have SA := Aside0.mk hMA
      clear hwa hMA
      generalize wd.heap.size = bn at SA ⊢
      refine hK.out _ _ SA.out.bx1 (fun hHeld => ?_)
      clear hK K
      try simp only [Act.put, List.setIfInBounds_toArray, List.set_cons_zero, List.set_cons_succ]
      refine wpAnyH_ready (rs := [1]) (by kernel_rfl) (by simp) ?_
      refine AllReadyH.cons (o := ⟨some 68, _, _, _, _, none⟩) rfl (fun K hK => ?_) ?_
      · go_simp
        refine (scriptoriumlaw20_known.calls 0 7 0 1 5 ⟨#[97]⟩ 10 0 0 0 [] _ rfl).mono ?_
        rintro e wa0 ⟨vk, rfl, hk, hb⟩
        obtain ⟨Ak, ck, rfl⟩ := Kd.R_slice hk
        clear hk
        have Sa0 := Aside0.mk (SA.out.step hb)
        refine hK.out _ _ Sa0.out.bx1 (fun hHeld => ?_)
        clear hK K
        try simp only [Act.put, List.setIfInBounds_toArray, List.set_cons_zero, List.set_cons_succ]
        refine wpAnyH_ready (rs := [2]) (by kernel_rfl) (by simp) ?_
        refine AllReadyH.cons (o := ⟨some 69, _, _, _, _, none⟩) rfl (fun K hK => ?_) ?_
        · go_simp
          refine (scriptoriumlaw20_at.calls 30 30 0 _ rfl).mono ?_
          rintro e wa1 ⟨rfl, hb⟩
          have Sa1 := Aside0.mk (Sa0.out.step hb)
          refine hK.out _ _ Sa1.out.bx1 (fun hHeld => ?_)
          clear hK K
          try simp only [Act.put, List.setIfInBounds_toArray, List.set_cons_zero, List.set_cons_succ]
          refine wpAnyH_ready (rs := [3]) (by kernel_rfl) (by simp) ?_
          refine AllReadyH.cons (o := ⟨some 70, _, _, _, _, none⟩) rfl (fun K hK => ?_) ?_
          · go_simp
            refine (scriptoriumlaw20_at.calls 21 21 0 _ rfl).mono ?_
            rintro e wa2 ⟨rfl, hb⟩
            have Sa2 := Aside0.mk (Sa1.out.step hb)
            refine hK.out _ _ Sa2.out.bx1 (fun hHeld => ?_)
            clear hK K
            try simp only [Act.put, List.setIfInBounds_toArray, List.set_cons_zero, List.set_cons_succ]
            refine wpAnyH_ready (rs := [4]) (by kernel_rfl) (by simp) ?_
            refine AllReadyH.cons (o := ⟨some 71, _, _, _, _, none⟩) rfl (fun K hK => ?_) ?_
            · go_simp
              refine (show Calls _ _ _ _ (recPost 7 0 2 5 ⟨#[97]⟩ 10 0 20 0 [(⟨⟨#[98]⟩, 2⟩ : S44)] 120 _) from record_Push.calls 40 7 0 2 5 ⟨#[97]⟩ 10 0 20 0 As cs [(⟨⟨#[98]⟩, 2⟩ : S44)] true 7 0 1 5 ⟨#[97]⟩ 10 0 0 0 Ak ck [] 1000 true 30 0 21 0 7 0 2 5 ⟨#[97]⟩ 10 0 20 0 [(⟨⟨#[98]⟩, 2⟩ : S44)] 120 _ (Sa2.out.rd (.head _)).1 (Sa2.out.rd (.head _)).2 (Kd.C_nil' _ _ _) (Nat.zero_le _) (by kernel_rfl)).mono ?_
              rintro e wa3 ⟨vk_, rfl, hR, hb⟩
              obtain ⟨Ak_, ck_, rfl⟩ := Kd.R_slice hR
              have Sa3 := Aside0.mk (Sa2.out.step hb)
              refine hK.out _ _ Sa3.out.bx1 (fun hHeld => ?_)
              clear hK K
              try simp only [Act.put, List.setIfInBounds_toArray, List.set_cons_zero, List.set_cons_succ]
              refine wpAnyH_take (i := 5) (oi := ⟨some 66, _, _, _, _, none⟩) (v := ?v98) rfl (by kernel_rfl) (by kernel_rfl) (by kernel_rfl) (fun _ _ _ h => h) (Or.inl ⟨by rfl, ?hy98⟩) (by with_reducible assumption) ?rest98
              case hy98 => (intro V_ hSw; (try dsimp only at hSw); go_simp; (try with_reducible rfl))
              case' rest98 => skip
              try simp only [Act.put, List.setIfInBounds_toArray, List.set_cons_zero, List.set_cons_succ]
              refine wpAnyH_take (i := 6) (oi := ⟨some 72, _, _, _, _, none⟩) (v := ?v99) rfl (by kernel_rfl) (by kernel_rfl) (by kernel_rfl) (fun _ _ _ h => h) (Or.inl ⟨by rfl, ?hy99⟩) (by with_reducible assumption) ?rest99
              case hy99 => (intro V_ hSw; (try dsimp only at hSw); go_simp; (try with_reducible rfl))
              case' rest99 => skip
              try simp only [Act.put, List.setIfInBounds_toArray, List.set_cons_zero, List.set_cons_succ]
              refine wpAnyH_take (i := 7) (oi := ⟨some 73, _, _, _, _, none⟩) (v := ?v100) rfl (by kernel_rfl) (by kernel_rfl) (by kernel_rfl) (fun _ _ _ h => h) (Or.inl ⟨by rfl, ?hy100⟩) (by with_reducible assumption) ?rest100
              case hy100 => (intro V_ hSw; (try dsimp only at hSw); go_simp; (try with_reducible rfl))
              case' rest100 => skip
              try simp only [Act.put, List.setIfInBounds_toArray, List.set_cons_zero, List.set_cons_succ]
              refine wpAnyH_ready (rs := [9]) (by kernel_rfl) (by simp) ?_
              refine AllReadyH.cons (o := ⟨none, _, _, _, _, none⟩) rfl (fun K hK => ?_) ?_
              · obtain ⟨z0, z1, z2, z3, z4, z5, z6, z7, z8, z9⟩ := cells10 Sa3.out.bx0
                obtain ⟨fz0, fz1, fz2, fz3, fz4, fz5, fz6, fz7, fz8, fz9⟩ := frozen10 Sa3.out.bx0
                go_simp
                clear z0 z1 z2 z3 z4 z5 z6 z7 z8 z9 fz0 fz1 fz2 fz3 fz4 fz5 fz6 fz7 fz8 fz9
                have S_ := Aside0.mk (Sa3.out.ten0 (.int .i64 7) (.int .i64 0) (.int .i64 2) (.int .i64 5) (.string ⟨#[97]⟩) (.int .i64 10) (.int .i64 0) (.int .i64 20) (.int .i64 0) (.slice Ak_ 1 ck_) (by decide))
                refine hK.out _ _ S_.out.bx1 (fun hHeld => ?_)
                clear hK K
                try simp only [Act.put, List.setIfInBounds_toArray, List.set_cons_zero, List.set_cons_succ]
                refine wpAnyH_take (i := 10) (oi := ⟨some 14, _, _, _, _, none⟩) (v := ?v101) rfl (by kernel_rfl) (by kernel_rfl) (by kernel_rfl) (fun _ _ _ h => h) (Or.inl ⟨by rfl, ?hy101⟩) (by with_reducible assumption) ?rest101
                case hy101 => (intro V_ hSw; (try dsimp only at hSw); go_simp; (try with_reducible rfl))
                case' rest101 => skip
                try simp only [Act.put, List.setIfInBounds_toArray, List.set_cons_zero, List.set_cons_succ]
                refine wpAnyH_done (by kernel_rfl) ?_ _
                refine NoPanic.normal ?_
                go_wp2_with fail
                go_meet
                case rel => exact ⟨_, rfl, rfl, ⟨S_.out.sub (.cons _ (List.Sublist.refl _)) (fun r q => q)⟩⟩
              exact AllReadyH.nil
            exact AllReadyH.nil
          exact AllReadyH.nil
        exact AllReadyH.nil
      exact AllReadyH.nil
    exact AllReadyH.nil
  case rest =>
  obtain ⟨bk_, rfl, rfl, S14⟩ := hcut
  rename World => w14
  clear S13
  go_upto_region 8 with fail
  go_cut [15, 16] (fun v_ e_ wc => ∃ (Ax : Option Addr) (cx bx : Nat), v_ = .pointer (some ⟨bx, 0, none⟩) ∧ e_ = .int .i64 0 ∧ Aside0 (Mem w wc [(bx, #[.int .i64 7, .int .i64 0, .int .i64 3, .int .i64 5, .string ⟨#[97]⟩, .int .i64 10, .int .i64 0, .int .i64 20, .int .i64 0, .slice Ax 0 cx], 27), (bs, #[.int .i64 7, .int .i64 0, .int .i64 2, .int .i64 5, .string ⟨#[97]⟩, .int .i64 10, .int .i64 0, .int .i64 20, .int .i64 0, .slice As 1 cs], 27), (bd, #[.int .i64 7, .int .i64 0, .int .i64 4, .int .i64 5, .string ⟨#[97]⟩, .int .i64 10, .int .i64 0, .int .i64 20, .int .i64 0, .slice Ad 0 cd], 27), (bc, #[.int .i64 7, .int .i64 0, .int .i64 1, .int .i64 5, .string ⟨#[97]⟩, .int .i64 30, .int .i64 1, .int .i64 20, .int .i64 0, .slice Ac 0 cc], 27), (bb, #[.int .i64 7, .int .i64 0, .int .i64 1, .int .i64 5, .string ⟨#[97]⟩, .int .i64 30, .int .i64 1, .int .i64 20, .int .i64 0, .slice Ab 0 cb], 27), (ba, #[.int .i64 7, .int .i64 0, .int .i64 1, .int .i64 5, .string ⟨#[97]⟩, .int .i64 10, .int .i64 0, .int .i64 20, .int .i64 0, .slice Aa 0 ca], 27)] [(As, cs, [(⟨⟨#[98]⟩, 2⟩ : S44)])]))
  case first =>
    obtain ⟨s0, s1, s2, s3, s4, s5, s6, s7, s8, s9⟩ := cells10 S14.out.bx0
    go_wp2_with fail
    refine (show Calls _ _ _ _ (recPost 7 0 3 5 ⟨#[97]⟩ 10 0 20 0 [] 0 _) from record_Recover.calls 40 7 0 2 5 ⟨#[97]⟩ 10 0 20 0 As cs [(⟨⟨#[98]⟩, 2⟩ : S44)] true 7 0 2 5 ⟨#[97]⟩ 10 0 20 0 As cs [(⟨⟨#[98]⟩, 2⟩ : S44)] true 7 0 3 5 ⟨#[97]⟩ 10 0 20 0 [] 0 _ (S14.out.rd (.head _)).1 (S14.out.rd (.head _)).2 (S14.out.rd (.head _)).1 (S14.out.rd (.head _)).2 (by kernel_rfl)).mono ?_
    rintro e w15 ⟨vx, rfl, hR, hb⟩
    obtain ⟨Ax, cx, rfl⟩ := Kd.R_slice hR
    have S15 := Aside0.mk (S14.out.step hb)
    clear hb hR s0 s1 s2 s3 s4 s5 s6 s7 s8 s9 S14
    go_wp2_with fail
    have hMA := S15.out.alloc #[.int .i64 7, .int .i64 0, .int .i64 3, .int .i64 5, .string ⟨#[97]⟩, .int .i64 10, .int .i64 0, .int .i64 20, .int .i64 0, .slice Ax 0 cx] 27
    generalize hwa : World.alloc w15 _ = w16 at hMA ⊢
    have S16 := Aside0.mk hMA
    clear hwa hMA S15
    generalize w15.heap.size = bx at S16 ⊢
    go_wp2_with fail
    go_meet
    case rel => exact ⟨_, _, _, rfl, rfl, S16⟩
  case rest =>
  obtain ⟨Ax, cx, bx, rfl, rfl, S17⟩ := hcut
  rename World => w17
  clear S14
  exact (by assumption : ∀ (a : Act) (w : World), Code.wp Try.prog (tailC 9 Try.f11.body) _ a w → _) _ _ (awake_t9 w w17 ba Aa ca bb Ab cb bc Ac cc bd Ad cd bs As cs bx Ax cx _ _ _ _ _ _ _ _ _ _ _ _ _ _ _ _ _ _ _ _ _ _ _ _ _ _ _ _ _ _ _ _ _ _ _ _ _ _ _ _ _ _ _ _ _ _ _ _ _ _ _ _ _ _ _ _ _ _ _ _ _ _ _ _ _ _ _ _ _ _ _ _ _ _ _ _ _ _ _ _ _ _ _ _ _ _ _ _ _ _ _ _ _ _ _ _ _ _ _ _ _ _ _ _ _ _ _ _ _ _ _ _ _ _ _ _ _ _ _ _ _ _ _ _ _ _ _ _ _ _ _ _ _ _ _ _ _ _ _ _ _ _ _ _ _ _ _ _ _ _ _ _ _ _ S17)
end Go.Proofs.Ythdmkacnkdmbiaa.PRecordStaged
