/- TideKnown: both ends, what is refused, what is forgotten, tides that are none: the walk (typed by hand). -/
import Derived.Test.YtaccfbpfennjkaaTd8
namespace Go.Proofs.Ytaccfbpfennjkaa.PTideDoes
open Go.RowKit Go.Proofs.YtaccfbpfennjkaaW.PrintWords Go.Proofs.YtaccfbpfennjkaaW.PrintLast Go.Proofs.YtaccfbpfennjkaaW.PrintMore
attribute [local go_sem] max2_int min2_int max_two min_two max_three min_three max_four min_four   -- for this text's walks alone
set_option linter.unusedVariables false
set_option linter.unusedSimpArgs false
/-- No tide: a nil pointer, or one that New has not made. -/
def NoTd (p : Option Addr) (W : World) : Prop := p = none ∨ ∃ g, p = some ⟨g, 0, none⟩ ∧ W.heap[g]? = some (.cells #[.bool false, .int .i64 0, .int .i64 0, .slice none 0 0] 58 (0, 0))
theorem NoTd.below {p : Option Addr} {W W' : World} (h : NoTd p W) (hb : Below W.heap.size W W') : NoTd p W' := by
  rcases h with h | ⟨g, h1, h2⟩
  · exact .inl h
  · exact .inr ⟨g, h1, td_kept h2 hb⟩
set_option maxHeartbeats 16000000 in
set_option maxRecDepth 100000 in
theorem nt_none (p : Option Addr) (W : World) (h : NoTd p W) : Calls Try.prog 31 #[.pointer p] W fun e w' => e = .returned (.bool true) ∧ Below W.heap.size W w' := by
  rcases h with h | h
  · subst h
    go_enter Try.func31, Try.ntmps31
    go_wp2
    go_ret
    exact ⟨rfl, Below.refl _ _⟩
  · obtain ⟨g, rfl, h2⟩ := h
    have h6 : W.cell? ⟨g, 0, none⟩ = some (.bool false) := (blk_cell h2 0).trans rfl
    clear h2
    go_enter Try.func31, Try.ntmps31
    go_wp2
    go_ret
    exact ⟨rfl, Below.refl _ _⟩
set_option maxHeartbeats 16000000 in
set_option maxRecDepth 100000 in
theorem nt_len (p : Option Addr) (W : World) (h : NoTd p W) : Calls Try.prog 12 #[.pointer p] W fun e w' => e = .returned (.int .i64 0) ∧ Below W.heap.size W w' := by
  have HL := Aside0.mk h
  clear h
  go_enter Try.func12, Try.ntmps12
  go_upto_region 1 with fail
  obtain ⟨w1, hw1⟩ : ∃ w1, W = w1 := ⟨_, rfl⟩
  have HB := Aside0.mk (show Below W.heap.size W w1 from by rw [← hw1]; exact Below.refl _ _)
  have HLW := Aside0.mk (show NoTd p w1 from hw1 ▸ HL.out)
  have e_ := hw1
  clear HL
  have HL := HLW
  have HS := Aside0.mk (congrArg (fun w => w.heap.size) e_)
  first | rw [e_] | skip
  clear e_ hw1 HLW
  go_wp2_with fail
  refine (nt_none p w1 HL.out).mono ?_
  rintro e w2 ⟨rfl, hb⟩
  have HB2 := Aside0.mk (below_step HB.out hb)
  clear hb HB
  go_wp2_with fail
  go_ret
  exact ⟨rfl, HB2.out⟩
set_option maxHeartbeats 16000000 in
set_option maxRecDepth 100000 in
theorem nt_low (p : Option Addr) (W : World) (h : NoTd p W) : Calls Try.prog 23 #[.pointer p] W fun e w' => e = .returned (.agg #[.int .i64 0, .int .i64 0]) ∧ Below W.heap.size W w' := by
  have HL := Aside0.mk h
  clear h
  go_enter Try.func23, Try.ntmps23
  go_upto_region 1 with fail
  generalize hw1 : World.alloc W _ = w1
  have HB := Aside0.mk (show Below W.heap.size W w1 from by rw [← hw1]; exact td_alloc W _)
  have HZ := Aside0.mk (show w1.heap[W.heap.size]? = some (.cells #[.int .i64 0, .int .i64 0] 31 (0, 0)) from by rw [← hw1]; exact blk_new _ _)
  clear hw1
  go_wp2_with fail
  refine (nt_none p w1 (HL.out.below HB.out)).mono ?_
  rintro e w2 ⟨rfl, hb⟩
  have HB2 := Aside0.mk (below_step HB.out hb)
  have HZ2 := Aside0.mk (td_kept HZ.out hb)
  clear hb HB HZ
  obtain ⟨n, hn⟩ : ∃ n, W.heap.size = n := ⟨_, rfl⟩
  rw [hn] at HZ2 ⊢
  have HN := Aside0.mk hn
  clear hn
  have z0 : w2.cell? ⟨n, 0, none⟩ = some (.int .i64 0) := (blk_cell HZ2.out 0).trans rfl
  have z1 : w2.cell? ⟨n, 1, none⟩ = some (.int .i64 0) := (blk_cell HZ2.out 1).trans rfl
  have f0 := blk_frozen HZ2.out 0
  have f1 := blk_frozen HZ2.out 1
  go_wp2_with fail
  have HGE := Aside0.mk (show W.heap.size ≤ n from by have := HN.out; omega)
  refine bodyPost_ret (results_cell_row rfl _ _ n 31 #[.int .i64 0, .int .i64 0] (0, 0) _ rfl (blk_put (cs := #[.int .i64 0, .int .i64 0]) (blk_put (cs := #[.int .i64 0, .int .i64 0]) HZ2.out 0 _ rfl) 1 _ rfl) Try.underlying31 rfl (by kernel_rfl)) rfl ?_
  exact ⟨rfl, Below.setCell (Below.setCell HB2.out (p := ⟨n, 0, none⟩) HGE.out _) (p := ⟨n, 1, none⟩) HGE.out _⟩
set_option maxHeartbeats 16000000 in
set_option maxRecDepth 100000 in
theorem nt_max (p : Option Addr) (a b : ByteArray) (o : Int) (W : World) (h : NoTd p W) : Calls Try.prog 14 #[.pointer p, .agg #[.string a, .string b], .int .i64 o] W fun e w' => e = .returned (.tuple #[.agg #[.int .i64 0, .int .i64 0], .int .i64 1]) ∧ Below W.heap.size W w' := by
  have HL := Aside0.mk h
  clear h
  go_enter Try.func14, Try.ntmps14
  go_upto_region 1 with fail
  generalize hw1 : World.alloc (World.alloc W _) _ = w1
  have HB := Aside0.mk (show Below W.heap.size W w1 from by rw [← hw1]; exact below_alloc (td_alloc W _) _)
  have HZ := Aside0.mk (show w1.heap[W.heap.size + 1]? = some (.cells #[.int .i64 0, .int .i64 0] 31 (0, 0)) from by
    have h := blk_new (W.alloc (.cells #[.string a, .string b] 24)) (.cells #[.int .i64 0, .int .i64 0] 31)
    rw [show (W.alloc (.cells #[.string a, .string b] 24)).heap.size = W.heap.size + 1 from Array.size_push _, hw1] at h
    exact h)
  clear hw1
  go_wp2_with fail
  refine (nt_none p w1 (HL.out.below HB.out)).mono ?_
  rintro e w2 ⟨rfl, hb⟩
  have HB2 := Aside0.mk (below_step HB.out hb)
  have HZ2 := Aside0.mk (td_kept HZ.out hb)
  clear hb HB HZ
  obtain ⟨n, hn⟩ : ∃ n, W.heap.size + 1 = n := ⟨_, rfl⟩
  rw [hn] at HZ2 ⊢
  have HN := Aside0.mk hn
  clear hn
  have z0 : w2.cell? ⟨n, 0, none⟩ = some (.int .i64 0) := (blk_cell HZ2.out 0).trans rfl
  have z1 : w2.cell? ⟨n, 1, none⟩ = some (.int .i64 0) := (blk_cell HZ2.out 1).trans rfl
  have f0 := blk_frozen HZ2.out 0
  have f1 := blk_frozen HZ2.out 1
  go_wp2_with fail
  have HGE := Aside0.mk (show W.heap.size ≤ n from by have := HN.out; omega)
  refine bodyPost_ret (results_ct rfl _ _ n 31 #[.int .i64 0, .int .i64 0] (0, 0) _ rfl (blk_put (cs := #[.int .i64 0, .int .i64 0]) (blk_put (cs := #[.int .i64 0, .int .i64 0]) HZ2.out 0 _ rfl) 1 _ rfl) Try.underlying31 rfl (by kernel_rfl)) rfl ?_
  exact ⟨rfl, Below.setCell (Below.setCell HB2.out (p := ⟨n, 0, none⟩) HGE.out _) (p := ⟨n, 1, none⟩) HGE.out _⟩
set_option maxHeartbeats 16000000 in
set_option maxRecDepth 100000 in
theorem nt_add (p : Option Addr) (a b : ByteArray) (u v o : Int) (W : World) (h : NoTd p W) : Calls Try.prog 11 #[.pointer p, .agg #[.string a, .string b], .agg #[.int .i64 u, .int .i64 v], .int .i64 o] W fun e w' => e = .returned (.int .i64 1) ∧ Below W.heap.size W w' := by
  have HL := Aside0.mk h
  clear h
  go_enter Try.func11, Try.ntmps11
  go_upto_region 1 with fail
  generalize hw1 : World.alloc (World.alloc (World.alloc W _) _) _ = w1
  have HB := Aside0.mk (show Below W.heap.size W w1 from by rw [← hw1]; exact below_alloc (below_alloc (td_alloc W _) _) _)
  clear hw1
  go_wp2_with fail
  refine (nt_none p w1 (HL.out.below HB.out)).mono ?_
  rintro e w2 ⟨rfl, hb⟩
  have HB2 := Aside0.mk (below_step HB.out hb)
  clear hb HB
  go_wp2_with fail
  go_ret
  exact ⟨rfl, HB2.out⟩
set_option maxHeartbeats 16000000 in
set_option maxRecDepth 100000 in
theorem nt_raise (p : Option Addr) (u v : Int) (W : World) (h : NoTd p W) : Calls Try.prog 19 #[.pointer p, .agg #[.int .i64 u, .int .i64 v]] W fun e w' => e = .returned (.int .i64 1) ∧ Below W.heap.size W w' := by
  have HL := Aside0.mk h
  clear h
  go_enter Try.func19, Try.ntmps19
  go_upto_region 1 with fail
  generalize hw1 : World.alloc W _ = w1
  have HB := Aside0.mk (show Below W.heap.size W w1 from by rw [← hw1]; exact td_alloc W _)
  clear hw1
  go_wp2_with fail
  refine (nt_none p w1 (HL.out.below HB.out)).mono ?_
  rintro e w2 ⟨rfl, hb⟩
  have HB2 := Aside0.mk (below_step HB.out hb)
  clear hb HB
  go_wp2_with fail
  go_ret
  exact ⟨rfl, HB2.out⟩
def kT0 : Td S24 := ⟨(5, 0), []⟩
def kL : Nat → Td S24
  | 0 => kT0
  | i + 1 => (kL i).add (⟨⟨#[107]⟩, ⟨#[108]⟩⟩ : S24) (10, (i : Int) + 1) ((i : Int) + 1)
theorem kL_len : ∀ i, (kL i).l.length ≤ 64
  | 0 => Nat.zero_le _
  | i + 1 => add_len _ (kL_len i) _ _ _
theorem kL_err (i : Nat) (hi : i < 64) : addErr (⟨⟨#[107]⟩, ⟨#[108]⟩⟩ : S24) (10, (i : Int) + 1) ((i : Int) + 1) = 0 := by
  unfold addErr
  have h0 : spErr (⟨⟨#[107]⟩, ⟨#[108]⟩⟩ : S24) = 0 := by kernel_rfl
  have h1 : sok (10, (i : Int) + 1) = true := decide_eq_true ⟨by show (0 : Int) ≤ 10; omega, by show (10 : Int) ≤ 1099511627776; omega, by show (0 : Int) ≤ (i : Int) + 1; omega, by show (i : Int) + 1 ≤ 1048575; omega⟩
  have h2 : own ((i : Int) + 1) = true := decide_eq_true ⟨by omega, by omega⟩
  rw [if_neg (by rw [h0]; decide), if_pos ⟨h1, h2⟩]
def kM : Td S24 := kL 64
def kA : Td S24 := kM.add (⟨⟨#[107]⟩, ⟨#[108]⟩⟩ : S24) (10, 65) 65
def kB : Td S24 := kA.add (⟨⟨#[107]⟩, ⟨#[108]⟩⟩ : S24) (10, 2) 66
def kC : Td S24 := kB.add (⟨⟨#[97]⟩, ⟨#[98]⟩⟩ : S24) (99, 0) 9007199254740991
def kD : Td S24 := kC.raise (1, 0)
def kE : Td S24 := kD.add (⟨⟨#[97]⟩, ⟨#[98]⟩⟩ : S24) (200, 0) 0
theorem kf0 : (kM.l.length : Int) = 64 := by kernel_rfl
theorem kf1 : kM.low.1 = 5 := by kernel_rfl
theorem kf2 : kM.low.2 = 0 := by kernel_rfl
theorem kf3 : addErr (⟨⟨#[107]⟩, ⟨#[108]⟩⟩ : S24) (10, 65) 65 = 0 := by kernel_rfl
theorem kf4 : decide (kM.l.length ≤ 64) = true := by kernel_rfl
theorem kf5 : (kA.l.length : Int) = 64 := by kernel_rfl
theorem kf6 : kA.low.1 = 10 := by kernel_rfl
theorem kf7 : kA.low.2 = 1 := by kernel_rfl
theorem kf8 : tellsF kA (⟨⟨#[97]⟩, ⟨#[98]⟩⟩ : S24) 0 (10, 1) = true := by kernel_rfl
theorem kf9 : tellsF kA (⟨⟨#[107]⟩, ⟨#[108]⟩⟩ : S24) 65 (10, 64) = true := by kernel_rfl
theorem kf10 : addErr (⟨⟨#[107]⟩, ⟨#[108]⟩⟩ : S24) (10, 2) 66 = 0 := by kernel_rfl
theorem kf11 : decide (kA.l.length ≤ 64) = true := by kernel_rfl
theorem kf12 : (kB.l.length : Int) = 63 := by kernel_rfl
theorem kf13 : kB.low.1 = 10 := by kernel_rfl
theorem kf14 : kB.low.2 = 2 := by kernel_rfl
theorem kf15 : addErr (⟨⟨#[98]⟩, ⟨#[97]⟩⟩ : S24) (99, 0) 1 = 2 := by kernel_rfl
theorem kf16 : decide (kB.l.length ≤ 64) = true := by kernel_rfl
theorem kf17 : addErr (⟨⟨#[97]⟩, ⟨#[98]⟩⟩ : S24) (99, -1) 1 = 2 := by kernel_rfl
theorem kf18 : decide (kB.l.length ≤ 64) = true := by kernel_rfl
theorem kf19 : addErr (⟨⟨#[97]⟩, ⟨#[98]⟩⟩ : S24) (99, 0) (-1) = 2 := by kernel_rfl
theorem kf20 : decide (kB.l.length ≤ 64) = true := by kernel_rfl
theorem kf21 : addErr (⟨⟨#[97]⟩, ⟨#[98]⟩⟩ : S24) (99, 0) 9007199254740992 = 2 := by kernel_rfl
theorem kf22 : decide (kB.l.length ≤ 64) = true := by kernel_rfl
theorem kf23 : addErr (⟨⟨#[97]⟩, ⟨#[98]⟩⟩ : S24) (99, 0) 9007199254740991 = 0 := by kernel_rfl
theorem kf24 : decide (kB.l.length ≤ 64) = true := by kernel_rfl
theorem kf25 : kC.maxF (⟨⟨#[]⟩, ⟨#[]⟩⟩ : S24) 0 = ((0, 0), 2) := by kernel_rfl
theorem kf26 : kC.maxF (⟨⟨#[97]⟩, ⟨#[98]⟩⟩ : S24) (-1) = ((0, 0), 2) := by kernel_rfl
theorem kf27 : kC.maxF (⟨⟨#[97]⟩, ⟨#[98]⟩⟩ : S24) 9007199254740992 = ((0, 0), 2) := by kernel_rfl
theorem kf28 : sok (1099511627777, 0) = false := by kernel_rfl
theorem kf29 : sok (1, 0) = true := by kernel_rfl
theorem kf30 : kD.low.1 = 10 := by kernel_rfl
theorem kf31 : kD.low.2 = 2 := by kernel_rfl
theorem kf32 : addErr (⟨⟨#[97]⟩, ⟨#[98]⟩⟩ : S24) (200, 0) 0 = 0 := by kernel_rfl
theorem kf33 : decide (kD.l.length ≤ 64) = true := by kernel_rfl
theorem kf34 : tellsF kE (⟨⟨#[97]⟩, ⟨#[98]⟩⟩ : S24) 1 (200, 0) = true := by kernel_rfl
theorem kf35 : tellsF kE (⟨⟨#[97]⟩, ⟨#[98]⟩⟩ : S24) 0 (200, 0) = true := by kernel_rfl
set_option maxHeartbeats 16000000 in
set_option maxRecDepth 100000 in
theorem kk_walk (w : World) : Calls Try.prog 8 #[] w fun e w' => e = .returned (.bool true) ∧ Below w.heap.size w w' := by
  go_enter Try.func8, Try.ntmps8
  go_wp2_with fail
  refine (scriptoriumlaw17_at.calls 5 0 5 0 _ rfl).mono ?_
  rintro e wn ⟨rfl, hb⟩
  have HB := Aside0.mk hb
  clear hb
  go_wp2_with fail
  refine (td_new (5, 0) _ (by kernel_rfl)).mono ?_
  rintro e w_ ⟨g, rfl, hT⟩
  have HT := Aside0.mk (show TdAt wn w_ g kT0 from hT)
  clear hT
  go_wp2_with fail
  refine (scriptoriumlaw17_at.calls (-1) 0 (-1) 0 _ rfl).mono ?_
  rintro e w_ ⟨rfl, hb⟩
  have HT_ := Aside0.mk (HT.out.step hb)
  clear HT hb
  have HT := Aside0.mk HT_.out
  clear HT_
  go_wp2_with fail
  refine (td_newbad (-1, 0) _ (by kernel_rfl)).mono ?_
  rintro e w_ ⟨rfl, hb⟩
  have HT_ := Aside0.mk (HT.out.step hb)
  clear HT hb
  have HT := Aside0.mk HT_.out
  clear HT_
  go_wp2_with fail
  go_loopg [5] 65 (fun kq v wr => ∃ (i : Nat), v = .int .i64 ((i : Int) + 1) ∧ Aside0 (i + kq = 65) ∧ Aside0 (i ≤ 64) ∧ Aside0 (TdAt wn wr g (kL i)))
  case atStart => exact ⟨0, rfl, ⟨rfl⟩, ⟨by omega⟩, HT⟩
  case round =>
    clear HT
    obtain ⟨i, rfl, HK, HI, HT⟩ := hrel
    by_cases h1 : i < 64
    case pos =>
      have d1 : decide ((i : Int) + 1 ≤ 64) = true := decide_eq_true (by omega)
      have d2 : decide ((i : Int) < 64) = true := decide_eq_true (by omega)
      have d3 : decide (i < 64) = true := decide_eq_true h1
      have HH := Aside0.mk h1
      have hwi : Go.RowKit.wrap64 ((i : Int) + 1 + 1) = (((i + 1 : Nat) : Int) + 1) := by
        unfold Go.RowKit.wrap64
        omega
      have HWI := Aside0.mk hwi
      have HWI2 := Aside0.mk ((i64_w ((i : Int) + 1 + 1)).trans hwi)
      clear h1 hwi
      go_wp2_with fail
      refine (scriptoriumlaw17_sp.calls ⟨#[107]⟩ ⟨#[108]⟩ ⟨#[107]⟩ ⟨#[108]⟩ _ rfl).mono ?_
      rintro e w_ ⟨rfl, hb⟩
      have HT_ := Aside0.mk (HT.out.step hb)
      clear HT hb
      have HT := Aside0.mk HT_.out
      clear HT_
      go_wp2_with fail
      refine (scriptoriumlaw17_at.calls 10 ((i : Int) + 1) 10 ((i : Int) + 1) _ rfl).mono ?_
      rintro e w_ ⟨rfl, hb⟩
      have HT_ := Aside0.mk (HT.out.step hb)
      clear HT hb
      have HT := Aside0.mk HT_.out
      clear HT_
      go_wp2_with fail
      refine (td_add_ok wn _ g (kL i) (⟨⟨#[107]⟩, ⟨#[108]⟩⟩ : S24) (10, (i : Int) + 1) ((i : Int) + 1) HT.out (kL_len i) (kL_err i HH.out)).mono ?_
      rintro e w_ ⟨rfl, hT, _⟩
      clear HT
      have HT := Aside0.mk (show TdAt wn w_ g (kL (i + 1)) from hT)
      clear hT
      go_wp2_with fail
      go_roundg (64 - i)
      case measure => have h1 := HK.out; have h2 := HH.out; omega
      case rel => exact ⟨i + 1, congrArg (Value.int .i64) (by first | exact HWI.out | exact HWI2.out | rfl | omega), ⟨by have h1 := HK.out; have h2 := HH.out; omega⟩, ⟨by have h2 := HH.out; omega⟩, HT⟩
    case neg =>
      have ei : i = 64 := by have := HI.out; omega
      subst ei
      have HT_ := Aside0.mk (show TdAt wn wr g kM from HT.out)
      clear HT h1 HK HI
      have HT := HT_
      clear HT_
      go_wp2_with fail
      refine (td_len wn _ g kM HT.out).mono ?_
      rintro e w_ ⟨rfl, hb⟩
      rw [kf0]
      have HT_ := Aside0.mk (HT.out.step hb)
      clear HT hb
      have HT := Aside0.mk HT_.out
      clear HT_
      go_wp2_with fail
      refine (td_low wn _ g kM HT.out).mono ?_
      rintro e w_ ⟨rfl, hb⟩
      rw [kf1, kf2]
      have HT_ := Aside0.mk (HT.out.step hb)
      clear HT hb
      have HT := Aside0.mk HT_.out
      clear HT_
      go_wp2_with fail
      refine (scriptoriumlaw17_at.calls 5 0 5 0 _ rfl).mono ?_
      rintro e w_ ⟨rfl, hb⟩
      have HT_ := Aside0.mk (HT.out.step hb)
      clear HT hb
      have HT := Aside0.mk HT_.out
      clear HT_
      go_wp2_with fail
      refine (scriptoriumlaw17_sp.calls ⟨#[107]⟩ ⟨#[108]⟩ ⟨#[107]⟩ ⟨#[108]⟩ _ rfl).mono ?_
      rintro e w_ ⟨rfl, hb⟩
      have HT_ := Aside0.mk (HT.out.step hb)
      clear HT hb
      have HT := Aside0.mk HT_.out
      clear HT_
      go_wp2_with fail
      refine (scriptoriumlaw17_at.calls 10 65 10 65 _ rfl).mono ?_
      rintro e w_ ⟨rfl, hb⟩
      have HT_ := Aside0.mk (HT.out.step hb)
      clear HT hb
      have HT := Aside0.mk HT_.out
      clear HT_
      go_wp2_with fail
      refine (td_add_ok wn _ g kM (⟨⟨#[107]⟩, ⟨#[108]⟩⟩ : S24) (10, 65) 65 HT.out (of_decide_eq_true kf4) kf3).mono ?_
      rintro e w_ ⟨rfl, hT, _⟩
      clear HT
      have HT := Aside0.mk (show TdAt wn w_ g kA from hT)
      clear hT
      go_wp2_with fail
      refine (td_len wn _ g kA HT.out).mono ?_
      rintro e w_ ⟨rfl, hb⟩
      rw [kf5]
      have HT_ := Aside0.mk (HT.out.step hb)
      clear HT hb
      have HT := Aside0.mk HT_.out
      clear HT_
      go_wp2_with fail
      refine (td_low wn _ g kA HT.out).mono ?_
      rintro e w_ ⟨rfl, hb⟩
      rw [kf6, kf7]
      have HT_ := Aside0.mk (HT.out.step hb)
      clear HT hb
      have HT := Aside0.mk HT_.out
      clear HT_
      go_wp2_with fail
      refine (scriptoriumlaw17_at.calls 10 1 10 1 _ rfl).mono ?_
      rintro e w_ ⟨rfl, hb⟩
      have HT_ := Aside0.mk (HT.out.step hb)
      clear HT hb
      have HT := Aside0.mk HT_.out
      clear HT_
      go_wp2_with fail
      refine (scriptoriumlaw17_sp.calls ⟨#[97]⟩ ⟨#[98]⟩ ⟨#[97]⟩ ⟨#[98]⟩ _ rfl).mono ?_
      rintro e w_ ⟨rfl, hb⟩
      have HT_ := Aside0.mk (HT.out.step hb)
      clear HT hb
      have HT := Aside0.mk HT_.out
      clear HT_
      go_wp2_with fail
      refine (scriptoriumlaw17_at.calls 10 1 10 1 _ rfl).mono ?_
      rintro e w_ ⟨rfl, hb⟩
      have HT_ := Aside0.mk (HT.out.step hb)
      clear HT hb
      have HT := Aside0.mk HT_.out
      clear HT_
      go_wp2_with fail
      refine (td_tells wn _ g kA (⟨⟨#[97]⟩, ⟨#[98]⟩⟩ : S24) 0 (10, 1) HT.out).mono ?_
      rintro e w_ ⟨rfl, hb⟩
      rw [kf8]
      have HT_ := Aside0.mk (HT.out.step hb)
      clear HT hb
      have HT := Aside0.mk HT_.out
      clear HT_
      go_wp2_with fail
      refine (scriptoriumlaw17_sp.calls ⟨#[107]⟩ ⟨#[108]⟩ ⟨#[107]⟩ ⟨#[108]⟩ _ rfl).mono ?_
      rintro e w_ ⟨rfl, hb⟩
      have HT_ := Aside0.mk (HT.out.step hb)
      clear HT hb
      have HT := Aside0.mk HT_.out
      clear HT_
      go_wp2_with fail
      refine (scriptoriumlaw17_at.calls 10 64 10 64 _ rfl).mono ?_
      rintro e w_ ⟨rfl, hb⟩
      have HT_ := Aside0.mk (HT.out.step hb)
      clear HT hb
      have HT := Aside0.mk HT_.out
      clear HT_
      go_wp2_with fail
      refine (td_tells wn _ g kA (⟨⟨#[107]⟩, ⟨#[108]⟩⟩ : S24) 65 (10, 64) HT.out).mono ?_
      rintro e w_ ⟨rfl, hb⟩
      rw [kf9]
      have HT_ := Aside0.mk (HT.out.step hb)
      clear HT hb
      have HT := Aside0.mk HT_.out
      clear HT_
      go_wp2_with fail
      refine (scriptoriumlaw17_sp.calls ⟨#[107]⟩ ⟨#[108]⟩ ⟨#[107]⟩ ⟨#[108]⟩ _ rfl).mono ?_
      rintro e w_ ⟨rfl, hb⟩
      have HT_ := Aside0.mk (HT.out.step hb)
      clear HT hb
      have HT := Aside0.mk HT_.out
      clear HT_
      go_wp2_with fail
      refine (scriptoriumlaw17_at.calls 10 2 10 2 _ rfl).mono ?_
      rintro e w_ ⟨rfl, hb⟩
      have HT_ := Aside0.mk (HT.out.step hb)
      clear HT hb
      have HT := Aside0.mk HT_.out
      clear HT_
      go_wp2_with fail
      refine (td_add_ok wn _ g kA (⟨⟨#[107]⟩, ⟨#[108]⟩⟩ : S24) (10, 2) 66 HT.out (of_decide_eq_true kf11) kf10).mono ?_
      rintro e w_ ⟨rfl, hT, _⟩
      clear HT
      have HT := Aside0.mk (show TdAt wn w_ g kB from hT)
      clear hT
      go_wp2_with fail
      refine (td_len wn _ g kB HT.out).mono ?_
      rintro e w_ ⟨rfl, hb⟩
      rw [kf12]
      have HT_ := Aside0.mk (HT.out.step hb)
      clear HT hb
      have HT := Aside0.mk HT_.out
      clear HT_
      go_wp2_with fail
      refine (td_low wn _ g kB HT.out).mono ?_
      rintro e w_ ⟨rfl, hb⟩
      rw [kf13, kf14]
      have HT_ := Aside0.mk (HT.out.step hb)
      clear HT hb
      have HT := Aside0.mk HT_.out
      clear HT_
      go_wp2_with fail
      refine (scriptoriumlaw17_at.calls 10 2 10 2 _ rfl).mono ?_
      rintro e w_ ⟨rfl, hb⟩
      have HT_ := Aside0.mk (HT.out.step hb)
      clear HT hb
      have HT := Aside0.mk HT_.out
      clear HT_
      go_wp2_with fail
      refine (scriptoriumlaw17_sp.calls ⟨#[98]⟩ ⟨#[97]⟩ ⟨#[98]⟩ ⟨#[97]⟩ _ rfl).mono ?_
      rintro e w_ ⟨rfl, hb⟩
      have HT_ := Aside0.mk (HT.out.step hb)
      clear HT hb
      have HT := Aside0.mk HT_.out
      clear HT_
      go_wp2_with fail
      refine (scriptoriumlaw17_at.calls 99 0 99 0 _ rfl).mono ?_
      rintro e w_ ⟨rfl, hb⟩
      have HT_ := Aside0.mk (HT.out.step hb)
      clear HT hb
      have HT := Aside0.mk HT_.out
      clear HT_
      go_wp2_with fail
      refine (td_add wn _ g kB (⟨⟨#[98]⟩, ⟨#[97]⟩⟩ : S24) (99, 0) 1 HT.out (of_decide_eq_true kf16)).mono ?_
      rintro e w_ ⟨rfl, hT, _⟩
      rw [kf15]
      rw [kf15, if_neg (by decide)] at hT
      clear HT
      have HT := Aside0.mk hT
      clear hT
      go_wp2_with fail
      refine (scriptoriumlaw17_sp.calls ⟨#[97]⟩ ⟨#[98]⟩ ⟨#[97]⟩ ⟨#[98]⟩ _ rfl).mono ?_
      rintro e w_ ⟨rfl, hb⟩
      have HT_ := Aside0.mk (HT.out.step hb)
      clear HT hb
      have HT := Aside0.mk HT_.out
      clear HT_
      go_wp2_with fail
      refine (scriptoriumlaw17_at.calls 99 (-1) 99 (-1) _ rfl).mono ?_
      rintro e w_ ⟨rfl, hb⟩
      have HT_ := Aside0.mk (HT.out.step hb)
      clear HT hb
      have HT := Aside0.mk HT_.out
      clear HT_
      go_wp2_with fail
      refine (td_add wn _ g kB (⟨⟨#[97]⟩, ⟨#[98]⟩⟩ : S24) (99, -1) 1 HT.out (of_decide_eq_true kf18)).mono ?_
      rintro e w_ ⟨rfl, hT, _⟩
      rw [kf17]
      rw [kf17, if_neg (by decide)] at hT
      clear HT
      have HT := Aside0.mk hT
      clear hT
      go_wp2_with fail
      refine (scriptoriumlaw17_sp.calls ⟨#[97]⟩ ⟨#[98]⟩ ⟨#[97]⟩ ⟨#[98]⟩ _ rfl).mono ?_
      rintro e w_ ⟨rfl, hb⟩
      have HT_ := Aside0.mk (HT.out.step hb)
      clear HT hb
      have HT := Aside0.mk HT_.out
      clear HT_
      go_wp2_with fail
      refine (scriptoriumlaw17_at.calls 99 0 99 0 _ rfl).mono ?_
      rintro e w_ ⟨rfl, hb⟩
      have HT_ := Aside0.mk (HT.out.step hb)
      clear HT hb
      have HT := Aside0.mk HT_.out
      clear HT_
      go_wp2_with fail
      refine (td_add wn _ g kB (⟨⟨#[97]⟩, ⟨#[98]⟩⟩ : S24) (99, 0) (-1) HT.out (of_decide_eq_true kf20)).mono ?_
      rintro e w_ ⟨rfl, hT, _⟩
      rw [kf19]
      rw [kf19, if_neg (by decide)] at hT
      clear HT
      have HT := Aside0.mk hT
      clear hT
      go_wp2_with fail
      refine (scriptoriumlaw17_sp.calls ⟨#[97]⟩ ⟨#[98]⟩ ⟨#[97]⟩ ⟨#[98]⟩ _ rfl).mono ?_
      rintro e w_ ⟨rfl, hb⟩
      have HT_ := Aside0.mk (HT.out.step hb)
      clear HT hb
      have HT := Aside0.mk HT_.out
      clear HT_
      go_wp2_with fail
      refine (scriptoriumlaw17_at.calls 99 0 99 0 _ rfl).mono ?_
      rintro e w_ ⟨rfl, hb⟩
      have HT_ := Aside0.mk (HT.out.step hb)
      clear HT hb
      have HT := Aside0.mk HT_.out
      clear HT_
      go_wp2_with fail
      refine (td_add wn _ g kB (⟨⟨#[97]⟩, ⟨#[98]⟩⟩ : S24) (99, 0) 9007199254740992 HT.out (of_decide_eq_true kf22)).mono ?_
      rintro e w_ ⟨rfl, hT, _⟩
      rw [kf21]
      rw [kf21, if_neg (by decide)] at hT
      clear HT
      have HT := Aside0.mk hT
      clear hT
      go_wp2_with fail
      refine (scriptoriumlaw17_sp.calls ⟨#[97]⟩ ⟨#[98]⟩ ⟨#[97]⟩ ⟨#[98]⟩ _ rfl).mono ?_
      rintro e w_ ⟨rfl, hb⟩
      have HT_ := Aside0.mk (HT.out.step hb)
      clear HT hb
      have HT := Aside0.mk HT_.out
      clear HT_
      go_wp2_with fail
      refine (scriptoriumlaw17_at.calls 99 0 99 0 _ rfl).mono ?_
      rintro e w_ ⟨rfl, hb⟩
      have HT_ := Aside0.mk (HT.out.step hb)
      clear HT hb
      have HT := Aside0.mk HT_.out
      clear HT_
      go_wp2_with fail
      refine (td_add_ok wn _ g kB (⟨⟨#[97]⟩, ⟨#[98]⟩⟩ : S24) (99, 0) 9007199254740991 HT.out (of_decide_eq_true kf24) kf23).mono ?_
      rintro e w_ ⟨rfl, hT, _⟩
      clear HT
      have HT := Aside0.mk (show TdAt wn w_ g kC from hT)
      clear hT
      go_wp2_with fail
      refine (scriptoriumlaw17_sp.calls ⟨#[]⟩ ⟨#[]⟩ ⟨#[]⟩ ⟨#[]⟩ _ rfl).mono ?_
      rintro e w_ ⟨rfl, hb⟩
      have HT_ := Aside0.mk (HT.out.step hb)
      clear HT hb
      have HT := Aside0.mk HT_.out
      clear HT_
      go_wp2_with fail
      refine (td_max wn _ g kC (⟨⟨#[]⟩, ⟨#[]⟩⟩ : S24) 0 HT.out).mono ?_
      rintro e w_ ⟨rfl, hb⟩
      rw [kf25]
      have HT_ := Aside0.mk (HT.out.step hb)
      clear HT hb
      have HT := Aside0.mk HT_.out
      clear HT_
      go_upto_region 21 with fail
      generalize hw : World.alloc w_ _ = wa
      have hb : Below w_.heap.size w_ wa := by rw [← hw]; exact td_alloc _ _
      clear hw
      have HT_ := Aside0.mk (HT.out.step hb)
      clear HT hb
      have HT := Aside0.mk HT_.out
      clear HT_
      go_wp2_with fail
      refine (scriptoriumlaw17_sp.calls ⟨#[97]⟩ ⟨#[98]⟩ ⟨#[97]⟩ ⟨#[98]⟩ _ rfl).mono ?_
      rintro e w_ ⟨rfl, hb⟩
      have HT_ := Aside0.mk (HT.out.step hb)
      clear HT hb
      have HT := Aside0.mk HT_.out
      clear HT_
      go_wp2_with fail
      refine (td_max wn _ g kC (⟨⟨#[97]⟩, ⟨#[98]⟩⟩ : S24) (-1) HT.out).mono ?_
      rintro e w_ ⟨rfl, hb⟩
      rw [kf26]
      have HT_ := Aside0.mk (HT.out.step hb)
      clear HT hb
      have HT := Aside0.mk HT_.out
      clear HT_
      go_upto_region 22 with fail
      generalize hw : World.alloc w_ _ = wa
      have hb : Below w_.heap.size w_ wa := by rw [← hw]; exact td_alloc _ _
      clear hw
      have HT_ := Aside0.mk (HT.out.step hb)
      clear HT hb
      have HT := Aside0.mk HT_.out
      clear HT_
      go_wp2_with fail
      refine (scriptoriumlaw17_sp.calls ⟨#[97]⟩ ⟨#[98]⟩ ⟨#[97]⟩ ⟨#[98]⟩ _ rfl).mono ?_
      rintro e w_ ⟨rfl, hb⟩
      have HT_ := Aside0.mk (HT.out.step hb)
      clear HT hb
      have HT := Aside0.mk HT_.out
      clear HT_
      go_wp2_with fail
      refine (td_max wn _ g kC (⟨⟨#[97]⟩, ⟨#[98]⟩⟩ : S24) 9007199254740992 HT.out).mono ?_
      rintro e w_ ⟨rfl, hb⟩
      rw [kf27]
      have HT_ := Aside0.mk (HT.out.step hb)
      clear HT hb
      have HT := Aside0.mk HT_.out
      clear HT_
      go_upto_region 23 with fail
      generalize hw : World.alloc w_ _ = wa
      have hb : Below w_.heap.size w_ wa := by rw [← hw]; exact td_alloc _ _
      clear hw
      have HT_ := Aside0.mk (HT.out.step hb)
      clear HT hb
      have HT := Aside0.mk HT_.out
      clear HT_
      go_wp2_with fail
      refine (scriptoriumlaw17_at.calls 1099511627777 0 1099511627777 0 _ rfl).mono ?_
      rintro e w_ ⟨rfl, hb⟩
      have HT_ := Aside0.mk (HT.out.step hb)
      clear HT hb
      have HT := Aside0.mk HT_.out
      clear HT_
      go_wp2_with fail
      refine (td_raise_bad wn _ g kC (1099511627777, 0) HT.out kf28).mono ?_
      rintro e w_ ⟨rfl, hT, _⟩
      clear HT
      have HT := Aside0.mk hT
      clear hT
      go_wp2_with fail
      refine (scriptoriumlaw17_at.calls 1 0 1 0 _ rfl).mono ?_
      rintro e w_ ⟨rfl, hb⟩
      have HT_ := Aside0.mk (HT.out.step hb)
      clear HT hb
      have HT := Aside0.mk HT_.out
      clear HT_
      go_wp2_with fail
      refine (td_raise wn _ g kC (1, 0) HT.out kf29).mono ?_
      rintro e w_ ⟨rfl, hT, _⟩
      clear HT
      have HT := Aside0.mk (show TdAt wn w_ g kD from hT)
      clear hT
      go_wp2_with fail
      refine (td_low wn _ g kD HT.out).mono ?_
      rintro e w_ ⟨rfl, hb⟩
      rw [kf30, kf31]
      have HT_ := Aside0.mk (HT.out.step hb)
      clear HT hb
      have HT := Aside0.mk HT_.out
      clear HT_
      go_wp2_with fail
      refine (scriptoriumlaw17_at.calls 10 2 10 2 _ rfl).mono ?_
      rintro e w_ ⟨rfl, hb⟩
      have HT_ := Aside0.mk (HT.out.step hb)
      clear HT hb
      have HT := Aside0.mk HT_.out
      clear HT_
      go_wp2_with fail
      refine (scriptoriumlaw17_sp.calls ⟨#[97]⟩ ⟨#[98]⟩ ⟨#[97]⟩ ⟨#[98]⟩ _ rfl).mono ?_
      rintro e w_ ⟨rfl, hb⟩
      have HT_ := Aside0.mk (HT.out.step hb)
      clear HT hb
      have HT := Aside0.mk HT_.out
      clear HT_
      go_wp2_with fail
      refine (scriptoriumlaw17_at.calls 200 0 200 0 _ rfl).mono ?_
      rintro e w_ ⟨rfl, hb⟩
      have HT_ := Aside0.mk (HT.out.step hb)
      clear HT hb
      have HT := Aside0.mk HT_.out
      clear HT_
      go_wp2_with fail
      refine (td_add_ok wn _ g kD (⟨⟨#[97]⟩, ⟨#[98]⟩⟩ : S24) (200, 0) 0 HT.out (of_decide_eq_true kf33) kf32).mono ?_
      rintro e w_ ⟨rfl, hT, _⟩
      clear HT
      have HT := Aside0.mk (show TdAt wn w_ g kE from hT)
      clear hT
      go_wp2_with fail
      refine (scriptoriumlaw17_sp.calls ⟨#[97]⟩ ⟨#[98]⟩ ⟨#[97]⟩ ⟨#[98]⟩ _ rfl).mono ?_
      rintro e w_ ⟨rfl, hb⟩
      have HT_ := Aside0.mk (HT.out.step hb)
      clear HT hb
      have HT := Aside0.mk HT_.out
      clear HT_
      go_wp2_with fail
      refine (scriptoriumlaw17_at.calls 200 0 200 0 _ rfl).mono ?_
      rintro e w_ ⟨rfl, hb⟩
      have HT_ := Aside0.mk (HT.out.step hb)
      clear HT hb
      have HT := Aside0.mk HT_.out
      clear HT_
      go_wp2_with fail
      refine (td_tells wn _ g kE (⟨⟨#[97]⟩, ⟨#[98]⟩⟩ : S24) 1 (200, 0) HT.out).mono ?_
      rintro e w_ ⟨rfl, hb⟩
      rw [kf34]
      have HT_ := Aside0.mk (HT.out.step hb)
      clear HT hb
      have HT := Aside0.mk HT_.out
      clear HT_
      go_wp2_with fail
      refine (scriptoriumlaw17_sp.calls ⟨#[97]⟩ ⟨#[98]⟩ ⟨#[97]⟩ ⟨#[98]⟩ _ rfl).mono ?_
      rintro e w_ ⟨rfl, hb⟩
      have HT_ := Aside0.mk (HT.out.step hb)
      clear HT hb
      have HT := Aside0.mk HT_.out
      clear HT_
      go_wp2_with fail
      refine (scriptoriumlaw17_at.calls 200 0 200 0 _ rfl).mono ?_
      rintro e w_ ⟨rfl, hb⟩
      have HT_ := Aside0.mk (HT.out.step hb)
      clear HT hb
      have HT := Aside0.mk HT_.out
      clear HT_
      go_wp2_with fail
      refine (td_tells wn _ g kE (⟨⟨#[97]⟩, ⟨#[98]⟩⟩ : S24) 0 (200, 0) HT.out).mono ?_
      rintro e w_ ⟨rfl, hb⟩
      rw [kf35]
      have HT_ := Aside0.mk (HT.out.step hb)
      clear HT hb
      have HT := Aside0.mk HT_.out
      clear HT_
      go_wp2_with fail
      have HB_ := Aside0.mk (below_step HB.out HT.out.below)
      clear HB HT
      have HB := HB_
      clear HB_
      go_loopg [26, 27] 3 (fun kq v26 v27 wr => ∃ (i : Nat) (p : Option Addr), v26 = .pointer p ∧ v27 = .int .i64 (i : Int) ∧ Aside0 (i + kq = 3) ∧ Aside0 (NoTd p wr) ∧ Aside0 (Below w.heap.size w wr))
      case atStart => exact ⟨0, none, rfl, rfl, ⟨rfl⟩, ⟨.inl rfl⟩, HB⟩
      case round =>
        clear HB
        obtain ⟨i, p, rfl, rfl, HK, HN, HB⟩ := hrel
        by_cases h1 : i < 2
        case pos =>
          have d1 : decide ((i : Int) < 2) = true := decide_eq_true (by omega)
          have d1n : decide (i < 2) = true := decide_eq_true h1
          have HH := Aside0.mk h1
          have hwi : Go.RowKit.wrap64 ((i : Int) + 1) = ((i + 1 : Nat) : Int) := by
            unfold Go.RowKit.wrap64
            omega
          have HWI := Aside0.mk hwi
          have HWI2 := Aside0.mk ((i64_w ((i : Int) + 1)).trans hwi)
          clear h1 hwi
          go_wp2_with fail
          refine (scriptoriumlaw17_sp.calls ⟨#[97]⟩ ⟨#[98]⟩ ⟨#[97]⟩ ⟨#[98]⟩ _ rfl).mono ?_
          rintro e w_ ⟨rfl, hb⟩
          have HN_ := Aside0.mk (HN.out.below hb)
          have HB_ := Aside0.mk (below_step HB.out hb)
          clear HN HB hb
          have HN := HN_
          have HB := HB_
          clear HN_ HB_
          go_wp2_with fail
          refine (nt_max p _ _ 0 _ HN.out).mono ?_
          rintro e w_ ⟨rfl, hb⟩
          have HN_ := Aside0.mk (HN.out.below hb)
          have HB_ := Aside0.mk (below_step HB.out hb)
          clear HN HB hb
          have HN := HN_
          have HB := HB_
          clear HN_ HB_
          go_upto_region 32 with fail
          generalize hw : World.alloc w_ _ = wa
          have hb : Below w_.heap.size w_ wa := by rw [← hw]; exact td_alloc _ _
          clear hw
          have HN_ := Aside0.mk (HN.out.below hb)
          have HB_ := Aside0.mk (below_step HB.out hb)
          clear HN HB hb
          have HN := HN_
          have HB := HB_
          clear HN_ HB_
          go_wp2_with fail
          refine (scriptoriumlaw17_sp.calls ⟨#[97]⟩ ⟨#[98]⟩ ⟨#[97]⟩ ⟨#[98]⟩ _ rfl).mono ?_
          rintro e w_ ⟨rfl, hb⟩
          have HN_ := Aside0.mk (HN.out.below hb)
          have HB_ := Aside0.mk (below_step HB.out hb)
          clear HN HB hb
          have HN := HN_
          have HB := HB_
          clear HN_ HB_
          go_wp2_with fail
          refine (scriptoriumlaw17_at.calls 1 0 1 0 _ rfl).mono ?_
          rintro e w_ ⟨rfl, hb⟩
          have HN_ := Aside0.mk (HN.out.below hb)
          have HB_ := Aside0.mk (below_step HB.out hb)
          clear HN HB hb
          have HN := HN_
          have HB := HB_
          clear HN_ HB_
          go_wp2_with fail
          refine (nt_add p _ _ 1 0 0 _ HN.out).mono ?_
          rintro e w_ ⟨rfl, hb⟩
          have HN_ := Aside0.mk (HN.out.below hb)
          have HB_ := Aside0.mk (below_step HB.out hb)
          clear HN HB hb
          have HN := HN_
          have HB := HB_
          clear HN_ HB_
          go_wp2_with fail
          refine (scriptoriumlaw17_at.calls 1 0 1 0 _ rfl).mono ?_
          rintro e w_ ⟨rfl, hb⟩
          have HN_ := Aside0.mk (HN.out.below hb)
          have HB_ := Aside0.mk (below_step HB.out hb)
          clear HN HB hb
          have HN := HN_
          have HB := HB_
          clear HN_ HB_
          go_wp2_with fail
          refine (nt_raise p 1 0 _ HN.out).mono ?_
          rintro e w_ ⟨rfl, hb⟩
          have HN_ := Aside0.mk (HN.out.below hb)
          have HB_ := Aside0.mk (below_step HB.out hb)
          clear HN HB hb
          have HN := HN_
          have HB := HB_
          clear HN_ HB_
          go_wp2_with fail
          refine (nt_len p _ HN.out).mono ?_
          rintro e w_ ⟨rfl, hb⟩
          have HN_ := Aside0.mk (HN.out.below hb)
          have HB_ := Aside0.mk (below_step HB.out hb)
          clear HN HB hb
          have HN := HN_
          have HB := HB_
          clear HN_ HB_
          go_wp2_with fail
          refine (nt_low p _ HN.out).mono ?_
          rintro e w_ ⟨rfl, hb⟩
          have HN_ := Aside0.mk (HN.out.below hb)
          have HB_ := Aside0.mk (below_step HB.out hb)
          clear HN HB hb
          have HN := HN_
          have HB := HB_
          clear HN_ HB_
          go_wp2_with fail
          go_roundg (2 - i)
          case measure => have h1 := HK.out; have h2 := HH.out; omega
          case rel => exact ⟨i + 1, _, rfl, congrArg (Value.int .i64) (by first | exact HWI.out | exact HWI2.out | rfl | omega), ⟨by have h1 := HK.out; have h2 := HH.out; omega⟩, ⟨.inr ⟨_, rfl, blk_new _ _⟩⟩, ⟨below_alloc HB.out _⟩⟩
        case neg =>
          have d1 : decide ((i : Int) < 2) = false := decide_eq_false (by omega)
          have d1n : decide (i < 2) = false := decide_eq_false h1
          go_wp2_with fail
          refine (td_works _).mono ?_
          rintro e w_ ⟨rfl, hb⟩
          have HZ := Aside0.mk (below_step HB.out hb)
          clear hb
          go_wp2_with fail
          go_ret
          exact ⟨rfl, HZ.out⟩
end Go.Proofs.Ytaccfbpfennjkaa.PTideDoes

