-- written by xprint.py, a program of this session's, over the kit's print; Lean checks it
import Derived.Test.YtfmnkghcbhajaaaPCrcXorx0
namespace Go.Proofs.Ytfmnkghcbhajaaa.PCrcXor
open Go.RowKit Go.Proofs.YtfmnkghcbhajaaaW.PrintWords Go.Proofs.YtfmnkghcbhajaaaW.PrintLast Go.Proofs.YtfmnkghcbhajaaaW.PrintMore
attribute [local go_sem] max2_int min2_int max_two min_two max_three min_three max_four min_four   -- for this text's walks alone
set_option linter.unusedVariables false
set_option linter.unusedSimpArgs false

-- NOT PRINTED: function 19 (crc_table)

/-! ### crc_Add: function 16 (a leaf, by hand) -/
def crc_Add.f (a0 : Int) (l1 : List Int) : Option (Int) := some (crcAdd a0 l1)

set_option maxHeartbeats 8000000 in
set_option maxRecDepth 100000 in
theorem crc_Byte.calls (a0 : Int) (w : World) :
    Calls Try.prog 21 #[.int .u8 a0] w fun e w' => e = .returned (.int .u32 (crcByte a0)) ∧ Drawn0 w w' := by
  have HG : Aside0 (crcSteps 8 ((a0 % 4294967296 * 16777216) % 4294967296) = crcByte a0) := ⟨rfl⟩
  go_enter Try.func21, Try.ntmps21
  go_wp2
  go_loopg [3, 7] 8 (fun kq v3 v7 w' => ∃ (x3_1 : Int) (n : Nat), v3 = .int .u32 x3_1 ∧ v7 = .int .i64 n ∧ Aside0 (crcSteps kq x3_1 = crcByte a0) ∧ Aside0 (kq + n = 8) ∧ Drawn0 w w')
  case atStart => exact ⟨_, 0, rfl, rfl, HG, ⟨rfl⟩, Drawn0.refl _⟩
  case round =>
    clear HG
    obtain ⟨x3_1, n, rfl, rfl, HA, HK1, ⟨m1, rfl⟩⟩ := hrel
    cases gk with
    | zero =>
      have HA1 := HA.out
      have HA2 : x3_1 = crcByte a0 := HA1
      clear HA HA1
      have hn : n = 8 := by have := HK1.out; omega
      subst hn
      go_wp2
      go_ret
      exact ⟨rfl, by repeat (first | exact Drawn0.refl _ | apply Drawn0.step)⟩
    | succ k1 =>
      have HA1 : Aside0 (crcSteps k1 (crcStep x3_1) = crcByte a0) := ⟨HA.out⟩
      clear HA
      have c3b0 : decide ((n : Int) < 8) = true := decide_eq_true (by have := HK1.out; omega)
      have hn8 : n < 8 := by have := HK1.out; omega
      by_cases c4 : (Go.bits .and .u32 x3_1 2147483648) = 0
      · have c4b0 : ((Go.bits .and .u32 x3_1 2147483648) == 0) = true := beq_iff_eq.mpr c4
        have c4b1 : ((Go.bits .and .u32 x3_1 2147483648) != 0) = false := bne_eq_false_iff_eq.mpr c4
        have HS : Aside0 (crcStep x3_1 = (x3_1 * 2) % 4294967296) := ⟨if_pos c4⟩
        clear c4
        go_wp2
        go_roundg k1
        case measure => omega
        case rel => exact ⟨((x3_1 * 2) % 4294967296), n + 1, rfl, by go_num, ⟨by rw [← HS.out]; exact HA1.out⟩, ⟨by have := HK1.out; omega⟩, by repeat (first | exact Drawn0.refl _ | apply Drawn0.step)⟩
      · have c4b0 : ((Go.bits .and .u32 x3_1 2147483648) == 0) = false := beq_eq_false_iff_ne.mpr c4
        have c4b1 : ((Go.bits .and .u32 x3_1 2147483648) != 0) = true := bne_iff_ne.mpr c4
        have HS : Aside0 (crcStep x3_1 = Go.bits .xor .u32 ((x3_1 * 2) % 4294967296) 79764919) := ⟨if_neg c4⟩
        go_wp2
        go_roundg k1
        case measure => omega
        case rel => exact ⟨(Go.bits .xor .u32 ((x3_1 * 2) % 4294967296) 79764919), n + 1, rfl, by go_num, ⟨by rw [← HS.out]; exact HA1.out⟩, ⟨by have := HK1.out; omega⟩, by repeat (first | exact Drawn0.refl _ | apply Drawn0.step)⟩

theorem crc_table.calls (w : World) : Calls Try.prog 19 #[] w fun e w' => e = .returned (.func (.func 21) #[] #[]) ∧ w = w' := by
  go_enter Try.func19, Try.ntmps19
  go_wp2
  go_ret
  exact ⟨rfl, rfl⟩

theorem crc_take_snoc (s : Int) (l : List Int) (n : Nat) (h : n < l.length) : (l.take (n + 1)).foldl crcTake s = crcTake ((l.take n).foldl crcTake s) (rd l (n : Int)) := by
  rw [List.take_succ_eq_append_getElem h, List.foldl_append]
  simp [rd, List.getD_eq_getElem?_getD, List.getElem?_eq_getElem h]

set_option maxHeartbeats 8000000 in
set_option maxRecDepth 100000 in
theorem crc_Add.calls (a0 : Int) (A1 : Option Addr) (c1 : Nat) (l1 : List Int) (r : Int) (w : World) (hr1 : Kd.C (Kd.int .u8) w A1 l1.length l1) (hc1 : l1.length ≤ c1) (h : crc_Add.f a0 l1 = some r) :
    Calls Try.prog 16 #[.int .u32 a0, .slice A1 l1.length c1] w fun e w' => e = .returned (.int .u32 r) ∧ Drawn0 w w' := by
  obtain rfl := Option.some.inj h
  clear h
  have HR1 := Aside0.mk hr1
  clear hr1
  have hm : l1.length ≤ 9223372036854775807 := by have := Kd.C_max HR1.out; omega
  have hsg : IntKind.u32.signed = false := rfl
  obtain ⟨s0, hs0⟩ : ∃ s0, s0 = Go.bits .xor .u32 IntKind.u32.max a0 := ⟨_, rfl⟩
  have HG : Aside0 (crcAdd a0 l1 = Go.bits .xor .u32 IntKind.u32.max (l1.foldl crcTake s0)) := ⟨by rw [hs0]; rfl⟩
  have HS0 := Aside0.mk hs0
  clear hs0
  go_enter Try.func16, Try.ntmps16
  go_wp2_with (go_at_call 19; refine (crc_table.calls _).mono ?_; rintro e w' ⟨rfl, rfl⟩)
  rw [← HS0.out]
  go_loopg [0, 13] l1.length (fun kq v0 v13 w' => ∃ (x0_1 : Int) (n : Nat), v0 = .int .u32 x0_1 ∧ v13 = .int .i64 n ∧ Aside0 (x0_1 = (l1.take n).foldl crcTake s0) ∧ Aside0 (kq + n = l1.length) ∧ Drawn0 w w')
  case atStart => exact ⟨s0, 0, rfl, rfl, ⟨rfl⟩, ⟨rfl⟩, Drawn0.refl _⟩
  case round =>
    obtain ⟨x0, n, rfl, rfl, HX, HK1, ⟨m1, rfl⟩⟩ := hrel
    cases gk with
    | zero =>
      have hn : n = l1.length := by have := HK1.out; omega
      have HX1 : Aside0 (x0 = l1.foldl crcTake s0) := ⟨by rw [HX.out, hn, List.take_length]⟩
      have c3b0 : decide (n < l1.length) = false := decide_eq_false (by omega)
      clear HX hn
      go_wp2
      go_ret
      exact ⟨(by show Ending.returned (.int .u32 (Go.bits .xor .u32 IntKind.u32.max x0)) = _; rw [HG.out, HX1.out]), by repeat (first | exact Drawn0.refl _ | apply Drawn0.step)⟩
    | succ k1 =>
      have hlt : n < l1.length := by have := HK1.out; omega
      have c3b0 : decide (n < l1.length) = true := decide_eq_true (by omega)
      obtain ⟨ad104, e104, hx104_0⟩ := Kd.at_int HR1.out n (by omega) (by omega)
      cases e104
      simp only [Int.toNat_natCast] at hx104_0
      have HS : Aside0 (crcTake x0 (rd l1 n) = (l1.take (n + 1)).foldl crcTake s0) := ⟨by rw [crc_take_snoc s0 l1 n hlt, ← HX.out]⟩
      clear HX
      go_wp2_with (go_at_call 21; refine (crc_Byte.calls _ _).mono ?_; rintro e w' ⟨rfl, ⟨m2, rfl⟩⟩)
      go_roundg k1
      case measure => omega
      case rel => exact ⟨_, n + 1, rfl, by go_num, HS, ⟨by have := HK1.out; omega⟩, by repeat (first | exact Drawn0.refl _ | apply Drawn0.step)⟩

/-! ### crc_Of: function 12 -/
def crc_Of.f (l0 : List Int) : Option (Int) := (crc_Add.f 0 l0).bind fun t101 => (some t101)
set_option maxHeartbeats 8000000 in
set_option maxRecDepth 100000 in
theorem crc_Of.calls (A0 : Option Addr) (c0 : Nat) (l0 : List Int) (r : Int) (w : World) (hr0 : Kd.C (Kd.int .u8) w A0 l0.length l0) (hc0 : l0.length ≤ c0) (h : crc_Of.f l0 = some r) :
    Calls Try.prog 12 #[.slice A0 l0.length c0] w fun e w' => e = .returned (.int .u32 r) ∧ Drawn0 w w' := by
  have HR0 := Aside0.mk hr0
  have HC0 := Aside0.mk hc0
  clear hr0 hc0
  have H : ((crc_Add.f 0 l0).bind fun t101 => (some t101)) = some r := h
  clear h
  replace H := Option.bind_eq_some_iff.mp H
  obtain ⟨t101, A20, H⟩ := H
  replace H : (some t101) = some r := H
  have A2 := Aside0.mk A20
  clear A20
  obtain rfl := Option.some.inj H
  go_enter Try.func12, Try.ntmps12
  go_wp2_with (first | ((with_reducible refine gate_callee (f := 16) rfl ?_); refine goesL_ (some 4) rfl rfl Try.func16 (by kernel_rfl) rfl #[.int .u32 0, .slice A0 l0.length c0] rfl (by (try simp only [List.map_toArray, List.map_cons, List.map_nil]); first | done | rfl | (simp only [List.length_drop, List.length_take]; rfl)) ?_; (with_reducible refine (crc_Add.calls 0 _ _ l0 t101 _ ?side1 ?side2 A2.out).mono ?_); (case side1 => repeat (first | exact HR0.out | (with_reducible refine Kd.C_alloc ?_ _) | (with_reducible refine Kd.C_drewN ?_ _) | (with_reducible refine Kd.C_drew ?_))); (case side2 => exact HC0.out); rintro e w' ⟨rfl, ⟨nd, rfl⟩⟩; refine ⟨_, rfl, ?_⟩))
  go_ret
  exact ⟨by first | rfl | (simp; done) | (simp [*]; done), by repeat (first | exact Drawn0.refl _ | apply Drawn0.step)⟩

/-! ### scriptoriumlaw03_works: function 15 (a leaf, by hand) -/
theorem crc_Of_at (xs : List Int) (r : Int) (n : Nat) (A : Option Addr) (c : Nat) (w : World) (hn : xs.length = n) (hc : n ≤ c) (h : crc_Of.f xs = some r) (hr : Kd.C (Kd.int .u8) w A xs.length xs) :
    Calls Try.prog 12 #[.slice A n c] w fun e w' => e = .returned (.int .u32 r) ∧ Below w.heap.size w w' := by
  subst hn
  exact (crc_Of.calls A c xs r w hr hc h).mono fun e w' ⟨h1, h2⟩ => ⟨h1, h2.below⟩
theorem crc_Add_at (a : Int) (xs : List Int) (r : Int) (n : Nat) (A : Option Addr) (c : Nat) (w : World) (hn : xs.length = n) (hc : n ≤ c) (h : crc_Add.f a xs = some r) (hr : Kd.C (Kd.int .u8) w A xs.length xs) :
    Calls Try.prog 16 #[.int .u32 a, .slice A n c] w fun e w' => e = .returned (.int .u32 r) ∧ Below w.heap.size w w' := by
  subst hn
  exact (crc_Add.calls a A c xs r w hr hc h).mono fun e w' ⟨h1, h2⟩ => ⟨h1, h2.below⟩
theorem conv_const (w : World) (s : Nat) (hs : w.heap.size = s) (C : Array Value) (n c : Nat) :
    (convert 22 22 (.slice (some ⟨s, 0, none⟩) n c)).run Try.prog (w.alloc (.cells C 5)) = .ok (.slice (some ⟨s, 0, none⟩) n c) (w.alloc (.cells C 5 (C.size, C.size + 1))) := by
  subst hs
  exact Lib.run_convert_bytes_const (P := Try.prog) w 22 5 C n c Try.underlying22 Try.underlying5
theorem lit_reads (w : World) (s : Nat) (hs : w.heap.size = s) (xs : List Int) (m : Nat × Nat) (hl : xs.length ≤ 9223372036854775807) : Kd.C (Kd.int .u8) (w.alloc (.cells (nums .u8 xs).toArray 5 m)) (some ⟨s, 0, none⟩) xs.length xs := by
  subst hs
  refine Kd.C_of_reads (d := (0 : Int)) (h1 := fun _ => rfl) ⟨rfl, hl, fun _ => ⟨_, rfl, fun j hj => ?_⟩⟩
  rw [add_plain]
  have h1 : ∀ (a : Array Obj) (x : Obj), (a.push x)[a.size]? = some x := fun a x => by simp
  simp only [World.cell?, World.alloc, h1]
  simp [nums, List.getD_eq_getElem?_getD, List.getElem?_eq_getElem hj]

def scriptoriumlaw03_works.f : Option (Bool) := some true
set_option maxHeartbeats 8000000 in
set_option maxRecDepth 100000 in
theorem scriptoriumlaw03_works.calls (r : Bool) (w : World) (h : scriptoriumlaw03_works.f = some r) :
    Calls Try.prog 15 #[] w fun e w' => e = .returned (.bool r) ∧ Below w.heap.size w w' := by
  obtain rfl := Option.some.inj h
  go_enter Try.func15, Try.ntmps15
  go_wp2_with fail
  refine (crc_Of_at [] 0 0 _ _ _ rfl (Nat.le_refl _) (by kernel_rfl) (Kd.C_nil _ _)).mono ?_
  rintro e W1 ⟨rfl, hb1⟩
  have HB1 := Aside0.mk hb1
  clear hb1
  have kc := conv_const W1 _ rfl
  go_wp2_with fail
  clear kc
  refine (crc_Of_at [49,50,51,52,53,54,55,56,57] 4236843288 9 _ _ _ rfl (Nat.le_refl _) (by kernel_rfl) (lit_reads W1 _ rfl [49,50,51,52,53,54,55,56,57] _ (by decide))).mono ?_
  rintro e W2 ⟨rfl, hb2⟩
  have HB2 := Aside0.mk (below_step (below_alloc HB1.out _) hb2)
  clear HB1 hb2
  have kc := conv_const W2 _ rfl
  go_wp2_with fail
  clear kc
  refine (crc_Of_at [97] 429103979 1 _ _ _ rfl (Nat.le_refl _) (by kernel_rfl) (lit_reads W2 _ rfl [97] _ (by decide))).mono ?_
  rintro e W3 ⟨rfl, hb3⟩
  have HB3 := Aside0.mk (below_step (below_alloc HB2.out _) hb3)
  clear HB2 hb3
  have kc := conv_const W3 _ rfl
  go_wp2_with fail
  clear kc
  refine (crc_Of_at [49,50,51,52] (crcAdd 0 [49,50,51,52]) 4 _ _ _ rfl (Nat.le_refl _) (by kernel_rfl) (lit_reads W3 _ rfl [49,50,51,52] _ (by decide))).mono ?_
  rintro e W4 ⟨rfl, hb4⟩
  have HB4 := Aside0.mk (below_step (below_alloc HB3.out _) hb4)
  clear HB3 hb4
  have kc := conv_const W4 _ rfl
  go_wp2_with fail
  clear kc
  refine (crc_Add_at _ [53,54,55,56,57] 4236843288 5 _ _ _ rfl (Nat.le_refl _) (by kernel_rfl) (lit_reads W4 _ rfl [53,54,55,56,57] _ (by decide))).mono ?_
  rintro e W5 ⟨rfl, hb5⟩
  have HB5 := Aside0.mk (below_step (below_alloc HB4.out _) hb5)
  clear HB4 hb5
  go_wp2
  go_ret
  exact ⟨rfl, HB5.out⟩

end Go.Proofs.Ytfmnkghcbhajaaa.PCrcXor
