/- Plain mathematics of the sum of bytes: over words of 32 bits, without Go and memory; and the bridge to whole numbers as the model has them. -/
import Derived.Laws.Entries
import Derived.Laws.BitsLemmas
set_option linter.unusedVariables false
set_option linter.unusedSimpArgs false
namespace Go.Proofs.Ytkboplflbokofaa

/-! ### 1. Words -/
def poly : BitVec 32 := 79764919#32
def bstep (v : BitVec 32) : BitVec 32 := if v.msb then (v <<< 1) ^^^ poly else v <<< 1
def bsteps : Nat → BitVec 32 → BitVec 32
  | 0, v => v
  | n + 1, v => bsteps n (bstep v)
def up (b : BitVec 8) : BitVec 32 := b.setWidth 32 <<< 24
def btake (s : BitVec 32) (b : BitVec 8) : BitVec 32 := bsteps 8 (s ^^^ up b)
def bfold (s : BitVec 32) (l : List (BitVec 8)) : BitVec 32 := l.foldl btake s

theorem shl_xor (v w : BitVec 32) (n : Nat) : (v ^^^ w) <<< n = (v <<< n) ^^^ (w <<< n) := by
  ext i hi
  simp only [BitVec.getElem_shiftLeft, BitVec.getElem_xor]
  by_cases h : i < n
  · simp [h]
  · simp [h]
theorem bstep_eq (v : BitVec 32) : bstep v = (v <<< 1) ^^^ (if v.msb then poly else 0#32) := by
  unfold bstep
  split <;> simp
theorem xor4 (a b c d : BitVec 32) : (a ^^^ b) ^^^ (c ^^^ d) = (a ^^^ c) ^^^ (b ^^^ d) := by ac_rfl
theorem bstep_xor (v w : BitVec 32) : bstep (v ^^^ w) = bstep v ^^^ bstep w := by
  rw [bstep_eq, bstep_eq, bstep_eq, shl_xor, BitVec.msb_xor]
  have e := xor4
  cases v.msb <;> cases w.msb <;> simp [e]
  · rw [BitVec.xor_assoc]
  · rw [BitVec.xor_assoc, BitVec.xor_assoc, BitVec.xor_comm poly]
  · rw [e, BitVec.xor_self]; simp
theorem bsteps_xor (n : Nat) : ∀ v w : BitVec 32, bsteps n (v ^^^ w) = bsteps n v ^^^ bsteps n w := by
  induction n with
  | zero => intro v w; rfl
  | succ n ih => intro v w; simp only [bsteps]; rw [bstep_xor, ih]
theorem bstep_zero : bstep 0#32 = 0#32 := by decide
theorem bsteps_zero (n : Nat) : bsteps n 0#32 = 0#32 := by
  induction n with
  | zero => rfl
  | succ n ih => simp only [bsteps]; rw [bstep_zero, ih]
theorem bsteps_add (m n : Nat) : ∀ v, bsteps (m + n) v = bsteps n (bsteps m v) := by
  induction m with
  | zero => intro v; simp [bsteps]
  | succ m ih => intro v; rw [Nat.succ_add]; simp only [bsteps]; rw [ih]
theorem bstep_eq_zero (v : BitVec 32) (h : bstep v = 0#32) : v = 0#32 := by
  rw [bstep_eq] at h
  by_cases hm : v.msb = true
  · exfalso
    rw [if_pos hm] at h
    have h0 := congrArg (fun x : BitVec 32 => x.getLsbD 0) h
    simp [BitVec.getLsbD_xor, BitVec.getLsbD_shiftLeft, poly] at h0
  · rw [if_neg hm] at h
    rw [BitVec.xor_zero] at h
    apply BitVec.eq_of_getLsbD_eq
    intro i hi
    have hb := congrArg (fun x : BitVec 32 => x.getLsbD (i + 1)) h
    simp only [BitVec.getLsbD_shiftLeft] at hb
    by_cases h31 : i = 31
    · subst h31
      have : v.msb = v.getLsbD 31 := by rw [BitVec.msb_eq_getLsbD_last]
      rw [this] at hm
      simpa using hm
    · have : i + 1 < 32 := by omega
      simpa [this] using hb
theorem bsteps_eq_zero (n : Nat) : ∀ v, bsteps n v = 0#32 → v = 0#32 := by
  induction n with
  | zero => intro v h; exact h
  | succ n ih => intro v h; exact bstep_eq_zero v (ih _ h)
theorem xor_eq_zero' {n : Nat} (v w : BitVec n) : v ^^^ w = 0#n ↔ v = w := by
  constructor
  · intro h
    have : (v ^^^ w) ^^^ w = 0#n ^^^ w := by rw [h]
    rw [BitVec.xor_assoc, BitVec.xor_self, BitVec.xor_zero, BitVec.zero_xor] at this
    exact this
  · rintro rfl; exact BitVec.xor_self
theorem bsteps_inj (n : Nat) (v w : BitVec 32) : bsteps n v = bsteps n w ↔ v = w := by
  constructor
  · intro h
    rw [← xor_eq_zero', ← bsteps_xor] at h
    exact (xor_eq_zero' _ _).1 (bsteps_eq_zero _ _ h)
  · rintro rfl; rfl
theorem bsteps_small (n : Nat) : ∀ v : BitVec 32, n ≤ 32 → v.toNat < 2 ^ (32 - n) → bsteps n v = v <<< n := by
  induction n with
  | zero => intro v _ _; simp [bsteps]
  | succ n ih =>
    intro v hn hv
    have hlt : v.toNat < 2 ^ 31 := Nat.lt_of_lt_of_le hv (Nat.pow_le_pow_right (by decide) (by omega))
    have hm : v.msb = false := by rw [BitVec.msb_eq_false_iff_two_mul_lt]; omega
    simp only [bsteps]
    have e : bstep v = v <<< 1 := by unfold bstep; rw [hm]; rfl
    have hd : (v <<< 1).toNat = 2 * v.toNat := by
      rw [BitVec.toNat_shiftLeft, Nat.shiftLeft_eq, Nat.mod_eq_of_lt (by omega)]; omega
    rw [e, ih _ (by omega) ?_]
    · rw [← BitVec.shiftLeft_add, Nat.add_comm]
    · rw [hd]
      have : 2 ^ (32 - n) = 2 * 2 ^ (32 - (n + 1)) := by rw [← Nat.pow_succ']; congr 1; omega
      omega
theorem up_xor (a b : BitVec 8) : up (a ^^^ b) = up a ^^^ up b := by
  unfold up
  rw [← shl_xor]
  exact congrArg (fun x : BitVec 32 => x <<< 24) (BitVec.setWidth_xor ..)
theorem up_eq_zero (b : BitVec 8) (h : up b = 0#32) : b = 0#8 := by
  apply BitVec.eq_of_getLsbD_eq
  intro i hi
  have hb := congrArg (fun x : BitVec 32 => x.getLsbD (i + 24)) h
  have h1 : i + 24 < 32 := by omega
  unfold up at hb
  rw [BitVec.getLsbD_shiftLeft, BitVec.getLsbD_setWidth] at hb
  have h3 : i + 24 - 24 = i := by omega
  rw [h3] at hb
  have h4 : ¬ i + 24 < 24 := by omega
  have h5 : i < 32 := by omega
  simp only [h1, h4, h5, decide_true, decide_false, Bool.not_false, Bool.true_and, BitVec.getLsbD_zero] at hb
  rw [hb, BitVec.getLsbD_zero]
theorem up_inj (a b : BitVec 8) : up a = up b ↔ a = b := by
  constructor
  · intro h
    rw [← xor_eq_zero', ← up_xor] at h
    exact (xor_eq_zero' _ _).1 (up_eq_zero _ h)
  · rintro rfl; rfl
/-- What the program computes, byte by byte, is the document's way, bit by bit. -/
theorem btake_table (s : BitVec 32) (b : BitVec 8) : (s <<< 8) ^^^ bsteps 8 (up ((s >>> 24).setWidth 8 ^^^ b)) = btake s b := by
  unfold btake
  have e : s ^^^ up b = (s &&& 16777215#32) ^^^ up ((s >>> 24).setWidth 8 ^^^ b) := by
    rw [up_xor, ← BitVec.xor_assoc]
    congr 1
    apply BitVec.eq_of_getLsbD_eq
    intro i hi
    by_cases h : i < 24
    · have h2 : (16777215#32).getLsbD i = true := by
        have : ∀ j : Fin 32, (j : Nat) < 24 → (16777215#32).getLsbD j = true := by decide
        exact this ⟨i, hi⟩ h
      simp [up, BitVec.getLsbD_shiftLeft, h, h2]
    · have h2 : (16777215#32).getLsbD i = false := by
        have : ∀ j : Fin 32, ¬ (j : Nat) < 24 → (16777215#32).getLsbD j = false := by decide
        exact this ⟨i, hi⟩ h
      have h3 : i - 24 < 8 := by omega
      have h4 : 24 + (i - 24) = i := by omega
      have h5 : i - 24 < 32 := by omega
      simp only [up, BitVec.getLsbD_xor, BitVec.getLsbD_and, BitVec.getLsbD_shiftLeft, BitVec.getLsbD_setWidth, BitVec.getLsbD_ushiftRight, h, h2, h3, h4, h5, hi, decide_true, decide_false, Bool.not_false, Bool.true_and, Bool.and_false, Bool.false_xor]
  rw [e, bsteps_xor]
  congr 1
  have hlt : (s &&& 16777215#32).toNat < 2 ^ 24 := by
    rw [BitVec.toNat_and]
    exact Nat.lt_of_le_of_lt Nat.and_le_right (by decide)
  rw [bsteps_small 8 _ (by decide) hlt]
  apply BitVec.eq_of_getLsbD_eq
  intro i hi
  simp only [BitVec.getLsbD_shiftLeft, BitVec.getLsbD_and]
  by_cases h : i < 8
  · simp [h]
  · have h2 : (16777215#32).getLsbD (i - 8) = true := by
      have : ∀ j : Fin 32, (j : Nat) < 24 → (16777215#32).getLsbD j = true := by decide
      exact this ⟨i - 8, by omega⟩ (by show i - 8 < 24; omega)
    simp [h, h2]
theorem btake_inj_left (s t : BitVec 32) (b : BitVec 8) : btake s b = btake t b ↔ s = t := by
  unfold btake
  rw [bsteps_inj]
  constructor
  · intro h
    have := congrArg (fun x => x ^^^ up b) h
    simpa [BitVec.xor_assoc] using this
  · rintro rfl; rfl
theorem btake_inj_right (s : BitVec 32) (a b : BitVec 8) : btake s a = btake s b ↔ a = b := by
  unfold btake
  rw [bsteps_inj, ← up_inj]
  constructor
  · intro h
    have := congrArg (fun x => s ^^^ x) h
    simpa [← BitVec.xor_assoc] using this
  · intro h; rw [h]
theorem bfold_inj (l : List (BitVec 8)) : ∀ s t, bfold s l = bfold t l ↔ s = t := by
  induction l with
  | nil => intro s t; rfl
  | cons b l ih =>
    intro s t
    show bfold (btake s b) l = bfold (btake t b) l ↔ _
    rw [ih, btake_inj_left]
theorem bfold_append (s : BitVec 32) (l m : List (BitVec 8)) : bfold s (l ++ m) = bfold (bfold s l) m := List.foldl_append
theorem btake_xor (s t : BitVec 32) (a b : BitVec 8) : btake (s ^^^ t) (a ^^^ b) = btake s a ^^^ btake t b := by
  unfold btake
  rw [← bsteps_xor, up_xor]
  exact congrArg (bsteps 8) (xor4 s t (up a) (up b))
theorem bfold_xor (l : List (BitVec 8)) : ∀ (m : List (BitVec 8)) (s t : BitVec 32), l.length = m.length → bfold (s ^^^ t) (List.zipWith (· ^^^ ·) l m) = bfold s l ^^^ bfold t m := by
  induction l with
  | nil => intro m s t h; cases m with
    | nil => rfl
    | cons b m => simp at h
  | cons a l ih =>
    intro m s t h
    cases m with
    | nil => simp at h
    | cons b m =>
      show bfold (btake (s ^^^ t) (a ^^^ b)) (List.zipWith (· ^^^ ·) l m) = bfold (btake s a) l ^^^ bfold (btake t b) m
      rw [btake_xor]
      exact ih m _ _ (by simpa using h)
/-- One byte is another one. -/
theorem bfold_set (l : List (BitVec 8)) (i : Nat) (h : i < l.length) (b : BitVec 8) (s : BitVec 32) : bfold s (l.set i b) = bfold s l ↔ b = l[i] := by
  have e1 : l.set i b = l.take i ++ b :: l.drop (i + 1) := List.set_eq_take_append_cons_drop .. |>.trans (by simp [h])
  have e2 : l = l.take i ++ l[i] :: l.drop (i + 1) := by simp
  constructor
  · intro hh
    rw [e1] at hh
    conv at hh => rhs; rw [e2]
    rw [bfold_append, bfold_append] at hh
    have h2 : btake (bfold s (l.take i)) b = btake (bfold s (l.take i)) l[i] := (bfold_inj _ _ _).1 hh
    exact (btake_inj_right _ _ _).1 h2
  · intro hb
    subst hb
    rw [List.set_getElem_self]

/-! ### 2. Whole numbers -/
/-- A number as a word. -/
def w32 (x : Int) : BitVec 32 := BitVec.ofInt 32 x
def w8 (x : Int) : BitVec 8 := BitVec.ofInt 8 x
def n32 (v : BitVec 32) : Int := (v.toNat : Int)
theorem n32_bd (v : BitVec 32) : 0 ≤ n32 v ∧ n32 v < 4294967296 := by unfold n32; have := v.isLt; omega
theorem n32_w32 (x : Int) (h0 : 0 ≤ x) (h1 : x < 4294967296) : n32 (w32 x) = x := by
  obtain ⟨n, rfl⟩ := Int.eq_ofNat_of_zero_le h0
  unfold n32 w32
  rw [BitVec.ofInt_natCast, BitVec.toNat_ofNat]
  omega
theorem w32_n32 (v : BitVec 32) : w32 (n32 v) = v := by
  unfold n32 w32
  rw [BitVec.ofInt_natCast, BitVec.ofNat_toNat, BitVec.setWidth_eq]
theorem n32_inj (v w : BitVec 32) : n32 v = n32 w ↔ v = w := by
  constructor
  · intro h; rw [← w32_n32 v, ← w32_n32 w, h]
  · rintro rfl; rfl
theorem xor32 (x y : Int) : bits .xor .u32 x y = n32 (w32 x ^^^ w32 y) := by
  show IntKind.u32.wrap _ = _
  rw [IntKind.wrap_u32]
  have h := (n32_bd (w32 x ^^^ w32 y)).2
  have h0 := (n32_bd (w32 x ^^^ w32 y)).1
  unfold n32 at *
  exact Int.emod_eq_of_lt h0 h
theorem and32 (x y : Int) : bits .and .u32 x y = n32 (w32 x &&& w32 y) := by
  show IntKind.u32.wrap _ = _
  rw [IntKind.wrap_u32]
  have h := (n32_bd (w32 x &&& w32 y)).2
  have h0 := (n32_bd (w32 x &&& w32 y)).1
  unfold n32 at *
  exact Int.emod_eq_of_lt h0 h
def n8 (v : BitVec 8) : Int := (v.toNat : Int)
theorem n8_bd (v : BitVec 8) : 0 ≤ n8 v ∧ n8 v < 256 := by unfold n8; have := v.isLt; omega
theorem n8_w8 (x : Int) (h0 : 0 ≤ x) (h1 : x < 256) : n8 (w8 x) = x := by
  obtain ⟨n, rfl⟩ := Int.eq_ofNat_of_zero_le h0
  unfold n8 w8
  rw [BitVec.ofInt_natCast, BitVec.toNat_ofNat]
  omega
theorem w8_n8 (v : BitVec 8) : w8 (n8 v) = v := by
  unfold n8 w8
  rw [BitVec.ofInt_natCast, BitVec.ofNat_toNat, BitVec.setWidth_eq]
theorem n8_inj (v w : BitVec 8) : n8 v = n8 w ↔ v = w := by
  constructor
  · intro h; rw [← w8_n8 v, ← w8_n8 w, h]
  · rintro rfl; rfl
theorem xor8 (x y : Int) : bits .xor .u8 x y = n8 (w8 x ^^^ w8 y) := by
  show IntKind.u8.wrap _ = _
  rw [IntKind.wrap_u8]
  have h := (n8_bd (w8 x ^^^ w8 y)).2
  have h0 := (n8_bd (w8 x ^^^ w8 y)).1
  unfold n8 at *
  exact Int.emod_eq_of_lt h0 h
theorem n32_shl1 (v : BitVec 32) : (n32 v * (2 : Int)) % (4294967296 : Int) = n32 (v <<< 1) := by
  unfold n32
  rw [BitVec.toNat_shiftLeft, Nat.shiftLeft_eq]
  omega
theorem n32_shl8 (v : BitVec 32) : (n32 v * (256 : Int)) % (4294967296 : Int) = n32 (v <<< 8) := by
  unfold n32
  rw [BitVec.toNat_shiftLeft, Nat.shiftLeft_eq]
  omega
theorem n32_shr24 (v : BitVec 32) : n32 v / (16777216 : Int) % (256 : Int) = n8 ((v >>> 24).setWidth 8) := by
  unfold n32 n8
  rw [BitVec.toNat_setWidth, BitVec.toNat_ushiftRight, Nat.shiftRight_eq_div_pow]
  omega
theorem n32_up (b : BitVec 8) : (n8 b % (4294967296 : Int) * (16777216 : Int)) % (4294967296 : Int) = n32 (up b) := by
  unfold n32 n8 up
  rw [BitVec.toNat_shiftLeft, BitVec.toNat_setWidth, Nat.shiftLeft_eq]
  omega
theorem u32max : IntKind.u32.max = n32 (BitVec.allOnes 32) := by decide
theorem not_eq (v : BitVec 32) : BitVec.allOnes 32 ^^^ v = ~~~ v := by
  rw [BitVec.xor_comm, BitVec.xor_allOnes]
theorem compl32 (v : BitVec 32) : bits .xor .u32 IntKind.u32.max (n32 v) = n32 (~~~ v) := by
  rw [xor32, u32max, w32_n32, w32_n32, not_eq]
theorem top_zero (v : BitVec 32) : bits .and .u32 (n32 v) 2147483648 = 0 ↔ v.msb = false := by
  have e : w32 2147483648 = 1#32 <<< 31 := by decide
  have h0 : (0 : Int) = n32 0#32 := by decide
  rw [and32, w32_n32, e, h0, n32_inj]
  constructor
  · intro h
    have hb := congrArg (fun x : BitVec 32 => x.getLsbD 31) h
    rw [BitVec.msb_eq_getLsbD_last]
    simpa using hb
  · intro h
    rw [BitVec.msb_eq_getLsbD_last] at h
    apply BitVec.eq_of_getLsbD_eq
    intro i hi
    by_cases h31 : i = 31
    · subst h31; simpa using h
    · have h2 : (1#32 <<< 31).getLsbD i = false := by
        have : ∀ j : Fin 32, (j : Nat) ≠ 31 → (1#32 <<< 31).getLsbD j = false := by decide
        exact this ⟨i, hi⟩ h31
      rw [BitVec.getLsbD_and, h2]; simp

/-! ### 3. What the program computes -/
/-- One bit of a sum. -/
def crcStep (x : Int) : Int := if (Go.bits .and .u32 x 2147483648) = 0 then (x * 2) % 4294967296 else Go.bits .xor .u32 ((x * 2) % 4294967296) 79764919
def crcSteps : Nat → Int → Int
  | 0, x => x
  | n + 1, x => crcSteps n (crcStep x)
/-- What comes of a byte that falls out. -/
def crcByte (a : Int) : Int := crcSteps 8 ((a % 4294967296 * 16777216) % 4294967296)
/-- A byte is taken into a sum. -/
def crcTake (s c : Int) : Int := Go.bits .xor .u32 ((s * 256) % 4294967296) (crcByte (Go.bits .xor .u8 (s / 16777216 % 256) c))
def crcAdd (s : Int) (l : List Int) : Int := Go.bits .xor .u32 IntKind.u32.max (l.foldl crcTake (Go.bits .xor .u32 IntKind.u32.max s))
/-- Numbers that are bytes. -/
def Bytes (l : List Int) : Prop := ∀ x ∈ l, 0 ≤ x ∧ x < 256
def ws (l : List Int) : List (BitVec 8) := l.map w8
theorem crcStep_n32 (v : BitVec 32) : crcStep (n32 v) = n32 (bstep v) := by
  unfold crcStep bstep
  have e2 : w32 79764919 = poly := rfl
  by_cases h : v.msb = true
  · have h' : ¬ bits .and .u32 (n32 v) 2147483648 = 0 := by rw [top_zero]; simp [h]
    rw [if_neg h', if_pos h, n32_shl1, xor32, w32_n32, e2]
  · have h' : bits .and .u32 (n32 v) 2147483648 = 0 := by rw [top_zero]; simpa using h
    rw [if_pos h', if_neg h, n32_shl1]
theorem crcSteps_n32 (n : Nat) : ∀ v, crcSteps n (n32 v) = n32 (bsteps n v) := by
  induction n with
  | zero => intro v; rfl
  | succ n ih => intro v; simp only [crcSteps, bsteps]; rw [crcStep_n32, ih]
theorem crcTake_n32 (s : BitVec 32) (c : Int) (h0 : 0 ≤ c) (h1 : c < 256) : crcTake (n32 s) c = n32 (btake s (w8 c)) := by
  unfold crcTake crcByte
  rw [n32_shl8, n32_shr24, xor8, w8_n8, n32_up, crcSteps_n32, xor32, w32_n32, w32_n32, btake_table]
theorem crcFold_n32 (l : List Int) : ∀ s, Bytes l → l.foldl crcTake (n32 s) = n32 (bfold s (ws l)) := by
  induction l with
  | nil => intro s _; rfl
  | cons c l ih =>
    intro s h
    have hc := h c (by simp)
    show l.foldl crcTake (crcTake (n32 s) c) = n32 (bfold (btake s (w8 c)) (ws l))
    rw [crcTake_n32 s c hc.1 hc.2]
    exact ih _ (fun x hx => h x (List.mem_cons_of_mem _ hx))
theorem crcAdd_n32 (s : BitVec 32) (l : List Int) (h : Bytes l) : crcAdd (n32 s) l = n32 (~~~ (bfold (~~~ s) (ws l))) := by
  unfold crcAdd
  rw [compl32, crcFold_n32 l _ h, compl32]
theorem crcAdd_eq (s : Int) (l : List Int) (hs0 : 0 ≤ s) (hs1 : s < 4294967296) (h : Bytes l) : crcAdd s l = n32 (~~~ (bfold (~~~ (w32 s)) (ws l))) := by
  have := crcAdd_n32 (w32 s) l h
  rwa [n32_w32 s hs0 hs1] at this
theorem crcAdd_zero (l : List Int) (h : Bytes l) : crcAdd 0 l = n32 (~~~ (bfold (BitVec.allOnes 32) (ws l))) := by
  rw [crcAdd_eq 0 l (by omega) (by omega) h]
  rfl
theorem crcAdd_bd (s : Int) (l : List Int) : 0 ≤ crcAdd s l ∧ crcAdd s l < 4294967296 := by
  unfold crcAdd
  rw [xor32]
  exact n32_bd _
theorem not_inj {n : Nat} (v w : BitVec n) : ~~~ v = ~~~ w ↔ v = w := by
  constructor
  · intro h
    have := congrArg (fun x => ~~~ x) h
    simpa using this
  · rintro rfl; rfl
end Go.Proofs.Ytkboplflbokofaa
