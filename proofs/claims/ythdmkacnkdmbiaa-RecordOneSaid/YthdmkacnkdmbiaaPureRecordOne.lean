/- All that a transaction's record tells of its commit has one stamp: the law RecordOne, its pure statement. -/
import Derived.Test.YthdmkacnkdmbiaaROne
set_option linter.unusedVariables false
set_option linter.unusedSimpArgs false
namespace Go.Proofs.Ythdmkacnkdmbiaa.Pure
open Go.RowKit Go.Proofs.Ythdmkacnkdmbiaa.PRecordStaged Go.Proofs.YthdmkacnkdmbiaaW.PrintWords Go.Proofs.YthdmkacnkdmbiaaW.PrintLast Go.Proofs.YthdmkacnkdmbiaaW.PrintMore
theorem ordkey_some (x : ByteArray) : ∃ e, ordkey_Check.f x = some e := by
  unfold ordkey_Check.f
  repeat' split
  all_goals exact ⟨_, rfl⟩
theorem isId_some (a : Int) : ∃ e, cell_isId.f a = some e := by
  unfold cell_isId.f
  split
  all_goals exact ⟨_, rfl⟩
theorem may_some (a : Bool) : ∃ e, cell_may.f a = some e := by cases a <;> exact ⟨_, rfl⟩
theorem check_l0_some (l : List S44) (hl : l.length < 1000000000) : ∀ (n i k : Nat) (b : Bool) (x : ByteArray), i + n = l.length → n + 1 ≤ k → ∃ e, cell_CheckRecord.l0 k b x l (l.length : Int) (i : Int) = some e := by
  intro n
  induction n with
  | zero =>
    intro i k b x hi hk
    obtain ⟨k, rfl⟩ : ∃ j, k = j + 1 := ⟨k - 1, by omega⟩
    simp only [cell_CheckRecord.l0]
    rw [if_neg (by omega)]
    obtain ⟨e, he⟩ := may_some b
    exact ⟨e, by rw [he]; rfl⟩
  | succ n ih =>
    intro i k b x hi hk
    obtain ⟨k, rfl⟩ : ∃ j, k = j + 1 := ⟨k - 1, by omega⟩
    simp only [cell_CheckRecord.l0]
    rw [if_pos (by omega), if_pos (by omega), if_pos (by omega)]
    have hw : wrap64 ((i : Int) + 1) = ((i + 1 : Nat) : Int) := by unfold wrap64; omega
    rw [hw]
    have go : ∀ b' x', ∃ e, cell_CheckRecord.l0 k b' x' l (l.length : Int) ((i + 1 : Nat) : Int) = some e := fun b' x' => ih (i + 1) k b' x' (by omega) (by omega)
    obtain ⟨eo, ho⟩ := ordkey_some (rd_T44 l (i : Int)).f0
    obtain ⟨ei, hi2⟩ := isId_some (rd_T44 l (i : Int)).f1
    rw [ho, hi2]
    simp only [Option.bind_some]
    repeat' split
    all_goals exact go _ _
theorem check_some (k : Nat) (id ep st pr : Int) (an : ByteArray) (sw sl bw bl : Int) (l : List S44) (hl : l.length < 1000000000) (hk : l.length + 3 ≤ k) : ∃ e, cell_CheckRecord.f k id ep st pr an sw sl bw bl l = some e := by
  obtain ⟨k, rfl⟩ : ∃ j, k = j + 2 := ⟨k - 2, by omega⟩
  have h0 : ∀ b x0 x1 x2 x3 x4 x5 x6 x7 x8, ∃ e, cell_CheckRecord.j1 (k + 1) b x0 x1 x2 x3 x4 x5 x6 x7 x8 l = some e := fun b x0 x1 x2 x3 x4 x5 x6 x7 x8 => by
    simp only [cell_CheckRecord.j1]
    exact check_l0_some l hl l.length 0 k b _ (by omega) (by omega)
  have h1 : ∀ b x0 x1 x2 x3 x4 x5 x6 x7 x8, ∃ e, cell_CheckRecord.j0 (k + 2) b x0 x1 x2 x3 x4 x5 x6 x7 x8 l = some e := fun b x0 x1 x2 x3 x4 x5 x6 x7 x8 => by
    simp only [cell_CheckRecord.j0]
    repeat' split
    all_goals exact h0 _ _ _ _ _ _ _ _ _ _
  unfold cell_CheckRecord.f
  have hh : ∃ t, cell_head.f id ep pr an [(⟨sw, sl⟩ : S24), ⟨bw, bl⟩] = some t := by
    unfold cell_head.f
    obtain ⟨e, he⟩ := ordkey_some an
    exact ⟨_, by rw [he]; rfl⟩
  obtain ⟨t, ht⟩ := hh
  rw [ht]
  simp only [Option.bind_some]
  repeat' split
  all_goals exact h1 _ _ _ _ _ _ _ _ _ _
theorem or2 (k : Nat) (x y : Int) : cmp_Or_int.f (k + 4) [x, y] = some (if x = 0 then y else x) := by
  have w0 : wrap64 (0 + 1) = 1 := by unfold wrap64; omega
  have w1 : wrap64 (1 + 1) = 2 := by unfold wrap64; omega
  have r0 : rd [x, y] 0 = x := by simp [rd]
  have r1 : rd [x, y] 1 = y := by simp [rd]
  have hl : (([x, y] : List Int).length : Int) = 2 := rfl
  unfold cmp_Or_int.f
  rw [hl]
  simp only [cmp_Or_int.l0, hl, w0, w1, r0, r1]
  by_cases hx : x = 0 <;> by_cases hy : y = 0 <;> simp [hx, hy]
theorem compare_f (k : Nat) (a b c d : Int) (hk : 4 ≤ k) : stamp_compare.f k a b c d = some (if a < c then -1 else if c < a then 1 else if b < d then -1 else if d < b then 1 else 0) := by
  obtain ⟨k, rfl⟩ : ∃ j, k = j + 4 := ⟨k - 4, by omega⟩
  have hc : ∀ x y : Int, cmp_Compare_int.f x y = some (if x < y then -1 else if y < x then 1 else 0) := fun x y => by
    unfold cmp_Compare_int.f cmp_isNaN_int.f
    simp only [bne_self_eq_false, Option.bind_some]
    rw [if_neg (by simp), if_neg (by simp)]
    repeat' split
    all_goals first | rfl | omega
  unfold stamp_compare.f
  rw [hc, hc]
  simp only [Option.bind_some]
  rw [or2]
  simp only [Option.bind_some]
  congr 1
  repeat' split
  all_goals first | rfl | omega
theorem less_f (k : Nat) (a b c d : Int) (hk : 4 ≤ k) : stamp_Less.f k a b c d = some (decide (a < c ∨ (a = c ∧ b < d))) := by
  unfold stamp_Less.f
  rw [compare_f k a b c d hk]
  simp only [Option.bind_some]
  repeat' split
  all_goals (congr 1; by_cases h : a < c ∨ (a = c ∧ b < d) <;> simp [h] <;> omega)
theorem ite_ex {α : Type} {c : Prop} [Decidable c] {a b : Option α} (ha : ∃ t, a = some t) (hb : ∃ t, b = some t) : ∃ t, (if c then a else b) = some t := by
  split
  · exact ha
  · exact hb
theorem ite_pos_ex {α : Type} {c : Prop} [Decidable c] {a b : Option α} (hc : c) (ha : ∃ t, a = some t) : ∃ t, (if c then a else b) = some t := by rw [if_pos hc]; exact ha
theorem bind_ex {α β : Type} {a : Option α} {f : α → Option β} (ha : ∃ t, a = some t) (hf : ∀ x, ∃ t, f x = some t) : ∃ t, a.bind f = some t := by
  obtain ⟨x, rfl⟩ := ha
  exact hf x
theorem stampCheck_some (a b : Int) : ∃ e, stamp_Check.f a b = some e := by
  unfold stamp_Check.f
  repeat' split
  all_goals exact ⟨_, rfl⟩
theorem expired_f (a b c d : Int) : record_Expired.f a b c d = some (decide ((wrap64 (c - a)) > 50)) := rfl
theorem next_some (a b : Int) : ∃ t, stamp_Next.f a b = some t := by
  unfold stamp_Next.f
  obtain ⟨e, he⟩ := stampCheck_some a b
  rw [he]
  simp only [Option.bind_some]
  repeat' split
  all_goals exact ⟨_, rfl⟩
theorem tl_some (k : Nat) (b0 b1 b2 b3 : Int) (b4 : ByteArray) (b5 b6 b7 b8 : Int) (bm : List S44) (pri : Int) (abort : Bool) (tw tl nw nl : Int) (dft) (hk : 10 ≤ k) : ∃ t, record_Push.tl k b0 b1 b2 b3 b4 b5 b6 b7 b8 bm pri abort tw tl nw nl dft = some t := by
  obtain ⟨s, hs⟩ := next_some tw tl
  unfold record_Push.tl
  rw [less_f k tw tl b5 b6 (by omega), hs]
  cases abort <;> simp only [expired_f, Option.bind_some, if_true, Bool.false_eq_true, if_false]
  all_goals (repeat' split)
  all_goals exact ⟨_, rfl⟩
theorem end_some (k : Nat) (id ep st pr : Int) (an : ByteArray) (sw sl bw bl : Int) (l : List S44) (has : Bool) (xid xep xpr : Int) (xan : ByteArray) (xrw xrl xww xwl xlw xll xbw xbl tt : Int) (m : List S44) (nw nl : Int) (hl : l.length ≤ 1) (hm : m.length ≤ 1) (hk : 10 ≤ k) :
    ∃ t, record_End.f k id ep st pr an sw sl bw bl l has xid xep xpr xan xrw xrl xww xwl xlw xll xbw xbl tt m nw nl = some t := by
  obtain ⟨ec, hec⟩ := check_some k id ep st pr an sw sl bw bl l (by omega) (by omega)
  obtain ⟨e2, he2⟩ := check_some k xid xep tt xpr xan xww xwl nw nl m (by omega) (by omega)
  obtain ⟨ex, hex⟩ := stampCheck_some xrw xrl
  unfold record_End.f record_End.sw
  rw [if_pos (by omega), hec, he2, hex, less_f k xww xwl sw sl (by omega)]
  simp only [Option.bind_some]
  repeat' first | exact ⟨_, rfl⟩ | exact ite_pos_ex (by omega) ⟨_, rfl⟩ | refine ite_pos_ex (show _ < _ by omega) ?_ | refine ite_ex ?_ ?_ | (simp only [Option.bind_some]; done) | refine bind_ex ⟨_, rfl⟩ (fun _ => ?_) | exact tl_some _ _ _ _ _ _ _ _ _ _ _ _ _ _ _ _ _ _ hk
theorem beat_some (k : Nat) (id ep st pr : Int) (an : ByteArray) (sw sl bw bl : Int) (l : List S44) (has : Bool) (xid xep xpr : Int) (xan : ByteArray) (xrw xrl xww xwl xlw xll xbw xbl nw nl : Int) (hl : l.length ≤ 1) (hk : 10 ≤ k) :
    ∃ t, record_Beat.f k id ep st pr an sw sl bw bl l has xid xep xpr xan xrw xrl xww xwl xlw xll xbw xbl nw nl = some t := by
  obtain ⟨ec, hec⟩ := check_some k id ep st pr an sw sl bw bl l (by omega) (by omega)
  obtain ⟨e2, he2⟩ := check_some k xid xep 1 xpr xan xww xwl nw nl [] (by simp) (by simp; omega)
  unfold record_Beat.f
  rw [hec, he2]
  simp only [Option.bind_some]
  repeat' first | exact ⟨_, rfl⟩ | exact ite_pos_ex (by omega) ⟨_, rfl⟩ | refine ite_pos_ex (show _ < _ by omega) ?_ | refine ite_ex ?_ ?_ | (simp only [Option.bind_some]; done) | refine bind_ex ⟨_, rfl⟩ (fun _ => ?_) | exact tl_some _ _ _ _ _ _ _ _ _ _ _ _ _ _ _ _ _ _ hk
theorem push_some (k : Nat) (id ep st pr : Int) (an : ByteArray) (sw sl bw bl : Int) (l : List S44) (has : Bool) (vid vep vst vpr : Int) (van : ByteArray) (vsw vsl vbw vbl : Int) (m : List S44) (pri : Int) (abort : Bool) (tw tl nw nl : Int) (hl : l.length ≤ 1) (hm : m.length ≤ 1) (hk : 10 ≤ k) :
    ∃ t, record_Push.f k id ep st pr an sw sl bw bl l has vid vep vst vpr van vsw vsl vbw vbl m pri abort tw tl nw nl = some t := by
  obtain ⟨ec, hec⟩ := check_some k id ep st pr an sw sl bw bl l (by omega) (by omega)
  obtain ⟨e2, he2⟩ := check_some k vid vep vst vpr van vsw vsl vbw vbl m (by omega) (by omega)
  obtain ⟨e3, he3⟩ := stampCheck_some tw tl
  obtain ⟨e4, he4⟩ := stampCheck_some nw nl
  unfold record_Push.f record_Push.sw
  rw [hec, he2, he3, he4]
  simp only [Option.bind_some, expired_f]
  repeat' first | exact ⟨_, rfl⟩ | exact ite_pos_ex (by omega) ⟨_, rfl⟩ | refine ite_pos_ex (show _ < _ by omega) ?_ | refine ite_ex ?_ ?_ | (simp only [Option.bind_some]; done) | refine bind_ex ⟨_, rfl⟩ (fun _ => ?_) | exact tl_some _ _ _ _ _ _ _ _ _ _ _ _ _ _ _ _ _ _ hk
theorem recover_some (k : Nat) (id ep st pr : Int) (an : ByteArray) (sw sl bw bl : Int) (l : List S44) (has : Bool) (jid jep jst jpr : Int) (jan : ByteArray) (jsw jsl jbw jbl : Int) (m : List S44) (cm : Bool) (hl : l.length ≤ 1) (hm : m.length ≤ 1) (hk : 10 ≤ k) :
    ∃ t, record_Recover.f k id ep st pr an sw sl bw bl l has jid jep jst jpr jan jsw jsl jbw jbl m cm = some t := by
  obtain ⟨ec, hec⟩ := check_some k id ep st pr an sw sl bw bl l (by omega) (by omega)
  obtain ⟨e2, he2⟩ := check_some k jid jep jst jpr jan jsw jsl jbw jbl m (by omega) (by omega)
  unfold record_Recover.f
  try rw [hec]
  try rw [he2]
  simp only [Option.bind_some]
  repeat' first | exact ⟨_, rfl⟩ | exact ite_pos_ex (by omega) ⟨_, rfl⟩ | refine ite_pos_ex (show _ < _ by omega) ?_ | refine ite_ex ?_ ?_ | (simp only [Option.bind_some]; done) | refine bind_ex ⟨_, rfl⟩ (fun _ => ?_) | exact tl_some _ _ _ _ _ _ _ _ _ _ _ _ _ _ _ _ _ _ hk
def AllO {α : Type} (Φ : α → Prop) (o : Option α) : Prop := ∀ t, o = some t → Φ t
theorem AllO.sm {α : Type} {Φ : α → Prop} {t : α} (h : Φ t) : AllO Φ (some t) := fun u e => by cases e; exact h
theorem AllO.no {α : Type} {Φ : α → Prop} : AllO Φ none := fun u e => by cases e
theorem AllO.it {α : Type} {Φ : α → Prop} {c : Prop} [Decidable c] {a b : Option α} (ha : c → AllO Φ a) (hb : ¬ c → AllO Φ b) : AllO Φ (if c then a else b) := by
  split
  · exact ha (by assumption)
  · exact hb (by assumption)
theorem AllO.bd {α β : Type} {Φ : β → Prop} {a : Option α} {f : α → Option β} (hf : ∀ x, a = some x → AllO Φ (f x)) : AllO Φ (a.bind f) := fun t h => by
  obtain ⟨x, hx, h⟩ := Option.bind_eq_some_iff.mp h
  exact hf x hx t h
abbrev Rec11 := Int × Int × Int × Int × ByteArray × Int × Int × Int × Int × List S44 × Int
abbrev Rec11.err (t : Rec11) : Int := t.2.2.2.2.2.2.2.2.2.2
abbrev Rec11.ws (t : Rec11) : List S44 := t.2.2.2.2.2.2.2.2.2.1
theorem end_len (k : Nat) (id ep st pr : Int) (an : ByteArray) (sw sl bw bl : Int) (l : List S44) (has : Bool) (xid xep xpr : Int) (xan : ByteArray) (xrw xrl xww xwl xlw xll xbw xbl tt : Int) (m : List S44) (nw nl : Int) (hl : l.length ≤ 1) (hm : m.length ≤ 1) :
    AllO (fun t : Rec11 => (Rec11.ws t).length ≤ 1) (record_End.f k id ep st pr an sw sl bw bl l has xid xep xpr xan xrw xrl xww xwl xlw xll xbw xbl tt m nw nl) := by
  unfold record_End.f record_End.sw
  repeat' first | exact AllO.no | exact AllO.sm hl | exact AllO.sm hm | exact AllO.sm (Nat.zero_le 1) | refine AllO.it (fun _ => ?_) (fun _ => ?_) | refine AllO.bd (fun _ _ => ?_)
theorem beat_len (k : Nat) (id ep st pr : Int) (an : ByteArray) (sw sl bw bl : Int) (l : List S44) (has : Bool) (xid xep xpr : Int) (xan : ByteArray) (xrw xrl xww xwl xlw xll xbw xbl nw nl : Int) (hl : l.length ≤ 1) :
    AllO (fun t : Rec11 => (Rec11.ws t).length ≤ 1) (record_Beat.f k id ep st pr an sw sl bw bl l has xid xep xpr xan xrw xrl xww xwl xlw xll xbw xbl nw nl) := by
  unfold record_Beat.f
  repeat' first | exact AllO.no | exact AllO.sm hl | exact AllO.sm (Nat.zero_le 1) | refine AllO.it (fun _ => ?_) (fun _ => ?_) | refine AllO.bd (fun _ _ => ?_)
theorem push_len (k : Nat) (id ep st pr : Int) (an : ByteArray) (sw sl bw bl : Int) (l : List S44) (has : Bool) (vid vep vst vpr : Int) (van : ByteArray) (vsw vsl vbw vbl : Int) (m : List S44) (pri : Int) (abort : Bool) (tw tl nw nl : Int) (hl : l.length ≤ 1) :
    AllO (fun t : Rec11 => (Rec11.ws t).length ≤ 1) (record_Push.f k id ep st pr an sw sl bw bl l has vid vep vst vpr van vsw vsl vbw vbl m pri abort tw tl nw nl) := by
  unfold record_Push.f record_Push.sw record_Push.tl
  repeat' first | exact AllO.no | exact AllO.sm hl | exact AllO.sm (Nat.zero_le 1) | refine AllO.it (fun _ => ?_) (fun _ => ?_) | refine AllO.bd (fun _ _ => ?_)
theorem recover_len (k : Nat) (id ep st pr : Int) (an : ByteArray) (sw sl bw bl : Int) (l : List S44) (has : Bool) (jid jep jst jpr : Int) (jan : ByteArray) (jsw jsl jbw jbl : Int) (m : List S44) (cm : Bool) (hl : l.length ≤ 1) :
    AllO (fun t : Rec11 => (Rec11.ws t).length ≤ 1) (record_Recover.f k id ep st pr an sw sl bw bl l has jid jep jst jpr jan jsw jsl jbw jbl m cm) := by
  unfold record_Recover.f
  repeat' first | exact AllO.no | exact AllO.sm hl | exact AllO.sm (Nat.zero_le 1) | refine AllO.it (fun _ => ?_) (fun _ => ?_) | refine AllO.bd (fun _ _ => ?_)
/-- A staged record stays as it is, or a push is answered by an error. -/
theorem push_staged (k : Nat) (id ep pr : Int) (an : ByteArray) (sw sl bw bl : Int) (l : List S44) (vid vep vst vpr : Int) (van : ByteArray) (vsw vsl vbw vbl : Int) (m : List S44) (pri : Int) (abort : Bool) (tw tl nw nl : Int) :
    AllO (fun t : Rec11 => Rec11.err t = 0 → t = (id, ep, 2, pr, an, sw, sl, bw, bl, l, 0)) (record_Push.f k id ep 2 pr an sw sl bw bl l true vid vep vst vpr van vsw vsl vbw vbl m pri abort tw tl nw nl) := by
  unfold record_Push.f record_Push.sw
  rw [if_pos rfl]
  repeat' first | exact AllO.no | exact AllO.sm (fun _ => rfl) | (refine AllO.sm (fun h => ?_); simp [Rec11.err] at h; done) | (refine AllO.it (fun _ => ?_) (fun h_ => absurd rfl h_)) | refine AllO.it (fun _ => ?_) (fun _ => ?_) | refine AllO.bd (fun _ _ => ?_)
theorem recover_staged (k : Nat) (id ep pr : Int) (an : ByteArray) (sw sl bw bl : Int) (l : List S44) (jid jep jst jpr : Int) (jan : ByteArray) (jsw jsl jbw jbl : Int) (m : List S44) (cm : Bool) :
    AllO (fun t : Rec11 => Rec11.err t = 0 → t = (id, ep, 2, pr, an, sw, sl, bw, bl, l, 0) ∨ (jep = ep ∧ jsw = sw ∧ jsl = sl ∧ t.2.2.2.2.2.1 = sw ∧ t.2.2.2.2.2.2.1 = sl ∧ 3 ≤ t.2.2.1)) (record_Recover.f k id ep 2 pr an sw sl bw bl l true jid jep jst jpr jan jsw jsl jbw jbl m cm) := by
  unfold record_Recover.f
  rw [if_pos rfl]
  repeat' first | exact AllO.no | exact AllO.sm (fun _ => .inl rfl) | (refine AllO.sm (fun h => ?_); simp [Rec11.err] at h; done) | refine AllO.it (fun _ => ?_) (fun _ => ?_) | refine AllO.bd (fun _ _ => ?_)
  rename_i h1 h2
  obtain ⟨_, h3, h4⟩ := h2
  rw [Bool.and_eq_true, beq_iff_eq, beq_iff_eq] at h4
  exact AllO.sm (fun _ => .inr ⟨h3.symm, h4.1.symm, h4.2.symm, rfl, rfl, by cases cm <;> simp⟩)
theorem bring_some (a n : Int) (h : 0 < n) (hn : n ≤ 4611686018427387904) : ∃ r, scriptoriumref00_Bring.f a n = some r ∧ 0 ≤ r ∧ r < n := by
  unfold scriptoriumref00_Bring.f
  have h1 := Int.tmod_lt_of_pos a h
  have h2 : -n < Int.tmod a n := by
    have := Int.lt_tmod_of_pos a h
    omega
  rw [if_neg (by omega), if_neg (by omega)]
  by_cases h3 : Int.tmod a n < 0
  · rw [if_pos h3]
    refine ⟨_, rfl, ?_⟩
    have : RowKit.wrap64 (Int.tmod a n + n) = Int.tmod a n + n := by unfold RowKit.wrap64; omega
    rw [this]
    omega
  · rw [if_neg h3]
    exact ⟨_, rfl, by omega, by omega⟩
theorem near1_some (a b : Int) : ∃ t, scriptoriumlaw20_near_1.f a b = some t := by
  obtain ⟨r, h, _, _⟩ := bring_some a 200 (by decide) (by decide)
  obtain ⟨s, g, _, _⟩ := bring_some b 3 (by decide) (by decide)
  unfold scriptoriumlaw20_near_1.f
  exact ⟨_, by rw [h, g]; rfl⟩
theorem near_some (d : S33) : ∃ t, scriptoriumlaw20_near.f d.f0 d.f1 d.f2 d.f3 d.f4.f0 d.f4.f1 d.f4.f2 d.f4.f3 d.f4.f4.f0 d.f4.f4.f1 d.f4.f5.f0 d.f4.f5.f1 d.f4.f6.f0 d.f4.f6.f1 d.f4.f7.f0 d.f4.f7.f1 d.f5.f0 d.f5.f1 d.f5.f2 d.f5.f3 d.f5.f4 d.f5.f5.f0 d.f5.f5.f1 d.f5.f6.f0 d.f5.f6.f1 d.f5.f7 d.f6 d.f7.f0 d.f7.f1 d.f8.f0 d.f8.f1 = some t ∧ t.2.2.2.2.2.2.2.2.2.2.2.2.2.2.2.2.2.2.2.2.2.2.2.2.2.1 = [] ∧ (t.2.2.2.2.2.2.2.2.2.2.2.2.2.2.2.2.2.2.2.2.2.2.2.2.2.2.1).length ≤ 1 := by
  obtain ⟨t1, h1, _, _⟩ := bring_some d.f4.f1 3 (by decide) (by decide)
  obtain ⟨t4, h4, _, _⟩ := bring_some d.f5.f1 3 (by decide) (by decide)
  obtain ⟨t7, h7, _, _⟩ := bring_some d.f0 4 (by decide) (by decide)
  obtain ⟨t8, h8, _, _⟩ := bring_some d.f1 3 (by decide) (by decide)
  obtain ⟨t9, h9, _, _⟩ := bring_some d.f2 9 (by decide) (by decide)
  obtain ⟨s, hs⟩ := near1_some d.f4.f4.f0 d.f4.f4.f1
  obtain ⟨u, hu⟩ := near1_some d.f4.f5.f0 d.f4.f5.f1
  obtain ⟨p, hp⟩ := near1_some d.f5.f5.f0 d.f5.f5.f1
  obtain ⟨q, hq⟩ := near1_some d.f5.f6.f0 d.f5.f6.f1
  obtain ⟨x, hx⟩ := near1_some d.f7.f0 d.f7.f1
  obtain ⟨y, hy⟩ := near1_some d.f8.f0 d.f8.f1
  refine ⟨_, by unfold scriptoriumlaw20_near.f; rw [h1, h4, h7, h8, h9, hs, hu, hp, hq, hx, hy]; rfl, rfl, ?_⟩
  dsimp only
  split
  · exact Nat.le_refl 1
  · exact Nat.zero_le 1
/-- A deed, brought near, has a record without writes, and one write at most. -/
theorem nearS_some (d : S33) : ∃ d', nearS d = some d' ∧ d'.f5.f7 = [] ∧ d'.f6.length ≤ 1 := by
  obtain ⟨t, ht, h1, h2⟩ := near_some d
  exact ⟨_, by unfold nearS; rw [ht]; rfl, h1, h2⟩
/-- What a record function's answer is as a record and an error. -/
def of11 (t : Rec11) : S27 × Int := (⟨t.1, t.2.1, t.2.2.1, t.2.2.2.1, t.2.2.2.2.1, ⟨t.2.2.2.2.2.1, t.2.2.2.2.2.2.1⟩, ⟨t.2.2.2.2.2.2.2.1, t.2.2.2.2.2.2.2.2.1⟩, t.2.2.2.2.2.2.2.2.2.1⟩, t.2.2.2.2.2.2.2.2.2.2)
def endS (k : Nat) (d : S33) (r : S27) (has : Bool) : Option Rec11 := record_End.f k r.f0 r.f1 r.f2 r.f3 r.f4 r.f5.f0 r.f5.f1 r.f6.f0 r.f6.f1 r.f7 has d.f4.f0 d.f4.f1 d.f4.f2 d.f4.f3 d.f4.f4.f0 d.f4.f4.f1 d.f4.f5.f0 d.f4.f5.f1 d.f4.f6.f0 d.f4.f6.f1 d.f4.f7.f0 d.f4.f7.f1 d.f1 d.f6 d.f8.f0 d.f8.f1
def beatS (k : Nat) (d : S33) (r : S27) (has : Bool) : Option Rec11 := record_Beat.f k r.f0 r.f1 r.f2 r.f3 r.f4 r.f5.f0 r.f5.f1 r.f6.f0 r.f6.f1 r.f7 has d.f4.f0 d.f4.f1 d.f4.f2 d.f4.f3 d.f4.f4.f0 d.f4.f4.f1 d.f4.f5.f0 d.f4.f5.f1 d.f4.f6.f0 d.f4.f6.f1 d.f4.f7.f0 d.f4.f7.f1 d.f8.f0 d.f8.f1
def pushS (k : Nat) (d : S33) (r : S27) (has : Bool) : Option Rec11 := record_Push.f k r.f0 r.f1 r.f2 r.f3 r.f4 r.f5.f0 r.f5.f1 r.f6.f0 r.f6.f1 r.f7 has d.f5.f0 d.f5.f1 d.f5.f2 d.f5.f3 d.f5.f4 d.f5.f5.f0 d.f5.f5.f1 d.f5.f6.f0 d.f5.f6.f1 d.f5.f7 d.f2 d.f3 d.f7.f0 d.f7.f1 d.f8.f0 d.f8.f1
def recoverS (k : Nat) (d : S33) (r : S27) (has : Bool) : Option Rec11 := record_Recover.f k r.f0 r.f1 r.f2 r.f3 r.f4 r.f5.f0 r.f5.f1 r.f6.f0 r.f6.f1 r.f7 has d.f5.f0 d.f5.f1 d.f5.f2 d.f5.f3 d.f5.f4 d.f5.f5.f0 d.f5.f5.f1 d.f5.f6.f0 d.f5.f6.f1 d.f5.f7 d.f3
/-- What a deed does, by its kind: always an answer, with one write at most. -/
theorem doesS_some (k : Nat) (hk : 10 ≤ k) (d : S33) (h5 : d.f5.f7 = []) (h6 : d.f6.length ≤ 1) (r : S27) (hr : r.f7.length ≤ 1) (has : Bool) :
    ∃ t u, scriptoriumref00_Bring.f d.f0 4 = some t ∧ doesS k d r has = some (of11 u) ∧ (of11 u).1.f7.length ≤ 1 ∧ 0 ≤ t ∧ t < 4 ∧
      ((t = 0 ∧ endS k d r has = some u) ∨ (t = 1 ∧ beatS k d r has = some u) ∨ (t = 2 ∧ pushS k d r has = some u) ∨ (t = 3 ∧ recoverS k d r has = some u)) := by
  obtain ⟨t, ht, h0, h4⟩ := bring_some d.f0 4 (by omega) (by omega)
  have e : doesS k d r has = ((if t = 0 then endS k d r has else if t = 1 then beatS k d r has else if t = 2 then pushS k d r has else recoverS k d r has).map of11) := by
    unfold doesS scriptoriumlaw20_Deed_does.f
    rw [ht]
    rfl
  have h5' : d.f5.f7.length ≤ 1 := by rw [h5]; exact Nat.zero_le 1
  by_cases q0 : t = 0
  · obtain ⟨u, hu⟩ : ∃ u, endS k d r has = some u := end_some k _ _ _ _ _ _ _ _ _ _ _ _ _ _ _ _ _ _ _ _ _ _ _ _ _ _ _ hr h6 hk
    exact ⟨t, u, ht, by rw [e, if_pos q0, hu]; rfl, end_len k _ _ _ _ _ _ _ _ _ _ _ _ _ _ _ _ _ _ _ _ _ _ _ _ _ _ _ hr h6 u hu, h0, h4, .inl ⟨q0, hu⟩⟩
  by_cases q1 : t = 1
  · obtain ⟨u, hu⟩ : ∃ u, beatS k d r has = some u := beat_some k _ _ _ _ _ _ _ _ _ _ _ _ _ _ _ _ _ _ _ _ _ _ _ _ _ hr hk
    exact ⟨t, u, ht, by rw [e, if_neg q0, if_pos q1, hu]; rfl, beat_len k _ _ _ _ _ _ _ _ _ _ _ _ _ _ _ _ _ _ _ _ _ _ _ _ _ hr u hu, h0, h4, .inr (.inl ⟨q1, hu⟩)⟩
  by_cases q2 : t = 2
  · obtain ⟨u, hu⟩ : ∃ u, pushS k d r has = some u := push_some k _ _ _ _ _ _ _ _ _ _ _ _ _ _ _ _ _ _ _ _ _ _ _ _ _ _ _ hr h5' hk
    exact ⟨t, u, ht, by rw [e, if_neg q0, if_neg q1, if_pos q2, hu]; rfl, push_len k _ _ _ _ _ _ _ _ _ _ _ _ _ _ _ _ _ _ _ _ _ _ _ _ _ _ _ hr u hu, h0, h4, .inr (.inr (.inl ⟨q2, hu⟩))⟩
  · obtain ⟨u, hu⟩ : ∃ u, recoverS k d r has = some u := recover_some k _ _ _ _ _ _ _ _ _ _ _ _ _ _ _ _ _ _ _ _ _ _ hr h5' hk
    exact ⟨t, u, ht, by rw [e, if_neg q0, if_neg q1, if_neg q2, hu]; rfl, recover_len k _ _ _ _ _ _ _ _ _ _ _ _ _ _ _ _ _ _ _ _ _ _ hr u hu, h0, h4, .inr (.inr (.inr ⟨by omega, hu⟩))⟩
theorem l0_false : ∀ (k : Nat) (x : ByteArray) (l : List S44) (n i e : Int), cell_CheckRecord.l0 k false x l n i = some e → e = 2
  | 0, _, _, _, _, _, h => by simp [cell_CheckRecord.l0] at h
  | k + 1, x, l, n, i, e, h => by
    have ih := l0_false k
    simp only [cell_CheckRecord.l0] at h
    rw [if_neg (show ¬ (false = true) by simp)] at h
    split at h
    case isFalse => exact (Option.some.inj h).symm
    split at h
    case isFalse => exact absurd h (by simp)
    split at h
    case isFalse => exact absurd h (by simp)
    exact ih _ _ _ _ _ h
theorem j1_false (k : Nat) (x0 x1 x2 x3 : Int) (x4 : ByteArray) (x5 x6 x7 x8 : Int) (l : List S44) (e : Int) (h : cell_CheckRecord.j1 k false x0 x1 x2 x3 x4 x5 x6 x7 x8 l = some e) : e = 2 := by
  cases k with
  | zero => simp [cell_CheckRecord.j1] at h
  | succ k =>
    simp only [cell_CheckRecord.j1] at h
    exact l0_false _ _ _ _ _ _ h
theorem j0_false (k : Nat) (x0 x1 x2 x3 : Int) (x4 : ByteArray) (x5 x6 x7 x8 : Int) (l : List S44) (e : Int) (h : cell_CheckRecord.j0 k false x0 x1 x2 x3 x4 x5 x6 x7 x8 l = some e) : e = 2 := by
  cases k with
  | zero => simp [cell_CheckRecord.j0] at h
  | succ k =>
    simp only [cell_CheckRecord.j0] at h
    rw [if_neg (by simp)] at h
    exact j1_false _ _ _ _ _ _ _ _ _ _ _ _ h
/-- A record that is accepted has one of the four statuses. -/
theorem check0_st (k : Nat) (id ep st pr : Int) (an : ByteArray) (sw sl bw bl : Int) (l : List S44) (h : cell_CheckRecord.f k id ep st pr an sw sl bw bl l = some 0) : 1 ≤ st ∧ st ≤ 4 := by
  unfold cell_CheckRecord.f at h
  obtain ⟨t, _, h⟩ := Option.bind_eq_some_iff.mp h
  split at h
  case isFalse => exact absurd (j0_false _ _ _ _ _ _ _ _ _ _ _ _ h) (by decide)
  split at h
  case isFalse => exact absurd (j0_false _ _ _ _ _ _ _ _ _ _ _ _ h) (by decide)
  rename_i h1
  refine ⟨h1, ?_⟩
  by_cases h4 : st ≤ 4
  · exact h4
  · rw [decide_eq_false h4] at h
    exact absurd (j0_false _ _ _ _ _ _ _ _ _ _ _ _ h) (by decide)
theorem end_over (k : Nat) (id ep st pr : Int) (an : ByteArray) (sw sl bw bl : Int) (l : List S44) (xid xep xpr : Int) (xan : ByteArray) (xrw xrl xww xwl xlw xll xbw xbl tt : Int) (m : List S44) (nw nl : Int) (hst : st = 3 ∨ st = 4) :
    AllO (fun t : Rec11 => t = (0, 0, 0, 0, ⟨#[]⟩, 0, 0, 0, 0, [], 2) ∨ ∃ e, t = (id, ep, st, pr, an, sw, sl, bw, bl, l, e)) (record_End.f k id ep st pr an sw sl bw bl l true xid xep xpr xan xrw xrl xww xwl xlw xll xbw xbl tt m nw nl) := by
  unfold record_End.f record_End.sw
  repeat' first | exact AllO.no | exact AllO.sm (.inr ⟨_, rfl⟩) | exact AllO.sm (.inl rfl) | (exfalso; omega) | (refine AllO.it (fun _ => ?_) (fun h_ => absurd rfl h_)) | refine AllO.it (fun _ => ?_) (fun _ => ?_) | refine AllO.bd (fun _ _ => ?_)
theorem beat_over (k : Nat) (id ep st pr : Int) (an : ByteArray) (sw sl bw bl : Int) (l : List S44) (xid xep xpr : Int) (xan : ByteArray) (xrw xrl xww xwl xlw xll xbw xbl nw nl : Int) (hst : st = 3 ∨ st = 4) :
    AllO (fun t : Rec11 => t = (0, 0, 0, 0, ⟨#[]⟩, 0, 0, 0, 0, [], 2) ∨ ∃ e, t = (id, ep, st, pr, an, sw, sl, bw, bl, l, e)) (record_Beat.f k id ep st pr an sw sl bw bl l true xid xep xpr xan xrw xrl xww xwl xlw xll xbw xbl nw nl) := by
  unfold record_Beat.f
  repeat' first | exact AllO.no | exact AllO.sm (.inr ⟨_, rfl⟩) | exact AllO.sm (.inl rfl) | (exfalso; omega) | (refine AllO.it (fun _ => ?_) (fun h_ => absurd rfl h_)) | refine AllO.it (fun _ => ?_) (fun _ => ?_) | refine AllO.bd (fun _ _ => ?_)
theorem push_over (k : Nat) (id ep st pr : Int) (an : ByteArray) (sw sl bw bl : Int) (l : List S44) (vid vep vst vpr : Int) (van : ByteArray) (vsw vsl vbw vbl : Int) (m : List S44) (pri : Int) (abort : Bool) (tw tl nw nl : Int) (hst : st = 3 ∨ st = 4) :
    AllO (fun t : Rec11 => t = (0, 0, 0, 0, ⟨#[]⟩, 0, 0, 0, 0, [], 2) ∨ ∃ e, t = (id, ep, st, pr, an, sw, sl, bw, bl, l, e)) (record_Push.f k id ep st pr an sw sl bw bl l true vid vep vst vpr van vsw vsl vbw vbl m pri abort tw tl nw nl) := by
  unfold record_Push.f record_Push.sw
  repeat' first | exact AllO.no | exact AllO.sm (.inr ⟨_, rfl⟩) | exact AllO.sm (.inl rfl) | (exfalso; omega) | (refine AllO.it (fun _ => ?_) (fun h_ => absurd rfl h_)) | refine AllO.it (fun _ => ?_) (fun _ => ?_) | refine AllO.bd (fun _ _ => ?_)
theorem recover_over (k : Nat) (id ep st pr : Int) (an : ByteArray) (sw sl bw bl : Int) (l : List S44) (jid jep jst jpr : Int) (jan : ByteArray) (jsw jsl jbw jbl : Int) (m : List S44) (cm : Bool) (hst : st = 3 ∨ st = 4) :
    AllO (fun t : Rec11 => t = (0, 0, 0, 0, ⟨#[]⟩, 0, 0, 0, 0, [], 2) ∨ ∃ e, t = (id, ep, st, pr, an, sw, sl, bw, bl, l, e)) (record_Recover.f k id ep st pr an sw sl bw bl l true jid jep jst jpr jan jsw jsl jbw jbl m cm) := by
  unfold record_Recover.f
  repeat' first | exact AllO.no | exact AllO.sm (.inr ⟨_, rfl⟩) | exact AllO.sm (.inl rfl) | (exfalso; omega) | (refine AllO.it (fun _ => ?_) (fun h_ => absurd rfl h_)) | refine AllO.it (fun _ => ?_) (fun _ => ?_) | refine AllO.bd (fun _ _ => ?_)
theorem le4 {k : Nat} {a b st c : Int} {d : ByteArray} {e f g h : Int} {l : List S44} {e2 : Int} (hc : cell_CheckRecord.f k a b st c d e f g h l = some e2) (h0 : e2 = 0) : st ≤ 4 := by
  subst h0
  exact (check0_st _ _ _ _ _ _ _ _ _ _ _ hc).2
/-- No answer's status is above 4; an error comes with no record, or the old one. -/
def StOk (has : Bool) (st : Int) (t : Rec11) : Prop := t.2.2.1 ≤ 4 ∧ (Rec11.err t ≠ 0 → t.2.2.1 = 0 ∨ (has = true ∧ t.2.2.1 = st))
theorem StOk.zero (has : Bool) (st e : Int) : StOk has st (0, 0, 0, 0, ⟨#[]⟩, 0, 0, 0, 0, [], e) := ⟨by show (0 : Int) ≤ 4; decide, fun _ => .inl rfl⟩
theorem StOk.old {has : Bool} {id ep st pr : Int} {an : ByteArray} {sw sl bw bl : Int} {l : List S44} {e : Int} (h : has = true) (hst : has = true → st ≤ 4) : StOk has st (id, ep, st, pr, an, sw, sl, bw, bl, l, e) := ⟨hst h, fun _ => .inr ⟨h, rfl⟩⟩
theorem StOk.fresh {has : Bool} {id ep st st' pr : Int} {an : ByteArray} {sw sl bw bl : Int} {l : List S44} (h : st' ≤ 4) : StOk has st (id, ep, st', pr, an, sw, sl, bw, bl, l, 0) := ⟨h, fun h => absurd rfl h⟩
theorem end_st (k : Nat) (id ep st pr : Int) (an : ByteArray) (sw sl bw bl : Int) (l : List S44) (has : Bool) (xid xep xpr : Int) (xan : ByteArray) (xrw xrl xww xwl xlw xll xbw xbl tt : Int) (m : List S44) (nw nl : Int) (hst : has = true → st ≤ 4) :
    AllO (StOk has st) (record_End.f k id ep st pr an sw sl bw bl l has xid xep xpr xan xrw xrl xww xwl xlw xll xbw xbl tt m nw nl) := by
  unfold record_End.f record_End.sw
  repeat' first | exact AllO.no | exact AllO.sm (StOk.zero _ _ _) | exact AllO.sm (StOk.old (by assumption) hst) | exact AllO.sm (StOk.fresh (le4 (by assumption) (by assumption))) | refine AllO.it (fun _ => ?_) (fun _ => ?_) | refine AllO.bd (fun _ _ => ?_)
theorem beat_st (k : Nat) (id ep st pr : Int) (an : ByteArray) (sw sl bw bl : Int) (l : List S44) (has : Bool) (xid xep xpr : Int) (xan : ByteArray) (xrw xrl xww xwl xlw xll xbw xbl nw nl : Int) (hst : has = true → st ≤ 4) :
    AllO (StOk has st) (record_Beat.f k id ep st pr an sw sl bw bl l has xid xep xpr xan xrw xrl xww xwl xlw xll xbw xbl nw nl) := by
  unfold record_Beat.f
  repeat' first | exact AllO.no | exact AllO.sm (StOk.zero _ _ _) | exact AllO.sm (StOk.old (by assumption) hst) | exact AllO.sm (StOk.fresh (by omega)) | exact AllO.sm (StOk.fresh (hst (by assumption))) | refine AllO.it (fun _ => ?_) (fun _ => ?_) | refine AllO.bd (fun _ _ => ?_)
theorem tl_st (k : Nat) (has : Bool) (st : Int) (c0 c1 c2 c3 : Int) (c4 : ByteArray) (c5 c6 c7 c8 : Int) (cm : List S44) (pri : Int) (abort : Bool) (tw tl nw nl : Int) (dft : Rec11) (hd : StOk has st dft) (hc : c2 ≤ 4) :
    AllO (StOk has st) (record_Push.tl k c0 c1 c2 c3 c4 c5 c6 c7 c8 cm pri abort tw tl nw nl dft) := by
  unfold record_Push.tl
  refine AllO.bd (fun ls _ => ?_)
  refine AllO.it (fun _ => AllO.sm (StOk.fresh hc)) (fun _ => ?_)
  refine AllO.bd (fun ex _ => ?_)
  refine AllO.it (fun _ => AllO.sm (StOk.fresh (by omega))) (fun _ => ?_)
  refine AllO.it (fun _ => ?_) (fun _ => AllO.sm hd)
  refine AllO.it (fun _ => AllO.sm (StOk.fresh (by omega))) (fun _ => ?_)
  refine AllO.bd (fun s _ => ?_)
  exact AllO.it (fun _ => AllO.sm (StOk.fresh hc)) (fun _ => AllO.sm (StOk.zero _ _ _))
theorem push_st (k : Nat) (id ep st pr : Int) (an : ByteArray) (sw sl bw bl : Int) (l : List S44) (has : Bool) (vid vep vst vpr : Int) (van : ByteArray) (vsw vsl vbw vbl : Int) (m : List S44) (pri : Int) (abort : Bool) (tw tl nw nl : Int) (hst : has = true → st ≤ 4) :
    AllO (StOk has st) (record_Push.f k id ep st pr an sw sl bw bl l has vid vep vst vpr van vsw vsl vbw vbl m pri abort tw tl nw nl) := by
  unfold record_Push.f record_Push.sw
  repeat' first | exact AllO.no | exact AllO.sm (StOk.zero _ _ _) | exact AllO.sm (StOk.old (by assumption) hst) | exact tl_st _ _ _ _ _ _ _ _ _ _ _ _ _ _ _ _ _ _ _ _ (StOk.zero _ _ _) (by omega) | exact tl_st _ _ _ _ _ _ _ _ _ _ _ _ _ _ _ _ _ _ _ _ (StOk.old (by assumption) hst) (by omega) | refine AllO.it (fun _ => ?_) (fun _ => ?_) | refine AllO.bd (fun _ _ => ?_)
theorem recover_st (k : Nat) (id ep st pr : Int) (an : ByteArray) (sw sl bw bl : Int) (l : List S44) (has : Bool) (jid jep jst jpr : Int) (jan : ByteArray) (jsw jsl jbw jbl : Int) (m : List S44) (cm : Bool) (hst : has = true → st ≤ 4) :
    AllO (StOk has st) (record_Recover.f k id ep st pr an sw sl bw bl l has jid jep jst jpr jan jsw jsl jbw jbl m cm) := by
  unfold record_Recover.f
  repeat' first | exact AllO.no | exact AllO.sm (StOk.zero _ _ _) | exact AllO.sm (StOk.old (by assumption) hst) | exact AllO.sm (StOk.fresh (by split <;> omega)) | refine AllO.it (fun _ => ?_) (fun _ => ?_) | refine AllO.bd (fun _ _ => ?_)
/-- What a deed does to a record that is over: nothing, or it is refused. -/
theorem doesS_over (k : Nat) (d : S33) (r : S27) (u : Rec11) (t : Int) (hr : r.f2 = 3 ∨ r.f2 = 4)
    (hc : (t = 0 ∧ endS k d r true = some u) ∨ (t = 1 ∧ beatS k d r true = some u) ∨ (t = 2 ∧ pushS k d r true = some u) ∨ (t = 3 ∧ recoverS k d r true = some u)) :
    u = (0, 0, 0, 0, ⟨#[]⟩, 0, 0, 0, 0, [], 2) ∨ (of11 u).1 = r := by
  have fin : ∀ u : Rec11, (u = (0, 0, 0, 0, ⟨#[]⟩, 0, 0, 0, 0, [], 2) ∨ ∃ e, u = (r.f0, r.f1, r.f2, r.f3, r.f4, r.f5.f0, r.f5.f1, r.f6.f0, r.f6.f1, r.f7, e)) → u = (0, 0, 0, 0, ⟨#[]⟩, 0, 0, 0, 0, [], 2) ∨ (of11 u).1 = r := by
    intro u h
    rcases h with h | ⟨e, rfl⟩
    · exact .inl h
    · exact .inr rfl
  rcases hc with ⟨_, h⟩ | ⟨_, h⟩ | ⟨_, h⟩ | ⟨_, h⟩
  · exact fin u (end_over k _ _ _ _ _ _ _ _ _ _ _ _ _ _ _ _ _ _ _ _ _ _ _ _ _ _ hr u h)
  · exact fin u (beat_over k _ _ _ _ _ _ _ _ _ _ _ _ _ _ _ _ _ _ _ _ _ _ _ _ hr u h)
  · exact fin u (push_over k _ _ _ _ _ _ _ _ _ _ _ _ _ _ _ _ _ _ _ _ _ _ _ _ _ _ hr u h)
  · exact fin u (recover_over k _ _ _ _ _ _ _ _ _ _ _ _ _ _ _ _ _ _ _ _ _ hr u h)
theorem doesS_st (k : Nat) (d : S33) (r : S27) (has : Bool) (u : Rec11) (t : Int) (hst : has = true → r.f2 ≤ 4)
    (hc : (t = 0 ∧ endS k d r has = some u) ∨ (t = 1 ∧ beatS k d r has = some u) ∨ (t = 2 ∧ pushS k d r has = some u) ∨ (t = 3 ∧ recoverS k d r has = some u)) : StOk has r.f2 u := by
  rcases hc with ⟨_, h⟩ | ⟨_, h⟩ | ⟨_, h⟩ | ⟨_, h⟩
  · exact end_st k _ _ _ _ _ _ _ _ _ _ _ _ _ _ _ _ _ _ _ _ _ _ _ _ _ _ _ hst u h
  · exact beat_st k _ _ _ _ _ _ _ _ _ _ _ _ _ _ _ _ _ _ _ _ _ _ _ _ _ hst u h
  · exact push_st k _ _ _ _ _ _ _ _ _ _ _ _ _ _ _ _ _ _ _ _ _ _ _ _ _ _ _ hst u h
  · exact recover_st k _ _ _ _ _ _ _ _ _ _ _ _ _ _ _ _ _ _ _ _ _ _ hst u h
def OneInv (r : S27) (s : S24) (has told : Bool) : Prop := r.f7.length ≤ 1 ∧ (has = true → r.f2 ≤ 4) ∧ (told = true → has = true ∧ r.f2 = 3 ∧ r.f5 = s) ∧ (has = true → r.f2 = 3 → told = true)
theorem RecordOne : scriptoriumlaw20_RecordOne.Pure := by
  intro l _
  obtain ⟨k, hk⟩ : ∃ k, k = 1000 := ⟨_, rfl⟩
  refine ⟨k, ?_⟩
  have hk10 : 10 ≤ k := by omega
  unfold scriptoriumlaw20_RecordOne.f
  refine if_pos ⟨OneInv, ⟨Nat.zero_le 1, fun h => absurd h (by simp), fun h => absurd h (by simp), fun h => absurd h (by simp)⟩, fun d _ r s has told hi => ?_⟩
  obtain ⟨hr, hst, ht1, ht2⟩ := hi
  obtain ⟨d', hd, h5, h6⟩ := nearS_some d
  obtain ⟨t, u, ht, hu, hl, _, _, hc⟩ := doesS_some k hk10 d' h5 h6 r hr has
  have hs := doesS_st k d' r has u t hst hc
  have hox : has = true → (r.f2 = 3 ∨ r.f2 = 4) → u = (0, 0, 0, 0, ⟨#[]⟩, 0, 0, 0, 0, [], 2) ∨ (of11 u).1 = r := by
    intro h h3
    subst h
    exact doesS_over k d' r u t h3 hc
  refine ⟨d', (of11 u).1, (of11 u).2, hd, hu, fun h3 => ⟨fun htd => ?_, fun he => ?_, fun he => ?_⟩, fun h3 => ⟨fun h4 => ?_, fun he => ?_, fun he => ?_⟩⟩
  · obtain ⟨g1, g2, g3⟩ := ht1 htd
    rcases hox g1 (.inl g2) with h | h
    · subst h; exact absurd h3 (by decide)
    · rw [h]; exact g3
  · exact ⟨hl, fun _ => hs.1, fun _ => ⟨rfl, h3, rfl⟩, fun _ _ => rfl⟩
  · rcases hs.2 he with h | ⟨h, h'⟩
    · exact absurd (h.symm.trans h3) (by decide)
    · have g2 : r.f2 = 3 := h'.symm.trans h3
      refine ⟨hr, hst, fun _ => ⟨h, g2, ?_⟩, fun _ _ => rfl⟩
      rcases hox h (.inl g2) with h9 | h9
      · subst h9; exact absurd h3 (by decide)
      · rw [h9]
  · cases told with
    | false => rfl
    | true =>
      obtain ⟨g1, g2, g3⟩ := ht1 rfl
      rcases hox g1 (.inl g2) with h | h
      · subst h; exact absurd h4 (by decide)
      · rw [h] at h4; exact absurd (g2.symm.trans h4) (by decide)
  · refine ⟨hl, fun _ => hs.1, fun htd => ?_, fun _ h => absurd h h3⟩
    obtain ⟨g1, g2, g3⟩ := ht1 htd
    rcases hox g1 (.inl g2) with h | h
    · subst h; exact absurd he (by decide)
    · rw [h] at h3; exact absurd g2 h3
  · exact ⟨hr, hst, ht1, ht2⟩
end Go.Proofs.Ythdmkacnkdmbiaa.Pure
