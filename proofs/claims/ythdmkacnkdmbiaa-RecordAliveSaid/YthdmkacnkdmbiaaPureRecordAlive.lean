/- One that is alive is pushed only by a greater priority; one that was not heard of for too long is aborted by any push: the law RecordAlive, its pure statement. -/
import Derived.Test.YthdmkacnkdmbiaaRAlive
set_option linter.unusedVariables false
set_option linter.unusedSimpArgs false
namespace Go.Proofs.Ythdmkacnkdmbiaa.Pure
open Go.RowKit Go.Proofs.Ythdmkacnkdmbiaa.PRecordStaged Go.Proofs.YthdmkacnkdmbiaaW.PrintWords Go.Proofs.YthdmkacnkdmbiaaW.PrintLast Go.Proofs.YthdmkacnkdmbiaaW.PrintMore
theorem ordkey_some (x : ByteArray) : ∃ e, ordkey_Check.f x = some e := by
  unfold ordkey_Check.f
  repeat' split
  all_goals exact ⟨_, rfl⟩
theorem isId_some (a : Int) : ∃ e, cell_isId.f a = some e := by
  unfold cell_isId.f
  split
  all_goals exact ⟨_, rfl⟩
theorem may_some (a : Bool) : ∃ e, cell_may.f a = some e := by cases a <;> exact ⟨_, rfl⟩
theorem check_l0_some (l : List S44) (hl : l.length < 1000000000) : ∀ (n i k : Nat) (b : Bool) (x : ByteArray), i + n = l.length → n + 1 ≤ k → ∃ e, cell_CheckRecord.l0 k b x l (l.length : Int) (i : Int) = some e := by
  intro n
  induction n with
  | zero =>
    intro i k b x hi hk
    obtain ⟨k, rfl⟩ : ∃ j, k = j + 1 := ⟨k - 1, by omega⟩
    simp only [cell_CheckRecord.l0]
    rw [if_neg (by omega)]
    obtain ⟨e, he⟩ := may_some b
    exact ⟨e, by rw [he]; rfl⟩
  | succ n ih =>
    intro i k b x hi hk
    obtain ⟨k, rfl⟩ : ∃ j, k = j + 1 := ⟨k - 1, by omega⟩
    simp only [cell_CheckRecord.l0]
    rw [if_pos (by omega), if_pos (by omega), if_pos (by omega)]
    have hw : wrap64 ((i : Int) + 1) = ((i + 1 : Nat) : Int) := by unfold wrap64; omega
    rw [hw]
    have go : ∀ b' x', ∃ e, cell_CheckRecord.l0 k b' x' l (l.length : Int) ((i + 1 : Nat) : Int) = some e := fun b' x' => ih (i + 1) k b' x' (by omega) (by omega)
    obtain ⟨eo, ho⟩ := ordkey_some (rd_T44 l (i : Int)).f0
    obtain ⟨ei, hi2⟩ := isId_some (rd_T44 l (i : Int)).f1
    rw [ho, hi2]
    simp only [Option.bind_some]
    repeat' split
    all_goals exact go _ _
theorem check_some (k : Nat) (id ep st pr : Int) (an : ByteArray) (sw sl bw bl : Int) (l : List S44) (hl : l.length < 1000000000) (hk : l.length + 3 ≤ k) : ∃ e, cell_CheckRecord.f k id ep st pr an sw sl bw bl l = some e := by
  obtain ⟨k, rfl⟩ : ∃ j, k = j + 2 := ⟨k - 2, by omega⟩
  have h0 : ∀ b x0 x1 x2 x3 x4 x5 x6 x7 x8, ∃ e, cell_CheckRecord.j1 (k + 1) b x0 x1 x2 x3 x4 x5 x6 x7 x8 l = some e := fun b x0 x1 x2 x3 x4 x5 x6 x7 x8 => by
    simp only [cell_CheckRecord.j1]
    exact check_l0_some l hl l.length 0 k b _ (by omega) (by omega)
  have h1 : ∀ b x0 x1 x2 x3 x4 x5 x6 x7 x8, ∃ e, cell_CheckRecord.j0 (k + 2) b x0 x1 x2 x3 x4 x5 x6 x7 x8 l = some e := fun b x0 x1 x2 x3 x4 x5 x6 x7 x8 => by
    simp only [cell_CheckRecord.j0]
    repeat' split
    all_goals exact h0 _ _ _ _ _ _ _ _ _ _
  unfold cell_CheckRecord.f
  have hh : ∃ t, cell_head.f id ep pr an [(⟨sw, sl⟩ : S24), ⟨bw, bl⟩] = some t := by
    unfold cell_head.f
    obtain ⟨e, he⟩ := ordkey_some an
    exact ⟨_, by rw [he]; rfl⟩
  obtain ⟨t, ht⟩ := hh
  rw [ht]
  simp only [Option.bind_some]
  repeat' split
  all_goals exact h1 _ _ _ _ _ _ _ _ _ _
theorem or2 (k : Nat) (x y : Int) : cmp_Or_int.f (k + 4) [x, y] = some (if x = 0 then y else x) := by
  have w0 : wrap64 (0 + 1) = 1 := by unfold wrap64; omega
  have w1 : wrap64 (1 + 1) = 2 := by unfold wrap64; omega
  have r0 : rd [x, y] 0 = x := by simp [rd]
  have r1 : rd [x, y] 1 = y := by simp [rd]
  have hl : (([x, y] : List Int).length : Int) = 2 := rfl
  unfold cmp_Or_int.f
  rw [hl]
  simp only [cmp_Or_int.l0, hl, w0, w1, r0, r1]
  by_cases hx : x = 0 <;> by_cases hy : y = 0 <;> simp [hx, hy]
theorem compare_f (k : Nat) (a b c d : Int) (hk : 4 ≤ k) : stamp_compare.f k a b c d = some (if a < c then -1 else if c < a then 1 else if b < d then -1 else if d < b then 1 else 0) := by
  obtain ⟨k, rfl⟩ : ∃ j, k = j + 4 := ⟨k - 4, by omega⟩
  have hc : ∀ x y : Int, cmp_Compare_int.f x y = some (if x < y then -1 else if y < x then 1 else 0) := fun x y => by
    unfold cmp_Compare_int.f cmp_isNaN_int.f
    simp only [bne_self_eq_false, Option.bind_some]
    rw [if_neg (by simp), if_neg (by simp)]
    repeat' split
    all_goals first | rfl | omega
  unfold stamp_compare.f
  rw [hc, hc]
  simp only [Option.bind_some]
  rw [or2]
  simp only [Option.bind_some]
  congr 1
  repeat' split
  all_goals first | rfl | omega
theorem less_f (k : Nat) (a b c d : Int) (hk : 4 ≤ k) : stamp_Less.f k a b c d = some (decide (a < c ∨ (a = c ∧ b < d))) := by
  unfold stamp_Less.f
  rw [compare_f k a b c d hk]
  simp only [Option.bind_some]
  repeat' split
  all_goals (congr 1; by_cases h : a < c ∨ (a = c ∧ b < d) <;> simp [h] <;> omega)
theorem ite_ex {α : Type} {c : Prop} [Decidable c] {a b : Option α} (ha : ∃ t, a = some t) (hb : ∃ t, b = some t) : ∃ t, (if c then a else b) = some t := by
  split
  · exact ha
  · exact hb
theorem ite_pos_ex {α : Type} {c : Prop} [Decidable c] {a b : Option α} (hc : c) (ha : ∃ t, a = some t) : ∃ t, (if c then a else b) = some t := by rw [if_pos hc]; exact ha
theorem bind_ex {α β : Type} {a : Option α} {f : α → Option β} (ha : ∃ t, a = some t) (hf : ∀ x, ∃ t, f x = some t) : ∃ t, a.bind f = some t := by
  obtain ⟨x, rfl⟩ := ha
  exact hf x
theorem stampCheck_some (a b : Int) : ∃ e, stamp_Check.f a b = some e := by
  unfold stamp_Check.f
  repeat' split
  all_goals exact ⟨_, rfl⟩
theorem expired_f (a b c d : Int) : record_Expired.f a b c d = some (decide ((wrap64 (c - a)) > 50)) := rfl
theorem next_some (a b : Int) : ∃ t, stamp_Next.f a b = some t := by
  unfold stamp_Next.f
  obtain ⟨e, he⟩ := stampCheck_some a b
  rw [he]
  simp only [Option.bind_some]
  repeat' split
  all_goals exact ⟨_, rfl⟩
theorem tl_some (k : Nat) (b0 b1 b2 b3 : Int) (b4 : ByteArray) (b5 b6 b7 b8 : Int) (bm : List S44) (pri : Int) (abort : Bool) (tw tl nw nl : Int) (dft) (hk : 10 ≤ k) : ∃ t, record_Push.tl k b0 b1 b2 b3 b4 b5 b6 b7 b8 bm pri abort tw tl nw nl dft = some t := by
  obtain ⟨s, hs⟩ := next_some tw tl
  unfold record_Push.tl
  rw [less_f k tw tl b5 b6 (by omega), hs]
  cases abort <;> simp only [expired_f, Option.bind_some, if_true, Bool.false_eq_true, if_false]
  all_goals (repeat' split)
  all_goals exact ⟨_, rfl⟩
theorem end_some (k : Nat) (id ep st pr : Int) (an : ByteArray) (sw sl bw bl : Int) (l : List S44) (has : Bool) (xid xep xpr : Int) (xan : ByteArray) (xrw xrl xww xwl xlw xll xbw xbl tt : Int) (m : List S44) (nw nl : Int) (hl : l.length ≤ 1) (hm : m.length ≤ 1) (hk : 10 ≤ k) :
    ∃ t, record_End.f k id ep st pr an sw sl bw bl l has xid xep xpr xan xrw xrl xww xwl xlw xll xbw xbl tt m nw nl = some t := by
  obtain ⟨ec, hec⟩ := check_some k id ep st pr an sw sl bw bl l (by omega) (by omega)
  obtain ⟨e2, he2⟩ := check_some k xid xep tt xpr xan xww xwl nw nl m (by omega) (by omega)
  obtain ⟨ex, hex⟩ := stampCheck_some xrw xrl
  unfold record_End.f record_End.sw
  rw [if_pos (by omega), hec, he2, hex, less_f k xww xwl sw sl (by omega)]
  simp only [Option.bind_some]
  repeat' first | exact ⟨_, rfl⟩ | exact ite_pos_ex (by omega) ⟨_, rfl⟩ | refine ite_pos_ex (show _ < _ by omega) ?_ | refine ite_ex ?_ ?_ | (simp only [Option.bind_some]; done) | refine bind_ex ⟨_, rfl⟩ (fun _ => ?_) | exact tl_some _ _ _ _ _ _ _ _ _ _ _ _ _ _ _ _ _ _ hk
theorem beat_some (k : Nat) (id ep st pr : Int) (an : ByteArray) (sw sl bw bl : Int) (l : List S44) (has : Bool) (xid xep xpr : Int) (xan : ByteArray) (xrw xrl xww xwl xlw xll xbw xbl nw nl : Int) (hl : l.length ≤ 1) (hk : 10 ≤ k) :
    ∃ t, record_Beat.f k id ep st pr an sw sl bw bl l has xid xep xpr xan xrw xrl xww xwl xlw xll xbw xbl nw nl = some t := by
  obtain ⟨ec, hec⟩ := check_some k id ep st pr an sw sl bw bl l (by omega) (by omega)
  obtain ⟨e2, he2⟩ := check_some k xid xep 1 xpr xan xww xwl nw nl [] (by simp) (by simp; omega)
  unfold record_Beat.f
  rw [hec, he2]
  simp only [Option.bind_some]
  repeat' first | exact ⟨_, rfl⟩ | exact ite_pos_ex (by omega) ⟨_, rfl⟩ | refine ite_pos_ex (show _ < _ by omega) ?_ | refine ite_ex ?_ ?_ | (simp only [Option.bind_some]; done) | refine bind_ex ⟨_, rfl⟩ (fun _ => ?_) | exact tl_some _ _ _ _ _ _ _ _ _ _ _ _ _ _ _ _ _ _ hk
theorem push_some (k : Nat) (id ep st pr : Int) (an : ByteArray) (sw sl bw bl : Int) (l : List S44) (has : Bool) (vid vep vst vpr : Int) (van : ByteArray) (vsw vsl vbw vbl : Int) (m : List S44) (pri : Int) (abort : Bool) (tw tl nw nl : Int) (hl : l.length ≤ 1) (hm : m.length ≤ 1) (hk : 10 ≤ k) :
    ∃ t, record_Push.f k id ep st pr an sw sl bw bl l has vid vep vst vpr van vsw vsl vbw vbl m pri abort tw tl nw nl = some t := by
  obtain ⟨ec, hec⟩ := check_some k id ep st pr an sw sl bw bl l (by omega) (by omega)
  obtain ⟨e2, he2⟩ := check_some k vid vep vst vpr van vsw vsl vbw vbl m (by omega) (by omega)
  obtain ⟨e3, he3⟩ := stampCheck_some tw tl
  obtain ⟨e4, he4⟩ := stampCheck_some nw nl
  unfold record_Push.f record_Push.sw
  rw [hec, he2, he3, he4]
  simp only [Option.bind_some, expired_f]
  repeat' first | exact ⟨_, rfl⟩ | exact ite_pos_ex (by omega) ⟨_, rfl⟩ | refine ite_pos_ex (show _ < _ by omega) ?_ | refine ite_ex ?_ ?_ | (simp only [Option.bind_some]; done) | refine bind_ex ⟨_, rfl⟩ (fun _ => ?_) | exact tl_some _ _ _ _ _ _ _ _ _ _ _ _ _ _ _ _ _ _ hk
theorem recover_some (k : Nat) (id ep st pr : Int) (an : ByteArray) (sw sl bw bl : Int) (l : List S44) (has : Bool) (jid jep jst jpr : Int) (jan : ByteArray) (jsw jsl jbw jbl : Int) (m : List S44) (cm : Bool) (hl : l.length ≤ 1) (hm : m.length ≤ 1) (hk : 10 ≤ k) :
    ∃ t, record_Recover.f k id ep st pr an sw sl bw bl l has jid jep jst jpr jan jsw jsl jbw jbl m cm = some t := by
  obtain ⟨ec, hec⟩ := check_some k id ep st pr an sw sl bw bl l (by omega) (by omega)
  obtain ⟨e2, he2⟩ := check_some k jid jep jst jpr jan jsw jsl jbw jbl m (by omega) (by omega)
  unfold record_Recover.f
  try rw [hec]
  try rw [he2]
  simp only [Option.bind_some]
  repeat' first | exact ⟨_, rfl⟩ | exact ite_pos_ex (by omega) ⟨_, rfl⟩ | refine ite_pos_ex (show _ < _ by omega) ?_ | refine ite_ex ?_ ?_ | (simp only [Option.bind_some]; done) | refine bind_ex ⟨_, rfl⟩ (fun _ => ?_) | exact tl_some _ _ _ _ _ _ _ _ _ _ _ _ _ _ _ _ _ _ hk
def AllO {α : Type} (Φ : α → Prop) (o : Option α) : Prop := ∀ t, o = some t → Φ t
theorem AllO.sm {α : Type} {Φ : α → Prop} {t : α} (h : Φ t) : AllO Φ (some t) := fun u e => by cases e; exact h
theorem AllO.no {α : Type} {Φ : α → Prop} : AllO Φ none := fun u e => by cases e
theorem AllO.it {α : Type} {Φ : α → Prop} {c : Prop} [Decidable c] {a b : Option α} (ha : c → AllO Φ a) (hb : ¬ c → AllO Φ b) : AllO Φ (if c then a else b) := by
  split
  · exact ha (by assumption)
  · exact hb (by assumption)
theorem AllO.bd {α β : Type} {Φ : β → Prop} {a : Option α} {f : α → Option β} (hf : ∀ x, a = some x → AllO Φ (f x)) : AllO Φ (a.bind f) := fun t h => by
  obtain ⟨x, hx, h⟩ := Option.bind_eq_some_iff.mp h
  exact hf x hx t h
abbrev Rec11 := Int × Int × Int × Int × ByteArray × Int × Int × Int × Int × List S44 × Int
abbrev Rec11.err (t : Rec11) : Int := t.2.2.2.2.2.2.2.2.2.2
abbrev Rec11.ws (t : Rec11) : List S44 := t.2.2.2.2.2.2.2.2.2.1
theorem end_len (k : Nat) (id ep st pr : Int) (an : ByteArray) (sw sl bw bl : Int) (l : List S44) (has : Bool) (xid xep xpr : Int) (xan : ByteArray) (xrw xrl xww xwl xlw xll xbw xbl tt : Int) (m : List S44) (nw nl : Int) (hl : l.length ≤ 1) (hm : m.length ≤ 1) :
    AllO (fun t : Rec11 => (Rec11.ws t).length ≤ 1) (record_End.f k id ep st pr an sw sl bw bl l has xid xep xpr xan xrw xrl xww xwl xlw xll xbw xbl tt m nw nl) := by
  unfold record_End.f record_End.sw
  repeat' first | exact AllO.no | exact AllO.sm hl | exact AllO.sm hm | exact AllO.sm (Nat.zero_le 1) | refine AllO.it (fun _ => ?_) (fun _ => ?_) | refine AllO.bd (fun _ _ => ?_)
theorem beat_len (k : Nat) (id ep st pr : Int) (an : ByteArray) (sw sl bw bl : Int) (l : List S44) (has : Bool) (xid xep xpr : Int) (xan : ByteArray) (xrw xrl xww xwl xlw xll xbw xbl nw nl : Int) (hl : l.length ≤ 1) :
    AllO (fun t : Rec11 => (Rec11.ws t).length ≤ 1) (record_Beat.f k id ep st pr an sw sl bw bl l has xid xep xpr xan xrw xrl xww xwl xlw xll xbw xbl nw nl) := by
  unfold record_Beat.f
  repeat' first | exact AllO.no | exact AllO.sm hl | exact AllO.sm (Nat.zero_le 1) | refine AllO.it (fun _ => ?_) (fun _ => ?_) | refine AllO.bd (fun _ _ => ?_)
theorem push_len (k : Nat) (id ep st pr : Int) (an : ByteArray) (sw sl bw bl : Int) (l : List S44) (has : Bool) (vid vep vst vpr : Int) (van : ByteArray) (vsw vsl vbw vbl : Int) (m : List S44) (pri : Int) (abort : Bool) (tw tl nw nl : Int) (hl : l.length ≤ 1) :
    AllO (fun t : Rec11 => (Rec11.ws t).length ≤ 1) (record_Push.f k id ep st pr an sw sl bw bl l has vid vep vst vpr van vsw vsl vbw vbl m pri abort tw tl nw nl) := by
  unfold record_Push.f record_Push.sw record_Push.tl
  repeat' first | exact AllO.no | exact AllO.sm hl | exact AllO.sm (Nat.zero_le 1) | refine AllO.it (fun _ => ?_) (fun _ => ?_) | refine AllO.bd (fun _ _ => ?_)
theorem recover_len (k : Nat) (id ep st pr : Int) (an : ByteArray) (sw sl bw bl : Int) (l : List S44) (has : Bool) (jid jep jst jpr : Int) (jan : ByteArray) (jsw jsl jbw jbl : Int) (m : List S44) (cm : Bool) (hl : l.length ≤ 1) :
    AllO (fun t : Rec11 => (Rec11.ws t).length ≤ 1) (record_Recover.f k id ep st pr an sw sl bw bl l has jid jep jst jpr jan jsw jsl jbw jbl m cm) := by
  unfold record_Recover.f
  repeat' first | exact AllO.no | exact AllO.sm hl | exact AllO.sm (Nat.zero_le 1) | refine AllO.it (fun _ => ?_) (fun _ => ?_) | refine AllO.bd (fun _ _ => ?_)
/-- A staged record stays as it is, or a push is answered by an error. -/
theorem push_staged (k : Nat) (id ep pr : Int) (an : ByteArray) (sw sl bw bl : Int) (l : List S44) (vid vep vst vpr : Int) (van : ByteArray) (vsw vsl vbw vbl : Int) (m : List S44) (pri : Int) (abort : Bool) (tw tl nw nl : Int) :
    AllO (fun t : Rec11 => Rec11.err t = 0 → t = (id, ep, 2, pr, an, sw, sl, bw, bl, l, 0)) (record_Push.f k id ep 2 pr an sw sl bw bl l true vid vep vst vpr van vsw vsl vbw vbl m pri abort tw tl nw nl) := by
  unfold record_Push.f record_Push.sw
  rw [if_pos rfl]
  repeat' first | exact AllO.no | exact AllO.sm (fun _ => rfl) | (refine AllO.sm (fun h => ?_); simp [Rec11.err] at h; done) | (refine AllO.it (fun _ => ?_) (fun h_ => absurd rfl h_)) | refine AllO.it (fun _ => ?_) (fun _ => ?_) | refine AllO.bd (fun _ _ => ?_)
theorem recover_staged (k : Nat) (id ep pr : Int) (an : ByteArray) (sw sl bw bl : Int) (l : List S44) (jid jep jst jpr : Int) (jan : ByteArray) (jsw jsl jbw jbl : Int) (m : List S44) (cm : Bool) :
    AllO (fun t : Rec11 => Rec11.err t = 0 → t = (id, ep, 2, pr, an, sw, sl, bw, bl, l, 0) ∨ (jep = ep ∧ jsw = sw ∧ jsl = sl ∧ t.2.2.2.2.2.1 = sw ∧ t.2.2.2.2.2.2.1 = sl ∧ 3 ≤ t.2.2.1)) (record_Recover.f k id ep 2 pr an sw sl bw bl l true jid jep jst jpr jan jsw jsl jbw jbl m cm) := by
  unfold record_Recover.f
  rw [if_pos rfl]
  repeat' first | exact AllO.no | exact AllO.sm (fun _ => .inl rfl) | (refine AllO.sm (fun h => ?_); simp [Rec11.err] at h; done) | refine AllO.it (fun _ => ?_) (fun _ => ?_) | refine AllO.bd (fun _ _ => ?_)
  rename_i h1 h2
  obtain ⟨_, h3, h4⟩ := h2
  rw [Bool.and_eq_true, beq_iff_eq, beq_iff_eq] at h4
  exact AllO.sm (fun _ => .inr ⟨h3.symm, h4.1.symm, h4.2.symm, rfl, rfl, by cases cm <;> simp⟩)
theorem bring_some (a n : Int) (h : 0 < n) (hn : n ≤ 4611686018427387904) : ∃ r, scriptoriumref00_Bring.f a n = some r ∧ 0 ≤ r ∧ r < n := by
  unfold scriptoriumref00_Bring.f
  have h1 := Int.tmod_lt_of_pos a h
  have h2 : -n < Int.tmod a n := by
    have := Int.lt_tmod_of_pos a h
    omega
  rw [if_neg (by omega), if_neg (by omega)]
  by_cases h3 : Int.tmod a n < 0
  · rw [if_pos h3]
    refine ⟨_, rfl, ?_⟩
    have : RowKit.wrap64 (Int.tmod a n + n) = Int.tmod a n + n := by unfold RowKit.wrap64; omega
    rw [this]
    omega
  · rw [if_neg h3]
    exact ⟨_, rfl, by omega, by omega⟩
theorem near1_some (a b : Int) : ∃ t, scriptoriumlaw20_near_1.f a b = some t := by
  obtain ⟨r, h, _, _⟩ := bring_some a 200 (by decide) (by decide)
  obtain ⟨s, g, _, _⟩ := bring_some b 3 (by decide) (by decide)
  unfold scriptoriumlaw20_near_1.f
  exact ⟨_, by rw [h, g]; rfl⟩
theorem near_some (d : S33) : ∃ t, scriptoriumlaw20_near.f d.f0 d.f1 d.f2 d.f3 d.f4.f0 d.f4.f1 d.f4.f2 d.f4.f3 d.f4.f4.f0 d.f4.f4.f1 d.f4.f5.f0 d.f4.f5.f1 d.f4.f6.f0 d.f4.f6.f1 d.f4.f7.f0 d.f4.f7.f1 d.f5.f0 d.f5.f1 d.f5.f2 d.f5.f3 d.f5.f4 d.f5.f5.f0 d.f5.f5.f1 d.f5.f6.f0 d.f5.f6.f1 d.f5.f7 d.f6 d.f7.f0 d.f7.f1 d.f8.f0 d.f8.f1 = some t ∧ t.2.2.2.2.2.2.2.2.2.2.2.2.2.2.2.2.2.2.2.2.2.2.2.2.2.1 = [] ∧ (t.2.2.2.2.2.2.2.2.2.2.2.2.2.2.2.2.2.2.2.2.2.2.2.2.2.2.1).length ≤ 1 := by
  obtain ⟨t1, h1, _, _⟩ := bring_some d.f4.f1 3 (by decide) (by decide)
  obtain ⟨t4, h4, _, _⟩ := bring_some d.f5.f1 3 (by decide) (by decide)
  obtain ⟨t7, h7, _, _⟩ := bring_some d.f0 4 (by decide) (by decide)
  obtain ⟨t8, h8, _, _⟩ := bring_some d.f1 3 (by decide) (by decide)
  obtain ⟨t9, h9, _, _⟩ := bring_some d.f2 9 (by decide) (by decide)
  obtain ⟨s, hs⟩ := near1_some d.f4.f4.f0 d.f4.f4.f1
  obtain ⟨u, hu⟩ := near1_some d.f4.f5.f0 d.f4.f5.f1
  obtain ⟨p, hp⟩ := near1_some d.f5.f5.f0 d.f5.f5.f1
  obtain ⟨q, hq⟩ := near1_some d.f5.f6.f0 d.f5.f6.f1
  obtain ⟨x, hx⟩ := near1_some d.f7.f0 d.f7.f1
  obtain ⟨y, hy⟩ := near1_some d.f8.f0 d.f8.f1
  refine ⟨_, by unfold scriptoriumlaw20_near.f; rw [h1, h4, h7, h8, h9, hs, hu, hp, hq, hx, hy]; rfl, rfl, ?_⟩
  dsimp only
  split
  · exact Nat.le_refl 1
  · exact Nat.zero_le 1
/-- A deed, brought near, has a record without writes, and one write at most. -/
theorem nearS_some (d : S33) : ∃ d', nearS d = some d' ∧ d'.f5.f7 = [] ∧ d'.f6.length ≤ 1 := by
  obtain ⟨t, ht, h1, h2⟩ := near_some d
  exact ⟨_, by unfold nearS; rw [ht]; rfl, h1, h2⟩
/-- What a record function's answer is as a record and an error. -/
def of11 (t : Rec11) : S27 × Int := (⟨t.1, t.2.1, t.2.2.1, t.2.2.2.1, t.2.2.2.2.1, ⟨t.2.2.2.2.2.1, t.2.2.2.2.2.2.1⟩, ⟨t.2.2.2.2.2.2.2.1, t.2.2.2.2.2.2.2.2.1⟩, t.2.2.2.2.2.2.2.2.2.1⟩, t.2.2.2.2.2.2.2.2.2.2)
def endS (k : Nat) (d : S33) (r : S27) (has : Bool) : Option Rec11 := record_End.f k r.f0 r.f1 r.f2 r.f3 r.f4 r.f5.f0 r.f5.f1 r.f6.f0 r.f6.f1 r.f7 has d.f4.f0 d.f4.f1 d.f4.f2 d.f4.f3 d.f4.f4.f0 d.f4.f4.f1 d.f4.f5.f0 d.f4.f5.f1 d.f4.f6.f0 d.f4.f6.f1 d.f4.f7.f0 d.f4.f7.f1 d.f1 d.f6 d.f8.f0 d.f8.f1
def beatS (k : Nat) (d : S33) (r : S27) (has : Bool) : Option Rec11 := record_Beat.f k r.f0 r.f1 r.f2 r.f3 r.f4 r.f5.f0 r.f5.f1 r.f6.f0 r.f6.f1 r.f7 has d.f4.f0 d.f4.f1 d.f4.f2 d.f4.f3 d.f4.f4.f0 d.f4.f4.f1 d.f4.f5.f0 d.f4.f5.f1 d.f4.f6.f0 d.f4.f6.f1 d.f4.f7.f0 d.f4.f7.f1 d.f8.f0 d.f8.f1
def pushS (k : Nat) (d : S33) (r : S27) (has : Bool) : Option Rec11 := record_Push.f k r.f0 r.f1 r.f2 r.f3 r.f4 r.f5.f0 r.f5.f1 r.f6.f0 r.f6.f1 r.f7 has d.f5.f0 d.f5.f1 d.f5.f2 d.f5.f3 d.f5.f4 d.f5.f5.f0 d.f5.f5.f1 d.f5.f6.f0 d.f5.f6.f1 d.f5.f7 d.f2 d.f3 d.f7.f0 d.f7.f1 d.f8.f0 d.f8.f1
def recoverS (k : Nat) (d : S33) (r : S27) (has : Bool) : Option Rec11 := record_Recover.f k r.f0 r.f1 r.f2 r.f3 r.f4 r.f5.f0 r.f5.f1 r.f6.f0 r.f6.f1 r.f7 has d.f5.f0 d.f5.f1 d.f5.f2 d.f5.f3 d.f5.f4 d.f5.f5.f0 d.f5.f5.f1 d.f5.f6.f0 d.f5.f6.f1 d.f5.f7 d.f3
/-- What a deed does, by its kind: always an answer, with one write at most. -/
theorem doesS_some (k : Nat) (hk : 10 ≤ k) (d : S33) (h5 : d.f5.f7 = []) (h6 : d.f6.length ≤ 1) (r : S27) (hr : r.f7.length ≤ 1) (has : Bool) :
    ∃ t u, scriptoriumref00_Bring.f d.f0 4 = some t ∧ doesS k d r has = some (of11 u) ∧ (of11 u).1.f7.length ≤ 1 ∧ 0 ≤ t ∧ t < 4 ∧
      ((t = 0 ∧ endS k d r has = some u) ∨ (t = 1 ∧ beatS k d r has = some u) ∨ (t = 2 ∧ pushS k d r has = some u) ∨ (t = 3 ∧ recoverS k d r has = some u)) := by
  obtain ⟨t, ht, h0, h4⟩ := bring_some d.f0 4 (by omega) (by omega)
  have e : doesS k d r has = ((if t = 0 then endS k d r has else if t = 1 then beatS k d r has else if t = 2 then pushS k d r has else recoverS k d r has).map of11) := by
    unfold doesS scriptoriumlaw20_Deed_does.f
    rw [ht]
    rfl
  have h5' : d.f5.f7.length ≤ 1 := by rw [h5]; exact Nat.zero_le 1
  by_cases q0 : t = 0
  · obtain ⟨u, hu⟩ : ∃ u, endS k d r has = some u := end_some k _ _ _ _ _ _ _ _ _ _ _ _ _ _ _ _ _ _ _ _ _ _ _ _ _ _ _ hr h6 hk
    exact ⟨t, u, ht, by rw [e, if_pos q0, hu]; rfl, end_len k _ _ _ _ _ _ _ _ _ _ _ _ _ _ _ _ _ _ _ _ _ _ _ _ _ _ _ hr h6 u hu, h0, h4, .inl ⟨q0, hu⟩⟩
  by_cases q1 : t = 1
  · obtain ⟨u, hu⟩ : ∃ u, beatS k d r has = some u := beat_some k _ _ _ _ _ _ _ _ _ _ _ _ _ _ _ _ _ _ _ _ _ _ _ _ _ hr hk
    exact ⟨t, u, ht, by rw [e, if_neg q0, if_pos q1, hu]; rfl, beat_len k _ _ _ _ _ _ _ _ _ _ _ _ _ _ _ _ _ _ _ _ _ _ _ _ _ hr u hu, h0, h4, .inr (.inl ⟨q1, hu⟩)⟩
  by_cases q2 : t = 2
  · obtain ⟨u, hu⟩ : ∃ u, pushS k d r has = some u := push_some k _ _ _ _ _ _ _ _ _ _ _ _ _ _ _ _ _ _ _ _ _ _ _ _ _ _ _ hr h5' hk
    exact ⟨t, u, ht, by rw [e, if_neg q0, if_neg q1, if_pos q2, hu]; rfl, push_len k _ _ _ _ _ _ _ _ _ _ _ _ _ _ _ _ _ _ _ _ _ _ _ _ _ _ _ hr u hu, h0, h4, .inr (.inr (.inl ⟨q2, hu⟩))⟩
  · obtain ⟨u, hu⟩ : ∃ u, recoverS k d r has = some u := recover_some k _ _ _ _ _ _ _ _ _ _ _ _ _ _ _ _ _ _ _ _ _ _ hr h5' hk
    exact ⟨t, u, ht, by rw [e, if_neg q0, if_neg q1, if_neg q2, hu]; rfl, recover_len k _ _ _ _ _ _ _ _ _ _ _ _ _ _ _ _ _ _ _ _ _ _ hr u hu, h0, h4, .inr (.inr (.inr ⟨by omega, hu⟩))⟩
theorem sameW_l0 (l m : List S44) (hlen : l.length = m.length) (hl : l.length < 1000000000) : ∀ (n i k : Nat), i + n = l.length → n + 1 ≤ k → ∃ b, scriptoriumref11_SameWrites.l0 k l m (i : Int) = some b ∧ (l = m → b = true) := by
  intro n
  induction n with
  | zero =>
    intro i k hi hk
    obtain ⟨k, rfl⟩ : ∃ j, k = j + 1 := ⟨k - 1, by omega⟩
    simp only [scriptoriumref11_SameWrites.l0]
    rw [if_neg (by omega)]
    exact ⟨true, rfl, fun _ => rfl⟩
  | succ n ih =>
    intro i k hi hk
    obtain ⟨k, rfl⟩ : ∃ j, k = j + 1 := ⟨k - 1, by omega⟩
    simp only [scriptoriumref11_SameWrites.l0]
    rw [if_pos (by omega), if_pos (by omega), if_pos (by omega)]
    have hw : wrap64 ((i : Int) + 1) = ((i + 1 : Nat) : Int) := by unfold wrap64; omega
    rw [hw]
    obtain ⟨b, hb, he⟩ := ih (i + 1) k (by omega) (by omega)
    split
    · rename_i hc
      refine ⟨false, rfl, fun e => ?_⟩
      subst e
      simp at hc
    · exact ⟨b, hb, he⟩
theorem same_some (k : Nat) (i0 i1 i2 i3 : Int) (i4 : ByteArray) (i5 i6 i7 i8 : Int) (l : List S44) (j0 j1 j2 j3 : Int) (j4 : ByteArray) (j5 j6 j7 j8 : Int) (m : List S44) (hl : l.length < 1000000000) (hk : l.length + 1 ≤ k) :
    ∃ b, scriptoriumref11_SameRecord.f k i0 i1 i2 i3 i4 i5 i6 i7 i8 l j0 j1 j2 j3 j4 j5 j6 j7 j8 m = some b ∧ ((i0 = j0 ∧ i1 = j1 ∧ i2 = j2 ∧ i3 = j3 ∧ i4 = j4 ∧ i5 = j5 ∧ i6 = j6 ∧ i7 = j7 ∧ i8 = j8 ∧ l = m) → b = true) := by
  have hw : ∃ b, scriptoriumref11_SameWrites.f k l m = some b ∧ (l = m → b = true) := by
    unfold scriptoriumref11_SameWrites.f
    by_cases h : l.length = m.length
    · rw [if_pos (by omega)]
      exact sameW_l0 l m h hl l.length 0 k (by omega) (by omega)
    · rw [if_neg (by omega)]
      exact ⟨false, rfl, fun e => absurd (by rw [e]) h⟩
  obtain ⟨b, hb, he⟩ := hw
  unfold scriptoriumref11_SameRecord.f
  rw [hb]
  simp only [Option.bind_some]
  by_cases hall : i0 = j0 ∧ i1 = j1 ∧ i2 = j2 ∧ i3 = j3 ∧ i4 = j4 ∧ i5 = j5 ∧ i6 = j6 ∧ i7 = j7 ∧ i8 = j8 ∧ l = m
  · obtain ⟨rfl, rfl, rfl, rfl, rfl, rfl, rfl, rfl, rfl, rfl⟩ := hall
    refine ⟨true, ?_, fun _ => rfl⟩
    rw [if_pos rfl, if_pos rfl, if_pos rfl, if_pos rfl, if_pos rfl, if_pos (by simp), if_pos (by simp), he rfl]
  · repeat' split
    all_goals exact ⟨_, rfl, fun h => absurd h hall⟩
def Small (a b : Int) : Prop := 0 ≤ a ∧ a < 200 ∧ 0 ≤ b ∧ b < 3
theorem near1_small (a b : Int) : ∃ x y, scriptoriumlaw20_near_1.f a b = some (x, y) ∧ Small x y := by
  obtain ⟨r, h, h1, h2⟩ := bring_some a 200 (by decide) (by decide)
  obtain ⟨s, g, g1, g2⟩ := bring_some b 3 (by decide) (by decide)
  exact ⟨r, s, by unfold scriptoriumlaw20_near_1.f; rw [h, g]; rfl, h1, h2, g1, g2⟩
/-- What is near: the parts of a deed that a push looks at. -/
theorem near_full (d : S33) (t7 : Int) (h7 : scriptoriumref00_Bring.f d.f0 4 = some t7) (h3 : t7 ≠ 3) : ∃ d', nearS d = some d' ∧ d'.f0 = d.f0 ∧ d'.f3 = d.f3 ∧ (1 ≤ d'.f2 ∧ d'.f2 ≤ 9) ∧ d'.f5.f0 = 7 ∧ (0 ≤ d'.f5.f1 ∧ d'.f5.f1 < 3) ∧ d'.f5.f2 = 1 ∧ d'.f5.f3 = 5 ∧ d'.f5.f4 = ⟨#[97]⟩ ∧ Small d'.f5.f5.f0 d'.f5.f5.f1 ∧ Small d'.f5.f6.f0 d'.f5.f6.f1 ∧ d'.f5.f7 = [] ∧ d'.f6.length ≤ 1 ∧ Small d'.f7.f0 d'.f7.f1 ∧ Small d'.f8.f0 d'.f8.f1 := by
  obtain ⟨t1, h1, _, _⟩ := bring_some d.f4.f1 3 (by decide) (by decide)
  obtain ⟨t4, h4, q1, q2⟩ := bring_some d.f5.f1 3 (by decide) (by decide)
  obtain ⟨t8, h8, _, _⟩ := bring_some d.f1 3 (by decide) (by decide)
  obtain ⟨t9, h9, q3, q4⟩ := bring_some d.f2 9 (by decide) (by decide)
  obtain ⟨s0, s1, hs, _⟩ := near1_small d.f4.f4.f0 d.f4.f4.f1
  obtain ⟨u0, u1, hu, _⟩ := near1_small d.f4.f5.f0 d.f4.f5.f1
  obtain ⟨p0, p1, hp, hps⟩ := near1_small d.f5.f5.f0 d.f5.f5.f1
  obtain ⟨q0, q1', hq, hqs⟩ := near1_small d.f5.f6.f0 d.f5.f6.f1
  obtain ⟨x0, x1, hx, hxs⟩ := near1_small d.f7.f0 d.f7.f1
  obtain ⟨y0, y1, hy, hys⟩ := near1_small d.f8.f0 d.f8.f1
  refine ⟨_, by unfold nearS scriptoriumlaw20_near.f; rw [h1, h4, h7, h8, h9, hs, hu, hp, hq, hx, hy]; rfl, ?_⟩
  refine ⟨rfl, rfl, ?_, rfl, ⟨q1, q2⟩, ?_, rfl, rfl, hps, hqs, rfl, ?_, hxs, hys⟩
  · show 1 ≤ wrap64 (1 + t9) ∧ wrap64 (1 + t9) ≤ 9
    unfold wrap64
    omega
  · show (if t7 = 3 then (2 : Int) else 1) = 1
    rw [if_neg h3]
  · dsimp only
    split
    · exact Nat.le_refl 1
    · exact Nat.zero_le 1
theorem small_ok {a b : Int} (h : Small a b) : stamp_Check.f a b = some 0 := by
  obtain ⟨h1, h2, h3, h4⟩ := h
  unfold stamp_Check.f
  rw [if_neg (by omega), if_neg (by omega), if_neg (by omega), if_neg (by omega)]
theorem small_okS {a b : Int} (h : Small a b) : okS a b = true := by
  obtain ⟨h1, h2, h3, h4⟩ := h
  unfold okS
  exact decide_eq_true (by omega)
theorem check_ok (k : Nat) (hk : 5 ≤ k) (ep pr s0 s1 b0 b1 : Int) (he : 0 ≤ ep ∧ ep < 3) (hp : 1 ≤ pr ∧ pr ≤ 9) (hs : Small s0 s1) (hb : Small b0 b1) :
    cell_CheckRecord.f k 7 ep 1 pr ⟨#[97]⟩ s0 s1 b0 b1 [] = some 0 := by
  obtain ⟨k, rfl⟩ : ∃ j, k = j + 5 := ⟨k - 5, by omega⟩
  unfold cell_CheckRecord.f cell_head.f
  have ho : ordkey_Check.f ⟨#[97]⟩ = some 0 := by kernel_rfl
  have h1 : decide ((1 : Int) ≤ 7 ∧ (7 : Int) ≤ 9007199254740991 ∧ 0 ≤ ep ∧ ep ≤ 9007199254740991 ∧ 1 ≤ pr ∧ pr ≤ 1000) = true := decide_eq_true (by omega)
  rw [ho]
  simp only [Option.bind_some, h1, List.all_cons, List.all_nil, small_okS hs, small_okS hb, Bool.and_true, decide_true]
  simp [cell_CheckRecord.j0, cell_CheckRecord.j1, cell_CheckRecord.l0, cell_may.f]
theorem push_alive (k : Nat) (hk : 10 ≤ k) (ep np s0 s1 b0 b1 vs0 vs1 pri : Int) (fl : Bool) (t0 t1 w0 w1 : Int) (he : 0 ≤ ep ∧ ep < 3) (hn : 1 ≤ np ∧ np ≤ 9) (hp : 1 ≤ pri ∧ pri ≤ 9) (hs : Small s0 s1) (hb : Small b0 b1) (hv : Small vs0 vs1) (ht : Small t0 t1) (hw : Small w0 w1) (b : Bool) (hbl : stamp_Less.f k t0 t1 s0 s1 = some b) :
    ∃ u : Rec11, record_Push.f k 7 ep 1 np ⟨#[97]⟩ s0 s1 b0 b1 [] true 7 ep 1 5 ⟨#[97]⟩ vs0 vs1 b0 b1 [] pri fl t0 t1 w0 w1 = some u ∧
      (fl = false → b = true → u = (7, ep, 1, np, ⟨#[97]⟩, s0, s1, b0, b1, [], 0)) ∧
      ((fl = true ∨ b = false) → 50 < w0 - b0 → u = (7, ep, 4, np, ⟨#[97]⟩, s0, s1, b0, b1, [], 0)) ∧
      ((fl = true ∨ b = false) → ¬ 50 < w0 - b0 → np < pri → fl = true → u = (7, ep, 4, np, ⟨#[97]⟩, s0, s1, b0, b1, [], 0)) ∧
      ((fl = true ∨ b = false) → ¬ 50 < w0 - b0 → np < pri → fl = false → u = (7, ep, 1, np, ⟨#[97]⟩, t0, t1 + 1, b0, b1, [], 0)) ∧
      ((fl = true ∨ b = false) → ¬ 50 < w0 - b0 → ¬ np < pri → u = (7, ep, 1, np, ⟨#[97]⟩, s0, s1, b0, b1, [], 120)) := by
  have hc1 := check_ok k (by omega) ep np s0 s1 b0 b1 he hn hs hb
  have hc2 := check_ok k (by omega) ep 5 vs0 vs1 b0 b1 he (by omega) hv hb
  have hm : maxS [⟨b0, b1⟩, ⟨b0, b1⟩] = (⟨b0, b1⟩ : S24) := by
    show (if 0 < cmpS ⟨b0, b1⟩ ⟨b0, b1⟩ then (⟨b0, b1⟩ : S24) else ⟨b0, b1⟩) = ⟨b0, b1⟩
    split <;> rfl
  have hx : record_Expired.f b0 b1 w0 w1 = some (decide (50 < w0 - b0)) := by
    unfold record_Expired.f
    have : wrap64 (w0 - b0) = w0 - b0 := by
      obtain ⟨h1, h2, _, _⟩ := hb
      obtain ⟨h3, h4, _, _⟩ := hw
      unfold wrap64
      omega
    rw [this]
  have hnx : stamp_Next.f t0 t1 = some (t0, t1 + 1, 0) := by
    have ht' := ht
    obtain ⟨h1, h2, h3, h4⟩ := ht'
    unfold stamp_Next.f
    rw [small_ok ht, Option.bind_some, if_pos rfl]
    have e1 : (t1 == 1048575) = false := beq_eq_false_iff_ne.mpr (by omega)
    have e2 : (t0 == 1099511627776) = false := beq_eq_false_iff_ne.mpr (by omega)
    rw [e1, e2, if_neg (by simp), if_neg (by omega)]
    have : wrap64 (t1 + 1) = t1 + 1 := by unfold wrap64; omega
    rw [this]
  have hf : record_Push.f k 7 ep 1 np ⟨#[97]⟩ s0 s1 b0 b1 [] true 7 ep 1 5 ⟨#[97]⟩ vs0 vs1 b0 b1 [] pri fl t0 t1 w0 w1 = record_Push.tl k 7 ep 1 np ⟨#[97]⟩ s0 s1 b0 b1 [] pri fl t0 t1 w0 w1 (7, ep, 1, np, ⟨#[97]⟩, s0, s1, b0, b1, [], 120) := by
    unfold record_Push.f record_Push.sw
    rw [if_pos rfl, if_pos (by simp), hc1, hc2, Option.bind_some, Option.bind_some, if_pos ⟨⟨rfl, rfl, by omega, by omega⟩, by simp⟩, small_ok ht, small_ok hw, Option.bind_some, if_pos rfl, Option.bind_some, if_pos rfl, if_neg (by omega), if_neg (by omega), if_pos rfl, if_neg (by omega), hm]
  rw [hf]
  unfold record_Push.tl
  rw [hbl, hx, hnx]
  simp only [Option.bind_some]
  cases fl with
  | true =>
    simp only [if_true, Option.bind_some, Bool.false_eq_true, if_false, decide_eq_true_eq]
    by_cases h1 : 50 < w0 - b0
    · rw [if_pos h1]
      exact ⟨_, rfl, fun h => absurd h (by simp), fun _ _ => rfl, fun _ h => absurd h1 h, fun _ h => absurd h1 h, fun _ h => absurd h1 h⟩
    · rw [if_neg h1]
      by_cases h2 : np < pri
      · rw [if_pos h2]
        exact ⟨_, rfl, fun h => absurd h (by simp), fun _ h => absurd h h1, fun _ _ _ _ => rfl, fun _ _ _ h => absurd h (by simp), fun _ _ h => absurd h2 h⟩
      · rw [if_neg h2]
        exact ⟨_, rfl, fun h => absurd h (by simp), fun _ h => absurd h h1, fun _ _ h => absurd h h2, fun _ _ h => absurd h h2, fun _ _ _ => rfl⟩
  | false =>
    simp only [Bool.false_eq_true, if_false, Option.bind_some, decide_eq_true_eq]
    cases b with
    | true => exact ⟨_, rfl, fun _ _ => rfl, fun h => absurd h (by simp), fun h => absurd h (by simp), fun h => absurd h (by simp), fun h => absurd h (by simp)⟩
    | false =>
      simp only [Bool.false_eq_true, if_false]
      by_cases h1 : 50 < w0 - b0
      · rw [if_pos h1]
        exact ⟨_, rfl, fun _ h => absurd h (by simp), fun _ _ => rfl, fun _ h => absurd h1 h, fun _ h => absurd h1 h, fun _ h => absurd h1 h⟩
      · rw [if_neg h1]
        by_cases h2 : np < pri
        · rw [if_pos h2, if_pos trivial]
          exact ⟨_, rfl, fun _ h => absurd h (by simp), fun _ h => absurd h h1, fun _ _ _ h => absurd h (by simp), fun _ _ _ _ => rfl, fun _ _ h => absurd h2 h⟩
        · rw [if_neg h2]
          exact ⟨_, rfl, fun _ h => absurd h (by simp), fun _ h => absurd h h1, fun _ _ h => absurd h h2, fun _ _ h => absurd h h2, fun _ _ _ => rfl⟩
theorem RecordAlive : scriptoriumlaw20_RecordAlive.Pure := by
  intro r d _ _
  obtain ⟨k, hk⟩ : ∃ k, k = 1000 := ⟨_, rfl⟩
  refine ⟨k, ?_⟩
  have hk10 : 10 ≤ k := by omega
  have hk4 : 4 ≤ k := by omega
  unfold scriptoriumlaw20_RecordAlive.f
  refine if_pos ?_
  unfold aliveGood
  obtain ⟨d1, hd1, a0, a3, a2, a50, a51, a52, a53, a54, a55, a56, a57, a6, a7, a8⟩ := near_full ⟨2, d.f1, d.f2, d.f3, d.f4, d.f5, d.f6, d.f7, d.f8⟩ 2 rfl (by decide)
  obtain ⟨n0, hn0, c0, c3, c2, c50, c51, c52, c53, c54, c55, c56, c57, c6, c7, c8⟩ := near_full ⟨0, 0, 0, false, ⟨0, 0, 0, ⟨#[]⟩, ⟨0, 0⟩, ⟨0, 0⟩, ⟨0, 0⟩, ⟨0, 0⟩⟩, r, [], ⟨0, 0⟩, ⟨0, 0⟩⟩ 0 rfl (by decide)
  obtain ⟨t, ht, t0, t9⟩ := bring_some r.f3 9 (by decide) (by decide)
  have hnp : 1 ≤ wrap64 (1 + t) ∧ wrap64 (1 + t) ≤ 9 := by unfold wrap64; omega
  have hb := less_f k d1.f7.f0 d1.f7.f1 n0.f5.f5.f0 n0.f5.f5.f1 hk4
  obtain ⟨b, hbe⟩ : ∃ b, b = decide (d1.f7.f0 < n0.f5.f5.f0 ∨ (d1.f7.f0 = n0.f5.f5.f0 ∧ d1.f7.f1 < n0.f5.f5.f1)) := ⟨_, rfl⟩
  rw [← hbe] at hb
  obtain ⟨u, hu, u1, u2, u3, u4, u5⟩ := push_alive k hk10 n0.f5.f1 (wrap64 (1 + t)) n0.f5.f5.f0 n0.f5.f5.f1 n0.f5.f6.f0 n0.f5.f6.f1 d1.f5.f5.f0 d1.f5.f5.f1 d1.f2 d1.f3 d1.f7.f0 d1.f7.f1 d1.f8.f0 d1.f8.f1 c51 hnp a2 c55 c56 a55 a7 a8 b hb
  have hB : scriptoriumref00_Bring.f d1.f0 4 = some 2 := by rw [a0]; rfl
  have hdo : doesS k ⟨d1.f0, d1.f1, d1.f2, d1.f3, d1.f4, ⟨d1.f5.f0, n0.f5.f1, d1.f5.f2, d1.f5.f3, d1.f5.f4, d1.f5.f5, n0.f5.f6, d1.f5.f7⟩, d1.f6, d1.f7, d1.f8⟩ ⟨n0.f5.f0, n0.f5.f1, n0.f5.f2, wrap64 (1 + t), n0.f5.f4, n0.f5.f5, n0.f5.f6, n0.f5.f7⟩ true = some (of11 u) := by
    unfold doesS scriptoriumlaw20_Deed_does.f
    dsimp only
    rw [hB, Option.bind_some, if_neg (by decide), if_neg (by decide), if_pos rfl, a50, a52, a53, a54, a57, c50, c52, c54, c57, hu]
    rfl
  have hw : wrap64 (n0.f5.f6.f0 + 50) = n0.f5.f6.f0 + 50 := by
    obtain ⟨h1, h2, _, _⟩ := c56
    unfold wrap64
    omega
  refine ⟨d1, n0, t, (of11 u).1, (of11 u).2, b, hd1, hn0, ht, hdo, hb, ?_, ?_, ?_, ?_⟩
  · intro h
    rw [hw] at h
    obtain hfl | hfl : d1.f3 = true ∨ d1.f3 = false := by cases d1.f3 <;> simp
    · rw [u2 (.inl hfl) (by omega)]; exact ⟨rfl, .inr rfl⟩
    · cases hbb : b with
      | true => rw [u1 hfl hbb]; exact ⟨rfl, .inl ⟨hfl, rfl⟩⟩
      | false => rw [u2 (.inr hbb) (by omega)]; exact ⟨rfl, .inr rfl⟩
  · intro h h2
    rw [hw] at h
    refine ⟨?_, fun hfl => ?_, fun hfl => ?_⟩
    · obtain hfl | hfl : d1.f3 = true ∨ d1.f3 = false := by cases d1.f3 <;> simp
      · rw [u3 (.inl hfl) (by omega) h2 hfl]; rfl
      · cases hbb : b with
        | true => rw [u1 hfl hbb]; rfl
        | false => rw [u4 (.inr hbb) (by omega) h2 hfl]; rfl
    · rw [u3 (.inl hfl) (by omega) h2 hfl]; rfl
    · cases hbb : b with
      | true =>
        rw [u1 hfl hbb]
        exact ⟨by show (1 : Int) ≠ 4; decide, by rw [hbb] at hb; exact hb⟩
      | false =>
        rw [u4 (.inr hbb) (by omega) h2 hfl]
        refine ⟨by show (1 : Int) ≠ 4; decide, ?_⟩
        show stamp_Less.f k d1.f7.f0 d1.f7.f1 d1.f7.f0 (d1.f7.f1 + 1) = some true
        rw [less_f k _ _ _ _ hk4, decide_eq_true (by omega)]
  · intro h h2 hfl hbb
    rw [u1 hfl hbb]
    exact ⟨rfl, rfl, rfl⟩
  · intro h h2 hfb
    rw [hw] at h
    rw [u5 hfb (by omega) h2]
    refine ⟨rfl, ?_⟩
    obtain ⟨b', hb', hbt⟩ := same_some k 7 n0.f5.f1 1 (wrap64 (1 + t)) ⟨#[97]⟩ n0.f5.f5.f0 n0.f5.f5.f1 n0.f5.f6.f0 n0.f5.f6.f1 [] n0.f5.f0 n0.f5.f1 n0.f5.f2 (wrap64 (1 + t)) n0.f5.f4 n0.f5.f5.f0 n0.f5.f5.f1 n0.f5.f6.f0 n0.f5.f6.f1 n0.f5.f7 (by simp) (by simp; omega)
    rw [hbt ⟨c50.symm, rfl, c52.symm, rfl, c54.symm, rfl, rfl, rfl, rfl, c57.symm⟩] at hb'
    exact hb'
end Go.Proofs.Ythdmkacnkdmbiaa.Pure
