/- The tide (typed by hand): its reads in memory, its state, the methods that only read. -/
import Derived.Test.YtaccfbpfennjkaaPTideDoesx0
import Derived.Test.YtaccfbpfennjkaaPTideDoesx1
import Derived.Test.YtaccfbpfennjkaaPTideDoesx2
namespace Go.Proofs.Ytaccfbpfennjkaa.PTideDoes
open Go.RowKit Go.Proofs.YtaccfbpfennjkaaW.PrintWords Go.Proofs.YtaccfbpfennjkaaW.PrintLast Go.Proofs.YtaccfbpfennjkaaW.PrintMore
attribute [local go_sem] max2_int min2_int max_two min_two max_three min_three max_four min_four   -- for this text's walks alone
set_option linter.unusedVariables false
set_option linter.unusedSimpArgs false

/-- Is one stamp less than another one? -/
def ltS (a0 a1 b0 b1 : Int) : Bool := decide (a0 < b0) || (decide (a0 = b0) && decide (a1 < b1))
def cmp3 (a b : Int) : Int := if a < b then -1 else if a > b then 1 else 0
theorem compare_f (a b : Int) : cmp_Compare_int.f a b = some (cmp3 a b) := by
  unfold cmp_Compare_int.f cmp_isNaN_int.f cmp3
  simp only [Option.bind_some, bne_self_eq_false, Bool.false_eq_true, if_false]
  split
  · rfl
  · split <;> rfl
theorem or_f (k : Nat) (x y : Int) (hk : 5 < k) : cmp_Or_int.f k [x, y] = some (if x = 0 then y else x) := by
  obtain ⟨k, rfl⟩ : ∃ j, k = j + 3 := ⟨k - 3, by omega⟩
  have r0 : rd [x, y] 0 = x := rfl
  have r1 : rd [x, y] 1 = y := rfl
  have w0 : wrap64 (0 + 1) = 1 := by unfold wrap64; omega
  have w1 : wrap64 (1 + 1) = 2 := by unfold wrap64; omega
  have l2 : (([x, y] : List Int).length : Int) = 2 := rfl
  unfold cmp_Or_int.f
  rw [l2]
  simp only [cmp_Or_int.l0]
  rw [if_pos (by decide), if_pos (by decide), l2, if_pos (by decide), r0, w0]
  by_cases h : x = 0
  · rw [if_pos h, if_pos h, if_pos (by decide), if_pos (by decide), if_pos (by decide), r1, w1]
    by_cases h2 : y = 0
    · rw [if_pos h2, if_neg (by decide), h2]
    · rw [if_neg h2]
  · rw [if_neg h, if_neg h]
theorem stampcmp_f (k : Nat) (a0 a1 b0 b1 : Int) (hk : 5 < k) : stamp_compare.f k a0 a1 b0 b1 = some (if cmp3 a0 b0 = 0 then cmp3 a1 b1 else cmp3 a0 b0) := by
  unfold stamp_compare.f
  rw [compare_f, compare_f]
  simp only [Option.bind_some]
  rw [or_f k _ _ hk]
  rfl
theorem less_f (k : Nat) (a0 a1 b0 b1 : Int) (hk : 5 < k) : stamp_Less.f k a0 a1 b0 b1 = some (ltS a0 a1 b0 b1) := by
  unfold stamp_Less.f
  rw [stampcmp_f k a0 a1 b0 b1 hk]
  simp only [Option.bind_some]
  congr 1
  have e : (if cmp3 a0 b0 = 0 then cmp3 a1 b1 else cmp3 a0 b0) < 0 ↔ a0 < b0 ∨ (a0 = b0 ∧ a1 < b1) := by
    unfold cmp3
    repeat' split
    all_goals omega
  unfold ltS
  rw [Bool.eq_iff_iff]
  simp only [decide_eq_true_eq, Bool.or_eq_true, Bool.and_eq_true]
  exact e
/-! A tide in plain Lean: its low water, its reads; what Add, Raise and Max make of it; what each of them keeps. (Spans are of any type 'Sp'.) -/
section
set_option linter.unusedSectionVars false
set_option linter.unusedVariables false
/-- a is less than b (Wall, then Logic). -/
def tlt (a b : Int × Int) : Prop := a.1 < b.1 ∨ (a.1 = b.1 ∧ a.2 < b.2)
instance (a b : Int × Int) : Decidable (tlt a b) := by unfold tlt; infer_instance
/-- a is not above b. -/
def tle (a b : Int × Int) : Prop := ¬ tlt b a
instance (a b : Int × Int) : Decidable (tle a b) := by unfold tle; infer_instance
/-- The greater one of two. -/
def tmx (a b : Int × Int) : Int × Int := if tlt a b then b else a
theorem tle_refl (a : Int × Int) : tle a a := by unfold tle tlt; omega
theorem tle_trans {a b c : Int × Int} (h : tle a b) (k : tle b c) : tle a c := by unfold tle tlt at *; omega
theorem tle_anti {a b : Int × Int} (h : tle a b) (k : tle b a) : a = b := by
  obtain ⟨a1, a2⟩ := a
  obtain ⟨b1, b2⟩ := b
  unfold tle tlt at h k
  dsimp only at h k
  have h1 : a1 = b1 := by omega
  have h2 : a2 = b2 := by omega
  rw [h1, h2]
theorem tlt_le {a b : Int × Int} (h : tlt a b) : tle a b := by unfold tle tlt at *; omega
theorem tmx_left (a b : Int × Int) : tle a (tmx a b) := by
  unfold tmx
  by_cases h : tlt a b
  · rw [if_pos h]; exact tlt_le h
  · rw [if_neg h]; exact tle_refl a
theorem tmx_right (a b : Int × Int) : tle b (tmx a b) := by
  unfold tmx
  by_cases h : tlt a b
  · rw [if_pos h]; exact tle_refl b
  · rw [if_neg h]; exact h
theorem tmx_least {a b c : Int × Int} (h : tle a c) (k : tle b c) : tle (tmx a b) c := by
  unfold tmx
  by_cases h' : tlt a b
  · rw [if_pos h']; exact k
  · rw [if_neg h']; exact h
theorem tmx_of_le {a b : Int × Int} (h : tle b a) : tmx a b = a := if_neg h
/-- A read that is remembered. -/
structure Rd (Sp : Type) where
  s : Sp
  at_ : Int × Int
  o : Int
structure Td (Sp : Type) where
  low : Int × Int
  l : List (Rd Sp)
variable {Sp : Type} [DecidableEq Sp]
/-- The first read of that span and owner is brought up; none: there is no such read. -/
def Td.up (s : Sp) (o : Int) (a : Int × Int) : List (Rd Sp) → Option (List (Rd Sp))
  | [] => none
  | r :: l => if r.s = s ∧ r.o = o then some ({ r with at_ := tmx r.at_ a } :: l) else (Td.up s o a l).map (r :: ·)
/-- The least stamp of some. -/
def Td.least (m : Int × Int) : List (Rd Sp) → Int × Int
  | [] => m
  | r :: l => Td.least (if tlt r.at_ m then r.at_ else m) l
/-- Those that are not above the low water are forgotten. -/
def Td.forget (t : Td Sp) : Td Sp := { t with l := t.l.filter (fun r => decide (tlt t.low r.at_)) }
/-- A read is put behind the others. -/
def Td.push (t : Td Sp) (r : Rd Sp) : Td Sp :=
  if (t.l ++ [r]).length ≤ 64 then { t with l := t.l ++ [r] } else Td.forget { low := Td.least ((t.l ++ [r]).headD r).at_ (t.l ++ [r]), l := t.l ++ [r] }
/-- A read that is well is added. -/
def Td.add (t : Td Sp) (s : Sp) (a : Int × Int) (o : Int) : Td Sp :=
  if tlt t.low a then match Td.up s o a t.l with
    | some l => { t with l := l }
    | none => t.push { s := s, at_ := a, o := o }
  else t
def Td.raise (t : Td Sp) (a : Int × Int) : Td Sp := Td.forget { t with low := tmx t.low a }
/-- The greatest stamp of those that are asked of (p), and the low water. -/
def Td.max (p : Rd Sp → Bool) (m : Int × Int) : List (Rd Sp) → Int × Int
  | [] => m
  | r :: l => Td.max p (if p r = true then tmx m r.at_ else m) l
/-- That a read of that span, owner and stamp is told of. -/
def Td.has (t : Td Sp) (s : Sp) (o : Int) (a : Int × Int) : Prop := tle a t.low ∨ ∃ r ∈ t.l, r.s = s ∧ r.o = o ∧ tle a r.at_
theorem Td.has_mem {t : Td Sp} {r : Rd Sp} (h : r ∈ t.l) : t.has r.s r.o r.at_ := .inr ⟨r, h, rfl, rfl, tle_refl _⟩
theorem Td.has_le {t : Td Sp} {s : Sp} {o : Int} {a b : Int × Int} (h : t.has s o b) (k : tle a b) : t.has s o a := by
  rcases h with h | ⟨r, hr, h1, h2, h3⟩
  · exact .inl (tle_trans k h)
  · exact .inr ⟨r, hr, h1, h2, tle_trans k h3⟩
/-- t' tells all that t tells, and its low water is no less. -/
structure Td.Grows (t t' : Td Sp) : Prop where
  low : tle t.low t'.low
  has : ∀ s o a, t.has s o a → t'.has s o a
theorem Td.Grows.refl (t : Td Sp) : Td.Grows t t := ⟨tle_refl _, fun _ _ _ h => h⟩
theorem Td.Grows.trans {a b c : Td Sp} (h : Td.Grows a b) (k : Td.Grows b c) : Td.Grows a c := ⟨tle_trans h.low k.low, fun s o x q => k.has s o x (h.has s o x q)⟩
/-- It grows if its low water does and each read is told of. -/
theorem Td.Grows.of {t t' : Td Sp} (h : tle t.low t'.low) (k : ∀ r ∈ t.l, t'.has r.s r.o r.at_) : Td.Grows t t' := ⟨h, fun s o a q => by
  rcases q with q | ⟨r, hr, rfl, rfl, q⟩
  · exact .inl (tle_trans q h)
  · exact Td.has_le (k r hr) q⟩
theorem Td.forget_grows (t : Td Sp) : Td.Grows t t.forget := Td.Grows.of (tle_refl _) (fun r hr => by
  by_cases h : tlt t.low r.at_
  · exact .inr ⟨r, List.mem_filter.2 ⟨hr, decide_eq_true h⟩, rfl, rfl, tle_refl _⟩
  · exact .inl h)
theorem Td.up_some {s : Sp} {o : Int} {a : Int × Int} : ∀ {l l' : List (Rd Sp)}, Td.up s o a l = some l' → (∀ r ∈ l, ∃ r' ∈ l', r'.s = r.s ∧ r'.o = r.o ∧ tle r.at_ r'.at_) ∧ (∃ r' ∈ l', r'.s = s ∧ r'.o = o ∧ tle a r'.at_) ∧ (∀ r' ∈ l', r' ∈ l ∨ (∃ r ∈ l, r'.s = r.s ∧ r'.o = r.o ∧ r'.s = s ∧ r'.o = o ∧ r'.at_ = tmx r.at_ a)) ∧ l'.length = l.length
  | [], l', h => by cases h
  | r :: l, l', h => by
    unfold Td.up at h
    by_cases c : r.s = s ∧ r.o = o
    · rw [if_pos c] at h
      obtain rfl := Option.some.inj h
      refine ⟨fun x hx => ?_, ⟨_, List.mem_cons_self, c.1, c.2, tmx_right _ _⟩, fun x hx => ?_, rfl⟩
      · rcases List.mem_cons.1 hx with rfl | hx
        · exact ⟨_, List.mem_cons_self, rfl, rfl, tmx_left _ _⟩
        · exact ⟨x, List.mem_cons_of_mem _ hx, rfl, rfl, tle_refl _⟩
      · rcases List.mem_cons.1 hx with rfl | hx
        · exact .inr ⟨r, List.mem_cons_self, rfl, rfl, c.1, c.2, rfl⟩
        · exact .inl (List.mem_cons_of_mem _ hx)
    · rw [if_neg c] at h
      obtain ⟨l1, h1, rfl⟩ := Option.map_eq_some_iff.1 h
      obtain ⟨k1, ⟨y, y1, y2⟩, k3, k4⟩ := Td.up_some h1
      refine ⟨fun x hx => ?_, ⟨y, List.mem_cons_of_mem _ y1, y2⟩, fun x hx => ?_, by rw [List.length_cons, List.length_cons, k4]⟩
      · rcases List.mem_cons.1 hx with rfl | hx
        · exact ⟨x, List.mem_cons_self, rfl, rfl, tle_refl _⟩
        · obtain ⟨z, z1, z2⟩ := k1 x hx
          exact ⟨z, List.mem_cons_of_mem _ z1, z2⟩
      · rcases List.mem_cons.1 hx with rfl | hx
        · exact .inl List.mem_cons_self
        · rcases k3 x hx with q | ⟨z, z1, z2⟩
          · exact .inl (List.mem_cons_of_mem _ q)
          · exact .inr ⟨z, List.mem_cons_of_mem _ z1, z2⟩
theorem Td.least_le (m : Int × Int) : ∀ (l : List (Rd Sp)), tle (Td.least m l) m ∧ (∀ r ∈ l, tle (Td.least m l) r.at_) ∧ (Td.least m l = m ∨ ∃ r ∈ l, Td.least m l = r.at_)
  | [] => ⟨tle_refl _, (fun _ h => absurd h (by simp)), .inl rfl⟩
  | r :: l => by
    unfold Td.least
    by_cases c : tlt r.at_ m
    · rw [if_pos c]
      obtain ⟨h1, h2, h3⟩ := Td.least_le r.at_ l
      refine ⟨tle_trans h1 (tlt_le c), fun x hx => ?_, .inr ?_⟩
      · rcases List.mem_cons.1 hx with rfl | hx
        · exact h1
        · exact h2 x hx
      · rcases h3 with h3 | ⟨x, hx, h3⟩
        · exact ⟨r, List.mem_cons_self, h3⟩
        · exact ⟨x, List.mem_cons_of_mem _ hx, h3⟩
    · rw [if_neg c]
      obtain ⟨h1, h2, h3⟩ := Td.least_le m l
      refine ⟨h1, fun x hx => ?_, ?_⟩
      · rcases List.mem_cons.1 hx with rfl | hx
        · exact tle_trans h1 c
        · exact h2 x hx
      · rcases h3 with h3 | ⟨x, hx, h3⟩
        · exact .inl h3
        · exact .inr ⟨x, List.mem_cons_of_mem _ hx, h3⟩
/-- All reads are above the low water. -/
def Td.ok (t : Td Sp) : Prop := ∀ r ∈ t.l, tlt t.low r.at_
theorem Td.forget_ok (t : Td Sp) : t.forget.ok := fun r hr => of_decide_eq_true (List.mem_filter.1 hr).2
theorem Td.push_grows (t : Td Sp) (hk : t.ok) (r : Rd Sp) (h : tlt t.low r.at_) : Td.Grows t (t.push r) ∧ (t.push r).has r.s r.o r.at_ ∧ (t.push r).ok := by
  unfold Td.push
  by_cases c : (t.l ++ [r]).length ≤ 64
  · rw [if_pos c]
    refine ⟨Td.Grows.of (tle_refl _) (fun x hx => Td.has_mem (t := { t with l := t.l ++ [r] }) (List.mem_append.2 (.inl hx))), Td.has_mem (t := { t with l := t.l ++ [r] }) (List.mem_append.2 (.inr (List.mem_singleton.2 rfl))), fun x hx => ?_⟩
    rcases List.mem_append.1 hx with hx | hx
    · exact hk x hx
    · rw [List.mem_singleton.1 hx]; exact h
  · rw [if_neg c]
    have hall : ∀ x ∈ t.l ++ [r], tlt t.low x.at_ := fun x hx => by
      rcases List.mem_append.1 hx with hx | hx
      · exact hk x hx
      · rw [List.mem_singleton.1 hx]; exact h
    have hd : (t.l ++ [r]).headD r ∈ t.l ++ [r] := by
      cases t.l with
      | nil => simp
      | cons x l => simp
    obtain ⟨h1, h2, h3⟩ := Td.least_le ((t.l ++ [r]).headD r).at_ (t.l ++ [r])
    generalize Td.least ((t.l ++ [r]).headD r).at_ (t.l ++ [r]) = m at *
    have hm : tle t.low m := by
      rcases h3 with h3 | ⟨x, hx, h3⟩
      · rw [h3]; exact tlt_le (hall _ hd)
      · rw [h3]; exact tlt_le (hall _ hx)
    have g0 : Td.Grows t { low := m, l := t.l ++ [r] } := Td.Grows.of hm (fun x hx => Td.has_mem (t := { low := m, l := t.l ++ [r] }) (List.mem_append.2 (.inl hx)))
    refine ⟨g0.trans (Td.forget_grows _), (Td.forget_grows _).has _ _ _ (Td.has_mem (t := { low := m, l := t.l ++ [r] }) (List.mem_append.2 (.inr (List.mem_singleton.2 rfl)))), Td.forget_ok _⟩
theorem Td.add_grows (t : Td Sp) (hk : t.ok) (s : Sp) (a : Int × Int) (o : Int) : Td.Grows t (t.add s a o) ∧ (t.add s a o).has s o a ∧ (t.add s a o).ok := by
  unfold Td.add
  by_cases c : tlt t.low a
  · rw [if_pos c]
    cases hu : Td.up s o a t.l with
    | none => exact Td.push_grows t hk { s := s, at_ := a, o := o } c
    | some l =>
      obtain ⟨k1, ⟨y, y1, y2, y3, y4⟩, k3, _⟩ := Td.up_some hu
      refine ⟨Td.Grows.of (tle_refl _) (fun x hx => ?_), .inr ⟨y, y1, y2, y3, y4⟩, fun x hx => ?_⟩
      · obtain ⟨z, z1, z2, z3, z4⟩ := k1 x hx
        exact .inr ⟨z, z1, z2, z3, z4⟩
      · rcases k3 x hx with q | ⟨z, z1, z2, z3, z4, z5, z6⟩
        · exact hk x q
        · have h1 := hk z z1
          have h2 := tmx_left z.at_ a
          show tlt t.low x.at_
          rw [z6]
          unfold tle tlt at *
          omega
  · rw [if_neg c]
    exact ⟨Td.Grows.refl t, .inl c, hk⟩
theorem Td.raise_grows (t : Td Sp) (a : Int × Int) : Td.Grows t (t.raise a) ∧ (t.raise a).ok :=
  ⟨(Td.Grows.of (t' := { t with low := tmx t.low a }) (tmx_left _ _) (fun r hr => Td.has_mem (t := { t with low := tmx t.low a }) hr)).trans (Td.forget_grows _), Td.forget_ok _⟩
/-- The greatest one: not below what it begins with, nor below one that is asked of; and it is one of these. -/
theorem Td.max_is (p : Rd Sp → Bool) : ∀ (l : List (Rd Sp)) (m : Int × Int), tle m (Td.max p m l) ∧ (∀ r ∈ l, p r = true → tle r.at_ (Td.max p m l)) ∧ (Td.max p m l = m ∨ ∃ r ∈ l, p r = true ∧ Td.max p m l = r.at_)
  | [], m => ⟨tle_refl _, (fun _ h => absurd h (by simp)), .inl rfl⟩
  | r :: l, m => by
    unfold Td.max
    by_cases c : p r = true
    · rw [if_pos c]
      obtain ⟨h1, h2, h3⟩ := Td.max_is p l (tmx m r.at_)
      refine ⟨tle_trans (tmx_left _ _) h1, fun x hx hp => ?_, ?_⟩
      · rcases List.mem_cons.1 hx with rfl | hx
        · exact tle_trans (tmx_right _ _) h1
        · exact h2 x hx hp
      · rcases h3 with h3 | ⟨x, hx, hp, h3⟩
        · unfold tmx at h3 ⊢
          by_cases c' : tlt m r.at_
          · rw [if_pos c'] at h3 ⊢; exact .inr ⟨r, List.mem_cons_self, c, h3⟩
          · rw [if_neg c'] at h3 ⊢; exact .inl h3
        · exact .inr ⟨x, List.mem_cons_of_mem _ hx, hp, h3⟩
    · rw [if_neg c]
      obtain ⟨h1, h2, h3⟩ := Td.max_is p l m
      refine ⟨h1, fun x hx hp => ?_, ?_⟩
      · rcases List.mem_cons.1 hx with rfl | hx
        · exact absurd hp c
        · exact h2 x hx hp
      · rcases h3 with h3 | ⟨x, hx, hp, h3⟩
        · exact .inl h3
        · exact .inr ⟨x, List.mem_cons_of_mem _ hx, hp, h3⟩
/-- Max never falls, where what is asked looks at span and owner alone. -/
theorem Td.max_grows {t t' : Td Sp} (h : Td.Grows t t') (p : Rd Sp → Bool) (hp : ∀ r r' : Rd Sp, r.s = r'.s → r.o = r'.o → p r = p r') : tle (Td.max p t.low t.l) (Td.max p t'.low t'.l) := by
  obtain ⟨a1, a2, a3⟩ := Td.max_is p t.l t.low
  obtain ⟨b1, b2, _⟩ := Td.max_is p t'.l t'.low
  rcases a3 with a3 | ⟨r, hr, hq, a3⟩
  · rw [a3]; exact tle_trans h.low b1
  · rw [a3]
    rcases h.has _ _ _ (Td.has_mem hr) with q | ⟨x, hx, h1, h2, h3⟩
    · exact tle_trans q b1
    · exact tle_trans h3 (b2 x hx ((hp x r h1 h2).trans hq))
/-- Of a read that is told of, Max is at its stamp or above. -/
theorem Td.has_max {t : Td Sp} {s : Sp} {o : Int} {a : Int × Int} (h : t.has s o a) (p : Rd Sp → Bool) (hp : ∀ r : Rd Sp, r.s = s → r.o = o → p r = true) : tle a (Td.max p t.low t.l) := by
  obtain ⟨b1, b2, _⟩ := Td.max_is p t.l t.low
  rcases h with h | ⟨r, hr, h1, h2, h3⟩
  · exact tle_trans h b1
  · exact tle_trans h3 (b2 r hr (hp r h1 h2))
/-- No stamp is above m. -/
def Td.below (t : Td Sp) (m : Int × Int) : Prop := tle t.low m ∧ ∀ r ∈ t.l, tle r.at_ m
theorem Td.below_mono {t : Td Sp} {m n : Int × Int} (h : t.below m) (k : tle m n) : t.below n := ⟨tle_trans h.1 k, fun r hr => tle_trans (h.2 r hr) k⟩
theorem Td.below_max {t : Td Sp} {m : Int × Int} (h : t.below m) (p : Rd Sp → Bool) : tle (Td.max p t.low t.l) m := by
  obtain ⟨_, _, a3⟩ := Td.max_is p t.l t.low
  rcases a3 with a3 | ⟨r, hr, _, a3⟩
  · rw [a3]; exact h.1
  · rw [a3]; exact h.2 r hr
theorem Td.forget_below {t : Td Sp} {m : Int × Int} (h : t.below m) : t.forget.below m := ⟨h.1, fun r hr => h.2 r (List.mem_filter.1 hr).1⟩
theorem Td.raise_below {t : Td Sp} {m : Int × Int} (h : t.below m) (a : Int × Int) : (t.raise a).below (tmx m a) :=
  Td.forget_below (t := { t with low := tmx t.low a }) ⟨tmx_least (tle_trans h.1 (tmx_left _ _)) (tmx_right _ _), fun r hr => tle_trans (h.2 r hr) (tmx_left _ _)⟩
theorem Td.add_below {t : Td Sp} {m : Int × Int} (h : t.below m) (s : Sp) (a : Int × Int) (o : Int) : (t.add s a o).below (tmx m a) := by
  have h0 := Td.below_mono h (tmx_left m a)
  unfold Td.add
  by_cases c : tlt t.low a
  · rw [if_pos c]
    cases hu : Td.up s o a t.l with
    | some l =>
      obtain ⟨_, _, k3, _⟩ := Td.up_some hu
      refine ⟨h0.1, fun x hx => ?_⟩
      rcases k3 x hx with q | ⟨z, z1, z2, z3, z4, z5, z6⟩
      · exact h0.2 x q
      · rw [z6]; exact tmx_least (h0.2 z z1) (tmx_right _ _)
    | none =>
      show (Td.push t _).below _
      unfold Td.push
      have hall : ∀ x ∈ t.l ++ [({ s := s, at_ := a, o := o } : Rd Sp)], tle x.at_ (tmx m a) := fun x hx => by
        rcases List.mem_append.1 hx with hx | hx
        · exact h0.2 x hx
        · rw [List.mem_singleton.1 hx]; exact tmx_right _ _
      by_cases c2 : (t.l ++ [({ s := s, at_ := a, o := o } : Rd Sp)]).length ≤ 64
      · rw [if_pos c2]; exact ⟨h0.1, hall⟩
      · rw [if_neg c2]
        refine Td.forget_below ⟨?_, hall⟩
        obtain ⟨h1, h2, h3⟩ := Td.least_le ((t.l ++ [({ s := s, at_ := a, o := o } : Rd Sp)]).headD { s := s, at_ := a, o := o }).at_ (t.l ++ [({ s := s, at_ := a, o := o } : Rd Sp)])
        exact tle_trans (h2 _ (List.mem_append.2 (.inr (List.mem_singleton.2 rfl)))) (tmx_right _ _)
  · rw [if_neg c]; exact h0
end
/-! As long as nothing is forgotten, Max is just the greatest one of what was added. -/
section
variable {Sp : Type} [DecidableEq Sp]
theorem tmx_up {a b c : Int × Int} (h : tle a b) : tle (tmx a c) (tmx b c) := tmx_least (tle_trans h (tmx_left _ _)) (tmx_right _ _)
/-- Max is the one stamp that is not below any that is asked of, nor the low water, and is one of them. -/
theorem Td.max_eq {p : Rd Sp → Bool} {l : List (Rd Sp)} {m x : Int × Int} (h0 : tle m x) (h1 : ∀ r ∈ l, p r = true → tle r.at_ x) (h2 : x = m ∨ ∃ r ∈ l, p r = true ∧ x = r.at_) : Td.max p m l = x := by
  obtain ⟨a1, a2, a3⟩ := Td.max_is p l m
  refine tle_anti ?_ ?_
  · rcases a3 with a3 | ⟨r, hr, hp, a3⟩
    · rw [a3]; exact h0
    · rw [a3]; exact h1 r hr hp
  · rcases h2 with h2 | ⟨r, hr, hp, h2⟩
    · rw [h2]; exact a1
    · rw [h2]; exact a2 r hr hp
theorem Td.add_exact (t : Td Sp) (s : Sp) (a : Int × Int) (o : Int) (hl : t.l.length < 64) (p : Rd Sp → Bool) (hp : ∀ r r' : Rd Sp, r.s = r'.s → r.o = r'.o → p r = p r') :
    (t.add s a o).low = t.low ∧ (t.add s a o).l.length ≤ t.l.length + 1 ∧ Td.max p (t.add s a o).low (t.add s a o).l = if p { s := s, at_ := a, o := o } = true then tmx (Td.max p t.low t.l) a else Td.max p t.low t.l := by
  obtain ⟨a1, a2, a3⟩ := Td.max_is p t.l t.low
  unfold Td.add
  by_cases c : tlt t.low a
  · rw [if_pos c]
    cases hu : Td.up s o a t.l with
    | some l =>
      obtain ⟨k1, ⟨y, y1, y2, y3, y4⟩, k3, k4⟩ := Td.up_some hu
      refine ⟨rfl, by show l.length ≤ _; omega, ?_⟩
      show Td.max p t.low l = _
      by_cases cp : p { s := s, at_ := a, o := o } = true
      · rw [if_pos cp]
        have hy : tle a (Td.max p t.low l) := tle_trans y4 ((Td.max_is p l t.low).2.1 y y1 ((hp y _ y2 y3).trans cp))
        refine tle_anti ?_ (tmx_least ?_ hy)
        · refine (Td.max_is p l t.low).2.2.elim (fun e => ?_) (fun ⟨x, hx, hpx, e⟩ => ?_)
          · rw [e]; exact tle_trans a1 (tmx_left _ _)
          · rw [e]
            rcases k3 x hx with q | ⟨z, z1, z2, z3, z4, z5, z6⟩
            · exact tle_trans (a2 x q hpx) (tmx_left _ _)
            · rw [z6]; exact tmx_up (a2 z z1 ((hp z x z2.symm z3.symm).trans hpx))
        · rcases a3 with a3 | ⟨x, hx, hpx, a3⟩
          · rw [a3]; exact (Td.max_is p l t.low).1
          · rw [a3]
            obtain ⟨z, z1, z2, z3, z4⟩ := k1 x hx
            exact tle_trans z4 ((Td.max_is p l t.low).2.1 z z1 ((hp z x z2 z3).trans hpx))
      · rw [if_neg cp]
        refine Td.max_eq a1 (fun x hx hpx => ?_) ?_
        · rcases k3 x hx with q | ⟨z, z1, z2, z3, z4, z5, z6⟩
          · exact a2 x q hpx
          · exact absurd ((hp _ x z4.symm z5.symm).trans hpx) cp
        · rcases a3 with a3 | ⟨x, hx, hpx, a3⟩
          · exact .inl a3
          · obtain ⟨z, z1, z2, z3, z4⟩ := k1 x hx
            have hz : p z = true := (hp z x z2 z3).trans hpx
            refine .inr ⟨z, z1, hz, tle_anti (by rw [a3]; exact z4) ?_⟩
            rcases k3 z z1 with q | ⟨v, v1, v2, v3, v4, v5, v6⟩
            · exact a2 z q hz
            · exact absurd ((hp _ z v4.symm v5.symm).trans hz) cp
    | none =>
      show (Td.push t _).low = _ ∧ (Td.push t _).l.length ≤ _ ∧ Td.max p (Td.push t _).low (Td.push t _).l = _
      unfold Td.push
      rw [if_pos (by simp; omega)]
      refine ⟨rfl, by simp, ?_⟩
      show Td.max p t.low (t.l ++ [_]) = _
      by_cases cp : p { s := s, at_ := a, o := o } = true
      · rw [if_pos cp]
        refine Td.max_eq (tle_trans a1 (tmx_left _ _)) (fun x hx hpx => ?_) ?_
        · rcases List.mem_append.1 hx with hx | hx
          · exact tle_trans (a2 x hx hpx) (tmx_left _ _)
          · rw [List.mem_singleton.1 hx]; exact tmx_right _ _
        · by_cases c' : tlt (Td.max p t.low t.l) a
          · exact .inr ⟨_, List.mem_append.2 (.inr (List.mem_singleton.2 rfl)), cp, if_pos c'⟩
          · have e : tmx (Td.max p t.low t.l) a = Td.max p t.low t.l := if_neg c'
            rw [e]
            rcases a3 with a3 | ⟨x, hx, hpx, a3⟩
            · exact .inl a3
            · exact .inr ⟨x, List.mem_append.2 (.inl hx), hpx, a3⟩
      · rw [if_neg cp]
        refine Td.max_eq a1 (fun x hx hpx => ?_) ?_
        · rcases List.mem_append.1 hx with hx | hx
          · exact a2 x hx hpx
          · rw [List.mem_singleton.1 hx] at hpx; exact absurd hpx cp
        · rcases a3 with a3 | ⟨x, hx, hpx, a3⟩
          · exact .inl a3
          · exact .inr ⟨x, List.mem_append.2 (.inl hx), hpx, a3⟩
  · rw [if_neg c]
    refine ⟨rfl, Nat.le_succ _, ?_⟩
    by_cases cp : p { s := s, at_ := a, o := o } = true
    · rw [if_pos cp]; exact (tmx_of_le (tle_trans c a1)).symm
    · rw [if_neg cp]
end
deriving instance DecidableEq for S24
def k63 : Kd (Rd S24) := Kd.iso (Kd.pair k24 (Kd.pair k31 (Kd.int .i64))) (fun x : Rd S24 => (x.s, (⟨x.at_.1, x.at_.2⟩ : S31), x.o))
theorem k63_open {w : World} {x : Rd S24} {cs : List Value} (h : k63.K w x cs) : cs = [.string x.s.f0, .string x.s.f1, .int .i64 x.at_.1, .int .i64 x.at_.2, .int .i64 x.o] := by
  obtain ⟨_, _, rfl, s0, ⟨_, _, rfl, s2, rfl⟩⟩ := h
  obtain rfl := k24_open s0
  obtain rfl := k31_open s2
  exact rfl
theorem k63_mk (w : World) (x : Rd S24) : k63.K w x [.string x.s.f0, .string x.s.f1, .int .i64 x.at_.1, .int .i64 x.at_.2, .int .i64 x.o] := ⟨[.string x.s.f0, .string x.s.f1], [.int .i64 x.at_.1, .int .i64 x.at_.2, .int .i64 x.o], rfl, (k24_mk w x.s), ⟨[.int .i64 x.at_.1, .int .i64 x.at_.2], [.int .i64 x.o], rfl, (k31_mk w ⟨x.at_.1, x.at_.2⟩), rfl⟩⟩
theorem k63_mkM (w : World) (base : Nat) (ok : Nat → Prop) (x : Rd S24) : k63.M w base ok x [.string x.s.f0, .string x.s.f1, .int .i64 x.at_.1, .int .i64 x.at_.2, .int .i64 x.o] := ⟨[.string x.s.f0, .string x.s.f1], [.int .i64 x.at_.1, .int .i64 x.at_.2, .int .i64 x.o], rfl, (k24_mkM w base ok x.s), ⟨[.int .i64 x.at_.1, .int .i64 x.at_.2], [.int .i64 x.o], rfl, (k31_mkM w base ok ⟨x.at_.1, x.at_.2⟩), rfl⟩⟩
theorem info63 : (Try.prog.info? 63).map (fun i => (i.zero, i.size, i.bytes)) = some (some (.agg #[.string ⟨#[]⟩, .string ⟨#[]⟩, .int .i64 0, .int .i64 0, .int .i64 0]), 5, 56) := by kernel_rfl
/-- A tide's cells. -/
def Td.cells (t : Td S24) (A : Option Addr) (c : Nat) : Array Value := #[.bool true, .int .i64 t.low.1, .int .i64 t.low.2, .slice A t.l.length c]
/-- A tide in a block of its own, its reads in a row of its own (both made since the world W0). -/
structure TdAt (W0 W : World) (g : Nat) (t : Td S24) : Prop where
  below : Below W0.heap.size W0 W
  own : W0.heap.size ≤ g
  ex : ∃ A c, W.heap[g]? = some (.cells (t.cells A c) 58 (0, 0)) ∧ Kd.R k63 63 W W0.heap.size (fun _ => True) (.slice A t.l.length c) t.l
theorem TdAt.step {W0 W W' : World} {g : Nat} {t : Td S24} (h : TdAt W0 W g t) (hb : Below W.heap.size W W') : TdAt W0 W' g t := by
  obtain ⟨h1, h2, A, c, h3, h4⟩ := h
  exact ⟨below_step h1 hb, h2, A, c, (hb.block _ (Array.getElem?_eq_some_iff.1 h3).1).trans h3, Kd.R_below h4 hb⟩
theorem td_alloc (W : World) (o : Obj) : Below W.heap.size W (W.alloc o) := below_alloc (Below.refl _ _) _
theorem td_kept {g : Nat} {W W' : World} {o : Obj} (h : W.heap[g]? = some o) (hb : Below W.heap.size W W') : W'.heap[g]? = some o := (hb.block _ (Array.getElem?_eq_some_iff.1 h).1).trans h
set_option maxHeartbeats 16000000 in
set_option maxRecDepth 100000 in
theorem td_none (W0 W : World) (g : Nat) (t : Td S24) (h : TdAt W0 W g t) : Calls Try.prog 31 #[.pointer (some ⟨g, 0, none⟩)] W fun e w' => e = .returned (.bool false) ∧ Below W.heap.size W w' := by
  obtain ⟨_, _, A, c, h3, _⟩ := h
  have c0 : W.cell? ⟨g, 0, none⟩ = some (.bool true) := (blk_cell h3 0).trans rfl
  clear h3
  go_enter Try.func31, Try.ntmps31
  go_wp2
  go_ret
  exact ⟨rfl, Below.refl _ _⟩
set_option maxHeartbeats 16000000 in
set_option maxRecDepth 100000 in
theorem td_len (W0 W : World) (g : Nat) (t : Td S24) (h : TdAt W0 W g t) : Calls Try.prog 12 #[.pointer (some ⟨g, 0, none⟩)] W fun e w' => e = .returned (.int .i64 (t.l.length : Int)) ∧ Below W.heap.size W w' := by
  have HT := Aside0.mk h
  clear h
  go_enter Try.func12, Try.ntmps12
  go_wp2_with (go_at_call 31; (generalize hG : Calls _ _ _ _ _ = G))
  rw [← hG]; clear hG
  refine (td_none W0 W g t HT.out).mono ?_
  rintro e w1 ⟨rfl, hb1⟩
  obtain ⟨_, _, A, c, h3, _⟩ := HT.out.step hb1
  have c3 : w1.cell? ⟨g, 3, none⟩ = some (.slice A t.l.length c) := (blk_cell h3 3).trans rfl
  have HB := Aside0.mk hb1
  clear h3 hb1
  go_wp2
  go_ret
  exact ⟨rfl, HB.out⟩
set_option maxHeartbeats 16000000 in
set_option maxRecDepth 100000 in
theorem td_low (W0 W : World) (g : Nat) (t : Td S24) (h : TdAt W0 W g t) : Calls Try.prog 23 #[.pointer (some ⟨g, 0, none⟩)] W fun e w' => e = .returned (.agg #[.int .i64 t.low.1, .int .i64 t.low.2]) ∧ Below W.heap.size W w' := by
  have HT := Aside0.mk h
  clear h
  go_enter Try.func23, Try.ntmps23
  go_wp2_with (go_at_call 31; (generalize hG : Calls _ _ _ _ _ = G))
  rw [← hG]; clear hG
  refine (td_none W0 _ g t (HT.out.step (td_alloc _ _))).mono ?_
  rintro e w1 ⟨rfl, hb1⟩
  obtain ⟨_, _, A, c, h3, _⟩ := (HT.out.step (td_alloc _ _)).step hb1
  have c1 : w1.cell? ⟨g, 1, none⟩ = some (.int .i64 t.low.1) := (blk_cell h3 1).trans rfl
  have c2 : w1.cell? ⟨g, 2, none⟩ = some (.int .i64 t.low.2) := (blk_cell h3 2).trans rfl
  have hbr := td_kept (blk_new W (Obj.cells #[Value.int IntKind.i64 0, Value.int IntKind.i64 0] 31)) hb1
  have HBR := Aside0.mk hbr
  have r0 : w1.cell? ⟨W.heap.size, 0, none⟩ = some (.int .i64 0) := (blk_cell hbr 0).trans rfl
  have r1 : w1.cell? ⟨W.heap.size, 1, none⟩ = some (.int .i64 0) := (blk_cell hbr 1).trans rfl
  have f0 := blk_frozen hbr 0
  have f1 := blk_frozen hbr 1
  have HB1 := Aside0.mk (below_step (td_alloc W _) hb1)
  clear hb1 hbr h3
  go_wp2
  refine bodyPost_ret (results_cell_row rfl _ _ W.heap.size 31 #[.int .i64 t.low.1, .int .i64 t.low.2] (0, 0) _ rfl (blk_put (cs := #[.int .i64 t.low.1, .int .i64 0]) (blk_put (cs := #[.int .i64 0, .int .i64 0]) HBR.out 0 _ rfl) 1 _ rfl) Try.underlying31 rfl (by kernel_rfl)) rfl ?_
  exact ⟨rfl, Below.setCell (Below.setCell HB1.out (p := ⟨W.heap.size, 0, none⟩) (Nat.le_refl _) _) (p := ⟨W.heap.size, 1, none⟩) (Nat.le_refl _) _⟩
/-- Two spans meet. -/
def meets (a b : S24) : Bool := Op.bytesLess (Lib.maxS a.f0 b.f0).toList (Lib.minS a.f1 b.f1).toList
set_option maxHeartbeats 16000000 in
set_option maxRecDepth 100000 in
theorem spans_Meets.calls (a b : S24) (W : World) : Calls Try.prog 15 #[.agg #[.string a.f0, .string a.f1], .agg #[.string b.f0, .string b.f1]] W fun e w' => e = .returned (.bool (meets a b)) ∧ Below W.heap.size W w' := by
  unfold meets
  go_enter Try.func15, Try.ntmps15
  go_upto_region 1 with fail
  generalize hw1 : World.alloc (World.alloc W _) _ = w1
  have HB := Aside0.mk (show Below W.heap.size W w1 from by rw [← hw1]; exact below_alloc (td_alloc W _) _)
  have hA : w1.heap[W.heap.size]? = some (.cells #[.string a.f0, .string a.f1] 24 (0, 0)) := by rw [← hw1]; exact td_kept (blk_new W _) (td_alloc _ _)
  have hC : w1.heap[(W.alloc (.cells #[.string a.f0, .string a.f1] 24)).heap.size]? = some (.cells #[.string b.f0, .string b.f1] 24 (0, 0)) := by rw [← hw1]; exact blk_new _ _
  rw [show (W.alloc (.cells #[.string a.f0, .string a.f1] 24)).heap.size = W.heap.size + 1 from Array.size_push _] at hC
  have x0 : w1.cell? ⟨W.heap.size, 0, none⟩ = some (.string a.f0) := (blk_cell hA 0).trans rfl
  have x1 : w1.cell? ⟨W.heap.size, 1, none⟩ = some (.string a.f1) := (blk_cell hA 1).trans rfl
  have y0 : w1.cell? ⟨W.heap.size + 1, 0, none⟩ = some (.string b.f0) := (blk_cell hC 0).trans rfl
  have y1 : w1.cell? ⟨W.heap.size + 1, 1, none⟩ = some (.string b.f1) := (blk_cell hC 1).trans rfl
  have mx : ∀ w : World, Sem.run Try.prog (Builtin.max2 (.string a.f0) (.string b.f0)) w = .ok (.string (Lib.maxS a.f0 b.f0)) w := fun w => by simpa [Builtin.max_] using Lib.run_max_strs (P := Try.prog) w #[] 9 a.f0 b.f0
  have mn : ∀ w : World, Sem.run Try.prog (Builtin.min2 (.string a.f1) (.string b.f1)) w = .ok (.string (Lib.minS a.f1 b.f1)) w := fun w => by simpa [Builtin.min_] using Lib.run_min_strs (P := Try.prog) w #[] 9 a.f1 b.f1
  clear hw1 hA hC
  go_wp2
  go_ret
  exact ⟨rfl, HB.out⟩
/-- May that be a stamp? -/
def sok (a : Int × Int) : Bool := decide (0 ≤ a.1 ∧ a.1 ≤ 1099511627776 ∧ 0 ≤ a.2 ∧ a.2 ≤ 1048575)
theorem check_td (a : Int × Int) : stamp_Check.f a.1 a.2 = some (if sok a = true then 0 else 9) := by
  unfold stamp_Check.f sok
  by_cases h : 0 ≤ a.1 ∧ a.1 ≤ 1099511627776 ∧ 0 ≤ a.2 ∧ a.2 ≤ 1048575
  · rw [if_pos (decide_eq_true h)]
    obtain ⟨h1, h2, h3, h4⟩ := h
    repeat (first | rfl | rw [if_neg (by omega)] | rw [if_pos (by omega)] | simp (disch := omega) [h1, h2, h3, h4])
  · rw [if_neg (fun e => h (of_decide_eq_true e))]
    by_cases c1 : a.1 < 0
    · rw [if_pos c1]
    by_cases c2 : a.1 > 1099511627776
    · rw [if_neg c1, if_pos c2]
    by_cases c3 : a.2 < 0
    · rw [if_neg c1, if_neg c2, if_pos c3]
    by_cases c4 : a.2 > 1048575
    · rw [if_neg c1, if_neg c2, if_neg c3, if_pos c4]
    exact absurd ⟨by omega, by omega, by omega, by omega⟩ h
set_option maxHeartbeats 16000000 in
set_option maxRecDepth 100000 in
theorem td_new (a : Int × Int) (W : World) (ha : sok a = true) : Calls Try.prog 10 #[.agg #[.int .i64 a.1, .int .i64 a.2]] W fun e w' => ∃ g, e = .returned (.tuple #[.pointer (some ⟨g, 0, none⟩), .int .i64 0]) ∧ TdAt W w' g { low := a, l := [] } := by
  have HC := Aside0.mk ((check_td a).trans (by rw [if_pos ha]))
  clear ha
  go_enter Try.func10, Try.ntmps10
  go_upto_region 1 with fail
  generalize hw1 : World.alloc W _ = w1
  have HB := Aside0.mk (show Below W.heap.size W w1 from by rw [← hw1]; exact td_alloc W _)
  have HG := Aside0.mk (show w1.heap[W.heap.size]? = some (.cells #[.int .i64 a.1, .int .i64 a.2] 31 (0, 0)) from by rw [← hw1]; exact blk_new W _)
  clear hw1
  have x0 : w1.cell? ⟨W.heap.size, 0, none⟩ = some (.int .i64 a.1) := (blk_cell HG.out 0).trans rfl
  have x1 : w1.cell? ⟨W.heap.size, 1, none⟩ = some (.int .i64 a.2) := (blk_cell HG.out 1).trans rfl
  go_wp2_with fail
  refine (stamp_Check.calls a.1 a.2 0 _ HC.out).mono ?_
  rintro e w2 ⟨rfl, hb2⟩
  have HG2 := Aside0.mk (td_kept HG.out hb2)
  have HB2 := Aside0.mk (below_step HB.out hb2)
  clear x0 x1 hb2
  have y0 : w2.cell? ⟨W.heap.size, 0, none⟩ = some (.int .i64 a.1) := (blk_cell HG2.out 0).trans rfl
  have y1 : w2.cell? ⟨W.heap.size, 1, none⟩ = some (.int .i64 a.2) := (blk_cell HG2.out 1).trans rfl
  go_wp2
  go_ret2
  exact ⟨_, rfl, below_alloc HB2.out _, below_size HB2.out, none, 0, blk_new _ _, Kd.R_nil _ _ _ _ _⟩
set_option maxHeartbeats 16000000 in
set_option maxRecDepth 100000 in
theorem td_newbad (a : Int × Int) (W : World) (ha : sok a = false) : Calls Try.prog 10 #[.agg #[.int .i64 a.1, .int .i64 a.2]] W fun e w' => e = .returned (.tuple #[.pointer none, .int .i64 2]) ∧ Below W.heap.size W w' := by
  have HC := Aside0.mk ((check_td a).trans (by rw [if_neg (by rw [ha]; decide)]))
  clear ha
  go_enter Try.func10, Try.ntmps10
  go_upto_region 1 with fail
  generalize hw1 : World.alloc W _ = w1
  have HB := Aside0.mk (show Below W.heap.size W w1 from by rw [← hw1]; exact td_alloc W _)
  have HG := Aside0.mk (show w1.heap[W.heap.size]? = some (.cells #[.int .i64 a.1, .int .i64 a.2] 31 (0, 0)) from by rw [← hw1]; exact blk_new W _)
  clear hw1
  have x0 : w1.cell? ⟨W.heap.size, 0, none⟩ = some (.int .i64 a.1) := (blk_cell HG.out 0).trans rfl
  have x1 : w1.cell? ⟨W.heap.size, 1, none⟩ = some (.int .i64 a.2) := (blk_cell HG.out 1).trans rfl
  go_wp2_with fail
  refine (stamp_Check.calls a.1 a.2 9 _ HC.out).mono ?_
  rintro e w2 ⟨rfl, hb2⟩
  have HB2 := Aside0.mk (below_step HB.out hb2)
  clear x0 x1 hb2
  go_wp2
  go_ret2
  exact ⟨rfl, HB2.out⟩
/-- That a read is of that span and owner (the closure of Add). -/
def same (s : S24) (o : Int) (x : Rd S24) : Bool := (x.s.f0.toList == s.f0.toList && x.s.f1.toList == s.f1.toList) && x.o == o
set_option maxHeartbeats 16000000 in
set_option maxRecDepth 100000 in
theorem td_same (s : S24) (o : Int) (x : Rd S24) (b5 b7 : Nat) (W : World) (h5 : W.heap[b5]? = some (.cells #[.string s.f0, .string s.f1] 24 (0, 0))) (h7 : W.heap[b7]? = some (.cells #[.int .i64 o] 3 (0, 0))) :
    Calls Try.prog 35 #[.agg #[.string x.s.f0, .string x.s.f1, .int .i64 x.at_.1, .int .i64 x.at_.2, .int .i64 x.o], .pointer (some ⟨b5, 0, none⟩), .pointer (some ⟨b7, 0, none⟩)] W fun e w' => e = .returned (.bool (same s o x)) ∧ Below W.heap.size W w' := by
  unfold same
  go_enter Try.func35, Try.ntmps35
  go_upto_region 1 with fail
  generalize hw1 : World.alloc W _ = w1
  have HB := Aside0.mk (show Below W.heap.size W w1 from by rw [← hw1]; exact td_alloc W _)
  have hG : w1.heap[W.heap.size]? = some (.cells #[.string x.s.f0, .string x.s.f1, .int .i64 x.at_.1, .int .i64 x.at_.2, .int .i64 x.o] 63 (0, 0)) := by rw [← hw1]; exact blk_new W _
  have g5 := td_kept h5 HB.out
  have g7 := td_kept h7 HB.out
  clear hw1 h5 h7
  have x0 : w1.cell? ⟨W.heap.size, 0, none⟩ = some (.string x.s.f0) := (blk_cell hG 0).trans rfl
  have x1 : w1.cell? ⟨W.heap.size, 1, none⟩ = some (.string x.s.f1) := (blk_cell hG 1).trans rfl
  have x4 : w1.cell? ⟨W.heap.size, 4, none⟩ = some (.int .i64 x.o) := (blk_cell hG 4).trans rfl
  have y0 : w1.cell? ⟨b5, 0, none⟩ = some (.string s.f0) := (blk_cell g5 0).trans rfl
  have y1 : w1.cell? ⟨b5, 1, none⟩ = some (.string s.f1) := (blk_cell g5 1).trans rfl
  have z0 : w1.cell? ⟨b7, 0, none⟩ = some (.int .i64 o) := (blk_cell g7 0).trans rfl
  clear hG g5 g7
  go_wp2
  all_goals (go_ret; exact ⟨by simp [*], HB.out⟩)
theorem less_td (a b : Int × Int) : stamp_Less.f 9 a.1 a.2 b.1 b.2 = some (decide (tlt a b)) := by
  rw [less_f 9 _ _ _ _ (by omega)]
  refine congrArg some ?_
  rw [Bool.eq_iff_iff, decide_eq_true_iff]
  unfold ltS tlt
  simp
set_option maxHeartbeats 16000000 in
set_option maxRecDepth 100000 in
theorem td_old (low : Int × Int) (x : Rd S24) (b g : Nat) (cs : Array Value) (W : World) (hb : W.heap[b]? = some (.cells #[.pointer (some ⟨g, 0, none⟩)] 26 (0, 0))) (hg : W.heap[g]? = some (.cells cs 58 (0, 0))) (h1 : cs[1]? = some (.int .i64 low.1)) (h2 : cs[2]? = some (.int .i64 low.2)) :
    Calls Try.prog 47 #[.agg #[.string x.s.f0, .string x.s.f1, .int .i64 x.at_.1, .int .i64 x.at_.2, .int .i64 x.o], .pointer (some ⟨b, 0, none⟩)] W fun e w' => e = .returned (.bool (!decide (tlt low x.at_))) ∧ Below W.heap.size W w' := by
  go_enter Try.func47, Try.ntmps47
  go_upto_region 1 with fail
  generalize hw1 : World.alloc W _ = w1
  have HB := Aside0.mk (show Below W.heap.size W w1 from by rw [← hw1]; exact td_alloc W _)
  have hG : w1.heap[W.heap.size]? = some (.cells #[.string x.s.f0, .string x.s.f1, .int .i64 x.at_.1, .int .i64 x.at_.2, .int .i64 x.o] 63 (0, 0)) := by rw [← hw1]; exact blk_new W _
  have gb := td_kept hb HB.out
  have gg := td_kept hg HB.out
  clear hw1 hb hg
  generalize hn : W.heap.size = n at HB hG ⊢
  have HS := Aside0.mk (show ∀ V, Below w1.heap.size w1 V → V.cell? ⟨b, 0, none⟩ = some (.pointer (some ⟨g, 0, none⟩)) ∧ V.cell? ⟨g, 1, none⟩ = some (.int .i64 low.1) ∧ V.cell? ⟨g, 2, none⟩ = some (.int .i64 low.2) ∧ V.cell? ⟨n, 2, none⟩ = some (.int .i64 x.at_.1) ∧ V.cell? ⟨n, 3, none⟩ = some (.int .i64 x.at_.2) from fun V h => ⟨(blk_cell (td_kept gb h) 0).trans rfl, (blk_cell (td_kept gg h) 1).trans h1, (blk_cell (td_kept gg h) 2).trans h2, (blk_cell (td_kept hG h) 2).trans rfl, (blk_cell (td_kept hG h) 3).trans rfl⟩)
  clear gb gg hG h1 h2
  refine wp_region_noPanic ?_
  refine wp_region_held_drew (S := (fun V => V.cell? ⟨b, 0, none⟩ = some (.pointer (some ⟨g, 0, none⟩)) ∧ V.cell? ⟨g, 1, none⟩ = some (.int .i64 low.1) ∧ V.cell? ⟨g, 2, none⟩ = some (.int .i64 low.2) ∧ V.cell? ⟨n, 2, none⟩ = some (.int .i64 x.at_.1) ∧ V.cell? ⟨n, 3, none⟩ = some (.int .i64 x.at_.2))) (by kernel_rfl) (HS.out _ (below_drew1 (Below.refl _ _))) (fun hHeld => ?_)
  refine wpAnyH_take (i := 0) (oi := ⟨some 4, _, _, _, _, none⟩) (v := ?v1) rfl (by kernel_rfl) (by kernel_rfl) (by kernel_rfl) (fun _ _ _ h => h) (Or.inl ⟨by rfl, ?hy1⟩) (by with_reducible assumption) ?rest1
  case hy1 => (intro V_ hSw; (try dsimp only at hSw); go_simp; (try with_reducible rfl))
  case' rest1 => skip
  try simp only [Act.put, List.setIfInBounds_toArray, List.set_cons_zero, List.set_cons_succ]
  refine wpAnyH_take (i := 1) (oi := ⟨some 5, _, _, _, _, none⟩) (v := ?v2) rfl (by kernel_rfl) (by kernel_rfl) (by kernel_rfl) (fun _ _ _ h => h) (Or.inl ⟨by rfl, ?hy2⟩) (by with_reducible assumption) ?rest2
  case hy2 => (intro V_ hSw; (try dsimp only at hSw); go_simp; (try with_reducible rfl))
  case' rest2 => skip
  try simp only [Act.put, List.setIfInBounds_toArray, List.set_cons_zero, List.set_cons_succ]
  refine wpAnyH_take (i := 2) (oi := ⟨some 6, _, _, _, _, none⟩) (v := ?v3) rfl (by kernel_rfl) (by kernel_rfl) (by kernel_rfl) (fun _ _ _ h => h) (Or.inl ⟨by rfl, ?hy3⟩) (by with_reducible assumption) ?rest3
  case hy3 => (intro V_ hSw; (try dsimp only at hSw); go_simp; (try with_reducible rfl))
  case' rest3 => skip
  try simp only [Act.put, List.setIfInBounds_toArray, List.set_cons_zero, List.set_cons_succ]
  refine wpAnyH_take (i := 3) (oi := ⟨some 7, _, _, _, _, none⟩) (v := ?v4) rfl (by kernel_rfl) (by kernel_rfl) (by kernel_rfl) (fun _ _ _ h => h) (Or.inl ⟨by rfl, ?hy4⟩) (by with_reducible assumption) ?rest4
  case hy4 => (intro V_ hSw; (try dsimp only at hSw); go_simp; (try with_reducible rfl))
  case' rest4 => skip
  try simp only [Act.put, List.setIfInBounds_toArray, List.set_cons_zero, List.set_cons_succ]
  refine wpAnyH_take (i := 4) (oi := ⟨some 8, _, _, _, _, none⟩) (v := ?v5) rfl (by kernel_rfl) (by kernel_rfl) (by kernel_rfl) (fun _ _ _ h => h) (Or.inl ⟨by rfl, ?hy5⟩) (by with_reducible assumption) ?rest5
  case hy5 => (intro V_ hSw; (try dsimp only at hSw); go_simp; (try with_reducible rfl))
  case' rest5 => skip
  try simp only [Act.put, List.setIfInBounds_toArray, List.set_cons_zero, List.set_cons_succ]
  refine wpAnyH_take (i := 5) (oi := ⟨some 9, _, _, _, _, none⟩) (v := ?v6) rfl (by kernel_rfl) (by kernel_rfl) (by kernel_rfl) (fun _ _ _ h => h) (Or.inl ⟨by rfl, ?hy6⟩) (by with_reducible assumption) ?rest6
  case hy6 => (intro V_ hSw; (try dsimp only at hSw); go_simp; (try with_reducible rfl))
  case' rest6 => skip
  try simp only [Act.put, List.setIfInBounds_toArray, List.set_cons_zero, List.set_cons_succ]
  refine wpAnyH_ready (rs := [6]) (by kernel_rfl) (by simp) ?_
  refine AllReadyH.cons (o := ⟨some 10, _, _, _, _, none⟩) rfl (fun K hK => ?_) ?_
  · go_simp
    refine (stamp_Less.calls 9 low.1 low.2 x.at_.1 x.at_.2 (decide (tlt low x.at_)) _ (less_td _ _)).mono ?_
    rintro e w2 ⟨rfl, hb2⟩
    have HB2 := Aside0.mk (below_step (below_drew1 (Below.refl w1.heap.size w1)) hb2)
    clear hb2
    refine hK.out _ _ (HS.out _ HB2.out) (fun hHeld => ?_)
    clear hK K
    try simp only [Act.put, List.setIfInBounds_toArray, List.set_cons_zero, List.set_cons_succ]
    refine wpAnyH_take (i := 7) (oi := ⟨some 11, _, _, _, _, none⟩) (v := ?v7) rfl (by kernel_rfl) (by kernel_rfl) (by kernel_rfl) (fun _ _ _ h => h) (Or.inl ⟨by rfl, ?hy7⟩) (by with_reducible assumption) ?rest7
    case hy7 => (intro V_ hSw; (try dsimp only at hSw); go_simp; (try with_reducible rfl))
    case' rest7 => skip
    try simp only [Act.put, List.setIfInBounds_toArray, List.set_cons_zero, List.set_cons_succ]
    refine wpAnyH_take (i := 8) (oi := ⟨some 3, _, _, _, _, none⟩) (v := ?v8) rfl (by kernel_rfl) (by kernel_rfl) (by kernel_rfl) (fun _ _ _ h => h) (Or.inl ⟨by rfl, ?hy8⟩) (by with_reducible assumption) ?rest8
    case hy8 => (intro V_ hSw; (try dsimp only at hSw); go_simp; (try with_reducible rfl))
    case' rest8 => skip
    try simp only [Act.put, List.setIfInBounds_toArray, List.set_cons_zero, List.set_cons_succ]
    refine wpAnyH_done (by kernel_rfl) ?_ _
    refine NoPanic.normal ?_
    go_wp2
    go_ret
    exact ⟨by simp, below_step (show Below W.heap.size W w1 from by rw [hn]; exact HB.out) HB2.out⟩
  exact AllReadyH.nil
end Go.Proofs.Ytaccfbpfennjkaa.PTideDoes

