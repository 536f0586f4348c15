/- Written by xprint.py, a program of these sessions (over the print of the kit, with leaves typed by hand): one Lean function for each Go function, and the proof that the Go code comes to its answers. -/
import Derived.Test.YthdmkacnkdmbiaaProg
import Derived.Below
import Derived.Deep.Draws
import Derived.Deep.AppendLies
import Derived.Maps.AppendAt
import Derived.OwnWalk
import Derived.Laws.BytesArg
import Derived.Laws.MakeOwn
import Derived.Laws.OwnMore
import Derived.Deep.OwnRows
import Derived.Tactics
import Derived.Lib.ConvBytes
import Derived.Laws.Slices
import Derived.WalkKit
import Derived.KernelRfl
import Derived.RowKit3
import Derived.Deep.LoopGhost
import Derived.Deep.QuietTactic
import Derived.BigQuiet
import Derived.WideLaws
import Derived.Deep.DeepCutAuto
import Derived.Deep.CutBlock
import Derived.Deep.RegionHeld3
import Derived.Laws.Rows
import Derived.Lib.AppendStr
import Derived.ArgAppend
import Derived.Laws.IdiomCopy
import Derived.OrdersHeld
import Derived.Laws.BitsLemmas
import Derived.RowKit
import Derived.Outline
import Derived.Lib.SlBytesConst
import Derived.Lib.SliceRun
import Derived.WalkSpells
import Derived.Lib.BytesEntry
import Derived.Laws.Externs
import Derived.Test.YthdmkacnkdmbiaaStrCmp
import Derived.Test.YthdmkacnkdmbiaaVWords
import Derived.Test.YthdmkacnkdmbiaaVLast
import Derived.Test.YthdmkacnkdmbiaaVTab
import Derived.Test.YthdmkacnkdmbiaaVQPut
import Derived.Test.YthdmkacnkdmbiaaVApart
import Derived.Test.YthdmkacnkdmbiaaVArr
import Derived.Test.YthdmkacnkdmbiaaVZeros
import Derived.Test.YthdmkacnkdmbiaaVFoot
import Derived.Test.YthdmkacnkdmbiaaVKept
import Derived.Test.YthdmkacnkdmbiaaVShare
import Derived.Test.YthdmkacnkdmbiaaVN
import Derived.Test.YthdmkacnkdmbiaaVEqStruct
import Derived.Test.YthdmkacnkdmbiaaVRepsOne
import Derived.Test.YthdmkacnkdmbiaaVGuard
import Derived.Test.YthdmkacnkdmbiaaVNEv
import Derived.Test.YthdmkacnkdmbiaaVMore
namespace Go.Proofs.Ythdmkacnkdmbiaa.PRecordStaged
open Go.RowKit Go.Proofs.YthdmkacnkdmbiaaW.PrintWords Go.Proofs.YthdmkacnkdmbiaaW.PrintLast Go.Proofs.YthdmkacnkdmbiaaW.PrintMore
attribute [local go_sem] max2_int min2_int max_two min_two max_three min_three max_four min_four   -- for this text's walks alone
attribute [local go_sem] str_gtr str_leq str_geq
set_option linter.unusedVariables false
set_option linter.unusedSimpArgs false



def errW : Option Int → Value
  | none => .nilIface
  | some c => .iface 0 (.int .i64 c)
theorem errW_none : errW none = .nilIface := rfl
theorem errW_some (c : Int) : errW (some c) = .iface 0 (.int .i64 c) := rfl

theorem info3 : (Try.prog.info? 3).map (fun i => (i.zero, i.size, i.bytes)) = some (some (.int .i64 0), 1, 8) := by kernel_rfl
theorem info24 : (Try.prog.info? 24).map (fun i => (i.zero, i.size, i.bytes)) = some (some (.agg #[(.int .i64 0), (.int .i64 0)]), 2, 16) := by kernel_rfl
theorem info33 : (Try.prog.info? 33).map (fun i => (i.zero, i.size, i.bytes)) = some (some (.agg #[(.int .i64 0), (.int .i64 0), (.int .i64 0), (.bool false), (.int .i64 0), (.int .i64 0), (.int .i64 0), (.string ⟨#[]⟩), (.int .i64 0), (.int .i64 0), (.int .i64 0), (.int .i64 0), (.int .i64 0), (.int .i64 0), (.int .i64 0), (.int .i64 0), (.int .i64 0), (.int .i64 0), (.int .i64 0), (.int .i64 0), (.string ⟨#[]⟩), (.int .i64 0), (.int .i64 0), (.int .i64 0), (.int .i64 0), (.slice none 0 0), (.slice none 0 0), (.int .i64 0), (.int .i64 0), (.int .i64 0), (.int .i64 0)]), 31, 296) := by kernel_rfl
theorem info44 : (Try.prog.info? 44).map (fun i => (i.zero, i.size, i.bytes)) = some (some (.agg #[(.string ⟨#[]⟩), (.int .i64 0)]), 2, 24) := by kernel_rfl
-- the values' own types
/-! #### struct type 24 -/
structure S24 where
  f0 : Int
  f1 : Int
def z24 : S24 := ⟨(0 : Int), (0 : Int)⟩
def k24 : Kd S24 := Kd.iso (Kd.pair (Kd.int .i64) (Kd.int .i64)) (fun x : S24 => (x.f0, x.f1))
theorem k24_open {w : World} {x : S24} {cs : List Value} (h : k24.K w x cs) : cs = [.int .i64 x.f0, .int .i64 x.f1] := by
  obtain ⟨_, _, rfl, rfl, rfl⟩ := h
  exact rfl
theorem k24_openM {w : World} {base : Nat} {ok : Nat → Prop} {x : S24} {cs : List Value} (h : k24.M w base ok x cs) : cs = [.int .i64 x.f0, .int .i64 x.f1] := by
  obtain ⟨_, _, rfl, rfl, rfl⟩ := h
  exact rfl
theorem k24_mk (w : World) (x : S24)  : k24.K w x [.int .i64 x.f0, .int .i64 x.f1] := ⟨[.int .i64 x.f0], [.int .i64 x.f1], rfl, rfl, rfl⟩
theorem k24_mkM (w : World) (base : Nat) (ok : Nat → Prop) (x : S24)  : k24.M w base ok x [.int .i64 x.f0, .int .i64 x.f1] := ⟨[.int .i64 x.f0], [.int .i64 x.f1], rfl, rfl, rfl⟩
def rd_T24 (xs : List S24) (i : Int) : S24 := xs.getD i.toNat z24
theorem at_T24 {w : World} {A : Option Addr} {n : Nat} {xs : List S24} (h : Kd.C k24 w A n xs) (i : Int) (h0 : 0 ≤ i) (h1 : i < n) : ∃ ad , A = some ad ∧ w.cell? (ad.add (i.toNat * 2)) = some (.int .i64 (rd_T24 xs i).f0) ∧ w.cell? ⟨(ad.add (i.toNat * 2)).block, (ad.add (i.toNat * 2)).off + 1, none⟩ = some (.int .i64 (rd_T24 xs i).f1) := by
  obtain ⟨ad, c, e, _, hK, hc0⟩ := Kd.C_get h z24 i h0 h1
  have hc : ∀ j u, c[j]? = some u → w.cell? (ad.add (i.toNat * 2 + j)) = some u := hc0
  obtain rfl := k24_open hK
  exact ⟨ad, e, hc 0 _ rfl, by rw [← add_field _ _ 1 (by omega)]; exact hc 1 _ rfl⟩

/-! #### struct type 31 -/
structure S31 where
  f0 : Int
  f1 : Int
  f2 : Int
  f3 : ByteArray
  f4 : S24
  f5 : S24
  f6 : S24
  f7 : S24
def z31 : S31 := ⟨(0 : Int), (0 : Int), (0 : Int), (⟨#[]⟩ : ByteArray), z24, z24, z24, z24⟩
def k31 : Kd S31 := Kd.iso (Kd.pair (Kd.int .i64) (Kd.pair (Kd.int .i64) (Kd.pair (Kd.int .i64) (Kd.pair Kd.string (Kd.pair k24 (Kd.pair k24 (Kd.pair k24 k24))))))) (fun x : S31 => (x.f0, x.f1, x.f2, x.f3, x.f4, x.f5, x.f6, x.f7))
theorem k31_open {w : World} {x : S31} {cs : List Value} (h : k31.K w x cs) : cs = [.int .i64 x.f0, .int .i64 x.f1, .int .i64 x.f2, .string x.f3, .int .i64 x.f4.f0, .int .i64 x.f4.f1, .int .i64 x.f5.f0, .int .i64 x.f5.f1, .int .i64 x.f6.f0, .int .i64 x.f6.f1, .int .i64 x.f7.f0, .int .i64 x.f7.f1] := by
  obtain ⟨_, _, rfl, rfl, ⟨_, _, rfl, rfl, ⟨_, _, rfl, rfl, ⟨_, _, rfl, rfl, ⟨_, _, rfl, s4, ⟨_, _, rfl, s6, ⟨_, _, rfl, s8, s10⟩⟩⟩⟩⟩⟩⟩ := h
  obtain rfl := k24_open s4
  obtain rfl := k24_open s6
  obtain rfl := k24_open s8
  obtain rfl := k24_open s10
  exact rfl
theorem k31_openM {w : World} {base : Nat} {ok : Nat → Prop} {x : S31} {cs : List Value} (h : k31.M w base ok x cs) : cs = [.int .i64 x.f0, .int .i64 x.f1, .int .i64 x.f2, .string x.f3, .int .i64 x.f4.f0, .int .i64 x.f4.f1, .int .i64 x.f5.f0, .int .i64 x.f5.f1, .int .i64 x.f6.f0, .int .i64 x.f6.f1, .int .i64 x.f7.f0, .int .i64 x.f7.f1] := by
  obtain ⟨_, _, rfl, rfl, ⟨_, _, rfl, rfl, ⟨_, _, rfl, rfl, ⟨_, _, rfl, rfl, ⟨_, _, rfl, s4, ⟨_, _, rfl, s6, ⟨_, _, rfl, s8, s10⟩⟩⟩⟩⟩⟩⟩ := h
  obtain rfl := k24_openM s4
  obtain rfl := k24_openM s6
  obtain rfl := k24_openM s8
  obtain rfl := k24_openM s10
  exact rfl
theorem k31_mk (w : World) (x : S31)  : k31.K w x [.int .i64 x.f0, .int .i64 x.f1, .int .i64 x.f2, .string x.f3, .int .i64 x.f4.f0, .int .i64 x.f4.f1, .int .i64 x.f5.f0, .int .i64 x.f5.f1, .int .i64 x.f6.f0, .int .i64 x.f6.f1, .int .i64 x.f7.f0, .int .i64 x.f7.f1] := ⟨[.int .i64 x.f0], [.int .i64 x.f1, .int .i64 x.f2, .string x.f3, .int .i64 x.f4.f0, .int .i64 x.f4.f1, .int .i64 x.f5.f0, .int .i64 x.f5.f1, .int .i64 x.f6.f0, .int .i64 x.f6.f1, .int .i64 x.f7.f0, .int .i64 x.f7.f1], rfl, rfl, ⟨[.int .i64 x.f1], [.int .i64 x.f2, .string x.f3, .int .i64 x.f4.f0, .int .i64 x.f4.f1, .int .i64 x.f5.f0, .int .i64 x.f5.f1, .int .i64 x.f6.f0, .int .i64 x.f6.f1, .int .i64 x.f7.f0, .int .i64 x.f7.f1], rfl, rfl, ⟨[.int .i64 x.f2], [.string x.f3, .int .i64 x.f4.f0, .int .i64 x.f4.f1, .int .i64 x.f5.f0, .int .i64 x.f5.f1, .int .i64 x.f6.f0, .int .i64 x.f6.f1, .int .i64 x.f7.f0, .int .i64 x.f7.f1], rfl, rfl, ⟨[.string x.f3], [.int .i64 x.f4.f0, .int .i64 x.f4.f1, .int .i64 x.f5.f0, .int .i64 x.f5.f1, .int .i64 x.f6.f0, .int .i64 x.f6.f1, .int .i64 x.f7.f0, .int .i64 x.f7.f1], rfl, rfl, ⟨[.int .i64 x.f4.f0, .int .i64 x.f4.f1], [.int .i64 x.f5.f0, .int .i64 x.f5.f1, .int .i64 x.f6.f0, .int .i64 x.f6.f1, .int .i64 x.f7.f0, .int .i64 x.f7.f1], rfl, (k24_mk w x.f4 ), ⟨[.int .i64 x.f5.f0, .int .i64 x.f5.f1], [.int .i64 x.f6.f0, .int .i64 x.f6.f1, .int .i64 x.f7.f0, .int .i64 x.f7.f1], rfl, (k24_mk w x.f5 ), ⟨[.int .i64 x.f6.f0, .int .i64 x.f6.f1], [.int .i64 x.f7.f0, .int .i64 x.f7.f1], rfl, (k24_mk w x.f6 ), (k24_mk w x.f7 )⟩⟩⟩⟩⟩⟩⟩
theorem k31_mkM (w : World) (base : Nat) (ok : Nat → Prop) (x : S31)  : k31.M w base ok x [.int .i64 x.f0, .int .i64 x.f1, .int .i64 x.f2, .string x.f3, .int .i64 x.f4.f0, .int .i64 x.f4.f1, .int .i64 x.f5.f0, .int .i64 x.f5.f1, .int .i64 x.f6.f0, .int .i64 x.f6.f1, .int .i64 x.f7.f0, .int .i64 x.f7.f1] := ⟨[.int .i64 x.f0], [.int .i64 x.f1, .int .i64 x.f2, .string x.f3, .int .i64 x.f4.f0, .int .i64 x.f4.f1, .int .i64 x.f5.f0, .int .i64 x.f5.f1, .int .i64 x.f6.f0, .int .i64 x.f6.f1, .int .i64 x.f7.f0, .int .i64 x.f7.f1], rfl, rfl, ⟨[.int .i64 x.f1], [.int .i64 x.f2, .string x.f3, .int .i64 x.f4.f0, .int .i64 x.f4.f1, .int .i64 x.f5.f0, .int .i64 x.f5.f1, .int .i64 x.f6.f0, .int .i64 x.f6.f1, .int .i64 x.f7.f0, .int .i64 x.f7.f1], rfl, rfl, ⟨[.int .i64 x.f2], [.string x.f3, .int .i64 x.f4.f0, .int .i64 x.f4.f1, .int .i64 x.f5.f0, .int .i64 x.f5.f1, .int .i64 x.f6.f0, .int .i64 x.f6.f1, .int .i64 x.f7.f0, .int .i64 x.f7.f1], rfl, rfl, ⟨[.string x.f3], [.int .i64 x.f4.f0, .int .i64 x.f4.f1, .int .i64 x.f5.f0, .int .i64 x.f5.f1, .int .i64 x.f6.f0, .int .i64 x.f6.f1, .int .i64 x.f7.f0, .int .i64 x.f7.f1], rfl, rfl, ⟨[.int .i64 x.f4.f0, .int .i64 x.f4.f1], [.int .i64 x.f5.f0, .int .i64 x.f5.f1, .int .i64 x.f6.f0, .int .i64 x.f6.f1, .int .i64 x.f7.f0, .int .i64 x.f7.f1], rfl, (k24_mkM w base ok x.f4 ), ⟨[.int .i64 x.f5.f0, .int .i64 x.f5.f1], [.int .i64 x.f6.f0, .int .i64 x.f6.f1, .int .i64 x.f7.f0, .int .i64 x.f7.f1], rfl, (k24_mkM w base ok x.f5 ), ⟨[.int .i64 x.f6.f0, .int .i64 x.f6.f1], [.int .i64 x.f7.f0, .int .i64 x.f7.f1], rfl, (k24_mkM w base ok x.f6 ), (k24_mkM w base ok x.f7 )⟩⟩⟩⟩⟩⟩⟩
def rd_T31 (xs : List S31) (i : Int) : S31 := xs.getD i.toNat z31
theorem at_T31 {w : World} {A : Option Addr} {n : Nat} {xs : List S31} (h : Kd.C k31 w A n xs) (i : Int) (h0 : 0 ≤ i) (h1 : i < n) : ∃ ad , A = some ad ∧ w.cell? (ad.add (i.toNat * 12)) = some (.int .i64 (rd_T31 xs i).f0) ∧ w.cell? ⟨(ad.add (i.toNat * 12)).block, (ad.add (i.toNat * 12)).off + 1, none⟩ = some (.int .i64 (rd_T31 xs i).f1) ∧ w.cell? ⟨(ad.add (i.toNat * 12)).block, (ad.add (i.toNat * 12)).off + 2, none⟩ = some (.int .i64 (rd_T31 xs i).f2) ∧ w.cell? ⟨(ad.add (i.toNat * 12)).block, (ad.add (i.toNat * 12)).off + 3, none⟩ = some (.string (rd_T31 xs i).f3) ∧ w.cell? ⟨(ad.add (i.toNat * 12)).block, (ad.add (i.toNat * 12)).off + 4, none⟩ = some (.int .i64 (rd_T31 xs i).f4.f0) ∧ w.cell? ⟨(ad.add (i.toNat * 12)).block, (ad.add (i.toNat * 12)).off + 5, none⟩ = some (.int .i64 (rd_T31 xs i).f4.f1) ∧ w.cell? ⟨(ad.add (i.toNat * 12)).block, (ad.add (i.toNat * 12)).off + 6, none⟩ = some (.int .i64 (rd_T31 xs i).f5.f0) ∧ w.cell? ⟨(ad.add (i.toNat * 12)).block, (ad.add (i.toNat * 12)).off + 7, none⟩ = some (.int .i64 (rd_T31 xs i).f5.f1) ∧ w.cell? ⟨(ad.add (i.toNat * 12)).block, (ad.add (i.toNat * 12)).off + 8, none⟩ = some (.int .i64 (rd_T31 xs i).f6.f0) ∧ w.cell? ⟨(ad.add (i.toNat * 12)).block, (ad.add (i.toNat * 12)).off + 9, none⟩ = some (.int .i64 (rd_T31 xs i).f6.f1) ∧ w.cell? ⟨(ad.add (i.toNat * 12)).block, (ad.add (i.toNat * 12)).off + 10, none⟩ = some (.int .i64 (rd_T31 xs i).f7.f0) ∧ w.cell? ⟨(ad.add (i.toNat * 12)).block, (ad.add (i.toNat * 12)).off + 11, none⟩ = some (.int .i64 (rd_T31 xs i).f7.f1) := by
  obtain ⟨ad, c, e, _, hK, hc0⟩ := Kd.C_get h z31 i h0 h1
  have hc : ∀ j u, c[j]? = some u → w.cell? (ad.add (i.toNat * 12 + j)) = some u := hc0
  obtain rfl := k31_open hK
  exact ⟨ad, e, hc 0 _ rfl, by rw [← add_field _ _ 1 (by omega)]; exact hc 1 _ rfl, by rw [← add_field _ _ 2 (by omega)]; exact hc 2 _ rfl, by rw [← add_field _ _ 3 (by omega)]; exact hc 3 _ rfl, by rw [← add_field _ _ 4 (by omega)]; exact hc 4 _ rfl, by rw [← add_field _ _ 5 (by omega)]; exact hc 5 _ rfl, by rw [← add_field _ _ 6 (by omega)]; exact hc 6 _ rfl, by rw [← add_field _ _ 7 (by omega)]; exact hc 7 _ rfl, by rw [← add_field _ _ 8 (by omega)]; exact hc 8 _ rfl, by rw [← add_field _ _ 9 (by omega)]; exact hc 9 _ rfl, by rw [← add_field _ _ 10 (by omega)]; exact hc 10 _ rfl, by rw [← add_field _ _ 11 (by omega)]; exact hc 11 _ rfl⟩

/-! #### struct type 44 -/
structure S44 where
  f0 : ByteArray
  f1 : Int
def z44 : S44 := ⟨(⟨#[]⟩ : ByteArray), (0 : Int)⟩
def k44 : Kd S44 := Kd.iso (Kd.pair Kd.string (Kd.int .i64)) (fun x : S44 => (x.f0, x.f1))
theorem k44_open {w : World} {x : S44} {cs : List Value} (h : k44.K w x cs) : cs = [.string x.f0, .int .i64 x.f1] := by
  obtain ⟨_, _, rfl, rfl, rfl⟩ := h
  exact rfl
theorem k44_openM {w : World} {base : Nat} {ok : Nat → Prop} {x : S44} {cs : List Value} (h : k44.M w base ok x cs) : cs = [.string x.f0, .int .i64 x.f1] := by
  obtain ⟨_, _, rfl, rfl, rfl⟩ := h
  exact rfl
theorem k44_mk (w : World) (x : S44)  : k44.K w x [.string x.f0, .int .i64 x.f1] := ⟨[.string x.f0], [.int .i64 x.f1], rfl, rfl, rfl⟩
theorem k44_mkM (w : World) (base : Nat) (ok : Nat → Prop) (x : S44)  : k44.M w base ok x [.string x.f0, .int .i64 x.f1] := ⟨[.string x.f0], [.int .i64 x.f1], rfl, rfl, rfl⟩
def rd_T44 (xs : List S44) (i : Int) : S44 := xs.getD i.toNat z44
theorem at_T44 {w : World} {A : Option Addr} {n : Nat} {xs : List S44} (h : Kd.C k44 w A n xs) (i : Int) (h0 : 0 ≤ i) (h1 : i < n) : ∃ ad , A = some ad ∧ w.cell? (ad.add (i.toNat * 2)) = some (.string (rd_T44 xs i).f0) ∧ w.cell? ⟨(ad.add (i.toNat * 2)).block, (ad.add (i.toNat * 2)).off + 1, none⟩ = some (.int .i64 (rd_T44 xs i).f1) := by
  obtain ⟨ad, c, e, _, hK, hc0⟩ := Kd.C_get h z44 i h0 h1
  have hc : ∀ j u, c[j]? = some u → w.cell? (ad.add (i.toNat * 2 + j)) = some u := hc0
  obtain rfl := k44_open hK
  exact ⟨ad, e, hc 0 _ rfl, by rw [← add_field _ _ 1 (by omega)]; exact hc 1 _ rfl⟩

def rd_L6 (xs : List (List S44)) (i : Int) : (List S44) := xs.getD i.toNat ([] : List S44)
theorem at_L6 {w : World} {A : Option Addr} {n : Nat} {xs : List (List S44)} (h : Kd.C (Kd.slice 44 k44) w A n xs) (i : Int) (h0 : 0 ≤ i) (h1 : i < n) : ∃ ad A0 c0, A = some ad ∧ w.cell? (ad.add i.toNat) = some (.slice A0 (rd_L6 xs i).length c0) ∧ (rd_L6 xs i).length ≤ c0 ∧ k44.C w A0 (rd_L6 xs i).length (rd_L6 xs i) := by
  obtain ⟨ad, c, e, _, hK, hc0⟩ := Kd.C_get h ([] : List S44) i h0 h1
  have hc : ∀ j u, c[j]? = some u → w.cell? (ad.add (i.toNat * 1 + j)) = some u := hc0
  obtain ⟨A0, c0, rfl, l0, g0⟩ := hK
  exact ⟨ad, A0, c0, e, by have hq := hc 0 _ rfl; rwa [Nat.mul_one, Nat.add_zero] at hq, l0, g0⟩

/-! #### struct type 27 -/
structure S27 where
  f0 : Int
  f1 : Int
  f2 : Int
  f3 : Int
  f4 : ByteArray
  f5 : S24
  f6 : S24
  f7 : (List S44)
def z27 : S27 := ⟨(0 : Int), (0 : Int), (0 : Int), (0 : Int), (⟨#[]⟩ : ByteArray), z24, z24, ([] : List S44)⟩
def k27 : Kd S27 := Kd.iso (Kd.pair (Kd.int .i64) (Kd.pair (Kd.int .i64) (Kd.pair (Kd.int .i64) (Kd.pair (Kd.int .i64) (Kd.pair Kd.string (Kd.pair k24 (Kd.pair k24 (Kd.slice 44 k44)))))))) (fun x : S27 => (x.f0, x.f1, x.f2, x.f3, x.f4, x.f5, x.f6, x.f7))
theorem k27_open {w : World} {x : S27} {cs : List Value} (h : k27.K w x cs) : ∃ A9 c9, cs = [.int .i64 x.f0, .int .i64 x.f1, .int .i64 x.f2, .int .i64 x.f3, .string x.f4, .int .i64 x.f5.f0, .int .i64 x.f5.f1, .int .i64 x.f6.f0, .int .i64 x.f6.f1, .slice A9 x.f7.length c9] ∧ x.f7.length ≤ c9 ∧ k44.C w A9 x.f7.length x.f7 := by
  obtain ⟨_, _, rfl, rfl, ⟨_, _, rfl, rfl, ⟨_, _, rfl, rfl, ⟨_, _, rfl, rfl, ⟨_, _, rfl, rfl, ⟨_, _, rfl, s5, ⟨_, _, rfl, s7, ⟨A9, c9, rfl, l9, g9⟩⟩⟩⟩⟩⟩⟩⟩ := h
  obtain rfl := k24_open s5
  obtain rfl := k24_open s7
  exact ⟨A9, c9, rfl, l9, g9⟩
theorem k27_openM {w : World} {base : Nat} {ok : Nat → Prop} {x : S27} {cs : List Value} (h : k27.M w base ok x cs) : ∃ v9, cs = [.int .i64 x.f0, .int .i64 x.f1, .int .i64 x.f2, .int .i64 x.f3, .string x.f4, .int .i64 x.f5.f0, .int .i64 x.f5.f1, .int .i64 x.f6.f0, .int .i64 x.f6.f1, v9] ∧ k44.R 44 w base ok v9 x.f7 := by
  obtain ⟨_, _, rfl, rfl, ⟨_, _, rfl, rfl, ⟨_, _, rfl, rfl, ⟨_, _, rfl, rfl, ⟨_, _, rfl, rfl, ⟨_, _, rfl, s5, ⟨_, _, rfl, s7, ⟨v9, rfl, g9⟩⟩⟩⟩⟩⟩⟩⟩ := h
  obtain rfl := k24_openM s5
  obtain rfl := k24_openM s7
  exact ⟨v9, rfl, g9⟩
theorem k27_mk (w : World) (x : S27) {A9 : Option Addr} {c9 : Nat} (l9 : x.f7.length ≤ c9) (g9 : k44.C w A9 x.f7.length x.f7) : k27.K w x [.int .i64 x.f0, .int .i64 x.f1, .int .i64 x.f2, .int .i64 x.f3, .string x.f4, .int .i64 x.f5.f0, .int .i64 x.f5.f1, .int .i64 x.f6.f0, .int .i64 x.f6.f1, .slice A9 x.f7.length c9] := ⟨[.int .i64 x.f0], [.int .i64 x.f1, .int .i64 x.f2, .int .i64 x.f3, .string x.f4, .int .i64 x.f5.f0, .int .i64 x.f5.f1, .int .i64 x.f6.f0, .int .i64 x.f6.f1, .slice A9 x.f7.length c9], rfl, rfl, ⟨[.int .i64 x.f1], [.int .i64 x.f2, .int .i64 x.f3, .string x.f4, .int .i64 x.f5.f0, .int .i64 x.f5.f1, .int .i64 x.f6.f0, .int .i64 x.f6.f1, .slice A9 x.f7.length c9], rfl, rfl, ⟨[.int .i64 x.f2], [.int .i64 x.f3, .string x.f4, .int .i64 x.f5.f0, .int .i64 x.f5.f1, .int .i64 x.f6.f0, .int .i64 x.f6.f1, .slice A9 x.f7.length c9], rfl, rfl, ⟨[.int .i64 x.f3], [.string x.f4, .int .i64 x.f5.f0, .int .i64 x.f5.f1, .int .i64 x.f6.f0, .int .i64 x.f6.f1, .slice A9 x.f7.length c9], rfl, rfl, ⟨[.string x.f4], [.int .i64 x.f5.f0, .int .i64 x.f5.f1, .int .i64 x.f6.f0, .int .i64 x.f6.f1, .slice A9 x.f7.length c9], rfl, rfl, ⟨[.int .i64 x.f5.f0, .int .i64 x.f5.f1], [.int .i64 x.f6.f0, .int .i64 x.f6.f1, .slice A9 x.f7.length c9], rfl, (k24_mk w x.f5 ), ⟨[.int .i64 x.f6.f0, .int .i64 x.f6.f1], [.slice A9 x.f7.length c9], rfl, (k24_mk w x.f6 ), ⟨A9, c9, rfl, l9, g9⟩⟩⟩⟩⟩⟩⟩⟩
theorem k27_mkM (w : World) (base : Nat) (ok : Nat → Prop) (x : S27) {v9 : Value} (g9 : k44.R 44 w base ok v9 x.f7) : k27.M w base ok x [.int .i64 x.f0, .int .i64 x.f1, .int .i64 x.f2, .int .i64 x.f3, .string x.f4, .int .i64 x.f5.f0, .int .i64 x.f5.f1, .int .i64 x.f6.f0, .int .i64 x.f6.f1, v9] := ⟨[.int .i64 x.f0], [.int .i64 x.f1, .int .i64 x.f2, .int .i64 x.f3, .string x.f4, .int .i64 x.f5.f0, .int .i64 x.f5.f1, .int .i64 x.f6.f0, .int .i64 x.f6.f1, v9], rfl, rfl, ⟨[.int .i64 x.f1], [.int .i64 x.f2, .int .i64 x.f3, .string x.f4, .int .i64 x.f5.f0, .int .i64 x.f5.f1, .int .i64 x.f6.f0, .int .i64 x.f6.f1, v9], rfl, rfl, ⟨[.int .i64 x.f2], [.int .i64 x.f3, .string x.f4, .int .i64 x.f5.f0, .int .i64 x.f5.f1, .int .i64 x.f6.f0, .int .i64 x.f6.f1, v9], rfl, rfl, ⟨[.int .i64 x.f3], [.string x.f4, .int .i64 x.f5.f0, .int .i64 x.f5.f1, .int .i64 x.f6.f0, .int .i64 x.f6.f1, v9], rfl, rfl, ⟨[.string x.f4], [.int .i64 x.f5.f0, .int .i64 x.f5.f1, .int .i64 x.f6.f0, .int .i64 x.f6.f1, v9], rfl, rfl, ⟨[.int .i64 x.f5.f0, .int .i64 x.f5.f1], [.int .i64 x.f6.f0, .int .i64 x.f6.f1, v9], rfl, (k24_mkM w base ok x.f5 ), ⟨[.int .i64 x.f6.f0, .int .i64 x.f6.f1], [v9], rfl, (k24_mkM w base ok x.f6 ), ⟨v9, rfl, g9⟩⟩⟩⟩⟩⟩⟩⟩
def rd_T27 (xs : List S27) (i : Int) : S27 := xs.getD i.toNat z27
theorem at_T27 {w : World} {A : Option Addr} {n : Nat} {xs : List S27} (h : Kd.C k27 w A n xs) (i : Int) (h0 : 0 ≤ i) (h1 : i < n) : ∃ ad A9 c9, A = some ad ∧ w.cell? (ad.add (i.toNat * 10)) = some (.int .i64 (rd_T27 xs i).f0) ∧ w.cell? ⟨(ad.add (i.toNat * 10)).block, (ad.add (i.toNat * 10)).off + 1, none⟩ = some (.int .i64 (rd_T27 xs i).f1) ∧ w.cell? ⟨(ad.add (i.toNat * 10)).block, (ad.add (i.toNat * 10)).off + 2, none⟩ = some (.int .i64 (rd_T27 xs i).f2) ∧ w.cell? ⟨(ad.add (i.toNat * 10)).block, (ad.add (i.toNat * 10)).off + 3, none⟩ = some (.int .i64 (rd_T27 xs i).f3) ∧ w.cell? ⟨(ad.add (i.toNat * 10)).block, (ad.add (i.toNat * 10)).off + 4, none⟩ = some (.string (rd_T27 xs i).f4) ∧ w.cell? ⟨(ad.add (i.toNat * 10)).block, (ad.add (i.toNat * 10)).off + 5, none⟩ = some (.int .i64 (rd_T27 xs i).f5.f0) ∧ w.cell? ⟨(ad.add (i.toNat * 10)).block, (ad.add (i.toNat * 10)).off + 6, none⟩ = some (.int .i64 (rd_T27 xs i).f5.f1) ∧ w.cell? ⟨(ad.add (i.toNat * 10)).block, (ad.add (i.toNat * 10)).off + 7, none⟩ = some (.int .i64 (rd_T27 xs i).f6.f0) ∧ w.cell? ⟨(ad.add (i.toNat * 10)).block, (ad.add (i.toNat * 10)).off + 8, none⟩ = some (.int .i64 (rd_T27 xs i).f6.f1) ∧ w.cell? ⟨(ad.add (i.toNat * 10)).block, (ad.add (i.toNat * 10)).off + 9, none⟩ = some (.slice A9 (rd_T27 xs i).f7.length c9) ∧ (rd_T27 xs i).f7.length ≤ c9 ∧ k44.C w A9 (rd_T27 xs i).f7.length (rd_T27 xs i).f7 := by
  obtain ⟨ad, c, e, _, hK, hc0⟩ := Kd.C_get h z27 i h0 h1
  have hc : ∀ j u, c[j]? = some u → w.cell? (ad.add (i.toNat * 10 + j)) = some u := hc0
  obtain ⟨A9, c9, rfl, l9, g9⟩ := k27_open hK
  exact ⟨ad, A9, c9, e, hc 0 _ rfl, by rw [← add_field _ _ 1 (by omega)]; exact hc 1 _ rfl, by rw [← add_field _ _ 2 (by omega)]; exact hc 2 _ rfl, by rw [← add_field _ _ 3 (by omega)]; exact hc 3 _ rfl, by rw [← add_field _ _ 4 (by omega)]; exact hc 4 _ rfl, by rw [← add_field _ _ 5 (by omega)]; exact hc 5 _ rfl, by rw [← add_field _ _ 6 (by omega)]; exact hc 6 _ rfl, by rw [← add_field _ _ 7 (by omega)]; exact hc 7 _ rfl, by rw [← add_field _ _ 8 (by omega)]; exact hc 8 _ rfl, by rw [← add_field _ _ 9 (by omega)]; exact hc 9 _ rfl, l9, g9⟩

/-! #### struct type 33 -/
structure S33 where
  f0 : Int
  f1 : Int
  f2 : Int
  f3 : Bool
  f4 : S31
  f5 : S27
  f6 : (List S44)
  f7 : S24
  f8 : S24
def z33 : S33 := ⟨(0 : Int), (0 : Int), (0 : Int), false, z31, z27, ([] : List S44), z24, z24⟩
def k33 : Kd S33 := Kd.iso (Kd.pair (Kd.int .i64) (Kd.pair (Kd.int .i64) (Kd.pair (Kd.int .i64) (Kd.pair Kd.bool (Kd.pair k31 (Kd.pair k27 (Kd.pair (Kd.slice 44 k44) (Kd.pair k24 k24)))))))) (fun x : S33 => (x.f0, x.f1, x.f2, x.f3, x.f4, x.f5, x.f6, x.f7, x.f8))
theorem k33_open {w : World} {x : S33} {cs : List Value} (h : k33.K w x cs) : ∃ A25 c25 A26 c26, cs = [.int .i64 x.f0, .int .i64 x.f1, .int .i64 x.f2, .bool x.f3, .int .i64 x.f4.f0, .int .i64 x.f4.f1, .int .i64 x.f4.f2, .string x.f4.f3, .int .i64 x.f4.f4.f0, .int .i64 x.f4.f4.f1, .int .i64 x.f4.f5.f0, .int .i64 x.f4.f5.f1, .int .i64 x.f4.f6.f0, .int .i64 x.f4.f6.f1, .int .i64 x.f4.f7.f0, .int .i64 x.f4.f7.f1, .int .i64 x.f5.f0, .int .i64 x.f5.f1, .int .i64 x.f5.f2, .int .i64 x.f5.f3, .string x.f5.f4, .int .i64 x.f5.f5.f0, .int .i64 x.f5.f5.f1, .int .i64 x.f5.f6.f0, .int .i64 x.f5.f6.f1, .slice A25 x.f5.f7.length c25, .slice A26 x.f6.length c26, .int .i64 x.f7.f0, .int .i64 x.f7.f1, .int .i64 x.f8.f0, .int .i64 x.f8.f1] ∧ x.f5.f7.length ≤ c25 ∧ k44.C w A25 x.f5.f7.length x.f5.f7 ∧ x.f6.length ≤ c26 ∧ k44.C w A26 x.f6.length x.f6 := by
  obtain ⟨_, _, rfl, rfl, ⟨_, _, rfl, rfl, ⟨_, _, rfl, rfl, ⟨_, _, rfl, rfl, ⟨_, _, rfl, s4, ⟨_, _, rfl, s16, ⟨_, _, rfl, ⟨A26, c26, rfl, l26, g26⟩, ⟨_, _, rfl, s27, s29⟩⟩⟩⟩⟩⟩⟩⟩ := h
  obtain rfl := k31_open s4
  obtain ⟨A25, c25, rfl, l25, g25⟩ := k27_open s16
  obtain rfl := k24_open s27
  obtain rfl := k24_open s29
  exact ⟨A25, c25, A26, c26, rfl, l25, g25, l26, g26⟩
theorem k33_openM {w : World} {base : Nat} {ok : Nat → Prop} {x : S33} {cs : List Value} (h : k33.M w base ok x cs) : ∃ v25 v26, cs = [.int .i64 x.f0, .int .i64 x.f1, .int .i64 x.f2, .bool x.f3, .int .i64 x.f4.f0, .int .i64 x.f4.f1, .int .i64 x.f4.f2, .string x.f4.f3, .int .i64 x.f4.f4.f0, .int .i64 x.f4.f4.f1, .int .i64 x.f4.f5.f0, .int .i64 x.f4.f5.f1, .int .i64 x.f4.f6.f0, .int .i64 x.f4.f6.f1, .int .i64 x.f4.f7.f0, .int .i64 x.f4.f7.f1, .int .i64 x.f5.f0, .int .i64 x.f5.f1, .int .i64 x.f5.f2, .int .i64 x.f5.f3, .string x.f5.f4, .int .i64 x.f5.f5.f0, .int .i64 x.f5.f5.f1, .int .i64 x.f5.f6.f0, .int .i64 x.f5.f6.f1, v25, v26, .int .i64 x.f7.f0, .int .i64 x.f7.f1, .int .i64 x.f8.f0, .int .i64 x.f8.f1] ∧ k44.R 44 w base ok v25 x.f5.f7 ∧ k44.R 44 w base ok v26 x.f6 := by
  obtain ⟨_, _, rfl, rfl, ⟨_, _, rfl, rfl, ⟨_, _, rfl, rfl, ⟨_, _, rfl, rfl, ⟨_, _, rfl, s4, ⟨_, _, rfl, s16, ⟨_, _, rfl, ⟨v26, rfl, g26⟩, ⟨_, _, rfl, s27, s29⟩⟩⟩⟩⟩⟩⟩⟩ := h
  obtain rfl := k31_openM s4
  obtain ⟨v25, rfl, g25⟩ := k27_openM s16
  obtain rfl := k24_openM s27
  obtain rfl := k24_openM s29
  exact ⟨v25, v26, rfl, g25, g26⟩
theorem k33_mk (w : World) (x : S33) {A25 : Option Addr} {c25 : Nat} (l25 : x.f5.f7.length ≤ c25) (g25 : k44.C w A25 x.f5.f7.length x.f5.f7) {A26 : Option Addr} {c26 : Nat} (l26 : x.f6.length ≤ c26) (g26 : k44.C w A26 x.f6.length x.f6) : k33.K w x [.int .i64 x.f0, .int .i64 x.f1, .int .i64 x.f2, .bool x.f3, .int .i64 x.f4.f0, .int .i64 x.f4.f1, .int .i64 x.f4.f2, .string x.f4.f3, .int .i64 x.f4.f4.f0, .int .i64 x.f4.f4.f1, .int .i64 x.f4.f5.f0, .int .i64 x.f4.f5.f1, .int .i64 x.f4.f6.f0, .int .i64 x.f4.f6.f1, .int .i64 x.f4.f7.f0, .int .i64 x.f4.f7.f1, .int .i64 x.f5.f0, .int .i64 x.f5.f1, .int .i64 x.f5.f2, .int .i64 x.f5.f3, .string x.f5.f4, .int .i64 x.f5.f5.f0, .int .i64 x.f5.f5.f1, .int .i64 x.f5.f6.f0, .int .i64 x.f5.f6.f1, .slice A25 x.f5.f7.length c25, .slice A26 x.f6.length c26, .int .i64 x.f7.f0, .int .i64 x.f7.f1, .int .i64 x.f8.f0, .int .i64 x.f8.f1] := ⟨[.int .i64 x.f0], [.int .i64 x.f1, .int .i64 x.f2, .bool x.f3, .int .i64 x.f4.f0, .int .i64 x.f4.f1, .int .i64 x.f4.f2, .string x.f4.f3, .int .i64 x.f4.f4.f0, .int .i64 x.f4.f4.f1, .int .i64 x.f4.f5.f0, .int .i64 x.f4.f5.f1, .int .i64 x.f4.f6.f0, .int .i64 x.f4.f6.f1, .int .i64 x.f4.f7.f0, .int .i64 x.f4.f7.f1, .int .i64 x.f5.f0, .int .i64 x.f5.f1, .int .i64 x.f5.f2, .int .i64 x.f5.f3, .string x.f5.f4, .int .i64 x.f5.f5.f0, .int .i64 x.f5.f5.f1, .int .i64 x.f5.f6.f0, .int .i64 x.f5.f6.f1, .slice A25 x.f5.f7.length c25, .slice A26 x.f6.length c26, .int .i64 x.f7.f0, .int .i64 x.f7.f1, .int .i64 x.f8.f0, .int .i64 x.f8.f1], rfl, rfl, ⟨[.int .i64 x.f1], [.int .i64 x.f2, .bool x.f3, .int .i64 x.f4.f0, .int .i64 x.f4.f1, .int .i64 x.f4.f2, .string x.f4.f3, .int .i64 x.f4.f4.f0, .int .i64 x.f4.f4.f1, .int .i64 x.f4.f5.f0, .int .i64 x.f4.f5.f1, .int .i64 x.f4.f6.f0, .int .i64 x.f4.f6.f1, .int .i64 x.f4.f7.f0, .int .i64 x.f4.f7.f1, .int .i64 x.f5.f0, .int .i64 x.f5.f1, .int .i64 x.f5.f2, .int .i64 x.f5.f3, .string x.f5.f4, .int .i64 x.f5.f5.f0, .int .i64 x.f5.f5.f1, .int .i64 x.f5.f6.f0, .int .i64 x.f5.f6.f1, .slice A25 x.f5.f7.length c25, .slice A26 x.f6.length c26, .int .i64 x.f7.f0, .int .i64 x.f7.f1, .int .i64 x.f8.f0, .int .i64 x.f8.f1], rfl, rfl, ⟨[.int .i64 x.f2], [.bool x.f3, .int .i64 x.f4.f0, .int .i64 x.f4.f1, .int .i64 x.f4.f2, .string x.f4.f3, .int .i64 x.f4.f4.f0, .int .i64 x.f4.f4.f1, .int .i64 x.f4.f5.f0, .int .i64 x.f4.f5.f1, .int .i64 x.f4.f6.f0, .int .i64 x.f4.f6.f1, .int .i64 x.f4.f7.f0, .int .i64 x.f4.f7.f1, .int .i64 x.f5.f0, .int .i64 x.f5.f1, .int .i64 x.f5.f2, .int .i64 x.f5.f3, .string x.f5.f4, .int .i64 x.f5.f5.f0, .int .i64 x.f5.f5.f1, .int .i64 x.f5.f6.f0, .int .i64 x.f5.f6.f1, .slice A25 x.f5.f7.length c25, .slice A26 x.f6.length c26, .int .i64 x.f7.f0, .int .i64 x.f7.f1, .int .i64 x.f8.f0, .int .i64 x.f8.f1], rfl, rfl, ⟨[.bool x.f3], [.int .i64 x.f4.f0, .int .i64 x.f4.f1, .int .i64 x.f4.f2, .string x.f4.f3, .int .i64 x.f4.f4.f0, .int .i64 x.f4.f4.f1, .int .i64 x.f4.f5.f0, .int .i64 x.f4.f5.f1, .int .i64 x.f4.f6.f0, .int .i64 x.f4.f6.f1, .int .i64 x.f4.f7.f0, .int .i64 x.f4.f7.f1, .int .i64 x.f5.f0, .int .i64 x.f5.f1, .int .i64 x.f5.f2, .int .i64 x.f5.f3, .string x.f5.f4, .int .i64 x.f5.f5.f0, .int .i64 x.f5.f5.f1, .int .i64 x.f5.f6.f0, .int .i64 x.f5.f6.f1, .slice A25 x.f5.f7.length c25, .slice A26 x.f6.length c26, .int .i64 x.f7.f0, .int .i64 x.f7.f1, .int .i64 x.f8.f0, .int .i64 x.f8.f1], rfl, rfl, ⟨[.int .i64 x.f4.f0, .int .i64 x.f4.f1, .int .i64 x.f4.f2, .string x.f4.f3, .int .i64 x.f4.f4.f0, .int .i64 x.f4.f4.f1, .int .i64 x.f4.f5.f0, .int .i64 x.f4.f5.f1, .int .i64 x.f4.f6.f0, .int .i64 x.f4.f6.f1, .int .i64 x.f4.f7.f0, .int .i64 x.f4.f7.f1], [.int .i64 x.f5.f0, .int .i64 x.f5.f1, .int .i64 x.f5.f2, .int .i64 x.f5.f3, .string x.f5.f4, .int .i64 x.f5.f5.f0, .int .i64 x.f5.f5.f1, .int .i64 x.f5.f6.f0, .int .i64 x.f5.f6.f1, .slice A25 x.f5.f7.length c25, .slice A26 x.f6.length c26, .int .i64 x.f7.f0, .int .i64 x.f7.f1, .int .i64 x.f8.f0, .int .i64 x.f8.f1], rfl, (k31_mk w x.f4 ), ⟨[.int .i64 x.f5.f0, .int .i64 x.f5.f1, .int .i64 x.f5.f2, .int .i64 x.f5.f3, .string x.f5.f4, .int .i64 x.f5.f5.f0, .int .i64 x.f5.f5.f1, .int .i64 x.f5.f6.f0, .int .i64 x.f5.f6.f1, .slice A25 x.f5.f7.length c25], [.slice A26 x.f6.length c26, .int .i64 x.f7.f0, .int .i64 x.f7.f1, .int .i64 x.f8.f0, .int .i64 x.f8.f1], rfl, (k27_mk w x.f5 l25 g25), ⟨[.slice A26 x.f6.length c26], [.int .i64 x.f7.f0, .int .i64 x.f7.f1, .int .i64 x.f8.f0, .int .i64 x.f8.f1], rfl, ⟨A26, c26, rfl, l26, g26⟩, ⟨[.int .i64 x.f7.f0, .int .i64 x.f7.f1], [.int .i64 x.f8.f0, .int .i64 x.f8.f1], rfl, (k24_mk w x.f7 ), (k24_mk w x.f8 )⟩⟩⟩⟩⟩⟩⟩⟩
theorem k33_mkM (w : World) (base : Nat) (ok : Nat → Prop) (x : S33) {v25 : Value} (g25 : k44.R 44 w base ok v25 x.f5.f7) {v26 : Value} (g26 : k44.R 44 w base ok v26 x.f6) : k33.M w base ok x [.int .i64 x.f0, .int .i64 x.f1, .int .i64 x.f2, .bool x.f3, .int .i64 x.f4.f0, .int .i64 x.f4.f1, .int .i64 x.f4.f2, .string x.f4.f3, .int .i64 x.f4.f4.f0, .int .i64 x.f4.f4.f1, .int .i64 x.f4.f5.f0, .int .i64 x.f4.f5.f1, .int .i64 x.f4.f6.f0, .int .i64 x.f4.f6.f1, .int .i64 x.f4.f7.f0, .int .i64 x.f4.f7.f1, .int .i64 x.f5.f0, .int .i64 x.f5.f1, .int .i64 x.f5.f2, .int .i64 x.f5.f3, .string x.f5.f4, .int .i64 x.f5.f5.f0, .int .i64 x.f5.f5.f1, .int .i64 x.f5.f6.f0, .int .i64 x.f5.f6.f1, v25, v26, .int .i64 x.f7.f0, .int .i64 x.f7.f1, .int .i64 x.f8.f0, .int .i64 x.f8.f1] := ⟨[.int .i64 x.f0], [.int .i64 x.f1, .int .i64 x.f2, .bool x.f3, .int .i64 x.f4.f0, .int .i64 x.f4.f1, .int .i64 x.f4.f2, .string x.f4.f3, .int .i64 x.f4.f4.f0, .int .i64 x.f4.f4.f1, .int .i64 x.f4.f5.f0, .int .i64 x.f4.f5.f1, .int .i64 x.f4.f6.f0, .int .i64 x.f4.f6.f1, .int .i64 x.f4.f7.f0, .int .i64 x.f4.f7.f1, .int .i64 x.f5.f0, .int .i64 x.f5.f1, .int .i64 x.f5.f2, .int .i64 x.f5.f3, .string x.f5.f4, .int .i64 x.f5.f5.f0, .int .i64 x.f5.f5.f1, .int .i64 x.f5.f6.f0, .int .i64 x.f5.f6.f1, v25, v26, .int .i64 x.f7.f0, .int .i64 x.f7.f1, .int .i64 x.f8.f0, .int .i64 x.f8.f1], rfl, rfl, ⟨[.int .i64 x.f1], [.int .i64 x.f2, .bool x.f3, .int .i64 x.f4.f0, .int .i64 x.f4.f1, .int .i64 x.f4.f2, .string x.f4.f3, .int .i64 x.f4.f4.f0, .int .i64 x.f4.f4.f1, .int .i64 x.f4.f5.f0, .int .i64 x.f4.f5.f1, .int .i64 x.f4.f6.f0, .int .i64 x.f4.f6.f1, .int .i64 x.f4.f7.f0, .int .i64 x.f4.f7.f1, .int .i64 x.f5.f0, .int .i64 x.f5.f1, .int .i64 x.f5.f2, .int .i64 x.f5.f3, .string x.f5.f4, .int .i64 x.f5.f5.f0, .int .i64 x.f5.f5.f1, .int .i64 x.f5.f6.f0, .int .i64 x.f5.f6.f1, v25, v26, .int .i64 x.f7.f0, .int .i64 x.f7.f1, .int .i64 x.f8.f0, .int .i64 x.f8.f1], rfl, rfl, ⟨[.int .i64 x.f2], [.bool x.f3, .int .i64 x.f4.f0, .int .i64 x.f4.f1, .int .i64 x.f4.f2, .string x.f4.f3, .int .i64 x.f4.f4.f0, .int .i64 x.f4.f4.f1, .int .i64 x.f4.f5.f0, .int .i64 x.f4.f5.f1, .int .i64 x.f4.f6.f0, .int .i64 x.f4.f6.f1, .int .i64 x.f4.f7.f0, .int .i64 x.f4.f7.f1, .int .i64 x.f5.f0, .int .i64 x.f5.f1, .int .i64 x.f5.f2, .int .i64 x.f5.f3, .string x.f5.f4, .int .i64 x.f5.f5.f0, .int .i64 x.f5.f5.f1, .int .i64 x.f5.f6.f0, .int .i64 x.f5.f6.f1, v25, v26, .int .i64 x.f7.f0, .int .i64 x.f7.f1, .int .i64 x.f8.f0, .int .i64 x.f8.f1], rfl, rfl, ⟨[.bool x.f3], [.int .i64 x.f4.f0, .int .i64 x.f4.f1, .int .i64 x.f4.f2, .string x.f4.f3, .int .i64 x.f4.f4.f0, .int .i64 x.f4.f4.f1, .int .i64 x.f4.f5.f0, .int .i64 x.f4.f5.f1, .int .i64 x.f4.f6.f0, .int .i64 x.f4.f6.f1, .int .i64 x.f4.f7.f0, .int .i64 x.f4.f7.f1, .int .i64 x.f5.f0, .int .i64 x.f5.f1, .int .i64 x.f5.f2, .int .i64 x.f5.f3, .string x.f5.f4, .int .i64 x.f5.f5.f0, .int .i64 x.f5.f5.f1, .int .i64 x.f5.f6.f0, .int .i64 x.f5.f6.f1, v25, v26, .int .i64 x.f7.f0, .int .i64 x.f7.f1, .int .i64 x.f8.f0, .int .i64 x.f8.f1], rfl, rfl, ⟨[.int .i64 x.f4.f0, .int .i64 x.f4.f1, .int .i64 x.f4.f2, .string x.f4.f3, .int .i64 x.f4.f4.f0, .int .i64 x.f4.f4.f1, .int .i64 x.f4.f5.f0, .int .i64 x.f4.f5.f1, .int .i64 x.f4.f6.f0, .int .i64 x.f4.f6.f1, .int .i64 x.f4.f7.f0, .int .i64 x.f4.f7.f1], [.int .i64 x.f5.f0, .int .i64 x.f5.f1, .int .i64 x.f5.f2, .int .i64 x.f5.f3, .string x.f5.f4, .int .i64 x.f5.f5.f0, .int .i64 x.f5.f5.f1, .int .i64 x.f5.f6.f0, .int .i64 x.f5.f6.f1, v25, v26, .int .i64 x.f7.f0, .int .i64 x.f7.f1, .int .i64 x.f8.f0, .int .i64 x.f8.f1], rfl, (k31_mkM w base ok x.f4 ), ⟨[.int .i64 x.f5.f0, .int .i64 x.f5.f1, .int .i64 x.f5.f2, .int .i64 x.f5.f3, .string x.f5.f4, .int .i64 x.f5.f5.f0, .int .i64 x.f5.f5.f1, .int .i64 x.f5.f6.f0, .int .i64 x.f5.f6.f1, v25], [v26, .int .i64 x.f7.f0, .int .i64 x.f7.f1, .int .i64 x.f8.f0, .int .i64 x.f8.f1], rfl, (k27_mkM w base ok x.f5 g25), ⟨[v26], [.int .i64 x.f7.f0, .int .i64 x.f7.f1, .int .i64 x.f8.f0, .int .i64 x.f8.f1], rfl, ⟨v26, rfl, g26⟩, ⟨[.int .i64 x.f7.f0, .int .i64 x.f7.f1], [.int .i64 x.f8.f0, .int .i64 x.f8.f1], rfl, (k24_mkM w base ok x.f7 ), (k24_mkM w base ok x.f8 )⟩⟩⟩⟩⟩⟩⟩⟩
def rd_T33 (xs : List S33) (i : Int) : S33 := xs.getD i.toNat z33
theorem at_T33 {w : World} {A : Option Addr} {n : Nat} {xs : List S33} (h : Kd.C k33 w A n xs) (i : Int) (h0 : 0 ≤ i) (h1 : i < n) : ∃ ad A25 c25 A26 c26, A = some ad ∧ w.cell? (ad.add (i.toNat * 31)) = some (.int .i64 (rd_T33 xs i).f0) ∧ w.cell? ⟨(ad.add (i.toNat * 31)).block, (ad.add (i.toNat * 31)).off + 1, none⟩ = some (.int .i64 (rd_T33 xs i).f1) ∧ w.cell? ⟨(ad.add (i.toNat * 31)).block, (ad.add (i.toNat * 31)).off + 2, none⟩ = some (.int .i64 (rd_T33 xs i).f2) ∧ w.cell? ⟨(ad.add (i.toNat * 31)).block, (ad.add (i.toNat * 31)).off + 3, none⟩ = some (.bool (rd_T33 xs i).f3) ∧ w.cell? ⟨(ad.add (i.toNat * 31)).block, (ad.add (i.toNat * 31)).off + 4, none⟩ = some (.int .i64 (rd_T33 xs i).f4.f0) ∧ w.cell? ⟨(ad.add (i.toNat * 31)).block, (ad.add (i.toNat * 31)).off + 5, none⟩ = some (.int .i64 (rd_T33 xs i).f4.f1) ∧ w.cell? ⟨(ad.add (i.toNat * 31)).block, (ad.add (i.toNat * 31)).off + 6, none⟩ = some (.int .i64 (rd_T33 xs i).f4.f2) ∧ w.cell? ⟨(ad.add (i.toNat * 31)).block, (ad.add (i.toNat * 31)).off + 7, none⟩ = some (.string (rd_T33 xs i).f4.f3) ∧ w.cell? ⟨(ad.add (i.toNat * 31)).block, (ad.add (i.toNat * 31)).off + 8, none⟩ = some (.int .i64 (rd_T33 xs i).f4.f4.f0) ∧ w.cell? ⟨(ad.add (i.toNat * 31)).block, (ad.add (i.toNat * 31)).off + 9, none⟩ = some (.int .i64 (rd_T33 xs i).f4.f4.f1) ∧ w.cell? ⟨(ad.add (i.toNat * 31)).block, (ad.add (i.toNat * 31)).off + 10, none⟩ = some (.int .i64 (rd_T33 xs i).f4.f5.f0) ∧ w.cell? ⟨(ad.add (i.toNat * 31)).block, (ad.add (i.toNat * 31)).off + 11, none⟩ = some (.int .i64 (rd_T33 xs i).f4.f5.f1) ∧ w.cell? ⟨(ad.add (i.toNat * 31)).block, (ad.add (i.toNat * 31)).off + 12, none⟩ = some (.int .i64 (rd_T33 xs i).f4.f6.f0) ∧ w.cell? ⟨(ad.add (i.toNat * 31)).block, (ad.add (i.toNat * 31)).off + 13, none⟩ = some (.int .i64 (rd_T33 xs i).f4.f6.f1) ∧ w.cell? ⟨(ad.add (i.toNat * 31)).block, (ad.add (i.toNat * 31)).off + 14, none⟩ = some (.int .i64 (rd_T33 xs i).f4.f7.f0) ∧ w.cell? ⟨(ad.add (i.toNat * 31)).block, (ad.add (i.toNat * 31)).off + 15, none⟩ = some (.int .i64 (rd_T33 xs i).f4.f7.f1) ∧ w.cell? ⟨(ad.add (i.toNat * 31)).block, (ad.add (i.toNat * 31)).off + 16, none⟩ = some (.int .i64 (rd_T33 xs i).f5.f0) ∧ w.cell? ⟨(ad.add (i.toNat * 31)).block, (ad.add (i.toNat * 31)).off + 17, none⟩ = some (.int .i64 (rd_T33 xs i).f5.f1) ∧ w.cell? ⟨(ad.add (i.toNat * 31)).block, (ad.add (i.toNat * 31)).off + 18, none⟩ = some (.int .i64 (rd_T33 xs i).f5.f2) ∧ w.cell? ⟨(ad.add (i.toNat * 31)).block, (ad.add (i.toNat * 31)).off + 19, none⟩ = some (.int .i64 (rd_T33 xs i).f5.f3) ∧ w.cell? ⟨(ad.add (i.toNat * 31)).block, (ad.add (i.toNat * 31)).off + 20, none⟩ = some (.string (rd_T33 xs i).f5.f4) ∧ w.cell? ⟨(ad.add (i.toNat * 31)).block, (ad.add (i.toNat * 31)).off + 21, none⟩ = some (.int .i64 (rd_T33 xs i).f5.f5.f0) ∧ w.cell? ⟨(ad.add (i.toNat * 31)).block, (ad.add (i.toNat * 31)).off + 22, none⟩ = some (.int .i64 (rd_T33 xs i).f5.f5.f1) ∧ w.cell? ⟨(ad.add (i.toNat * 31)).block, (ad.add (i.toNat * 31)).off + 23, none⟩ = some (.int .i64 (rd_T33 xs i).f5.f6.f0) ∧ w.cell? ⟨(ad.add (i.toNat * 31)).block, (ad.add (i.toNat * 31)).off + 24, none⟩ = some (.int .i64 (rd_T33 xs i).f5.f6.f1) ∧ w.cell? ⟨(ad.add (i.toNat * 31)).block, (ad.add (i.toNat * 31)).off + 25, none⟩ = some (.slice A25 (rd_T33 xs i).f5.f7.length c25) ∧ w.cell? ⟨(ad.add (i.toNat * 31)).block, (ad.add (i.toNat * 31)).off + 26, none⟩ = some (.slice A26 (rd_T33 xs i).f6.length c26) ∧ w.cell? ⟨(ad.add (i.toNat * 31)).block, (ad.add (i.toNat * 31)).off + 27, none⟩ = some (.int .i64 (rd_T33 xs i).f7.f0) ∧ w.cell? ⟨(ad.add (i.toNat * 31)).block, (ad.add (i.toNat * 31)).off + 28, none⟩ = some (.int .i64 (rd_T33 xs i).f7.f1) ∧ w.cell? ⟨(ad.add (i.toNat * 31)).block, (ad.add (i.toNat * 31)).off + 29, none⟩ = some (.int .i64 (rd_T33 xs i).f8.f0) ∧ w.cell? ⟨(ad.add (i.toNat * 31)).block, (ad.add (i.toNat * 31)).off + 30, none⟩ = some (.int .i64 (rd_T33 xs i).f8.f1) ∧ (rd_T33 xs i).f5.f7.length ≤ c25 ∧ k44.C w A25 (rd_T33 xs i).f5.f7.length (rd_T33 xs i).f5.f7 ∧ (rd_T33 xs i).f6.length ≤ c26 ∧ k44.C w A26 (rd_T33 xs i).f6.length (rd_T33 xs i).f6 := by
  obtain ⟨ad, c, e, _, hK, hc0⟩ := Kd.C_get h z33 i h0 h1
  have hc : ∀ j u, c[j]? = some u → w.cell? (ad.add (i.toNat * 31 + j)) = some u := hc0
  obtain ⟨A25, c25, A26, c26, rfl, l25, g25, l26, g26⟩ := k33_open hK
  exact ⟨ad, A25, c25, A26, c26, e, hc 0 _ rfl, by rw [← add_field _ _ 1 (by omega)]; exact hc 1 _ rfl, by rw [← add_field _ _ 2 (by omega)]; exact hc 2 _ rfl, by rw [← add_field _ _ 3 (by omega)]; exact hc 3 _ rfl, by rw [← add_field _ _ 4 (by omega)]; exact hc 4 _ rfl, by rw [← add_field _ _ 5 (by omega)]; exact hc 5 _ rfl, by rw [← add_field _ _ 6 (by omega)]; exact hc 6 _ rfl, by rw [← add_field _ _ 7 (by omega)]; exact hc 7 _ rfl, by rw [← add_field _ _ 8 (by omega)]; exact hc 8 _ rfl, by rw [← add_field _ _ 9 (by omega)]; exact hc 9 _ rfl, by rw [← add_field _ _ 10 (by omega)]; exact hc 10 _ rfl, by rw [← add_field _ _ 11 (by omega)]; exact hc 11 _ rfl, by rw [← add_field _ _ 12 (by omega)]; exact hc 12 _ rfl, by rw [← add_field _ _ 13 (by omega)]; exact hc 13 _ rfl, by rw [← add_field _ _ 14 (by omega)]; exact hc 14 _ rfl, by rw [← add_field _ _ 15 (by omega)]; exact hc 15 _ rfl, by rw [← add_field _ _ 16 (by omega)]; exact hc 16 _ rfl, by rw [← add_field _ _ 17 (by omega)]; exact hc 17 _ rfl, by rw [← add_field _ _ 18 (by omega)]; exact hc 18 _ rfl, by rw [← add_field _ _ 19 (by omega)]; exact hc 19 _ rfl, by rw [← add_field _ _ 20 (by omega)]; exact hc 20 _ rfl, by rw [← add_field _ _ 21 (by omega)]; exact hc 21 _ rfl, by rw [← add_field _ _ 22 (by omega)]; exact hc 22 _ rfl, by rw [← add_field _ _ 23 (by omega)]; exact hc 23 _ rfl, by rw [← add_field _ _ 24 (by omega)]; exact hc 24 _ rfl, by rw [← add_field _ _ 25 (by omega)]; exact hc 25 _ rfl, by rw [← add_field _ _ 26 (by omega)]; exact hc 26 _ rfl, by rw [← add_field _ _ 27 (by omega)]; exact hc 27 _ rfl, by rw [← add_field _ _ 28 (by omega)]; exact hc 28 _ rfl, by rw [← add_field _ _ 29 (by omega)]; exact hc 29 _ rfl, by rw [← add_field _ _ 30 (by omega)]; exact hc 30 _ rfl, l25, g25, l26, g26⟩

def rd_L9 (xs : List (List S24)) (i : Int) : (List S24) := xs.getD i.toNat ([] : List S24)
theorem at_L9 {w : World} {A : Option Addr} {n : Nat} {xs : List (List S24)} (h : Kd.C (Kd.slice 24 k24) w A n xs) (i : Int) (h0 : 0 ≤ i) (h1 : i < n) : ∃ ad A0 c0, A = some ad ∧ w.cell? (ad.add i.toNat) = some (.slice A0 (rd_L9 xs i).length c0) ∧ (rd_L9 xs i).length ≤ c0 ∧ k24.C w A0 (rd_L9 xs i).length (rd_L9 xs i) := by
  obtain ⟨ad, c, e, _, hK, hc0⟩ := Kd.C_get h ([] : List S24) i h0 h1
  have hc : ∀ j u, c[j]? = some u → w.cell? (ad.add (i.toNat * 1 + j)) = some u := hc0
  obtain ⟨A0, c0, rfl, l0, g0⟩ := hK
  exact ⟨ad, A0, c0, e, by have hq := hc 0 _ rfl; rwa [Nat.mul_one, Nat.add_zero] at hq, l0, g0⟩

def rd_L10 (xs : List (List S33)) (i : Int) : (List S33) := xs.getD i.toNat ([] : List S33)
theorem at_L10 {w : World} {A : Option Addr} {n : Nat} {xs : List (List S33)} (h : Kd.C (Kd.slice 33 k33) w A n xs) (i : Int) (h0 : 0 ≤ i) (h1 : i < n) : ∃ ad A0 c0, A = some ad ∧ w.cell? (ad.add i.toNat) = some (.slice A0 (rd_L10 xs i).length c0) ∧ (rd_L10 xs i).length ≤ c0 ∧ k33.C w A0 (rd_L10 xs i).length (rd_L10 xs i) := by
  obtain ⟨ad, c, e, _, hK, hc0⟩ := Kd.C_get h ([] : List S33) i h0 h1
  have hc : ∀ j u, c[j]? = some u → w.cell? (ad.add (i.toNat * 1 + j)) = some u := hc0
  obtain ⟨A0, c0, rfl, l0, g0⟩ := hK
  exact ⟨ad, A0, c0, e, by have hq := hc 0 _ rfl; rwa [Nat.mul_one, Nat.add_zero] at hq, l0, g0⟩

end Go.Proofs.Ythdmkacnkdmbiaa.PRecordStaged
