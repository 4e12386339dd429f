-- Written for this claim by a program of this session (wip/tool/pr.py, over the kit's printer).
import Derived.Test.YtmcldfjfgmhklaaProg
import Derived.Below
import Derived.Deep.Draws
import Derived.Deep.AppendLies
import Derived.Maps.AppendAt
import Derived.OwnWalk
import Derived.Laws.BytesArg
import Derived.Laws.MakeOwn
import Derived.Laws.OwnMore
import Derived.Deep.OwnRows
import Derived.Tactics
import Derived.Lib.ConvBytes
import Derived.Laws.Slices
import Derived.WalkKit
import Derived.KernelRfl
import Derived.RowKit3
import Derived.Deep.LoopGhost
import Derived.Deep.QuietTactic
import Derived.BigQuiet
import Derived.WideLaws
import Derived.Deep.DeepCutAuto
import Derived.Deep.CutBlock
import Derived.Deep.RegionHeld3
import Derived.Laws.Rows
import Derived.Lib.AppendStr
import Derived.ArgAppend
import Derived.Laws.IdiomCopy
import Derived.OrdersHeld
import Derived.Laws.BitsLemmas
import Derived.RowKit
import Derived.Test.YtmcldfjfgmhklaaX
import Derived.Test.YtmcldfjfgmhklaaO
import Derived.Lib.SliceRun
import Derived.Laws.Cover1
import Derived.Test.YtmcldfjfgmhklaaWWords
import Derived.Test.YtmcldfjfgmhklaaWLast
import Derived.Test.YtmcldfjfgmhklaaWTab
import Derived.Test.YtmcldfjfgmhklaaWFour
import Derived.Test.YtmcldfjfgmhklaaWQPut
import Derived.Test.YtmcldfjfgmhklaaWApart
import Derived.Test.YtmcldfjfgmhklaaWArr
import Derived.Test.YtmcldfjfgmhklaaWZeros
import Derived.Test.YtmcldfjfgmhklaaWFoot
import Derived.Test.YtmcldfjfgmhklaaWKept
import Derived.Test.YtmcldfjfgmhklaaWShare
import Derived.Test.YtmcldfjfgmhklaaWN
import Derived.Test.YtmcldfjfgmhklaaWFootNe
import Derived.Test.YtmcldfjfgmhklaaWAt
import Derived.Test.YtmcldfjfgmhklaaWEqStruct
import Derived.Test.YtmcldfjfgmhklaaWRepsOne
import Derived.Test.YtmcldfjfgmhklaaWInv
import Derived.Test.YtmcldfjfgmhklaaWInvWords
import Derived.Test.YtmcldfjfgmhklaaWGuard
import Derived.Test.YtmcldfjfgmhklaaWNEv
import Derived.Test.YtmcldfjfgmhklaaWMore
namespace Go.Proofs.Ytmcldfjfgmhklaa.Pr
open Go.RowKit Go.Proofs.YtmcldfjfgmhklaaW.PrintWords Go.Proofs.YtmcldfjfgmhklaaW.PrintLast Go.Proofs.YtmcldfjfgmhklaaW.PrintMore
attribute [local go_sem] max2_int min2_int max_two min_two max_three min_three max_four min_four   -- for this text's walks alone
set_option linter.unusedVariables false
set_option linter.unusedSimpArgs false



def errW : Option Int → Value
  | none => .nilIface
  | some c => .iface 0 (.int .i64 c)
theorem errW_none : errW none = .nilIface := rfl
theorem errW_some (c : Int) : errW (some c) = .iface 0 (.int .i64 c) := rfl

theorem info5 : (Try.prog.info? 5).map (fun i => (i.zero, i.size, i.bytes)) = some (some (.int .u8 0), 1, 1) := by kernel_rfl
theorem info52 : (Try.prog.info? 52).map (fun i => (i.zero, i.size, i.bytes)) = some (some (.agg #[(.string ⟨#[]⟩), (.int .i64 0), (.int .i64 0), (.int .i64 0), (.string ⟨#[]⟩), (.string ⟨#[]⟩)]), 6, 72) := by kernel_rfl
-- the values' own types
/-! #### struct type 49 -/
structure S49 where
  f0 : ByteArray
  f1 : Int
  f2 : Int
  f3 : Int
  f4 : ByteArray
  f5 : ByteArray
def z49 : S49 := ⟨(⟨#[]⟩ : ByteArray), (0 : Int), (0 : Int), (0 : Int), (⟨#[]⟩ : ByteArray), (⟨#[]⟩ : ByteArray)⟩
def k49 : Kd S49 := Kd.iso (Kd.pair Kd.string (Kd.pair (Kd.int .i64) (Kd.pair (Kd.int .i64) (Kd.pair (Kd.int .i64) (Kd.pair Kd.string Kd.string))))) (fun x : S49 => (x.f0, x.f1, x.f2, x.f3, x.f4, x.f5))
theorem k49_open {w : World} {x : S49} {cs : List Value} (h : k49.K w x cs) : cs = [.string x.f0, .int .i64 x.f1, .int .i64 x.f2, .int .i64 x.f3, .string x.f4, .string x.f5] := by
  obtain ⟨_, _, rfl, rfl, ⟨_, _, rfl, rfl, ⟨_, _, rfl, rfl, ⟨_, _, rfl, rfl, ⟨_, _, rfl, rfl, rfl⟩⟩⟩⟩⟩ := h
  exact rfl
theorem k49_openM {w : World} {base : Nat} {ok : Nat → Prop} {x : S49} {cs : List Value} (h : k49.M w base ok x cs) : cs = [.string x.f0, .int .i64 x.f1, .int .i64 x.f2, .int .i64 x.f3, .string x.f4, .string x.f5] := by
  obtain ⟨_, _, rfl, rfl, ⟨_, _, rfl, rfl, ⟨_, _, rfl, rfl, ⟨_, _, rfl, rfl, ⟨_, _, rfl, rfl, rfl⟩⟩⟩⟩⟩ := h
  exact rfl
theorem k49_mk (w : World) (x : S49)  : k49.K w x [.string x.f0, .int .i64 x.f1, .int .i64 x.f2, .int .i64 x.f3, .string x.f4, .string x.f5] := ⟨[.string x.f0], [.int .i64 x.f1, .int .i64 x.f2, .int .i64 x.f3, .string x.f4, .string x.f5], rfl, rfl, ⟨[.int .i64 x.f1], [.int .i64 x.f2, .int .i64 x.f3, .string x.f4, .string x.f5], rfl, rfl, ⟨[.int .i64 x.f2], [.int .i64 x.f3, .string x.f4, .string x.f5], rfl, rfl, ⟨[.int .i64 x.f3], [.string x.f4, .string x.f5], rfl, rfl, ⟨[.string x.f4], [.string x.f5], rfl, rfl, rfl⟩⟩⟩⟩⟩
theorem k49_mkM (w : World) (base : Nat) (ok : Nat → Prop) (x : S49)  : k49.M w base ok x [.string x.f0, .int .i64 x.f1, .int .i64 x.f2, .int .i64 x.f3, .string x.f4, .string x.f5] := ⟨[.string x.f0], [.int .i64 x.f1, .int .i64 x.f2, .int .i64 x.f3, .string x.f4, .string x.f5], rfl, rfl, ⟨[.int .i64 x.f1], [.int .i64 x.f2, .int .i64 x.f3, .string x.f4, .string x.f5], rfl, rfl, ⟨[.int .i64 x.f2], [.int .i64 x.f3, .string x.f4, .string x.f5], rfl, rfl, ⟨[.int .i64 x.f3], [.string x.f4, .string x.f5], rfl, rfl, ⟨[.string x.f4], [.string x.f5], rfl, rfl, rfl⟩⟩⟩⟩⟩
def rd_T49 (xs : List S49) (i : Int) : S49 := xs.getD i.toNat z49
theorem at_T49 {w : World} {A : Option Addr} {n : Nat} {xs : List S49} (h : Kd.C k49 w A n xs) (i : Int) (h0 : 0 ≤ i) (h1 : i < n) : ∃ ad , A = some ad ∧ w.cell? (ad.add (i.toNat * 6)) = some (.string (rd_T49 xs i).f0) ∧ w.cell? ⟨(ad.add (i.toNat * 6)).block, (ad.add (i.toNat * 6)).off + 1, none⟩ = some (.int .i64 (rd_T49 xs i).f1) ∧ w.cell? ⟨(ad.add (i.toNat * 6)).block, (ad.add (i.toNat * 6)).off + 2, none⟩ = some (.int .i64 (rd_T49 xs i).f2) ∧ w.cell? ⟨(ad.add (i.toNat * 6)).block, (ad.add (i.toNat * 6)).off + 3, none⟩ = some (.int .i64 (rd_T49 xs i).f3) ∧ w.cell? ⟨(ad.add (i.toNat * 6)).block, (ad.add (i.toNat * 6)).off + 4, none⟩ = some (.string (rd_T49 xs i).f4) ∧ w.cell? ⟨(ad.add (i.toNat * 6)).block, (ad.add (i.toNat * 6)).off + 5, none⟩ = some (.string (rd_T49 xs i).f5) := by
  obtain ⟨ad, c, e, _, hK, hc0⟩ := Kd.C_get h z49 i h0 h1
  have hc : ∀ j u, c[j]? = some u → w.cell? (ad.add (i.toNat * 6 + j)) = some u := hc0
  obtain rfl := k49_open hK
  exact ⟨ad, e, hc 0 _ rfl, by rw [← add_field _ _ 1 (by omega)]; exact hc 1 _ rfl, by rw [← add_field _ _ 2 (by omega)]; exact hc 2 _ rfl, by rw [← add_field _ _ 3 (by omega)]; exact hc 3 _ rfl, by rw [← add_field _ _ 4 (by omega)]; exact hc 4 _ rfl, by rw [← add_field _ _ 5 (by omega)]; exact hc 5 _ rfl⟩

/-! #### struct type 52 -/
structure S52 where
  f0 : ByteArray
  f1 : Int
  f2 : Int
  f3 : Int
  f4 : ByteArray
  f5 : ByteArray
def z52 : S52 := ⟨(⟨#[]⟩ : ByteArray), (0 : Int), (0 : Int), (0 : Int), (⟨#[]⟩ : ByteArray), (⟨#[]⟩ : ByteArray)⟩
def k52 : Kd S52 := Kd.iso (Kd.pair Kd.string (Kd.pair (Kd.int .i64) (Kd.pair (Kd.int .i64) (Kd.pair (Kd.int .i64) (Kd.pair Kd.string Kd.string))))) (fun x : S52 => (x.f0, x.f1, x.f2, x.f3, x.f4, x.f5))
theorem k52_open {w : World} {x : S52} {cs : List Value} (h : k52.K w x cs) : cs = [.string x.f0, .int .i64 x.f1, .int .i64 x.f2, .int .i64 x.f3, .string x.f4, .string x.f5] := by
  obtain ⟨_, _, rfl, rfl, ⟨_, _, rfl, rfl, ⟨_, _, rfl, rfl, ⟨_, _, rfl, rfl, ⟨_, _, rfl, rfl, rfl⟩⟩⟩⟩⟩ := h
  exact rfl
theorem k52_openM {w : World} {base : Nat} {ok : Nat → Prop} {x : S52} {cs : List Value} (h : k52.M w base ok x cs) : cs = [.string x.f0, .int .i64 x.f1, .int .i64 x.f2, .int .i64 x.f3, .string x.f4, .string x.f5] := by
  obtain ⟨_, _, rfl, rfl, ⟨_, _, rfl, rfl, ⟨_, _, rfl, rfl, ⟨_, _, rfl, rfl, ⟨_, _, rfl, rfl, rfl⟩⟩⟩⟩⟩ := h
  exact rfl
theorem k52_mk (w : World) (x : S52)  : k52.K w x [.string x.f0, .int .i64 x.f1, .int .i64 x.f2, .int .i64 x.f3, .string x.f4, .string x.f5] := ⟨[.string x.f0], [.int .i64 x.f1, .int .i64 x.f2, .int .i64 x.f3, .string x.f4, .string x.f5], rfl, rfl, ⟨[.int .i64 x.f1], [.int .i64 x.f2, .int .i64 x.f3, .string x.f4, .string x.f5], rfl, rfl, ⟨[.int .i64 x.f2], [.int .i64 x.f3, .string x.f4, .string x.f5], rfl, rfl, ⟨[.int .i64 x.f3], [.string x.f4, .string x.f5], rfl, rfl, ⟨[.string x.f4], [.string x.f5], rfl, rfl, rfl⟩⟩⟩⟩⟩
theorem k52_mkM (w : World) (base : Nat) (ok : Nat → Prop) (x : S52)  : k52.M w base ok x [.string x.f0, .int .i64 x.f1, .int .i64 x.f2, .int .i64 x.f3, .string x.f4, .string x.f5] := ⟨[.string x.f0], [.int .i64 x.f1, .int .i64 x.f2, .int .i64 x.f3, .string x.f4, .string x.f5], rfl, rfl, ⟨[.int .i64 x.f1], [.int .i64 x.f2, .int .i64 x.f3, .string x.f4, .string x.f5], rfl, rfl, ⟨[.int .i64 x.f2], [.int .i64 x.f3, .string x.f4, .string x.f5], rfl, rfl, ⟨[.int .i64 x.f3], [.string x.f4, .string x.f5], rfl, rfl, ⟨[.string x.f4], [.string x.f5], rfl, rfl, rfl⟩⟩⟩⟩⟩
def rd_T52 (xs : List S52) (i : Int) : S52 := xs.getD i.toNat z52
theorem at_T52 {w : World} {A : Option Addr} {n : Nat} {xs : List S52} (h : Kd.C k52 w A n xs) (i : Int) (h0 : 0 ≤ i) (h1 : i < n) : ∃ ad , A = some ad ∧ w.cell? (ad.add (i.toNat * 6)) = some (.string (rd_T52 xs i).f0) ∧ w.cell? ⟨(ad.add (i.toNat * 6)).block, (ad.add (i.toNat * 6)).off + 1, none⟩ = some (.int .i64 (rd_T52 xs i).f1) ∧ w.cell? ⟨(ad.add (i.toNat * 6)).block, (ad.add (i.toNat * 6)).off + 2, none⟩ = some (.int .i64 (rd_T52 xs i).f2) ∧ w.cell? ⟨(ad.add (i.toNat * 6)).block, (ad.add (i.toNat * 6)).off + 3, none⟩ = some (.int .i64 (rd_T52 xs i).f3) ∧ w.cell? ⟨(ad.add (i.toNat * 6)).block, (ad.add (i.toNat * 6)).off + 4, none⟩ = some (.string (rd_T52 xs i).f4) ∧ w.cell? ⟨(ad.add (i.toNat * 6)).block, (ad.add (i.toNat * 6)).off + 5, none⟩ = some (.string (rd_T52 xs i).f5) := by
  obtain ⟨ad, c, e, _, hK, hc0⟩ := Kd.C_get h z52 i h0 h1
  have hc : ∀ j u, c[j]? = some u → w.cell? (ad.add (i.toNat * 6 + j)) = some u := hc0
  obtain rfl := k52_open hK
  exact ⟨ad, e, hc 0 _ rfl, by rw [← add_field _ _ 1 (by omega)]; exact hc 1 _ rfl, by rw [← add_field _ _ 2 (by omega)]; exact hc 2 _ rfl, by rw [← add_field _ _ 3 (by omega)]; exact hc 3 _ rfl, by rw [← add_field _ _ 4 (by omega)]; exact hc 4 _ rfl, by rw [← add_field _ _ 5 (by omega)]; exact hc 5 _ rfl⟩

/-! #### struct type 23 -/
structure S23 where
  f0 : ByteArray
  f1 : Int
def z23 : S23 := ⟨(⟨#[]⟩ : ByteArray), (0 : Int)⟩
def k23 : Kd S23 := Kd.iso (Kd.pair Kd.string (Kd.int .i64)) (fun x : S23 => (x.f0, x.f1))
theorem k23_open {w : World} {x : S23} {cs : List Value} (h : k23.K w x cs) : cs = [.string x.f0, .int .i64 x.f1] := by
  obtain ⟨_, _, rfl, rfl, rfl⟩ := h
  exact rfl
theorem k23_openM {w : World} {base : Nat} {ok : Nat → Prop} {x : S23} {cs : List Value} (h : k23.M w base ok x cs) : cs = [.string x.f0, .int .i64 x.f1] := by
  obtain ⟨_, _, rfl, rfl, rfl⟩ := h
  exact rfl
theorem k23_mk (w : World) (x : S23)  : k23.K w x [.string x.f0, .int .i64 x.f1] := ⟨[.string x.f0], [.int .i64 x.f1], rfl, rfl, rfl⟩
theorem k23_mkM (w : World) (base : Nat) (ok : Nat → Prop) (x : S23)  : k23.M w base ok x [.string x.f0, .int .i64 x.f1] := ⟨[.string x.f0], [.int .i64 x.f1], rfl, rfl, rfl⟩
def rd_T23 (xs : List S23) (i : Int) : S23 := xs.getD i.toNat z23
theorem at_T23 {w : World} {A : Option Addr} {n : Nat} {xs : List S23} (h : Kd.C k23 w A n xs) (i : Int) (h0 : 0 ≤ i) (h1 : i < n) : ∃ ad , A = some ad ∧ w.cell? (ad.add (i.toNat * 2)) = some (.string (rd_T23 xs i).f0) ∧ w.cell? ⟨(ad.add (i.toNat * 2)).block, (ad.add (i.toNat * 2)).off + 1, none⟩ = some (.int .i64 (rd_T23 xs i).f1) := by
  obtain ⟨ad, c, e, _, hK, hc0⟩ := Kd.C_get h z23 i h0 h1
  have hc : ∀ j u, c[j]? = some u → w.cell? (ad.add (i.toNat * 2 + j)) = some u := hc0
  obtain rfl := k23_open hK
  exact ⟨ad, e, hc 0 _ rfl, by rw [← add_field _ _ 1 (by omega)]; exact hc 1 _ rfl⟩

def rd_L7 (xs : List (List S49)) (i : Int) : (List S49) := xs.getD i.toNat ([] : List S49)
theorem at_L7 {w : World} {A : Option Addr} {n : Nat} {xs : List (List S49)} (h : Kd.C (Kd.slice 49 k49) w A n xs) (i : Int) (h0 : 0 ≤ i) (h1 : i < n) : ∃ ad A0 c0, A = some ad ∧ w.cell? (ad.add i.toNat) = some (.slice A0 (rd_L7 xs i).length c0) ∧ (rd_L7 xs i).length ≤ c0 ∧ k49.C w A0 (rd_L7 xs i).length (rd_L7 xs i) := by
  obtain ⟨ad, c, e, _, hK, hc0⟩ := Kd.C_get h ([] : List S49) i h0 h1
  have hc : ∀ j u, c[j]? = some u → w.cell? (ad.add (i.toNat * 1 + j)) = some u := hc0
  obtain ⟨A0, c0, rfl, l0, g0⟩ := hK
  exact ⟨ad, A0, c0, e, by have hq := hc 0 _ rfl; rwa [Nat.mul_one, Nat.add_zero] at hq, l0, g0⟩

/-! #### struct type 26 -/
structure S26 where
  f0 : Int
  f1 : Bool
  f2 : Bool
  f3 : Bool
  f4 : Bool
  f5 : Bool
  f6 : Int
  f7 : S23
  f8 : (List S49)
  f9 : (List S49)
  f10 : (List S49)
def z26 : S26 := ⟨(0 : Int), false, false, false, false, false, (0 : Int), z23, ([] : List S49), ([] : List S49), ([] : List S49)⟩
def k26 : Kd S26 := Kd.iso (Kd.pair (Kd.int .i64) (Kd.pair Kd.bool (Kd.pair Kd.bool (Kd.pair Kd.bool (Kd.pair Kd.bool (Kd.pair Kd.bool (Kd.pair (Kd.int .i64) (Kd.pair k23 (Kd.pair (Kd.slice 49 k49) (Kd.pair (Kd.slice 49 k49) (Kd.slice 49 k49))))))))))) (fun x : S26 => (x.f0, x.f1, x.f2, x.f3, x.f4, x.f5, x.f6, x.f7, x.f8, x.f9, x.f10))
theorem k26_open {w : World} {x : S26} {cs : List Value} (h : k26.K w x cs) : ∃ A9 c9 A10 c10 A11 c11, cs = [.int .i64 x.f0, .bool x.f1, .bool x.f2, .bool x.f3, .bool x.f4, .bool x.f5, .int .i64 x.f6, .string x.f7.f0, .int .i64 x.f7.f1, .slice A9 x.f8.length c9, .slice A10 x.f9.length c10, .slice A11 x.f10.length c11] ∧ x.f8.length ≤ c9 ∧ k49.C w A9 x.f8.length x.f8 ∧ x.f9.length ≤ c10 ∧ k49.C w A10 x.f9.length x.f9 ∧ x.f10.length ≤ c11 ∧ k49.C w A11 x.f10.length x.f10 := by
  obtain ⟨_, _, rfl, rfl, ⟨_, _, rfl, rfl, ⟨_, _, rfl, rfl, ⟨_, _, rfl, rfl, ⟨_, _, rfl, rfl, ⟨_, _, rfl, rfl, ⟨_, _, rfl, rfl, ⟨_, _, rfl, s7, ⟨_, _, rfl, ⟨A9, c9, rfl, l9, g9⟩, ⟨_, _, rfl, ⟨A10, c10, rfl, l10, g10⟩, ⟨A11, c11, rfl, l11, g11⟩⟩⟩⟩⟩⟩⟩⟩⟩⟩⟩ := h
  obtain rfl := k23_open s7
  exact ⟨A9, c9, A10, c10, A11, c11, rfl, l9, g9, l10, g10, l11, g11⟩
theorem k26_openM {w : World} {base : Nat} {ok : Nat → Prop} {x : S26} {cs : List Value} (h : k26.M w base ok x cs) : ∃ v9 v10 v11, cs = [.int .i64 x.f0, .bool x.f1, .bool x.f2, .bool x.f3, .bool x.f4, .bool x.f5, .int .i64 x.f6, .string x.f7.f0, .int .i64 x.f7.f1, v9, v10, v11] ∧ k49.R 49 w base ok v9 x.f8 ∧ k49.R 49 w base ok v10 x.f9 ∧ k49.R 49 w base ok v11 x.f10 := by
  obtain ⟨_, _, rfl, rfl, ⟨_, _, rfl, rfl, ⟨_, _, rfl, rfl, ⟨_, _, rfl, rfl, ⟨_, _, rfl, rfl, ⟨_, _, rfl, rfl, ⟨_, _, rfl, rfl, ⟨_, _, rfl, s7, ⟨_, _, rfl, ⟨v9, rfl, g9⟩, ⟨_, _, rfl, ⟨v10, rfl, g10⟩, ⟨v11, rfl, g11⟩⟩⟩⟩⟩⟩⟩⟩⟩⟩⟩ := h
  obtain rfl := k23_openM s7
  exact ⟨v9, v10, v11, rfl, g9, g10, g11⟩
theorem k26_mk (w : World) (x : S26) {A9 : Option Addr} {c9 : Nat} (l9 : x.f8.length ≤ c9) (g9 : k49.C w A9 x.f8.length x.f8) {A10 : Option Addr} {c10 : Nat} (l10 : x.f9.length ≤ c10) (g10 : k49.C w A10 x.f9.length x.f9) {A11 : Option Addr} {c11 : Nat} (l11 : x.f10.length ≤ c11) (g11 : k49.C w A11 x.f10.length x.f10) : k26.K w x [.int .i64 x.f0, .bool x.f1, .bool x.f2, .bool x.f3, .bool x.f4, .bool x.f5, .int .i64 x.f6, .string x.f7.f0, .int .i64 x.f7.f1, .slice A9 x.f8.length c9, .slice A10 x.f9.length c10, .slice A11 x.f10.length c11] := ⟨[.int .i64 x.f0], [.bool x.f1, .bool x.f2, .bool x.f3, .bool x.f4, .bool x.f5, .int .i64 x.f6, .string x.f7.f0, .int .i64 x.f7.f1, .slice A9 x.f8.length c9, .slice A10 x.f9.length c10, .slice A11 x.f10.length c11], rfl, rfl, ⟨[.bool x.f1], [.bool x.f2, .bool x.f3, .bool x.f4, .bool x.f5, .int .i64 x.f6, .string x.f7.f0, .int .i64 x.f7.f1, .slice A9 x.f8.length c9, .slice A10 x.f9.length c10, .slice A11 x.f10.length c11], rfl, rfl, ⟨[.bool x.f2], [.bool x.f3, .bool x.f4, .bool x.f5, .int .i64 x.f6, .string x.f7.f0, .int .i64 x.f7.f1, .slice A9 x.f8.length c9, .slice A10 x.f9.length c10, .slice A11 x.f10.length c11], rfl, rfl, ⟨[.bool x.f3], [.bool x.f4, .bool x.f5, .int .i64 x.f6, .string x.f7.f0, .int .i64 x.f7.f1, .slice A9 x.f8.length c9, .slice A10 x.f9.length c10, .slice A11 x.f10.length c11], rfl, rfl, ⟨[.bool x.f4], [.bool x.f5, .int .i64 x.f6, .string x.f7.f0, .int .i64 x.f7.f1, .slice A9 x.f8.length c9, .slice A10 x.f9.length c10, .slice A11 x.f10.length c11], rfl, rfl, ⟨[.bool x.f5], [.int .i64 x.f6, .string x.f7.f0, .int .i64 x.f7.f1, .slice A9 x.f8.length c9, .slice A10 x.f9.length c10, .slice A11 x.f10.length c11], rfl, rfl, ⟨[.int .i64 x.f6], [.string x.f7.f0, .int .i64 x.f7.f1, .slice A9 x.f8.length c9, .slice A10 x.f9.length c10, .slice A11 x.f10.length c11], rfl, rfl, ⟨[.string x.f7.f0, .int .i64 x.f7.f1], [.slice A9 x.f8.length c9, .slice A10 x.f9.length c10, .slice A11 x.f10.length c11], rfl, (k23_mk w x.f7 ), ⟨[.slice A9 x.f8.length c9], [.slice A10 x.f9.length c10, .slice A11 x.f10.length c11], rfl, ⟨A9, c9, rfl, l9, g9⟩, ⟨[.slice A10 x.f9.length c10], [.slice A11 x.f10.length c11], rfl, ⟨A10, c10, rfl, l10, g10⟩, ⟨A11, c11, rfl, l11, g11⟩⟩⟩⟩⟩⟩⟩⟩⟩⟩⟩
theorem k26_mkM (w : World) (base : Nat) (ok : Nat → Prop) (x : S26) {v9 : Value} (g9 : k49.R 49 w base ok v9 x.f8) {v10 : Value} (g10 : k49.R 49 w base ok v10 x.f9) {v11 : Value} (g11 : k49.R 49 w base ok v11 x.f10) : k26.M w base ok x [.int .i64 x.f0, .bool x.f1, .bool x.f2, .bool x.f3, .bool x.f4, .bool x.f5, .int .i64 x.f6, .string x.f7.f0, .int .i64 x.f7.f1, v9, v10, v11] := ⟨[.int .i64 x.f0], [.bool x.f1, .bool x.f2, .bool x.f3, .bool x.f4, .bool x.f5, .int .i64 x.f6, .string x.f7.f0, .int .i64 x.f7.f1, v9, v10, v11], rfl, rfl, ⟨[.bool x.f1], [.bool x.f2, .bool x.f3, .bool x.f4, .bool x.f5, .int .i64 x.f6, .string x.f7.f0, .int .i64 x.f7.f1, v9, v10, v11], rfl, rfl, ⟨[.bool x.f2], [.bool x.f3, .bool x.f4, .bool x.f5, .int .i64 x.f6, .string x.f7.f0, .int .i64 x.f7.f1, v9, v10, v11], rfl, rfl, ⟨[.bool x.f3], [.bool x.f4, .bool x.f5, .int .i64 x.f6, .string x.f7.f0, .int .i64 x.f7.f1, v9, v10, v11], rfl, rfl, ⟨[.bool x.f4], [.bool x.f5, .int .i64 x.f6, .string x.f7.f0, .int .i64 x.f7.f1, v9, v10, v11], rfl, rfl, ⟨[.bool x.f5], [.int .i64 x.f6, .string x.f7.f0, .int .i64 x.f7.f1, v9, v10, v11], rfl, rfl, ⟨[.int .i64 x.f6], [.string x.f7.f0, .int .i64 x.f7.f1, v9, v10, v11], rfl, rfl, ⟨[.string x.f7.f0, .int .i64 x.f7.f1], [v9, v10, v11], rfl, (k23_mkM w base ok x.f7 ), ⟨[v9], [v10, v11], rfl, ⟨v9, rfl, g9⟩, ⟨[v10], [v11], rfl, ⟨v10, rfl, g10⟩, ⟨v11, rfl, g11⟩⟩⟩⟩⟩⟩⟩⟩⟩⟩⟩
def rd_T26 (xs : List S26) (i : Int) : S26 := xs.getD i.toNat z26
theorem at_T26 {w : World} {A : Option Addr} {n : Nat} {xs : List S26} (h : Kd.C k26 w A n xs) (i : Int) (h0 : 0 ≤ i) (h1 : i < n) : ∃ ad A9 c9 A10 c10 A11 c11, A = some ad ∧ w.cell? (ad.add (i.toNat * 12)) = some (.int .i64 (rd_T26 xs i).f0) ∧ w.cell? ⟨(ad.add (i.toNat * 12)).block, (ad.add (i.toNat * 12)).off + 1, none⟩ = some (.bool (rd_T26 xs i).f1) ∧ w.cell? ⟨(ad.add (i.toNat * 12)).block, (ad.add (i.toNat * 12)).off + 2, none⟩ = some (.bool (rd_T26 xs i).f2) ∧ w.cell? ⟨(ad.add (i.toNat * 12)).block, (ad.add (i.toNat * 12)).off + 3, none⟩ = some (.bool (rd_T26 xs i).f3) ∧ w.cell? ⟨(ad.add (i.toNat * 12)).block, (ad.add (i.toNat * 12)).off + 4, none⟩ = some (.bool (rd_T26 xs i).f4) ∧ w.cell? ⟨(ad.add (i.toNat * 12)).block, (ad.add (i.toNat * 12)).off + 5, none⟩ = some (.bool (rd_T26 xs i).f5) ∧ w.cell? ⟨(ad.add (i.toNat * 12)).block, (ad.add (i.toNat * 12)).off + 6, none⟩ = some (.int .i64 (rd_T26 xs i).f6) ∧ w.cell? ⟨(ad.add (i.toNat * 12)).block, (ad.add (i.toNat * 12)).off + 7, none⟩ = some (.string (rd_T26 xs i).f7.f0) ∧ w.cell? ⟨(ad.add (i.toNat * 12)).block, (ad.add (i.toNat * 12)).off + 8, none⟩ = some (.int .i64 (rd_T26 xs i).f7.f1) ∧ w.cell? ⟨(ad.add (i.toNat * 12)).block, (ad.add (i.toNat * 12)).off + 9, none⟩ = some (.slice A9 (rd_T26 xs i).f8.length c9) ∧ w.cell? ⟨(ad.add (i.toNat * 12)).block, (ad.add (i.toNat * 12)).off + 10, none⟩ = some (.slice A10 (rd_T26 xs i).f9.length c10) ∧ w.cell? ⟨(ad.add (i.toNat * 12)).block, (ad.add (i.toNat * 12)).off + 11, none⟩ = some (.slice A11 (rd_T26 xs i).f10.length c11) ∧ (rd_T26 xs i).f8.length ≤ c9 ∧ k49.C w A9 (rd_T26 xs i).f8.length (rd_T26 xs i).f8 ∧ (rd_T26 xs i).f9.length ≤ c10 ∧ k49.C w A10 (rd_T26 xs i).f9.length (rd_T26 xs i).f9 ∧ (rd_T26 xs i).f10.length ≤ c11 ∧ k49.C w A11 (rd_T26 xs i).f10.length (rd_T26 xs i).f10 := by
  obtain ⟨ad, c, e, _, hK, hc0⟩ := Kd.C_get h z26 i h0 h1
  have hc : ∀ j u, c[j]? = some u → w.cell? (ad.add (i.toNat * 12 + j)) = some u := hc0
  obtain ⟨A9, c9, A10, c10, A11, c11, rfl, l9, g9, l10, g10, l11, g11⟩ := k26_open hK
  exact ⟨ad, A9, c9, A10, c10, A11, c11, e, hc 0 _ rfl, by rw [← add_field _ _ 1 (by omega)]; exact hc 1 _ rfl, by rw [← add_field _ _ 2 (by omega)]; exact hc 2 _ rfl, by rw [← add_field _ _ 3 (by omega)]; exact hc 3 _ rfl, by rw [← add_field _ _ 4 (by omega)]; exact hc 4 _ rfl, by rw [← add_field _ _ 5 (by omega)]; exact hc 5 _ rfl, by rw [← add_field _ _ 6 (by omega)]; exact hc 6 _ rfl, by rw [← add_field _ _ 7 (by omega)]; exact hc 7 _ rfl, by rw [← add_field _ _ 8 (by omega)]; exact hc 8 _ rfl, by rw [← add_field _ _ 9 (by omega)]; exact hc 9 _ rfl, by rw [← add_field _ _ 10 (by omega)]; exact hc 10 _ rfl, by rw [← add_field _ _ 11 (by omega)]; exact hc 11 _ rfl, l9, g9, l10, g10, l11, g11⟩

def g23 (x : S23) : Prop := x.f0.size ≤ 140737488351232 ∧ ((Lit.int .i64 x.f1).wf = true)
theorem op23 : O.Opens Try.prog 23 k23 g23 := by
  have h := O.opens_struct Try.underlying23 (O.opensF_cons rfl (O.opens_string Try.underlying9) (by kernel_rfl) (O.opensF_one rfl (O.opens_int Try.underlying3) (by kernel_rfl))) (by kernel_rfl) (fun x : S23 => (x.f0, x.f1)) (fun y => (⟨y.1, y.2⟩ : S23)) (fun _ => rfl)
  exact h
def g49 (x : S49) : Prop := x.f0.size ≤ 140737488351232 ∧ ((Lit.int .i64 x.f1).wf = true ∧ ((Lit.int .i64 x.f2).wf = true ∧ ((Lit.int .i64 x.f3).wf = true ∧ (x.f4.size ≤ 140737488351232 ∧ (x.f5.size ≤ 140737488351232)))))
theorem op49 : O.Opens Try.prog 49 k49 g49 := by
  have h := O.opens_struct Try.underlying49 (O.opensF_cons rfl (O.opens_string Try.underlying9) (by kernel_rfl) (O.opensF_cons rfl (O.opens_int Try.underlying3) (by kernel_rfl) (O.opensF_cons rfl (O.opens_int Try.underlying3) (by kernel_rfl) (O.opensF_cons rfl (O.opens_int Try.underlying3) (by kernel_rfl) (O.opensF_cons rfl (O.opens_string Try.underlying9) (by kernel_rfl) (O.opensF_one rfl (O.opens_string Try.underlying9) (by kernel_rfl))))))) (by kernel_rfl) (fun x : S49 => (x.f0, x.f1, x.f2, x.f3, x.f4, x.f5)) (fun y => (⟨y.1, y.2.1, y.2.2.1, y.2.2.2.1, y.2.2.2.2.1, y.2.2.2.2.2⟩ : S49)) (fun _ => rfl)
  exact h
def g26 (x : S26) : Prop := (Lit.int .i64 x.f0).wf = true ∧ (True ∧ (True ∧ (True ∧ (True ∧ (True ∧ ((Lit.int .i64 x.f6).wf = true ∧ (g23 x.f7 ∧ ((x.f8.length ≤ maxLen ∧ x.f8.length * 72 ≤ 140737488351232 ∧ ∀ y_ ∈ x.f8, g49 y_) ∧ ((x.f9.length ≤ maxLen ∧ x.f9.length * 72 ≤ 140737488351232 ∧ ∀ y_ ∈ x.f9, g49 y_) ∧ ((x.f10.length ≤ maxLen ∧ x.f10.length * 72 ≤ 140737488351232 ∧ ∀ y_ ∈ x.f10, g49 y_)))))))))))
theorem op26 : O.Opens Try.prog 26 k26 g26 := by
  have h := O.opens_struct Try.underlying26 (O.opensF_cons rfl (O.opens_int Try.underlying3) (by kernel_rfl) (O.opensF_cons rfl (O.opens_bool Try.underlying4) (by kernel_rfl) (O.opensF_cons rfl (O.opens_bool Try.underlying4) (by kernel_rfl) (O.opensF_cons rfl (O.opens_bool Try.underlying4) (by kernel_rfl) (O.opensF_cons rfl (O.opens_bool Try.underlying4) (by kernel_rfl) (O.opensF_cons rfl (O.opens_bool Try.underlying4) (by kernel_rfl) (O.opensF_cons rfl (O.opens_int Try.underlying3) (by kernel_rfl) (O.opensF_cons rfl op23 (by kernel_rfl) (O.opensF_cons rfl (O.opens_slice (B := 72) Try.underlying24 op49 (by kernel_rfl) (by kernel_rfl)) (by kernel_rfl) (O.opensF_cons rfl (O.opens_slice (B := 72) Try.underlying24 op49 (by kernel_rfl) (by kernel_rfl)) (by kernel_rfl) (O.opensF_one rfl (O.opens_slice (B := 72) Try.underlying24 op49 (by kernel_rfl) (by kernel_rfl)) (by kernel_rfl)))))))))))) (by kernel_rfl) (fun x : S26 => (x.f0, x.f1, x.f2, x.f3, x.f4, x.f5, x.f6, x.f7, x.f8, x.f9, x.f10)) (fun y => (⟨y.1, y.2.1, y.2.2.1, y.2.2.2.1, y.2.2.2.2.1, y.2.2.2.2.2.1, y.2.2.2.2.2.2.1, y.2.2.2.2.2.2.2.1, y.2.2.2.2.2.2.2.2.1, y.2.2.2.2.2.2.2.2.2.1, y.2.2.2.2.2.2.2.2.2.2⟩ : S26)) (fun _ => rfl)
  exact h
theorem R_away12 {α : Type} {d : Kd α} {e base g t : Nat} {ok : Nat → Prop} {w : World} {v : Value} {xs : List α} (h : d.R e w base ok v xs) {cells : Array Value} (hb : w.heap[g]? = some (.cells cells t (0, 0))) (ht : ∀ q, q ∈ e :: d.E → q ≠ t) {v0 v1 v2 v3 v4 v5 v6 v7 v8 v9 v10 v11 : Value} :
    d.R e ((((((((((((w.setCell ⟨g, 0, none⟩ v0).setCell ⟨g, 1, none⟩ v1).setCell ⟨g, 2, none⟩ v2).setCell ⟨g, 3, none⟩ v3).setCell ⟨g, 4, none⟩ v4).setCell ⟨g, 5, none⟩ v5).setCell ⟨g, 6, none⟩ v6).setCell ⟨g, 7, none⟩ v7).setCell ⟨g, 8, none⟩ v8).setCell ⟨g, 9, none⟩ v9).setCell ⟨g, 10, none⟩ v10).setCell ⟨g, 11, none⟩ v11) base ok v xs :=
  Kd.R_mono (Kd.R_far (p := ⟨g, 11, none⟩) (Kd.R_far (p := ⟨g, 10, none⟩) (Kd.R_far (p := ⟨g, 9, none⟩) (Kd.R_far (p := ⟨g, 8, none⟩) (Kd.R_far (p := ⟨g, 7, none⟩) (Kd.R_far (p := ⟨g, 6, none⟩) (Kd.R_far (p := ⟨g, 5, none⟩) (Kd.R_far (p := ⟨g, 4, none⟩) (Kd.R_far (p := ⟨g, 3, none⟩) (Kd.R_far (p := ⟨g, 2, none⟩) (Kd.R_far (p := ⟨g, 1, none⟩) (Kd.R_far (p := ⟨g, 0, none⟩) (Kd.R_types h hb ht) (fun _ hk => hk.2) v0) (fun _ hk => hk.2) v1) (fun _ hk => hk.2) v2) (fun _ hk => hk.2) v3) (fun _ hk => hk.2) v4) (fun _ hk => hk.2) v5) (fun _ hk => hk.2) v6) (fun _ hk => hk.2) v7) (fun _ hk => hk.2) v8) (fun _ hk => hk.2) v9) (fun _ hk => hk.2) v10) (fun _ hk => hk.2) v11) (fun _ h_ => h_.1)

theorem cells2f {w : World} {g t : Nat} {v0 v1 : Value} (h : w.heap[g]? = some (.cells #[v0, v1] t (0, 0))) : w.cell? ⟨g, 0, none⟩ = some v0 ∧ w.cell? ⟨g, 1, none⟩ = some v1 ∧ w.frozen? ⟨g, 0, none⟩ = false ∧ w.frozen? ⟨g, 1, none⟩ = false := ⟨(blk_cell h 0).trans rfl, (blk_cell h 1).trans rfl, blk_frozen h 0, blk_frozen h 1⟩
theorem cells6f {w : World} {g t : Nat} {v0 v1 v2 v3 v4 v5 : Value} (h : w.heap[g]? = some (.cells #[v0, v1, v2, v3, v4, v5] t (0, 0))) : w.cell? ⟨g, 0, none⟩ = some v0 ∧ w.cell? ⟨g, 1, none⟩ = some v1 ∧ w.cell? ⟨g, 2, none⟩ = some v2 ∧ w.cell? ⟨g, 3, none⟩ = some v3 ∧ w.cell? ⟨g, 4, none⟩ = some v4 ∧ w.cell? ⟨g, 5, none⟩ = some v5 ∧ w.frozen? ⟨g, 0, none⟩ = false ∧ w.frozen? ⟨g, 1, none⟩ = false ∧ w.frozen? ⟨g, 2, none⟩ = false ∧ w.frozen? ⟨g, 3, none⟩ = false ∧ w.frozen? ⟨g, 4, none⟩ = false ∧ w.frozen? ⟨g, 5, none⟩ = false := ⟨(blk_cell h 0).trans rfl, (blk_cell h 1).trans rfl, (blk_cell h 2).trans rfl, (blk_cell h 3).trans rfl, (blk_cell h 4).trans rfl, (blk_cell h 5).trans rfl, blk_frozen h 0, blk_frozen h 1, blk_frozen h 2, blk_frozen h 3, blk_frozen h 4, blk_frozen h 5⟩
theorem cells12f {w : World} {g t : Nat} {v0 v1 v2 v3 v4 v5 v6 v7 v8 v9 v10 v11 : Value} (h : w.heap[g]? = some (.cells #[v0, v1, v2, v3, v4, v5, v6, v7, v8, v9, v10, v11] t (0, 0))) : w.cell? ⟨g, 0, none⟩ = some v0 ∧ w.cell? ⟨g, 1, none⟩ = some v1 ∧ w.cell? ⟨g, 2, none⟩ = some v2 ∧ w.cell? ⟨g, 3, none⟩ = some v3 ∧ w.cell? ⟨g, 4, none⟩ = some v4 ∧ w.cell? ⟨g, 5, none⟩ = some v5 ∧ w.cell? ⟨g, 6, none⟩ = some v6 ∧ w.cell? ⟨g, 7, none⟩ = some v7 ∧ w.cell? ⟨g, 8, none⟩ = some v8 ∧ w.cell? ⟨g, 9, none⟩ = some v9 ∧ w.cell? ⟨g, 10, none⟩ = some v10 ∧ w.cell? ⟨g, 11, none⟩ = some v11 ∧ w.frozen? ⟨g, 0, none⟩ = false ∧ w.frozen? ⟨g, 1, none⟩ = false ∧ w.frozen? ⟨g, 2, none⟩ = false ∧ w.frozen? ⟨g, 3, none⟩ = false ∧ w.frozen? ⟨g, 4, none⟩ = false ∧ w.frozen? ⟨g, 5, none⟩ = false ∧ w.frozen? ⟨g, 6, none⟩ = false ∧ w.frozen? ⟨g, 7, none⟩ = false ∧ w.frozen? ⟨g, 8, none⟩ = false ∧ w.frozen? ⟨g, 9, none⟩ = false ∧ w.frozen? ⟨g, 10, none⟩ = false ∧ w.frozen? ⟨g, 11, none⟩ = false := ⟨(blk_cell h 0).trans rfl, (blk_cell h 1).trans rfl, (blk_cell h 2).trans rfl, (blk_cell h 3).trans rfl, (blk_cell h 4).trans rfl, (blk_cell h 5).trans rfl, (blk_cell h 6).trans rfl, (blk_cell h 7).trans rfl, (blk_cell h 8).trans rfl, (blk_cell h 9).trans rfl, (blk_cell h 10).trans rfl, (blk_cell h 11).trans rfl, blk_frozen h 0, blk_frozen h 1, blk_frozen h 2, blk_frozen h 3, blk_frozen h 4, blk_frozen h 5, blk_frozen h 6, blk_frozen h 7, blk_frozen h 8, blk_frozen h 9, blk_frozen h 10, blk_frozen h 11⟩
theorem blk_put_2 {w : World} {g t : Nat} (v0 v1 : Value) {u0 u1 : Value} (h : w.heap[g]? = some (.cells #[v0, v1] t (0, 0))) : ((w.setCell ⟨g, 0, none⟩ u0).setCell ⟨g, 1, none⟩ u1).heap[g]? = some (.cells #[u0, u1] t (0, 0)) := (blk_put (cs := #[u0, v1]) (blk_put (cs := #[v0, v1]) h 0 u0 rfl) 1 u1 rfl)
theorem blk_put_6 {w : World} {g t : Nat} (v0 v1 v2 v3 v4 v5 : Value) {u0 u1 u2 u3 u4 u5 : Value} (h : w.heap[g]? = some (.cells #[v0, v1, v2, v3, v4, v5] t (0, 0))) : ((((((w.setCell ⟨g, 0, none⟩ u0).setCell ⟨g, 1, none⟩ u1).setCell ⟨g, 2, none⟩ u2).setCell ⟨g, 3, none⟩ u3).setCell ⟨g, 4, none⟩ u4).setCell ⟨g, 5, none⟩ u5).heap[g]? = some (.cells #[u0, u1, u2, u3, u4, u5] t (0, 0)) := (blk_put (cs := #[u0, u1, u2, u3, u4, v5]) (blk_put (cs := #[u0, u1, u2, u3, v4, v5]) (blk_put (cs := #[u0, u1, u2, v3, v4, v5]) (blk_put (cs := #[u0, u1, v2, v3, v4, v5]) (blk_put (cs := #[u0, v1, v2, v3, v4, v5]) (blk_put (cs := #[v0, v1, v2, v3, v4, v5]) h 0 u0 rfl) 1 u1 rfl) 2 u2 rfl) 3 u3 rfl) 4 u4 rfl) 5 u5 rfl)
theorem blk_put_12 {w : World} {g t : Nat} (v0 v1 v2 v3 v4 v5 v6 v7 v8 v9 v10 v11 : Value) {u0 u1 u2 u3 u4 u5 u6 u7 u8 u9 u10 u11 : Value} (h : w.heap[g]? = some (.cells #[v0, v1, v2, v3, v4, v5, v6, v7, v8, v9, v10, v11] t (0, 0))) : ((((((((((((w.setCell ⟨g, 0, none⟩ u0).setCell ⟨g, 1, none⟩ u1).setCell ⟨g, 2, none⟩ u2).setCell ⟨g, 3, none⟩ u3).setCell ⟨g, 4, none⟩ u4).setCell ⟨g, 5, none⟩ u5).setCell ⟨g, 6, none⟩ u6).setCell ⟨g, 7, none⟩ u7).setCell ⟨g, 8, none⟩ u8).setCell ⟨g, 9, none⟩ u9).setCell ⟨g, 10, none⟩ u10).setCell ⟨g, 11, none⟩ u11).heap[g]? = some (.cells #[u0, u1, u2, u3, u4, u5, u6, u7, u8, u9, u10, u11] t (0, 0)) := (blk_put (cs := #[u0, u1, u2, u3, u4, u5, u6, u7, u8, u9, u10, v11]) (blk_put (cs := #[u0, u1, u2, u3, u4, u5, u6, u7, u8, u9, v10, v11]) (blk_put (cs := #[u0, u1, u2, u3, u4, u5, u6, u7, u8, v9, v10, v11]) (blk_put (cs := #[u0, u1, u2, u3, u4, u5, u6, u7, v8, v9, v10, v11]) (blk_put (cs := #[u0, u1, u2, u3, u4, u5, u6, v7, v8, v9, v10, v11]) (blk_put (cs := #[u0, u1, u2, u3, u4, u5, v6, v7, v8, v9, v10, v11]) (blk_put (cs := #[u0, u1, u2, u3, u4, v5, v6, v7, v8, v9, v10, v11]) (blk_put (cs := #[u0, u1, u2, u3, v4, v5, v6, v7, v8, v9, v10, v11]) (blk_put (cs := #[u0, u1, u2, v3, v4, v5, v6, v7, v8, v9, v10, v11]) (blk_put (cs := #[u0, u1, v2, v3, v4, v5, v6, v7, v8, v9, v10, v11]) (blk_put (cs := #[u0, v1, v2, v3, v4, v5, v6, v7, v8, v9, v10, v11]) (blk_put (cs := #[v0, v1, v2, v3, v4, v5, v6, v7, v8, v9, v10, v11]) h 0 u0 rfl) 1 u1 rfl) 2 u2 rfl) 3 u3 rfl) 4 u4 rfl) 5 u5 rfl) 6 u6 rfl) 7 u7 rfl) 8 u8 rfl) 9 u9 rfl) 10 u10 rfl) 11 u11 rfl)
class St (w W : World) : Prop where
  go : ∀ P : World → Prop, (∀ w o, P w → P (w.alloc o)) → (∀ w n, P w → P (w.drewN n)) → (∀ w, P w → P w.drew) → P w → P W
instance (priority := low) St.same (w : World) : St w w := ⟨fun _ _ _ _ h => h⟩
instance St.drewN (w W : World) (n : Nat) [b : St w W] : St w (W.drewN n) := ⟨fun P h1 h2 h3 h => h2 _ n (b.go P h1 h2 h3 h)⟩
instance St.drew (w W : World) [b : St w W] : St w W.drew := ⟨fun P h1 h2 h3 h => h3 _ (b.go P h1 h2 h3 h)⟩
instance St.alloc (w W : World) (o : Obj) [b : St w W] : St w (W.alloc o) := ⟨fun P h1 h2 h3 h => h1 _ o (b.go P h1 h2 h3 h)⟩
theorem bU {w W : World} {g : Nat} {o : Obj} (h : w.heap[g]? = some o) [b : St w W] : W.heap[g]? = some o := b.go (fun W => W.heap[g]? = some o) (fun _ o' h => blk_alloc h o') (fun _ n h => blk_drewN h n) (fun _ h => blk_drew h) h
theorem wU {v w W : World} (h : Below v.heap.size v w) [b : St w W] : Below v.heap.size v W := b.go (fun W => Below v.heap.size v W) (fun _ o' h => below_alloc h o') (fun _ n h => pw_below_drewN h n) (fun _ h => below_drew1 h) h
theorem rU {α : Type} {d : Kd α} {e base : Nat} {ok : Nat → Prop} {v : Value} {xs : List α} {w W : World} (h : d.R e w base ok v xs) [b : St w W] : d.R e W base ok v xs := b.go (fun W => d.R e W base ok v xs) (by intro w o h; apply Kd.R_alloc; exact h) (by intro w n h; apply Kd.R_drewN; exact h) (by intro w h; apply Kd.R_drew; exact h) h
theorem cU {α : Type} {d : Kd α} {A : Option Addr} {n : Nat} {xs : List α} {w W : World} (h : d.C w A n xs) [b : St w W] : d.C W A n xs := b.go (fun W => d.C W A n xs) (by intro w o h; exact Kd.C_alloc h _) (by intro w n h; exact Kd.C_drewN h _) (by intro w h; exact Kd.C_drew h) h

end Go.Proofs.Ytmcldfjfgmhklaa.Pr
