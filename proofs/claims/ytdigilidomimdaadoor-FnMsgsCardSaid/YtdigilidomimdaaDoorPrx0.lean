-- Written for this claim by a program of this session (wip/tool/pr.py, over the kit's printer).
-- half
import Derived.Test.YtdigilidomimdaaDoorProg
import Derived.Below
import Derived.Deep.Draws
import Derived.Deep.AppendLies
import Derived.Maps.AppendAt
import Derived.OwnWalk
import Derived.Laws.BytesArg
import Derived.Laws.MakeOwn
import Derived.Laws.OwnMore
import Derived.Deep.OwnRows
import Derived.Tactics
import Derived.Lib.ConvBytes
import Derived.Laws.Slices
import Derived.WalkKit
import Derived.KernelRfl
import Derived.RowKit3
import Derived.Deep.LoopGhost
import Derived.Deep.QuietTactic
import Derived.BigQuiet
import Derived.WideLaws
import Derived.Deep.DeepCutAuto
import Derived.Deep.CutBlock
import Derived.Deep.RegionHeld3
import Derived.Laws.Rows
import Derived.Lib.AppendStr
import Derived.ArgAppend
import Derived.Laws.IdiomCopy
import Derived.OrdersHeld
import Derived.Laws.BitsLemmas
import Derived.RowKit
import Derived.Test.YtdigilidomimdaaDoorX
import Derived.Test.YtdigilidomimdaaDoorSh
import Derived.Test.YtdigilidomimdaaDoorSp
import Derived.Test.YtdigilidomimdaaDoorO
import Derived.Lib.SliceRun
import Derived.Laws.Cover1
import Derived.Test.YtdigilidomimdaaDoorWWords
import Derived.Test.YtdigilidomimdaaDoorWLast
import Derived.Test.YtdigilidomimdaaDoorWTab
import Derived.Test.YtdigilidomimdaaDoorWFour
import Derived.Test.YtdigilidomimdaaDoorWQPut
import Derived.Test.YtdigilidomimdaaDoorWApart
import Derived.Test.YtdigilidomimdaaDoorWArr
import Derived.Test.YtdigilidomimdaaDoorWZeros
import Derived.Test.YtdigilidomimdaaDoorWFoot
import Derived.Test.YtdigilidomimdaaDoorWKept
import Derived.Test.YtdigilidomimdaaDoorWShare
import Derived.Test.YtdigilidomimdaaDoorWN
import Derived.Test.YtdigilidomimdaaDoorWFootNe
import Derived.Test.YtdigilidomimdaaDoorWAt
import Derived.Test.YtdigilidomimdaaDoorWEqStruct
import Derived.Test.YtdigilidomimdaaDoorWRepsOne
import Derived.Test.YtdigilidomimdaaDoorWInv
import Derived.Test.YtdigilidomimdaaDoorWInvWords
import Derived.Test.YtdigilidomimdaaDoorWGuard
import Derived.Test.YtdigilidomimdaaDoorWNEv
import Derived.Test.YtdigilidomimdaaDoorWMore
namespace Go.Proofs.YtdigilidomimdaaDoor.Pr
open Go.RowKit Go.Proofs.YtdigilidomimdaaDoorW.PrintWords Go.Proofs.YtdigilidomimdaaDoorW.PrintLast Go.Proofs.YtdigilidomimdaaDoorW.PrintMore
attribute [local go_sem] max2_int min2_int max_two min_two max_three min_three max_four min_four   -- for this text's walks alone
set_option linter.unusedVariables false
set_option linter.unusedSimpArgs false



def errW : Option Int → Value
 | none => .nilIface
 | some c => .iface 0 (.int .i64 c)
theorem errW_none : errW none = .nilIface := rfl
theorem errW_some (c : Int) : errW (some c) = .iface 0 (.int .i64 c) := rfl

theorem info3 : (Tryd.prog.info? 3).map (fun i => (i.zero, i.size, i.bytes)) = some (some (.int .i64 0), 1, 8) := by kernel_rfl
theorem info5 : (Tryd.prog.info? 5).map (fun i => (i.zero, i.size, i.bytes)) = some (some (.int .u8 0), 1, 1) := by kernel_rfl
theorem info9 : (Tryd.prog.info? 9).map (fun i => (i.zero, i.size, i.bytes)) = some (some (.string ⟨#[]⟩), 1, 16) := by kernel_rfl
theorem info25 : (Tryd.prog.info? 25).map (fun i => (i.zero, i.size, i.bytes)) = some (some (.agg #[(.string ⟨#[]⟩), (.int .i64 0), (.int .i64 0), (.int .i64 0), (.string ⟨#[]⟩), (.string ⟨#[]⟩)]), 6, 72) := by kernel_rfl
theorem info36 : (Tryd.prog.info? 36).map (fun i => (i.zero, i.size, i.bytes)) = some (some (.slice none 0 0), 1, 24) := by kernel_rfl
-- the values' own types
/-! #### struct type 25 -/
structure S25 where
 f0 : ByteArray
 f1 : Int
 f2 : Int
 f3 : Int
 f4 : ByteArray
 f5 : ByteArray
def z25 : S25 := ⟨(⟨#[]⟩ : ByteArray), (0 : Int), (0 : Int), (0 : Int), (⟨#[]⟩ : ByteArray), (⟨#[]⟩ : ByteArray)⟩
def k25 : Kd S25 := Kd.iso (Kd.pair Kd.string (Kd.pair (Kd.int .i64) (Kd.pair (Kd.int .i64) (Kd.pair (Kd.int .i64) (Kd.pair Kd.string Kd.string))))) (fun x : S25 => (x.f0, x.f1, x.f2, x.f3, x.f4, x.f5))
theorem k25_open {w : World} {x : S25} {cs : List Value} (h : k25.K w x cs) : cs = [.string x.f0, .int .i64 x.f1, .int .i64 x.f2, .int .i64 x.f3, .string x.f4, .string x.f5] := by
 obtain ⟨_, _, rfl, rfl, ⟨_, _, rfl, rfl, ⟨_, _, rfl, rfl, ⟨_, _, rfl, rfl, ⟨_, _, rfl, rfl, rfl⟩⟩⟩⟩⟩ := h
 exact rfl
theorem k25_openM {w : World} {base : Nat} {ok : Nat → Prop} {x : S25} {cs : List Value} (h : k25.M w base ok x cs) : cs = [.string x.f0, .int .i64 x.f1, .int .i64 x.f2, .int .i64 x.f3, .string x.f4, .string x.f5] := by
 obtain ⟨_, _, rfl, rfl, ⟨_, _, rfl, rfl, ⟨_, _, rfl, rfl, ⟨_, _, rfl, rfl, ⟨_, _, rfl, rfl, rfl⟩⟩⟩⟩⟩ := h
 exact rfl
theorem k25_mk (w : World) (x : S25)  : k25.K w x [.string x.f0, .int .i64 x.f1, .int .i64 x.f2, .int .i64 x.f3, .string x.f4, .string x.f5] := ⟨[.string x.f0], [.int .i64 x.f1, .int .i64 x.f2, .int .i64 x.f3, .string x.f4, .string x.f5], rfl, rfl, ⟨[.int .i64 x.f1], [.int .i64 x.f2, .int .i64 x.f3, .string x.f4, .string x.f5], rfl, rfl, ⟨[.int .i64 x.f2], [.int .i64 x.f3, .string x.f4, .string x.f5], rfl, rfl, ⟨[.int .i64 x.f3], [.string x.f4, .string x.f5], rfl, rfl, ⟨[.string x.f4], [.string x.f5], rfl, rfl, rfl⟩⟩⟩⟩⟩
theorem k25_mkM (w : World) (base : Nat) (ok : Nat → Prop) (x : S25)  : k25.M w base ok x [.string x.f0, .int .i64 x.f1, .int .i64 x.f2, .int .i64 x.f3, .string x.f4, .string x.f5] := ⟨[.string x.f0], [.int .i64 x.f1, .int .i64 x.f2, .int .i64 x.f3, .string x.f4, .string x.f5], rfl, rfl, ⟨[.int .i64 x.f1], [.int .i64 x.f2, .int .i64 x.f3, .string x.f4, .string x.f5], rfl, rfl, ⟨[.int .i64 x.f2], [.int .i64 x.f3, .string x.f4, .string x.f5], rfl, rfl, ⟨[.int .i64 x.f3], [.string x.f4, .string x.f5], rfl, rfl, ⟨[.string x.f4], [.string x.f5], rfl, rfl, rfl⟩⟩⟩⟩⟩
theorem k25_mkF (W : World) (ok : Nat → Prop) (x : S25) : Kd.FK k25 W ok x [.string x.f0, .int .i64 x.f1, .int .i64 x.f2, .int .i64 x.f3, .string x.f4, .string x.f5] := fun W2 _ => k25_mk W2 x
def rd_T25 (xs : List S25) (i : Int) : S25 := xs.getD i.toNat z25
theorem at_T25 {w : World} {A : Option Addr} {n : Nat} {xs : List S25} (h : Kd.C k25 w A n xs) (i : Int) (h0 : 0 ≤ i) (h1 : i < n) : ∃ ad , A = some ad ∧ w.cell? (ad.add (i.toNat * 6)) = some (.string (rd_T25 xs i).f0) ∧ w.cell? ⟨(ad.add (i.toNat * 6)).block, (ad.add (i.toNat * 6)).off + 1, none⟩ = some (.int .i64 (rd_T25 xs i).f1) ∧ w.cell? ⟨(ad.add (i.toNat * 6)).block, (ad.add (i.toNat * 6)).off + 2, none⟩ = some (.int .i64 (rd_T25 xs i).f2) ∧ w.cell? ⟨(ad.add (i.toNat * 6)).block, (ad.add (i.toNat * 6)).off + 3, none⟩ = some (.int .i64 (rd_T25 xs i).f3) ∧ w.cell? ⟨(ad.add (i.toNat * 6)).block, (ad.add (i.toNat * 6)).off + 4, none⟩ = some (.string (rd_T25 xs i).f4) ∧ w.cell? ⟨(ad.add (i.toNat * 6)).block, (ad.add (i.toNat * 6)).off + 5, none⟩ = some (.string (rd_T25 xs i).f5) := by
 obtain ⟨ad, c, e, _, hK, hc0⟩ := Kd.C_get h z25 i h0 h1
 have hc : ∀ j u, c[j]? = some u → w.cell? (ad.add (i.toNat * 6 + j)) = some u := hc0
 obtain rfl := k25_open hK
 exact ⟨ad, e, hc 0 _ rfl, by rw [← add_field _ _ 1 (by omega)]; exact hc 1 _ rfl, by rw [← add_field _ _ 2 (by omega)]; exact hc 2 _ rfl, by rw [← add_field _ _ 3 (by omega)]; exact hc 3 _ rfl, by rw [← add_field _ _ 4 (by omega)]; exact hc 4 _ rfl, by rw [← add_field _ _ 5 (by omega)]; exact hc 5 _ rfl⟩

def rd_L4 (xs : List (List S25)) (i : Int) : (List S25) := xs.getD i.toNat ([] : List S25)
theorem at_L4 {w : World} {A : Option Addr} {n : Nat} {xs : List (List S25)} (h : Kd.C (Kd.slice 25 k25) w A n xs) (i : Int) (h0 : 0 ≤ i) (h1 : i < n) : ∃ ad A0 c0, A = some ad ∧ w.cell? (ad.add i.toNat) = some (.slice A0 (rd_L4 xs i).length c0) ∧ (rd_L4 xs i).length ≤ c0 ∧ k25.C w A0 (rd_L4 xs i).length (rd_L4 xs i) := by
 obtain ⟨ad, c, e, _, hK, hc0⟩ := Kd.C_get h ([] : List S25) i h0 h1
 have hc : ∀ j u, c[j]? = some u → w.cell? (ad.add (i.toNat * 1 + j)) = some u := hc0
 obtain ⟨A0, c0, rfl, l0, g0⟩ := hK
 exact ⟨ad, A0, c0, e, by have hq := hc 0 _ rfl; rwa [Nat.mul_one, Nat.add_zero] at hq, l0, g0⟩

theorem R_away12 {α : Type} {d : Kd α} {e base g t : Nat} {ok : Nat → Prop} {w : World} {v : Value} {xs : List α} (h : d.R e w base ok v xs) {cells : Array Value} (hb : w.heap[g]? = some (.cells cells t (0, 0))) (ht : ∀ q, q ∈ e :: d.E → q ≠ t) {v0 v1 v2 v3 v4 v5 v6 v7 v8 v9 v10 v11 : Value} :
  d.R e ((((((((((((w.setCell ⟨g, 0, none⟩ v0).setCell ⟨g, 1, none⟩ v1).setCell ⟨g, 2, none⟩ v2).setCell ⟨g, 3, none⟩ v3).setCell ⟨g, 4, none⟩ v4).setCell ⟨g, 5, none⟩ v5).setCell ⟨g, 6, none⟩ v6).setCell ⟨g, 7, none⟩ v7).setCell ⟨g, 8, none⟩ v8).setCell ⟨g, 9, none⟩ v9).setCell ⟨g, 10, none⟩ v10).setCell ⟨g, 11, none⟩ v11) base ok v xs :=
 Kd.R_mono (Kd.R_far (p := ⟨g, 11, none⟩) (Kd.R_far (p := ⟨g, 10, none⟩) (Kd.R_far (p := ⟨g, 9, none⟩) (Kd.R_far (p := ⟨g, 8, none⟩) (Kd.R_far (p := ⟨g, 7, none⟩) (Kd.R_far (p := ⟨g, 6, none⟩) (Kd.R_far (p := ⟨g, 5, none⟩) (Kd.R_far (p := ⟨g, 4, none⟩) (Kd.R_far (p := ⟨g, 3, none⟩) (Kd.R_far (p := ⟨g, 2, none⟩) (Kd.R_far (p := ⟨g, 1, none⟩) (Kd.R_far (p := ⟨g, 0, none⟩) (Kd.R_types h hb ht) (fun _ hk => hk.2) v0) (fun _ hk => hk.2) v1) (fun _ hk => hk.2) v2) (fun _ hk => hk.2) v3) (fun _ hk => hk.2) v4) (fun _ hk => hk.2) v5) (fun _ hk => hk.2) v6) (fun _ hk => hk.2) v7) (fun _ hk => hk.2) v8) (fun _ hk => hk.2) v9) (fun _ hk => hk.2) v10) (fun _ hk => hk.2) v11) (fun _ h_ => h_.1)

theorem cells2f {w : World} {g t : Nat} {v0 v1 : Value} (h : w.heap[g]? = some (.cells #[v0, v1] t (0, 0))) : w.cell? ⟨g, 0, none⟩ = some v0 ∧ w.cell? ⟨g, 1, none⟩ = some v1 ∧ w.frozen? ⟨g, 0, none⟩ = false ∧ w.frozen? ⟨g, 1, none⟩ = false := ⟨(blk_cell h 0).trans rfl, (blk_cell h 1).trans rfl, blk_frozen h 0, blk_frozen h 1⟩
theorem cells6f {w : World} {g t : Nat} {v0 v1 v2 v3 v4 v5 : Value} (h : w.heap[g]? = some (.cells #[v0, v1, v2, v3, v4, v5] t (0, 0))) : w.cell? ⟨g, 0, none⟩ = some v0 ∧ w.cell? ⟨g, 1, none⟩ = some v1 ∧ w.cell? ⟨g, 2, none⟩ = some v2 ∧ w.cell? ⟨g, 3, none⟩ = some v3 ∧ w.cell? ⟨g, 4, none⟩ = some v4 ∧ w.cell? ⟨g, 5, none⟩ = some v5 ∧ w.frozen? ⟨g, 0, none⟩ = false ∧ w.frozen? ⟨g, 1, none⟩ = false ∧ w.frozen? ⟨g, 2, none⟩ = false ∧ w.frozen? ⟨g, 3, none⟩ = false ∧ w.frozen? ⟨g, 4, none⟩ = false ∧ w.frozen? ⟨g, 5, none⟩ = false := ⟨(blk_cell h 0).trans rfl, (blk_cell h 1).trans rfl, (blk_cell h 2).trans rfl, (blk_cell h 3).trans rfl, (blk_cell h 4).trans rfl, (blk_cell h 5).trans rfl, blk_frozen h 0, blk_frozen h 1, blk_frozen h 2, blk_frozen h 3, blk_frozen h 4, blk_frozen h 5⟩
theorem cells12f {w : World} {g t : Nat} {v0 v1 v2 v3 v4 v5 v6 v7 v8 v9 v10 v11 : Value} (h : w.heap[g]? = some (.cells #[v0, v1, v2, v3, v4, v5, v6, v7, v8, v9, v10, v11] t (0, 0))) : w.cell? ⟨g, 0, none⟩ = some v0 ∧ w.cell? ⟨g, 1, none⟩ = some v1 ∧ w.cell? ⟨g, 2, none⟩ = some v2 ∧ w.cell? ⟨g, 3, none⟩ = some v3 ∧ w.cell? ⟨g, 4, none⟩ = some v4 ∧ w.cell? ⟨g, 5, none⟩ = some v5 ∧ w.cell? ⟨g, 6, none⟩ = some v6 ∧ w.cell? ⟨g, 7, none⟩ = some v7 ∧ w.cell? ⟨g, 8, none⟩ = some v8 ∧ w.cell? ⟨g, 9, none⟩ = some v9 ∧ w.cell? ⟨g, 10, none⟩ = some v10 ∧ w.cell? ⟨g, 11, none⟩ = some v11 ∧ w.frozen? ⟨g, 0, none⟩ = false ∧ w.frozen? ⟨g, 1, none⟩ = false ∧ w.frozen? ⟨g, 2, none⟩ = false ∧ w.frozen? ⟨g, 3, none⟩ = false ∧ w.frozen? ⟨g, 4, none⟩ = false ∧ w.frozen? ⟨g, 5, none⟩ = false ∧ w.frozen? ⟨g, 6, none⟩ = false ∧ w.frozen? ⟨g, 7, none⟩ = false ∧ w.frozen? ⟨g, 8, none⟩ = false ∧ w.frozen? ⟨g, 9, none⟩ = false ∧ w.frozen? ⟨g, 10, none⟩ = false ∧ w.frozen? ⟨g, 11, none⟩ = false := ⟨(blk_cell h 0).trans rfl, (blk_cell h 1).trans rfl, (blk_cell h 2).trans rfl, (blk_cell h 3).trans rfl, (blk_cell h 4).trans rfl, (blk_cell h 5).trans rfl, (blk_cell h 6).trans rfl, (blk_cell h 7).trans rfl, (blk_cell h 8).trans rfl, (blk_cell h 9).trans rfl, (blk_cell h 10).trans rfl, (blk_cell h 11).trans rfl, blk_frozen h 0, blk_frozen h 1, blk_frozen h 2, blk_frozen h 3, blk_frozen h 4, blk_frozen h 5, blk_frozen h 6, blk_frozen h 7, blk_frozen h 8, blk_frozen h 9, blk_frozen h 10, blk_frozen h 11⟩
theorem blk_put_2 {w : World} {g t : Nat} (v0 v1 : Value) {u0 u1 : Value} (h : w.heap[g]? = some (.cells #[v0, v1] t (0, 0))) : ((w.setCell ⟨g, 0, none⟩ u0).setCell ⟨g, 1, none⟩ u1).heap[g]? = some (.cells #[u0, u1] t (0, 0)) := (blk_put (cs := #[u0, v1]) (blk_put (cs := #[v0, v1]) h 0 u0 rfl) 1 u1 rfl)
theorem blk_put_6 {w : World} {g t : Nat} (v0 v1 v2 v3 v4 v5 : Value) {u0 u1 u2 u3 u4 u5 : Value} (h : w.heap[g]? = some (.cells #[v0, v1, v2, v3, v4, v5] t (0, 0))) : ((((((w.setCell ⟨g, 0, none⟩ u0).setCell ⟨g, 1, none⟩ u1).setCell ⟨g, 2, none⟩ u2).setCell ⟨g, 3, none⟩ u3).setCell ⟨g, 4, none⟩ u4).setCell ⟨g, 5, none⟩ u5).heap[g]? = some (.cells #[u0, u1, u2, u3, u4, u5] t (0, 0)) := (blk_put (cs := #[u0, u1, u2, u3, u4, v5]) (blk_put (cs := #[u0, u1, u2, u3, v4, v5]) (blk_put (cs := #[u0, u1, u2, v3, v4, v5]) (blk_put (cs := #[u0, u1, v2, v3, v4, v5]) (blk_put (cs := #[u0, v1, v2, v3, v4, v5]) (blk_put (cs := #[v0, v1, v2, v3, v4, v5]) h 0 u0 rfl) 1 u1 rfl) 2 u2 rfl) 3 u3 rfl) 4 u4 rfl) 5 u5 rfl)
theorem p6 {w : World} {g t : Nat} {v0 v1 v2 v3 v4 v5 : Value} {u0 u1 u2 u3 u4 u5 : Value} (h : w.heap[g]? = some (.cells #[v0, v1, v2, v3, v4, v5] t (0, 0))) : ((((((w.setCell ⟨g, 0, none⟩ u0).setCell ⟨g, 1, none⟩ u1).setCell ⟨g, 2, none⟩ u2).setCell ⟨g, 3, none⟩ u3).setCell ⟨g, 4, none⟩ u4).setCell ⟨g, 5, none⟩ u5).heap[g]? = some (.cells #[u0, u1, u2, u3, u4, u5] t (0, 0)) := blk_put_6 v0 v1 v2 v3 v4 v5 h
theorem blk_put_12 {w : World} {g t : Nat} (v0 v1 v2 v3 v4 v5 v6 v7 v8 v9 v10 v11 : Value) {u0 u1 u2 u3 u4 u5 u6 u7 u8 u9 u10 u11 : Value} (h : w.heap[g]? = some (.cells #[v0, v1, v2, v3, v4, v5, v6, v7, v8, v9, v10, v11] t (0, 0))) : ((((((((((((w.setCell ⟨g, 0, none⟩ u0).setCell ⟨g, 1, none⟩ u1).setCell ⟨g, 2, none⟩ u2).setCell ⟨g, 3, none⟩ u3).setCell ⟨g, 4, none⟩ u4).setCell ⟨g, 5, none⟩ u5).setCell ⟨g, 6, none⟩ u6).setCell ⟨g, 7, none⟩ u7).setCell ⟨g, 8, none⟩ u8).setCell ⟨g, 9, none⟩ u9).setCell ⟨g, 10, none⟩ u10).setCell ⟨g, 11, none⟩ u11).heap[g]? = some (.cells #[u0, u1, u2, u3, u4, u5, u6, u7, u8, u9, u10, u11] t (0, 0)) := (blk_put (cs := #[u0, u1, u2, u3, u4, u5, u6, u7, u8, u9, u10, v11]) (blk_put (cs := #[u0, u1, u2, u3, u4, u5, u6, u7, u8, u9, v10, v11]) (blk_put (cs := #[u0, u1, u2, u3, u4, u5, u6, u7, u8, v9, v10, v11]) (blk_put (cs := #[u0, u1, u2, u3, u4, u5, u6, u7, v8, v9, v10, v11]) (blk_put (cs := #[u0, u1, u2, u3, u4, u5, u6, v7, v8, v9, v10, v11]) (blk_put (cs := #[u0, u1, u2, u3, u4, u5, v6, v7, v8, v9, v10, v11]) (blk_put (cs := #[u0, u1, u2, u3, u4, v5, v6, v7, v8, v9, v10, v11]) (blk_put (cs := #[u0, u1, u2, u3, v4, v5, v6, v7, v8, v9, v10, v11]) (blk_put (cs := #[u0, u1, u2, v3, v4, v5, v6, v7, v8, v9, v10, v11]) (blk_put (cs := #[u0, u1, v2, v3, v4, v5, v6, v7, v8, v9, v10, v11]) (blk_put (cs := #[u0, v1, v2, v3, v4, v5, v6, v7, v8, v9, v10, v11]) (blk_put (cs := #[v0, v1, v2, v3, v4, v5, v6, v7, v8, v9, v10, v11]) h 0 u0 rfl) 1 u1 rfl) 2 u2 rfl) 3 u3 rfl) 4 u4 rfl) 5 u5 rfl) 6 u6 rfl) 7 u7 rfl) 8 u8 rfl) 9 u9 rfl) 10 u10 rfl) 11 u11 rfl)
theorem p12 {w : World} {g t : Nat} {v0 v1 v2 v3 v4 v5 v6 v7 v8 v9 v10 v11 : Value} {u0 u1 u2 u3 u4 u5 u6 u7 u8 u9 u10 u11 : Value} (h : w.heap[g]? = some (.cells #[v0, v1, v2, v3, v4, v5, v6, v7, v8, v9, v10, v11] t (0, 0))) : ((((((((((((w.setCell ⟨g, 0, none⟩ u0).setCell ⟨g, 1, none⟩ u1).setCell ⟨g, 2, none⟩ u2).setCell ⟨g, 3, none⟩ u3).setCell ⟨g, 4, none⟩ u4).setCell ⟨g, 5, none⟩ u5).setCell ⟨g, 6, none⟩ u6).setCell ⟨g, 7, none⟩ u7).setCell ⟨g, 8, none⟩ u8).setCell ⟨g, 9, none⟩ u9).setCell ⟨g, 10, none⟩ u10).setCell ⟨g, 11, none⟩ u11).heap[g]? = some (.cells #[u0, u1, u2, u3, u4, u5, u6, u7, u8, u9, u10, u11] t (0, 0)) := blk_put_12 v0 v1 v2 v3 v4 v5 v6 v7 v8 v9 v10 v11 h
class St (w W : World) : Prop where
 go : ∀ P : World → Prop, (∀ w o, P w → P (w.alloc o)) → (∀ w n, P w → P (w.drewN n)) → (∀ w, P w → P w.drew) → P w → P W
instance (priority := low) St.same (w : World) : St w w := ⟨fun _ _ _ _ h => h⟩
instance St.drewN (w W : World) (n : Nat) [b : St w W] : St w (W.drewN n) := ⟨fun P h1 h2 h3 h => h2 _ n (b.go P h1 h2 h3 h)⟩
instance St.drew (w W : World) [b : St w W] : St w W.drew := ⟨fun P h1 h2 h3 h => h3 _ (b.go P h1 h2 h3 h)⟩
instance St.alloc (w W : World) (o : Obj) [b : St w W] : St w (W.alloc o) := ⟨fun P h1 h2 h3 h => h1 _ o (b.go P h1 h2 h3 h)⟩
theorem bU {w W : World} {g : Nat} {o : Obj} (h : w.heap[g]? = some o) [b : St w W] : W.heap[g]? = some o := b.go (fun W => W.heap[g]? = some o) (fun _ o' h => blk_alloc h o') (fun _ n h => blk_drewN h n) (fun _ h => blk_drew h) h
theorem wU {v w W : World} (h : Below v.heap.size v w) [b : St w W] : Below v.heap.size v W := b.go (fun W => Below v.heap.size v W) (fun _ o' h => below_alloc h o') (fun _ n h => pw_below_drewN h n) (fun _ h => below_drew1 h) h
theorem rU {α : Type} {d : Kd α} {e base : Nat} {ok : Nat → Prop} {v : Value} {xs : List α} {w W : World} (h : d.R e w base ok v xs) [b : St w W] : d.R e W base ok v xs := b.go (fun W => d.R e W base ok v xs) (by intro w o h; apply Kd.R_alloc; exact h) (by intro w n h; apply Kd.R_drewN; exact h) (by intro w h; apply Kd.R_drew; exact h) h
theorem cU {α : Type} {d : Kd α} {A : Option Addr} {n : Nat} {xs : List α} {w W : World} (h : d.C w A n xs) [b : St w W] : d.C W A n xs := b.go (fun W => d.C W A n xs) (by intro w o h; exact Kd.C_alloc h _) (by intro w n h; exact Kd.C_drewN h _) (by intro w h; exact Kd.C_drew h) h

theorem jA {p : Prop} (h : p := by (try simp only [List.map_toArray, List.map_cons, List.map_nil]); first | done | rfl | (simp only [List.length_drop, List.length_take]; rfl)) : p := h
theorem jB {p : Prop} (h : p := by first | rfl | (simp; done) | (simp [*]; done) | (simp [X.bne_nil, X.beq_nil]; done) | (simp [*, X.bne_nil, X.beq_nil]; done)) : p := h
theorem jC {p : Prop} (h : p := by first | (with_reducible assumption) | assumption) : p := h
theorem aS {p : Prop} (h : p) : Aside0 p := ⟨h⟩
theorem oW {A : Option Addr} {m n c d k : Nat} (h : some k ≠ (Value.slice A m c).ownBlock) : some k ≠ (Value.slice A n d).ownBlock := by cases A <;> exact h
theorem bM {α β : Type} {x : Option α} {f : α → Option β} {r : β} (h : x.bind f = some r) : ∃ a, Aside0 (x = some a) ∧ f a = some r := (Option.bind_eq_some_iff.mp h).imp fun _ h => ⟨⟨h.1⟩, h.2⟩
theorem jD {p : Prop} (h : p := by first | (rw [hy_]; with_reducible exact H) | (have H2_ := (Option.bind_some _ _).symm.trans H; rw [hy_]; with_reducible exact H2_) | (have H2_ := (Option.bind_some _ _).symm.trans H; with_reducible exact H2_) | with_reducible exact H | (rw [hy_]; exact H) | exact H) : p := h
theorem jK {p : Prop} (h : p := by kernel_rfl) : p := h
theorem jE {p : Prop} (h : p := by first | rfl | (simp [errW_none, errW_some] <;> rfl) | (simp [*, errW_none, errW_some] <;> rfl)) : p := h
class ML (g : Nat) (G : List Nat) : Prop where
 m : g ∈ G
instance ML.hd (g : Nat) (G : List Nat) : ML g (g :: G) := ⟨by simp⟩
instance ML.tl (g h : Nat) (G : List Nat) [b : ML g G] : ML g (h :: G) := ⟨List.mem_cons_of_mem _ b.m⟩
class SS (G : List Nat) (w W : World) : Prop where
 go : ∀ P : World → Prop, (∀ w o, P w → P (w.alloc o)) → (∀ w n, P w → P (w.drewN n)) → (∀ w, P w → P w.drew) → (∀ w g j u, g ∈ G → P w → P (w.setCell ⟨g, j, none⟩ u)) → P w → P W
instance (priority := low) SS.same (G : List Nat) (w : World) : SS G w w := ⟨fun _ _ _ _ _ h => h⟩
instance SS.drewN (G : List Nat) (w W : World) (n : Nat) [b : SS G w W] : SS G w (W.drewN n) := ⟨fun P h1 h2 h3 h4 h => h2 _ n (b.go P h1 h2 h3 h4 h)⟩
instance SS.drew (G : List Nat) (w W : World) [b : SS G w W] : SS G w W.drew := ⟨fun P h1 h2 h3 h4 h => h3 _ (b.go P h1 h2 h3 h4 h)⟩
instance SS.alloc (G : List Nat) (w W : World) (o : Obj) [b : SS G w W] : SS G w (W.alloc o) := ⟨fun P h1 h2 h3 h4 h => h1 _ o (b.go P h1 h2 h3 h4 h)⟩
instance SS.set (G : List Nat) (w W : World) (g j : Nat) (u : Value) [c : ML g G] [b : SS G w W] : SS G w (W.setCell ⟨g, j, none⟩ u) := ⟨fun P h1 h2 h3 h4 h => h4 _ g j u c.m (b.go P h1 h2 h3 h4 h)⟩
theorem wS1 {v w W : World} {g0 : Nat} (h : Below v.heap.size v w) (h0 : v.heap.size ≤ g0) [b : SS [g0] w W] : Below v.heap.size v W := b.go (fun W => Below v.heap.size v W) (fun _ o h => below_alloc h o) (fun _ n h => pw_below_drewN h n) (fun _ h => below_drew1 h) (fun _ g _ _ hg h => below_set h (by simp only [List.mem_cons, List.not_mem_nil, or_false] at hg; rcases hg with rfl <;> assumption)) h
theorem wS2 {v w W : World} {g0 g1 : Nat} (h : Below v.heap.size v w) (h0 : v.heap.size ≤ g0) (h1 : v.heap.size ≤ g1) [b : SS [g0, g1] w W] : Below v.heap.size v W := b.go (fun W => Below v.heap.size v W) (fun _ o h => below_alloc h o) (fun _ n h => pw_below_drewN h n) (fun _ h => below_drew1 h) (fun _ g _ _ hg h => below_set h (by simp only [List.mem_cons, List.not_mem_nil, or_false] at hg; rcases hg with rfl | rfl <;> assumption)) h
theorem wS3 {v w W : World} {g0 g1 g2 : Nat} (h : Below v.heap.size v w) (h0 : v.heap.size ≤ g0) (h1 : v.heap.size ≤ g1) (h2 : v.heap.size ≤ g2) [b : SS [g0, g1, g2] w W] : Below v.heap.size v W := b.go (fun W => Below v.heap.size v W) (fun _ o h => below_alloc h o) (fun _ n h => pw_below_drewN h n) (fun _ h => below_drew1 h) (fun _ g _ _ hg h => below_set h (by simp only [List.mem_cons, List.not_mem_nil, or_false] at hg; rcases hg with rfl | rfl | rfl <;> assumption)) h
theorem wS4 {v w W : World} {g0 g1 g2 g3 : Nat} (h : Below v.heap.size v w) (h0 : v.heap.size ≤ g0) (h1 : v.heap.size ≤ g1) (h2 : v.heap.size ≤ g2) (h3 : v.heap.size ≤ g3) [b : SS [g0, g1, g2, g3] w W] : Below v.heap.size v W := b.go (fun W => Below v.heap.size v W) (fun _ o h => below_alloc h o) (fun _ n h => pw_below_drewN h n) (fun _ h => below_drew1 h) (fun _ g _ _ hg h => below_set h (by simp only [List.mem_cons, List.not_mem_nil, or_false] at hg; rcases hg with rfl | rfl | rfl | rfl <;> assumption)) h
theorem wS5 {v w W : World} {g0 g1 g2 g3 g4 : Nat} (h : Below v.heap.size v w) (h0 : v.heap.size ≤ g0) (h1 : v.heap.size ≤ g1) (h2 : v.heap.size ≤ g2) (h3 : v.heap.size ≤ g3) (h4 : v.heap.size ≤ g4) [b : SS [g0, g1, g2, g3, g4] w W] : Below v.heap.size v W := b.go (fun W => Below v.heap.size v W) (fun _ o h => below_alloc h o) (fun _ n h => pw_below_drewN h n) (fun _ h => below_drew1 h) (fun _ g _ _ hg h => below_set h (by simp only [List.mem_cons, List.not_mem_nil, or_false] at hg; rcases hg with rfl | rfl | rfl | rfl | rfl <;> assumption)) h
theorem wS6 {v w W : World} {g0 g1 g2 g3 g4 g5 : Nat} (h : Below v.heap.size v w) (h0 : v.heap.size ≤ g0) (h1 : v.heap.size ≤ g1) (h2 : v.heap.size ≤ g2) (h3 : v.heap.size ≤ g3) (h4 : v.heap.size ≤ g4) (h5 : v.heap.size ≤ g5) [b : SS [g0, g1, g2, g3, g4, g5] w W] : Below v.heap.size v W := b.go (fun W => Below v.heap.size v W) (fun _ o h => below_alloc h o) (fun _ n h => pw_below_drewN h n) (fun _ h => below_drew1 h) (fun _ g _ _ hg h => below_set h (by simp only [List.mem_cons, List.not_mem_nil, or_false] at hg; rcases hg with rfl | rfl | rfl | rfl | rfl | rfl <;> assumption)) h
theorem wS7 {v w W : World} {g0 g1 g2 g3 g4 g5 g6 : Nat} (h : Below v.heap.size v w) (h0 : v.heap.size ≤ g0) (h1 : v.heap.size ≤ g1) (h2 : v.heap.size ≤ g2) (h3 : v.heap.size ≤ g3) (h4 : v.heap.size ≤ g4) (h5 : v.heap.size ≤ g5) (h6 : v.heap.size ≤ g6) [b : SS [g0, g1, g2, g3, g4, g5, g6] w W] : Below v.heap.size v W := b.go (fun W => Below v.heap.size v W) (fun _ o h => below_alloc h o) (fun _ n h => pw_below_drewN h n) (fun _ h => below_drew1 h) (fun _ g _ _ hg h => below_set h (by simp only [List.mem_cons, List.not_mem_nil, or_false] at hg; rcases hg with rfl | rfl | rfl | rfl | rfl | rfl | rfl <;> assumption)) h
theorem wS8 {v w W : World} {g0 g1 g2 g3 g4 g5 g6 g7 : Nat} (h : Below v.heap.size v w) (h0 : v.heap.size ≤ g0) (h1 : v.heap.size ≤ g1) (h2 : v.heap.size ≤ g2) (h3 : v.heap.size ≤ g3) (h4 : v.heap.size ≤ g4) (h5 : v.heap.size ≤ g5) (h6 : v.heap.size ≤ g6) (h7 : v.heap.size ≤ g7) [b : SS [g0, g1, g2, g3, g4, g5, g6, g7] w W] : Below v.heap.size v W := b.go (fun W => Below v.heap.size v W) (fun _ o h => below_alloc h o) (fun _ n h => pw_below_drewN h n) (fun _ h => below_drew1 h) (fun _ g _ _ hg h => below_set h (by simp only [List.mem_cons, List.not_mem_nil, or_false] at hg; rcases hg with rfl | rfl | rfl | rfl | rfl | rfl | rfl | rfl <;> assumption)) h
theorem kS0 {w a W : World} {g : Nat} (h : KeepBut w a g none)  [b : SS [g] a W] : KeepBut w W g none := b.go (fun W => KeepBut w W g none) (fun _ o h => keep_alloc h o) (fun _ n h => keep_drewN h n) (fun _ h => keep_drew h) (fun _ g _ _ hg h => by simp only [List.mem_cons, List.not_mem_nil, or_false] at hg; rcases hg with rfl; all_goals first | exact h.set_ _ _ | exact keep_far h (by assumption) _) h
theorem kS1 {w a W : World} {g : Nat} {g0 : Nat} (h : KeepBut w a g none) (h0 : w.heap.size ≤ g0) [b : SS [g, g0] a W] : KeepBut w W g none := b.go (fun W => KeepBut w W g none) (fun _ o h => keep_alloc h o) (fun _ n h => keep_drewN h n) (fun _ h => keep_drew h) (fun _ g _ _ hg h => by simp only [List.mem_cons, List.not_mem_nil, or_false] at hg; rcases hg with rfl | rfl; all_goals first | exact h.set_ _ _ | exact keep_far h (by assumption) _) h
theorem kS2 {w a W : World} {g : Nat} {g0 g1 : Nat} (h : KeepBut w a g none) (h0 : w.heap.size ≤ g0) (h1 : w.heap.size ≤ g1) [b : SS [g, g0, g1] a W] : KeepBut w W g none := b.go (fun W => KeepBut w W g none) (fun _ o h => keep_alloc h o) (fun _ n h => keep_drewN h n) (fun _ h => keep_drew h) (fun _ g _ _ hg h => by simp only [List.mem_cons, List.not_mem_nil, or_false] at hg; rcases hg with rfl | rfl | rfl; all_goals first | exact h.set_ _ _ | exact keep_far h (by assumption) _) h
theorem kS3 {w a W : World} {g : Nat} {g0 g1 g2 : Nat} (h : KeepBut w a g none) (h0 : w.heap.size ≤ g0) (h1 : w.heap.size ≤ g1) (h2 : w.heap.size ≤ g2) [b : SS [g, g0, g1, g2] a W] : KeepBut w W g none := b.go (fun W => KeepBut w W g none) (fun _ o h => keep_alloc h o) (fun _ n h => keep_drewN h n) (fun _ h => keep_drew h) (fun _ g _ _ hg h => by simp only [List.mem_cons, List.not_mem_nil, or_false] at hg; rcases hg with rfl | rfl | rfl | rfl; all_goals first | exact h.set_ _ _ | exact keep_far h (by assumption) _) h
theorem kS4 {w a W : World} {g : Nat} {g0 g1 g2 g3 : Nat} (h : KeepBut w a g none) (h0 : w.heap.size ≤ g0) (h1 : w.heap.size ≤ g1) (h2 : w.heap.size ≤ g2) (h3 : w.heap.size ≤ g3) [b : SS [g, g0, g1, g2, g3] a W] : KeepBut w W g none := b.go (fun W => KeepBut w W g none) (fun _ o h => keep_alloc h o) (fun _ n h => keep_drewN h n) (fun _ h => keep_drew h) (fun _ g _ _ hg h => by simp only [List.mem_cons, List.not_mem_nil, or_false] at hg; rcases hg with rfl | rfl | rfl | rfl | rfl; all_goals first | exact h.set_ _ _ | exact keep_far h (by assumption) _) h
theorem kS5 {w a W : World} {g : Nat} {g0 g1 g2 g3 g4 : Nat} (h : KeepBut w a g none) (h0 : w.heap.size ≤ g0) (h1 : w.heap.size ≤ g1) (h2 : w.heap.size ≤ g2) (h3 : w.heap.size ≤ g3) (h4 : w.heap.size ≤ g4) [b : SS [g, g0, g1, g2, g3, g4] a W] : KeepBut w W g none := b.go (fun W => KeepBut w W g none) (fun _ o h => keep_alloc h o) (fun _ n h => keep_drewN h n) (fun _ h => keep_drew h) (fun _ g _ _ hg h => by simp only [List.mem_cons, List.not_mem_nil, or_false] at hg; rcases hg with rfl | rfl | rfl | rfl | rfl | rfl; all_goals first | exact h.set_ _ _ | exact keep_far h (by assumption) _) h
theorem kS6 {w a W : World} {g : Nat} {g0 g1 g2 g3 g4 g5 : Nat} (h : KeepBut w a g none) (h0 : w.heap.size ≤ g0) (h1 : w.heap.size ≤ g1) (h2 : w.heap.size ≤ g2) (h3 : w.heap.size ≤ g3) (h4 : w.heap.size ≤ g4) (h5 : w.heap.size ≤ g5) [b : SS [g, g0, g1, g2, g3, g4, g5] a W] : KeepBut w W g none := b.go (fun W => KeepBut w W g none) (fun _ o h => keep_alloc h o) (fun _ n h => keep_drewN h n) (fun _ h => keep_drew h) (fun _ g _ _ hg h => by simp only [List.mem_cons, List.not_mem_nil, or_false] at hg; rcases hg with rfl | rfl | rfl | rfl | rfl | rfl | rfl; all_goals first | exact h.set_ _ _ | exact keep_far h (by assumption) _) h
theorem kS7 {w a W : World} {g : Nat} {g0 g1 g2 g3 g4 g5 g6 : Nat} (h : KeepBut w a g none) (h0 : w.heap.size ≤ g0) (h1 : w.heap.size ≤ g1) (h2 : w.heap.size ≤ g2) (h3 : w.heap.size ≤ g3) (h4 : w.heap.size ≤ g4) (h5 : w.heap.size ≤ g5) (h6 : w.heap.size ≤ g6) [b : SS [g, g0, g1, g2, g3, g4, g5, g6] a W] : KeepBut w W g none := b.go (fun W => KeepBut w W g none) (fun _ o h => keep_alloc h o) (fun _ n h => keep_drewN h n) (fun _ h => keep_drew h) (fun _ g _ _ hg h => by simp only [List.mem_cons, List.not_mem_nil, or_false] at hg; rcases hg with rfl | rfl | rfl | rfl | rfl | rfl | rfl | rfl; all_goals first | exact h.set_ _ _ | exact keep_far h (by assumption) _) h
theorem kS8 {w a W : World} {g : Nat} {g0 g1 g2 g3 g4 g5 g6 g7 : Nat} (h : KeepBut w a g none) (h0 : w.heap.size ≤ g0) (h1 : w.heap.size ≤ g1) (h2 : w.heap.size ≤ g2) (h3 : w.heap.size ≤ g3) (h4 : w.heap.size ≤ g4) (h5 : w.heap.size ≤ g5) (h6 : w.heap.size ≤ g6) (h7 : w.heap.size ≤ g7) [b : SS [g, g0, g1, g2, g3, g4, g5, g6, g7] a W] : KeepBut w W g none := b.go (fun W => KeepBut w W g none) (fun _ o h => keep_alloc h o) (fun _ n h => keep_drewN h n) (fun _ h => keep_drew h) (fun _ g _ _ hg h => by simp only [List.mem_cons, List.not_mem_nil, or_false] at hg; rcases hg with rfl | rfl | rfl | rfl | rfl | rfl | rfl | rfl | rfl; all_goals first | exact h.set_ _ _ | exact keep_far h (by assumption) _) h
theorem rB {α : Type} {d : Kd α} {e base : Nat} {ok : Nat → Prop} {v : Value} {xs : List α} {w W W2 : World} (h : Aside0 (d.R e w base ok v xs)) (hb : Below W.heap.size W W2) [b : St w W] : Aside0 (d.R e W2 base ok v xs) := ⟨Kd.R_below (rU h.out) hb⟩
theorem bB {w W W2 : World} {g : Nat} {o : Obj} (h : Aside0 (w.heap[g]? = some o)) (hb : Below W.heap.size W W2) [b : St w W] : Aside0 (W2.heap[g]? = some o) := ⟨blk_below (bU h.out) hb⟩
theorem gW {g : Nat} {v W : World} (hg : g = W.heap.size) (h : Below v.heap.size v W) : Aside0 (v.heap.size ≤ g) := ⟨by rw [hg]; exact below_size h⟩
theorem nB {w W : World} {g g2 : Nat} {o : Obj} (hg : g2 = W.heap.size) (h : Aside0 (w.heap[g]? = some o)) [b : St w W] : Aside0 (g ≠ g2) := ⟨by rw [hg]; exact Nat.ne_of_lt (blk_lt (bU h.out))⟩
theorem nS {a b : Nat} (h : Aside0 (a ≠ b)) : Aside0 (b ≠ a) := ⟨h.out.symm⟩
theorem hC {w W : World} {p : Addr} {v : Value} (hb : Below w.heap.size w W) (h : w.cell? p = some v) : W.cell? p = some v := (hb.cell (World.block_lt_of_cell? w _ h)).trans h
class StO (w : outParam World) (W : World) : Prop where
 go : ∀ P : World → Prop, (∀ w o, P w → P (w.alloc o)) → (∀ w n, P w → P (w.drewN n)) → (∀ w, P w → P w.drew) → P w → P W
instance (priority := low) StO.same (w : World) : StO w w := ⟨fun _ _ _ _ h => h⟩
instance StO.drewN (w W : World) (n : Nat) [b : StO w W] : StO w (W.drewN n) := ⟨fun P h1 h2 h3 h => h2 _ n (b.go P h1 h2 h3 h)⟩
instance StO.drew (w W : World) [b : StO w W] : StO w W.drew := ⟨fun P h1 h2 h3 h => h3 _ (b.go P h1 h2 h3 h)⟩
instance StO.alloc (w W : World) (o : Obj) [b : StO w W] : StO w (W.alloc o) := ⟨fun P h1 h2 h3 h => h1 _ o (b.go P h1 h2 h3 h)⟩
theorem bO {w W : World} {g : Nat} {o : Obj} (h : w.heap[g]? = some o) [b : StO w W] : W.heap[g]? = some o := b.go (fun W => W.heap[g]? = some o) (fun _ o' h => blk_alloc h o') (fun _ n h => blk_drewN h n) (fun _ h => blk_drew h) h
theorem rO {α : Type} {d : Kd α} {e base : Nat} {ok : Nat → Prop} {v : Value} {xs : List α} {w W : World} (h : d.R e w base ok v xs) [b : StO w W] : d.R e W base ok v xs := b.go (fun W => d.R e W base ok v xs) (by intro w o h; apply Kd.R_alloc; exact h) (by intro w n h; apply Kd.R_drewN; exact h) (by intro w h; apply Kd.R_drew; exact h) h
theorem vO {α : Type} {d : Kd α} {e base : Nat} {ok : Nat → Prop} {v : Value} {xs : List α} {w W : World} (h : Kd.V d e w base ok v xs) [b : StO w W] : Kd.V d e W base ok v xs := b.go (fun W => Kd.V d e W base ok v xs) (by intro w o h; apply Kd.V_alloc; exact h) (by intro w n h; apply Kd.V_drewN; exact h) (by intro w h; apply Kd.V_drew; exact h) h
theorem kB {w w1 : World} {g g' : Nat} {o : Obj} (h : KeepBut w w1 g none) (hb : w.heap[g']? = some o) (hg : g' ≠ g) : Aside0 (w1.heap[g']? = some o) := ⟨KeepBut.blk h hb hg (by simp)⟩
theorem kR {α : Type} {d : Kd α} {e base g : Nat} {ok : Nat → Prop} {v : Value} {xs : List α} {w w1 : World} (hk : KeepBut w w1 g none) (h : d.R e w base (fun k => ok k ∧ k ≠ g) v xs) : Aside0 (d.R e w1 base ok v xs) := ⟨Kd.R_mono (Kd.R_keep h hk (fun _ h => h.2)) (fun _ h => h.1)⟩
theorem b2 {w : World} {g t : Nat} {v0 v1 : Value} {R : Prop} (h : w.heap[g]? = some (.cells #[v0, v1] t (0, 0))) (r : R) : w.cell? ⟨g, 0, none⟩ = some v0 ∧ w.cell? ⟨g, 1, none⟩ = some v1 ∧ R := ⟨(blk_cell h 0).trans rfl, (blk_cell h 1).trans rfl, r⟩
theorem rF1 {α : Type} {d : Kd α} {e base g0 : Nat} {ok : Nat → Prop} {w W : World} {v : Value} {xs : List α} {c0 : Array Value} {t0 : Nat} (h : d.R e w base ok v xs) (hb0 : w.heap[g0]? = some (.cells c0 t0 (0, 0))) (ht0 : ∀ q, q ∈ e :: d.E → q ≠ t0 := by decide) [b : SS [g0] w W] : d.R e W base ok v xs := by
 refine Kd.R_mono (b.go (fun W => d.R e W base (fun k => ok k ∧ k ≠ g0) v xs) (fun _ _ h => by apply Kd.R_alloc; exact h) (fun _ _ h => by apply Kd.R_drewN; exact h) (fun _ h => by apply Kd.R_drew; exact h) (fun _ g j u hg h => ?_) (Kd.R_types h hb0 ht0)) (fun _ h_ => h_.1)
 simp only [List.mem_singleton] at hg
 subst hg
 exact Kd.R_far h (fun _ hk => hk.2) u
theorem vF1 {α : Type} {d : Kd α} {e base g0 : Nat} {ok : Nat → Prop} {w W : World} {v : Value} {xs : List α} (h : Kd.V d e w base ok v xs) (hn0 : ∀ k, ok k → k ≠ g0) [b : SS [g0] w W] : Kd.V d e W base ok v xs := by
 refine b.go (fun W => Kd.V d e W base ok v xs) (fun _ _ h => by apply Kd.V_alloc; exact h) (fun _ _ h => by apply Kd.V_drewN; exact h) (fun _ h => by apply Kd.V_drew; exact h) (fun _ g j u hg h => ?_) h
 simp only [List.mem_singleton] at hg
 subst hg
 exact Kd.V_far h hn0 u
theorem bF1 {g g0 t : Nat} {cs : Array Value} {w W : World} (h : w.heap[g]? = some (.cells cs t (0, 0))) (hn0 : g ≠ g0) [b : SS [g0] w W] : W.heap[g]? = some (.cells cs t (0, 0)) := by
 refine b.go (fun W => W.heap[g]? = some (.cells cs t (0, 0))) (fun _ o' h => blk_alloc h o') (fun _ n h => blk_drewN h n) (fun _ h => blk_drew h) (fun _ g j u hg h => ?_) h
 simp only [List.mem_singleton] at hg
 subst hg
 exact blk_far h hn0 u
theorem cS1 {g0 : Nat} {a : Addr} {v : Value} {w W : World} (h : w.cell? a = some v) (hn0 : a.block ≠ g0) [b : SS [g0] w W] : W.cell? a = some v := by
 refine b.go (fun W => W.cell? a = some v) (fun w o h => hC (below_alloc (Below.refl _ _) o) h) (fun _ _ h => h) (fun _ h => h) (fun _ g j u hg h => ?_) h
 simp only [List.mem_singleton] at hg
 subst hg
 exact (cell_far hn0 u).trans h
theorem rF2 {α : Type} {d : Kd α} {e base g0 g1 : Nat} {ok : Nat → Prop} {w W : World} {v : Value} {xs : List α} {c0 : Array Value} {t0 : Nat} {c1 : Array Value} {t1 : Nat} (h : d.R e w base ok v xs) (hb0 : w.heap[g0]? = some (.cells c0 t0 (0, 0))) (hb1 : w.heap[g1]? = some (.cells c1 t1 (0, 0))) (ht0 : ∀ q, q ∈ e :: d.E → q ≠ t0 := by decide) (ht1 : ∀ q, q ∈ e :: d.E → q ≠ t1 := by decide) [b : SS [g0, g1] w W] : d.R e W base ok v xs := by
 refine Kd.R_mono (b.go (fun W => d.R e W base (fun k => (ok k ∧ k ≠ g0) ∧ k ≠ g1) v xs) (fun _ _ h => by apply Kd.R_alloc; exact h) (fun _ _ h => by apply Kd.R_drewN; exact h) (fun _ h => by apply Kd.R_drew; exact h) (fun _ g j u hg h => ?_) (Kd.R_types (Kd.R_types h hb0 ht0) hb1 ht1)) (fun _ h_ => h_.1.1)
 simp only [List.mem_cons, List.not_mem_nil, or_false] at hg
 rcases hg with rfl | rfl
 · exact Kd.R_far h (fun _ hk => hk.1.2) u
 · exact Kd.R_far h (fun _ hk => hk.2) u
theorem vF2 {α : Type} {d : Kd α} {e base g0 g1 : Nat} {ok : Nat → Prop} {w W : World} {v : Value} {xs : List α} (h : Kd.V d e w base ok v xs) (hn0 : ∀ k, ok k → k ≠ g0) (hn1 : ∀ k, ok k → k ≠ g1) [b : SS [g0, g1] w W] : Kd.V d e W base ok v xs := by
 refine b.go (fun W => Kd.V d e W base ok v xs) (fun _ _ h => by apply Kd.V_alloc; exact h) (fun _ _ h => by apply Kd.V_drewN; exact h) (fun _ h => by apply Kd.V_drew; exact h) (fun _ g j u hg h => ?_) h
 simp only [List.mem_cons, List.not_mem_nil, or_false] at hg
 rcases hg with rfl | rfl
 · exact Kd.V_far h hn0 u
 · exact Kd.V_far h hn1 u
theorem bF2 {g g0 g1 t : Nat} {cs : Array Value} {w W : World} (h : w.heap[g]? = some (.cells cs t (0, 0))) (hn0 : g ≠ g0) (hn1 : g ≠ g1) [b : SS [g0, g1] w W] : W.heap[g]? = some (.cells cs t (0, 0)) := by
 refine b.go (fun W => W.heap[g]? = some (.cells cs t (0, 0))) (fun _ o' h => blk_alloc h o') (fun _ n h => blk_drewN h n) (fun _ h => blk_drew h) (fun _ g j u hg h => ?_) h
 simp only [List.mem_cons, List.not_mem_nil, or_false] at hg
 rcases hg with rfl | rfl
 · exact blk_far h hn0 u
 · exact blk_far h hn1 u
theorem b6 {w : World} {g t : Nat} {v0 v1 v2 v3 v4 v5 : Value} {R : Prop} (h : w.heap[g]? = some (.cells #[v0, v1, v2, v3, v4, v5] t (0, 0))) (r : R) : w.cell? ⟨g, 0, none⟩ = some v0 ∧ w.cell? ⟨g, 1, none⟩ = some v1 ∧ w.cell? ⟨g, 2, none⟩ = some v2 ∧ w.cell? ⟨g, 3, none⟩ = some v3 ∧ w.cell? ⟨g, 4, none⟩ = some v4 ∧ w.cell? ⟨g, 5, none⟩ = some v5 ∧ R := ⟨(blk_cell h 0).trans rfl, (blk_cell h 1).trans rfl, (blk_cell h 2).trans rfl, (blk_cell h 3).trans rfl, (blk_cell h 4).trans rfl, (blk_cell h 5).trans rfl, r⟩
theorem c6 {w : World} {g t : Nat} {v0 v1 v2 v3 v4 v5 : Value} (h : w.heap[g]? = some (.cells #[v0, v1, v2, v3, v4, v5] t (0, 0))) : w.cell? ⟨g, 0, none⟩ = some v0 ∧ w.cell? ⟨g, 1, none⟩ = some v1 ∧ w.cell? ⟨g, 2, none⟩ = some v2 ∧ w.cell? ⟨g, 3, none⟩ = some v3 ∧ w.cell? ⟨g, 4, none⟩ = some v4 ∧ w.cell? ⟨g, 5, none⟩ = some v5 := ⟨(blk_cell h 0).trans rfl, (blk_cell h 1).trans rfl, (blk_cell h 2).trans rfl, (blk_cell h 3).trans rfl, (blk_cell h 4).trans rfl, (blk_cell h 5).trans rfl⟩
theorem b12 {w : World} {g t : Nat} {v0 v1 v2 v3 v4 v5 v6 v7 v8 v9 v10 v11 : Value} {R : Prop} (h : w.heap[g]? = some (.cells #[v0, v1, v2, v3, v4, v5, v6, v7, v8, v9, v10, v11] t (0, 0))) (r : R) : w.cell? ⟨g, 0, none⟩ = some v0 ∧ w.cell? ⟨g, 1, none⟩ = some v1 ∧ w.cell? ⟨g, 2, none⟩ = some v2 ∧ w.cell? ⟨g, 3, none⟩ = some v3 ∧ w.cell? ⟨g, 4, none⟩ = some v4 ∧ w.cell? ⟨g, 5, none⟩ = some v5 ∧ w.cell? ⟨g, 6, none⟩ = some v6 ∧ w.cell? ⟨g, 7, none⟩ = some v7 ∧ w.cell? ⟨g, 8, none⟩ = some v8 ∧ w.cell? ⟨g, 9, none⟩ = some v9 ∧ w.cell? ⟨g, 10, none⟩ = some v10 ∧ w.cell? ⟨g, 11, none⟩ = some v11 ∧ R := ⟨(blk_cell h 0).trans rfl, (blk_cell h 1).trans rfl, (blk_cell h 2).trans rfl, (blk_cell h 3).trans rfl, (blk_cell h 4).trans rfl, (blk_cell h 5).trans rfl, (blk_cell h 6).trans rfl, (blk_cell h 7).trans rfl, (blk_cell h 8).trans rfl, (blk_cell h 9).trans rfl, (blk_cell h 10).trans rfl, (blk_cell h 11).trans rfl, r⟩
theorem c12 {w : World} {g t : Nat} {v0 v1 v2 v3 v4 v5 v6 v7 v8 v9 v10 v11 : Value} (h : w.heap[g]? = some (.cells #[v0, v1, v2, v3, v4, v5, v6, v7, v8, v9, v10, v11] t (0, 0))) : w.cell? ⟨g, 0, none⟩ = some v0 ∧ w.cell? ⟨g, 1, none⟩ = some v1 ∧ w.cell? ⟨g, 2, none⟩ = some v2 ∧ w.cell? ⟨g, 3, none⟩ = some v3 ∧ w.cell? ⟨g, 4, none⟩ = some v4 ∧ w.cell? ⟨g, 5, none⟩ = some v5 ∧ w.cell? ⟨g, 6, none⟩ = some v6 ∧ w.cell? ⟨g, 7, none⟩ = some v7 ∧ w.cell? ⟨g, 8, none⟩ = some v8 ∧ w.cell? ⟨g, 9, none⟩ = some v9 ∧ w.cell? ⟨g, 10, none⟩ = some v10 ∧ w.cell? ⟨g, 11, none⟩ = some v11 := by
 obtain ⟨h0, h1, h2, h3, h4, h5, h6, h7, h8, h9, h10, h11, _⟩ := b12 h trivial
 exact ⟨h0, h1, h2, h3, h4, h5, h6, h7, h8, h9, h10, h11⟩
section
variable {P : Program} {ops : Array Oper} {Q : Exit → Act → World → Prop} {md : Region.Mode} {S : World → Prop} {ds : List Nat} {oi : Oper} {v : Value} {fuel : Nat} {l : Array Bool} {a a' : Act} {w : World} {T : Bool × List (List Nat × List Nat)} {B : List Nat}
def tf (a b : Nat) : Array Bool := (List.replicate a true ++ List.replicate b false).toArray
theorem pA (hT : Aside0 (rtab md ops = T)) (i : Nat) (N : Option Tmp) (l' : Array Bool) (h : wpAnyLast P md ops Q S ds fuel l' a' w) (hi : ops[i]? = some oi := by rfl) (hN : oi.dst = N := by rfl) (hc : anyT T l.toList l'.toList i = true := by kernel_rfl) (hQ : ∀ c a w, Q (.panic c) (a.put oi.dst v) w → Q (.panic c) a w := by exact fun _ _ _ h => h) (hy : Yields P ops oi v a := by exact Or.inl ⟨by rfl, by intro w'; go_simp; with_reducible rfl⟩) (ha : a.put N v = a' := by ((simp only [Act.put, List.setIfInBounds_toArray, List.set_cons_zero, List.set_cons_succ, i64_w, i32_w]); rfl)) : wpAnyLast P md ops Q S ds (fuel + 1) l a w := pure_ l' hi hN (any_of hT.out hc) hQ hy ha h
theorem pU (hT : Aside0 (rtab md ops = T)) (i : Nat) (N : Option Tmp) (l' : Array Bool) (h : wpAnyLast P md ops Q S ds fuel l' a' w) (hi : ops[i]? = some oi := by rfl) (hN : oi.dst = N := by rfl) (hc : anyT T l.toList l'.toList i = true := by kernel_rfl) (hQ : ∀ c a w, Q (.panic c) (a.put oi.dst undef) w → Q (.panic c) a w := by exact fun _ _ _ h => h) (hy : Yields P ops oi undef a := by exact Or.inr ⟨by rfl, rfl⟩) (ha : a.put N undef = a' := by ((simp only [Act.put, List.setIfInBounds_toArray, List.set_cons_zero, List.set_cons_succ, i64_w, i32_w]); rfl)) : wpAnyLast P md ops Q S ds (fuel + 1) l a w := pure_ l' hi hN (any_of hT.out hc) hQ hy ha h
theorem tA (hT : Aside0 (rtab md ops = T)) (hW : Aside0 (waitsOk T.2 B = true)) (hS : S w) (i : Nat) (N : Option Tmp) (l' : Array Bool) (h : wpAnyLast P md ops Q S ds fuel l' a' w) (hi : ops[i]? = some oi := by rfl) (hN : oi.dst = N := by rfl) (hc : takeW T B ds l.toList l'.toList i = true := by kernel_rfl) (hQ : ∀ c a w, Q (.panic c) (a.put oi.dst v) w → Q (.panic c) a w := by exact fun _ _ _ h => h) (hy : YieldsIf P ops S oi v a := by exact Or.inl ⟨by rfl, by intro w' hs_; (try dsimp only at hs_); go_simp; with_reducible rfl⟩) (ha : a.put N v = a' := by ((simp only [Act.put, List.setIfInBounds_toArray, List.set_cons_zero, List.set_cons_succ, i64_w, i32_w]); rfl)) : wpAnyLast P md ops Q S ds (fuel + 1) l a w := take_ l' hi hN (take_ofW hT.out hW.out hc) hQ hy hS ha h
theorem tB (hS : S w) (i : Nat) (N : Option Tmp) (l' : Array Bool) (h : wpAnyLast P md ops Q S ds fuel l' a' w) (hi : ops[i]? = some oi := by rfl) (hN : oi.dst = N := by rfl) (hc : takeB md ops ds l l' i = true := by kernel_rfl) (hQ : ∀ c a w, Q (.panic c) (a.put oi.dst v) w → Q (.panic c) a w := by exact fun _ _ _ h => h) (hy : YieldsIf P ops S oi v a := by exact Or.inl ⟨by rfl, by intro w' hs_; (try dsimp only at hs_); go_simp; with_reducible rfl⟩) (ha : a.put N v = a' := by ((simp only [Act.put, List.setIfInBounds_toArray, List.set_cons_zero, List.set_cons_succ, i64_w, i32_w]); rfl)) : wpAnyLast P md ops Q S ds (fuel + 1) l a w := take_ l' hi hN hc hQ hy hS ha h
theorem nA {a0 : Act} (N : Option Tmp) (h : wpAnyLast P md ops Q S ds fuel l a' w) (ha : Act.put a0 N v = a' := by ((simp only [Act.put, List.setIfInBounds_toArray, List.set_cons_zero, List.set_cons_succ, i64_w, i32_w]); rfl)) : wpAnyLast P md ops Q S ds fuel l (Act.put a0 N v) w := norm_ ha h
end
section
variable {P : Program} {ops : Array Oper} {rest : List Oper} {o : Oper} {a : Act} {Q : Exit → Act → World → Prop}
theorem xB {W : World} (N : Tmp) (cs : Array Value) (t : TypeId) (h : ∀ g, g = W.heap.size → ∀ w1, w1.heap[g]? = some (.cells cs t (0, 0)) → Below W.heap.size W w1 → wpList P ops Q rest (a.put o.dst (.pointer (some ⟨g, 0, none⟩))) w1) (hd : o.dst = some N := by with_reducible rfl) (hgd : o.guard = none := by rfl) (hrun : (execOp a.eval o).run P W = .ok (.value (.pointer (some ⟨W.heap.size, 0, none⟩))) (W.alloc (.cells cs t (0, 0))) := by first | (go_simp; done) | (go_simp; rfl)) : wpList P ops Q (o :: rest) a W := box_event hgd hd hrun h
theorem gL {w : World} {oi : Oper} (N : Option Tmp) {f : FuncId} {fn : Func} {av : Array Operand} {ts : Array TypeId} (hf : P.funcs[f]? = some fn) (args : Array Value) (h : Calls P f args w fun e w' => ∃ v, e = .returned v ∧ wpList P ops Q rest (a.put N v) w') (hd : oi.dst = N := by rfl) (hg : oi.guard = none := by rfl) (hname : (fn.name == "runtime.NumGoroutine") = false := by kernel_rfl) (hb : fn.body.isSome = true := by rfl) (hop : oi.op = .call { callee := .value (.func f), args := av, argTypes := ts } := by rfl) (hargs : av.map a.eval = args := by (try simp only [List.map_toArray, List.map_cons, List.map_nil]); first | done | rfl | (simp only [List.length_drop, List.length_take]; rfl)) : wpList P ops Q (oi :: rest) a w := goesL_ N hd hg hf hname hb args hop hargs h
end

end Go.Proofs.YtdigilidomimdaaDoor.Pr
