-- Written for this claim by a program of this session (wip/tool/pr.py, over the kit's printer).
-- half
import Derived.Test.YtdigilidomimdaaDoorPrx0
import Derived.Test.YtdigilidomimdaaDoorPrx7
import Derived.Test.YtdigilidomimdaaDoorPrx8
import Derived.Test.YtdigilidomimdaaDoorPrx9
import Derived.Test.YtdigilidomimdaaDoorPrx10
import Derived.Test.YtdigilidomimdaaDoorPrx11
import Derived.Test.YtdigilidomimdaaDoorPrx12
import Derived.Test.YtdigilidomimdaaDoorPrx13
import Derived.Test.YtdigilidomimdaaDoorPrx14
namespace Go.Proofs.YtdigilidomimdaaDoor.Pr
open Go.RowKit Go.Proofs.YtdigilidomimdaaDoorW.PrintWords Go.Proofs.YtdigilidomimdaaDoorW.PrintLast Go.Proofs.YtdigilidomimdaaDoorW.PrintMore
attribute [local go_sem] max2_int min2_int max_two min_two max_three min_three max_four min_four   -- for this text's walks alone
set_option linter.unusedVariables false
set_option linter.unusedSimpArgs false

/-! ### spec_GetRecord: function 24 -/
mutual
def spec_GetRecord.j0 : Nat → List Int → ByteArray → Int → ByteArray → Int → Int → Int → ByteArray → ByteArray → Option (ByteArray × Int × Int × Int × ByteArray × ByteArray × Int × Int)
 | 0, _, _, _, _, _, _, _, _, _ => none
 | k + 1, x0, x8, x9, x653000, x653001, x653002, x653003, x653004, x653005 => if x9 > (wrap64 ((x0.length : Int) - 10)) then (some (x653000, x653001, x653002, x653003, x653004, x653005, 0, 1)) else (spec_GetRecord.j1 k x0 x8 x9 x653000 x653001 x653002 x653003 x653004 x653005)
def spec_GetRecord.j1 : Nat → List Int → ByteArray → Int → ByteArray → Int → Int → Int → ByteArray → ByteArray → Option (ByteArray × Int × Int × Int × ByteArray × ByteArray × Int × Int)
 | 0, _, _, _, _, _, _, _, _, _ => none
 | k + 1, x0, x8, x9, x653000, x653001, x653002, x653003, x653004, x653005 => (spec_Get2.f x0 x9).bind fun bt656 => ((spec_Get2.f x0 (wrap64 (x9 + 2))).bind fun bt658 => ((spec_Get4.f k x0 (wrap64 (x9 + 4))).bind fun bt660 => ((spec_Get2.f x0 (wrap64 (x9 + 8))).bind fun bt662 => ((spec_GetData.f k x0 (wrap64 (x9 + 10)) bt662.1 bt656.1).bind fun bt664 => (if bt664.2.2.2.2.2.2 = 0 then (spec_GetRecord.j2 k x8 x9 bt658.1 bt660.1 bt660.2 bt662.1 x653000 x653001 x653002 x653003 x653004 x653005 bt664.1 bt664.2.1 bt664.2.2.1 bt664.2.2.2.1 bt664.2.2.2.2.1 bt664.2.2.2.2.2.1) else (some (x653000, x653001, x653002, x653003, x653004, x653005, 0, bt664.2.2.2.2.2.2)))))))
def spec_GetRecord.j2 : Nat → ByteArray → Int → Int → Int → Bool → Int → ByteArray → Int → Int → Int → ByteArray → ByteArray → ByteArray → Int → Int → Int → ByteArray → ByteArray → Option (ByteArray × Int × Int × Int × ByteArray × ByteArray × Int × Int)
 | 0, _, _, _, _, _, _, _, _, _, _, _, _, _, _, _, _, _, _ => none
 | k + 1, x8, x9, x13, x15, x16, x17, x653000, x653001, x653002, x653003, x653004, x653005, x672000, x672001, x672002, x672003, x672004, x672005 => if x16 = true then (if x13 = 1 then ((spec_RecordOk.f k x8 x672001 x15 x672003 x672004 x672005).bind fun t672 => (spec_GetRecord.j3 k x9 x17 (!t672) x653000 x653001 x653002 x653003 x653004 x653005 x8 x672001 x15 x672003 x672004 x672005)) else (spec_GetRecord.j3 k x9 x17 true x653000 x653001 x653002 x653003 x653004 x653005 x8 x672001 x15 x672003 x672004 x672005)) else (spec_GetRecord.j3 k x9 x17 true x653000 x653001 x653002 x653003 x653004 x653005 x8 x672001 x15 x672003 x672004 x672005)
def spec_GetRecord.j3 : Nat → Int → Int → Bool → ByteArray → Int → Int → Int → ByteArray → ByteArray → ByteArray → Int → Int → Int → ByteArray → ByteArray → Option (ByteArray × Int × Int × Int × ByteArray × ByteArray × Int × Int)
 | 0, _, _, _, _, _, _, _, _, _, _, _, _, _, _, _ => none
 | k + 1, x9, x17, x92, x653000, x653001, x653002, x653003, x653004, x653005, x672000, x672001, x672002, x672003, x672004, x672005 => if x92 = true then (some (x653000, x653001, x653002, x653003, x653004, x653005, 0, 2)) else (some (x672000, x672001, x672002, x672003, x672004, x672005, wrap64 ((wrap64 (x9 + 10)) + x17), 0))
end
def spec_GetRecord.f (k : Nat) (l0 : List Int) (a1 : Int) : Option (ByteArray × Int × Int × Int × ByteArray × ByteArray × Int × Int) := (spec_GetName.f k l0 a1).bind fun bt653 => (if bt653.2.2 = 0 then (spec_GetRecord.j0 k l0 bt653.1 bt653.2.1 (⟨#[]⟩ : ByteArray) 0 0 0 (⟨#[]⟩ : ByteArray) (⟨#[]⟩ : ByteArray)) else (some ((⟨#[]⟩ : ByteArray), 0, 0, 0, (⟨#[]⟩ : ByteArray), (⟨#[]⟩ : ByteArray), 0, bt653.2.2)))
theorem spec_GetRecord.mono_l : ∀ k, (∀ y0 y1 y2 y3 y4 y5 y6 y7 y8, LeO (spec_GetRecord.j0 k y0 y1 y2 y3 y4 y5 y6 y7 y8) (spec_GetRecord.j0 (k + 1) y0 y1 y2 y3 y4 y5 y6 y7 y8)) ∧ (∀ y0 y1 y2 y3 y4 y5 y6 y7 y8, LeO (spec_GetRecord.j1 k y0 y1 y2 y3 y4 y5 y6 y7 y8) (spec_GetRecord.j1 (k + 1) y0 y1 y2 y3 y4 y5 y6 y7 y8)) ∧ (∀ y0 y1 y2 y3 y4 y5 y6 y7 y8 y9 y10 y11 y12 y13 y14 y15 y16 y17, LeO (spec_GetRecord.j2 k y0 y1 y2 y3 y4 y5 y6 y7 y8 y9 y10 y11 y12 y13 y14 y15 y16 y17) (spec_GetRecord.j2 (k + 1) y0 y1 y2 y3 y4 y5 y6 y7 y8 y9 y10 y11 y12 y13 y14 y15 y16 y17)) ∧ (∀ y0 y1 y2 y3 y4 y5 y6 y7 y8 y9 y10 y11 y12 y13 y14, LeO (spec_GetRecord.j3 k y0 y1 y2 y3 y4 y5 y6 y7 y8 y9 y10 y11 y12 y13 y14) (spec_GetRecord.j3 (k + 1) y0 y1 y2 y3 y4 y5 y6 y7 y8 y9 y10 y11 y12 y13 y14))
 | 0 => ⟨fun _ _ _ _ _ _ _ _ _ r h => by simp [spec_GetRecord.j0] at h, fun _ _ _ _ _ _ _ _ _ r h => by simp [spec_GetRecord.j1] at h, fun _ _ _ _ _ _ _ _ _ _ _ _ _ _ _ _ _ _ r h => by simp [spec_GetRecord.j2] at h, fun _ _ _ _ _ _ _ _ _ _ _ _ _ _ _ r h => by simp [spec_GetRecord.j3] at h⟩
 | k + 1 => by
  obtain ⟨ih0, ih1, ih2, ih3⟩ := spec_GetRecord.mono_l k
  refine ⟨?_, ?_, ?_, ?_⟩
  ·intro y0 y1 y2 y3 y4 y5 y6 y7 y8
   unfold spec_GetRecord.j0
   repeat' first
   | (with_reducible first | exact ih0 _ _ _ _ _ _ _ _ _ | exact ih1 _ _ _ _ _ _ _ _ _ | exact ih2 _ _ _ _ _ _ _ _ _ _ _ _ _ _ _ _ _ _ | exact ih3 _ _ _ _ _ _ _ _ _ _ _ _ _ _ _ | exact spec_Get4.mono _ _ _ | exact spec_GetData.mono _ _ _ _ _ | exact spec_GetName.mono _ _ _ | exact spec_RecordOk.mono _ _ _ _ _ _ _ | exact LeO.refl _ | exact LeO.none _ | refine LeO.ite ?_ ?_ | refine LeO.bind ?_ (fun _ => ?_))
   | exact ih0 _ _ _ _ _ _ _ _ _
   | exact ih1 _ _ _ _ _ _ _ _ _
   | exact ih2 _ _ _ _ _ _ _ _ _ _ _ _ _ _ _ _ _ _
   | exact ih3 _ _ _ _ _ _ _ _ _ _ _ _ _ _ _
   | exact spec_Get4.mono _ _ _
   | exact spec_GetData.mono _ _ _ _ _
   | exact spec_GetName.mono _ _ _
   | exact spec_RecordOk.mono _ _ _ _ _ _ _
   | exact LeO.none _
   | refine LeO.ite ?_ ?_
   | refine LeO.bind ?_ (fun _ => ?_)
  ·intro y0 y1 y2 y3 y4 y5 y6 y7 y8
   unfold spec_GetRecord.j1
   repeat' first
   | (with_reducible first | exact ih0 _ _ _ _ _ _ _ _ _ | exact ih1 _ _ _ _ _ _ _ _ _ | exact ih2 _ _ _ _ _ _ _ _ _ _ _ _ _ _ _ _ _ _ | exact ih3 _ _ _ _ _ _ _ _ _ _ _ _ _ _ _ | exact spec_Get4.mono _ _ _ | exact spec_GetData.mono _ _ _ _ _ | exact spec_GetName.mono _ _ _ | exact spec_RecordOk.mono _ _ _ _ _ _ _ | exact LeO.refl _ | exact LeO.none _ | refine LeO.ite ?_ ?_ | refine LeO.bind ?_ (fun _ => ?_))
   | exact ih0 _ _ _ _ _ _ _ _ _
   | exact ih1 _ _ _ _ _ _ _ _ _
   | exact ih2 _ _ _ _ _ _ _ _ _ _ _ _ _ _ _ _ _ _
   | exact ih3 _ _ _ _ _ _ _ _ _ _ _ _ _ _ _
   | exact spec_Get4.mono _ _ _
   | exact spec_GetData.mono _ _ _ _ _
   | exact spec_GetName.mono _ _ _
   | exact spec_RecordOk.mono _ _ _ _ _ _ _
   | exact LeO.none _
   | refine LeO.ite ?_ ?_
   | refine LeO.bind ?_ (fun _ => ?_)
  ·intro y0 y1 y2 y3 y4 y5 y6 y7 y8 y9 y10 y11 y12 y13 y14 y15 y16 y17
   unfold spec_GetRecord.j2
   repeat' first
   | (with_reducible first | exact ih0 _ _ _ _ _ _ _ _ _ | exact ih1 _ _ _ _ _ _ _ _ _ | exact ih2 _ _ _ _ _ _ _ _ _ _ _ _ _ _ _ _ _ _ | exact ih3 _ _ _ _ _ _ _ _ _ _ _ _ _ _ _ | exact spec_Get4.mono _ _ _ | exact spec_GetData.mono _ _ _ _ _ | exact spec_GetName.mono _ _ _ | exact spec_RecordOk.mono _ _ _ _ _ _ _ | exact LeO.refl _ | exact LeO.none _ | refine LeO.ite ?_ ?_ | refine LeO.bind ?_ (fun _ => ?_))
   | exact ih0 _ _ _ _ _ _ _ _ _
   | exact ih1 _ _ _ _ _ _ _ _ _
   | exact ih2 _ _ _ _ _ _ _ _ _ _ _ _ _ _ _ _ _ _
   | exact ih3 _ _ _ _ _ _ _ _ _ _ _ _ _ _ _
   | exact spec_Get4.mono _ _ _
   | exact spec_GetData.mono _ _ _ _ _
   | exact spec_GetName.mono _ _ _
   | exact spec_RecordOk.mono _ _ _ _ _ _ _
   | exact LeO.none _
   | refine LeO.ite ?_ ?_
   | refine LeO.bind ?_ (fun _ => ?_)
  ·intro y0 y1 y2 y3 y4 y5 y6 y7 y8 y9 y10 y11 y12 y13 y14
   unfold spec_GetRecord.j3
   repeat' first
   | (with_reducible first | exact ih0 _ _ _ _ _ _ _ _ _ | exact ih1 _ _ _ _ _ _ _ _ _ | exact ih2 _ _ _ _ _ _ _ _ _ _ _ _ _ _ _ _ _ _ | exact ih3 _ _ _ _ _ _ _ _ _ _ _ _ _ _ _ | exact spec_Get4.mono _ _ _ | exact spec_GetData.mono _ _ _ _ _ | exact spec_GetName.mono _ _ _ | exact spec_RecordOk.mono _ _ _ _ _ _ _ | exact LeO.refl _ | exact LeO.none _ | refine LeO.ite ?_ ?_ | refine LeO.bind ?_ (fun _ => ?_))
   | exact ih0 _ _ _ _ _ _ _ _ _
   | exact ih1 _ _ _ _ _ _ _ _ _
   | exact ih2 _ _ _ _ _ _ _ _ _ _ _ _ _ _ _ _ _ _
   | exact ih3 _ _ _ _ _ _ _ _ _ _ _ _ _ _ _
   | exact spec_Get4.mono _ _ _
   | exact spec_GetData.mono _ _ _ _ _
   | exact spec_GetName.mono _ _ _
   | exact spec_RecordOk.mono _ _ _ _ _ _ _
   | exact LeO.none _
   | refine LeO.ite ?_ ?_
   | refine LeO.bind ?_ (fun _ => ?_)
theorem spec_GetRecord.mono : ∀ a0 a1 k, LeO (spec_GetRecord.f k a0 a1) (spec_GetRecord.f (k + 1) a0 a1) := by
 intro a0 a1 k
 obtain ⟨ih0, ih1, ih2, ih3⟩ := spec_GetRecord.mono_l k
 unfold spec_GetRecord.f
 repeat' first
   | (with_reducible first | exact ih0 _ _ _ _ _ _ _ _ _ | exact ih1 _ _ _ _ _ _ _ _ _ | exact ih2 _ _ _ _ _ _ _ _ _ _ _ _ _ _ _ _ _ _ | exact ih3 _ _ _ _ _ _ _ _ _ _ _ _ _ _ _ | exact spec_Get4.mono _ _ _ | exact spec_GetData.mono _ _ _ _ _ | exact spec_GetName.mono _ _ _ | exact spec_RecordOk.mono _ _ _ _ _ _ _ | exact LeO.refl _ | exact LeO.none _ | refine LeO.ite ?_ ?_ | refine LeO.bind ?_ (fun _ => ?_))
   | exact ih0 _ _ _ _ _ _ _ _ _
   | exact ih1 _ _ _ _ _ _ _ _ _
   | exact ih2 _ _ _ _ _ _ _ _ _ _ _ _ _ _ _ _ _ _
   | exact ih3 _ _ _ _ _ _ _ _ _ _ _ _ _ _ _
   | exact spec_Get4.mono _ _ _
   | exact spec_GetData.mono _ _ _ _ _
   | exact spec_GetName.mono _ _ _
   | exact spec_RecordOk.mono _ _ _ _ _ _ _
   | exact LeO.none _
   | refine LeO.ite ?_ ?_
   | refine LeO.bind ?_ (fun _ => ?_)
set_option maxHeartbeats 8000000 in
set_option maxRecDepth 100000 in
theorem spec_GetRecord.calls (k : Nat) (A0 : Option Addr) (c0 : Nat) (l0 : List Int) (a1 : Int) (r1 : ByteArray) (r2 : Int) (r3 : Int) (r4 : Int) (r5 : ByteArray) (r6 : ByteArray) (r7 : Int) (r8 : Int) (w : World) (hr0 : Kd.C (Kd.int .u8) w A0 l0.length l0) (hc0 : l0.length ≤ c0) (h : spec_GetRecord.f k l0 a1 = some (r1, r2, r3, r4, r5, r6, r7, r8)) :
  Calls Tryd.prog 24 #[.slice A0 l0.length c0, .int .i64 a1] w fun e w' => e = .returned (.tuple #[.agg #[.string r1, .int .i64 r2, .int .i64 r3, .int .i64 r4, .string r5, .string r6], .int .i64 r7, .int .i64 r8]) ∧ Below w.heap.size w w' := by
 have hu25 := Tryd.underlying25
 have HR0 := aS hr0
 have HC0 := aS hc0
 clear hr0 hc0
 have HB := aS (Below.refl w.heap.size w)
 have H : ((spec_GetName.f k l0 a1).bind fun bt653 => (if bt653.2.2 = 0 then (spec_GetRecord.j0 k l0 bt653.1 bt653.2.1 (⟨#[]⟩ : ByteArray) 0 0 0 (⟨#[]⟩ : ByteArray) (⟨#[]⟩ : ByteArray)) else (some ((⟨#[]⟩ : ByteArray), 0, 0, 0, (⟨#[]⟩ : ByteArray), (⟨#[]⟩ : ByteArray), 0, bt653.2.2)))) = some (r1, r2, r3, r4, r5, r6, r7, r8) := h
 clear h
 obtain ⟨⟨t653, t654, t655⟩, A3, H⟩ := bM H
 try dsimp only at H
 have HC4 := aS H
 clear H
 go_enter Tryd.func24, Tryd.ntmps24
 go_upto_if 29 with (first | ((with_reducible refine gate_dst (N := 4) rfl ?_); refine box_event ?hg (N := 4) ?hd (cs := #[.string (⟨#[]⟩ : ByteArray), .int .i64 0, .int .i64 0, .int .i64 0, .string (⟨#[]⟩ : ByteArray), .string (⟨#[]⟩ : ByteArray)]) (t := 25) ?hr ?_; (case hd => rfl); (case hg => rfl); (case hr => first | (go_simp; done) | (go_simp; rfl)); intro gb651 hg w5 hbox hb; have BK651 := aS (hbox); have GW651 := aS ((by rw [hg]; exact (below_size (wU HB.out)) : w.heap.size ≤ gb651)); have GE651 := aS ((by rw [hg]; exact (below_size (wU HB.out)) : w.heap.size ≤ gb651)); replace HB := aS (below_step (wU HB.out) hb); clear hb hbox hg) | ((with_reducible refine gate_dst (N := 7) rfl ?_); refine box_event ?hg (N := 7) ?hd (cs := #[.string (⟨#[]⟩ : ByteArray), .int .i64 0, .int .i64 0, .int .i64 0, .string (⟨#[]⟩ : ByteArray), .string (⟨#[]⟩ : ByteArray)]) (t := 25) ?hr ?_; (case hd => rfl); (case hg => rfl); (case hr => first | (go_simp; done) | (go_simp; rfl)); intro gb652 hg w6 hbox hb; have BK652 := aS (hbox); have GW652 := aS ((by rw [hg]; exact (below_size (wS1 HB.out GE651.out)) : w.heap.size ≤ gb652)); have GE652 := aS ((by rw [hg]; exact (below_size (wS1 HB.out GE651.out)) : w.heap.size ≤ gb652)); replace HB := aS (below_step (wS1 HB.out GE651.out) hb); have NB651_652 := aS ((by rw [hg]; exact Nat.ne_of_lt (blk_lt (bU BK651.out)) : gb651 ≠ gb652)); have NB652_651 := aS ((by rw [hg]; exact Nat.ne_of_gt (blk_lt (bU BK651.out)) : gb652 ≠ gb651)); replace BK651 := aS (blk_below (bU BK651.out) hb); clear hb hbox hg; have hnb7 := NB652_651.out; have hnc7 := NB651_652.out; have hcz8 := cells6f BK652.out) | ((with_reducible refine gate_callee (f := 82) rfl ?_); refine goesL_ (some 24) rfl rfl Tryd.func82 jK rfl #[.slice A0 l0.length c0, .int .i64 a1] rfl jA ?_; (with_reducible refine (spec_GetName.calls k _ _ l0 a1 t653 t654 t655 _ ?side1 ?side2 A3.out).mono ?_); (case side1 => exact Kd.C_below HR0.out (wS2 HB.out GE651.out GE652.out)); (case side2 => exact HC0.out); rintro e w9 ⟨rfl, hb⟩; refine ⟨_, rfl, ?_⟩; replace BK651 := aS (blk_below (g := gb651) (o := .cells #[.string (⟨#[]⟩ : ByteArray), .int .i64 0, .int .i64 0, .int .i64 0, .string (⟨#[]⟩ : ByteArray), .string (⟨#[]⟩ : ByteArray)] 25 (0, 0)) (by (iterate 6 ((with_reducible repeat (first | refine blk_drewN ?_ _ | refine blk_drew ?_ | refine blk_alloc ?_ _)); refine blk_far ?_ NB651_652.out _)); exact bU BK651.out) hb); replace BK652 := aS (blk_below (g := gb652) (o := .cells #[.string (⟨#[]⟩ : ByteArray), .int .i64 0, .int .i64 0, .int .i64 0, .string (⟨#[]⟩ : ByteArray), .string (⟨#[]⟩ : ByteArray)] 25 (0, 0)) (by (with_reducible repeat (first | refine blk_drewN ?_ _ | refine blk_drew ?_ | refine blk_alloc ?_ _)); refine blk_put_6 (.string (⟨#[]⟩ : ByteArray)) (.int .i64 0) (.int .i64 0) (.int .i64 0) (.string (⟨#[]⟩ : ByteArray)) (.string (⟨#[]⟩ : ByteArray)) ?_; exact bU BK652.out) hb); replace HB := aS (below_step (wS2 HB.out GE651.out GE652.out) hb); clear hb))
 (try simp only [Act.put, List.setIfInBounds_toArray, List.set_cons_zero, List.set_cons_succ])
 go_cut [] (fun wc => ∃ (kq : Nat) (x652000_3 : ByteArray) (x652001_3 : Int) (x652002_3 : Int) (x652003_3 : Int) (x652004_3 : ByteArray) (x652005_3 : ByteArray), Aside0 (spec_GetRecord.j0 kq l0 t653 t654 (⟨#[]⟩ : ByteArray) 0 0 0 (⟨#[]⟩ : ByteArray) (⟨#[]⟩ : ByteArray) = some (r1, r2, r3, r4, r5, r6, r7, r8)) ∧ Aside0 (kq ≤ k) ∧ Aside0 (wc.heap[gb651]? = some (.cells #[.string x652000_3, .int .i64 x652001_3, .int .i64 x652002_3, .int .i64 x652003_3, .string x652004_3, .string x652005_3] 25 (0, 0))) ∧ Aside0 (wc.heap[gb652]? = some (.cells #[.string (⟨#[]⟩ : ByteArray), .int .i64 0, .int .i64 0, .int .i64 0, .string (⟨#[]⟩ : ByteArray), .string (⟨#[]⟩ : ByteArray)] 25 (0, 0))) ∧ Aside0 (Below w.heap.size w wc))
 case first =>
  have H := HC4.out
  clear HC4
  by_cases c10 : t655 = 0
  ·rw [if_pos c10] at H
   have c10b0 := beq_iff_eq.mpr c10
   have c10b1 := bne_eq_false_iff_eq.mpr c10
   clear c10
   (first | rw [c10b0] | (simp only [i64_w, i32_w]; rw [c10b0]) | skip)
   have H' := aS H
   clear H
   go_wp2
   go_meet
   case rel => exact ⟨_, ((⟨#[]⟩ : ByteArray)), (0), (0), (0), ((⟨#[]⟩ : ByteArray)), ((⟨#[]⟩ : ByteArray)), H', ⟨by first | omega | exact Nat.le_refl _⟩, ⟨by exact bU BK651.out⟩, ⟨by exact bU BK652.out⟩, ⟨by exact wS2 HB.out GE651.out GE652.out⟩⟩
  ·rw [if_neg c10] at H
   have c10b0 := beq_eq_false_iff_ne.mpr c10
   have c10b1 := bne_iff_ne.mpr c10
   (first | rw [c10b0] | (simp only [i64_w, i32_w]; rw [c10b0]) | skip)
   simp only [Option.some.injEq, Prod.mk.injEq] at H
   obtain ⟨rfl, rfl, rfl, rfl, rfl, rfl, rfl, rfl⟩ := H
   have hnb11 := NB652_651.out
   have hnc11 := NB651_652.out
   have hcz12 := cells6f BK652.out
   have hcz13 := cells6f BK651.out
   go_wp2
   refine bodyPost_ret (results_ctt rfl _ _ gb651 25 #[.string (⟨#[]⟩ : ByteArray), .int .i64 0, .int .i64 0, .int .i64 0, .string (⟨#[]⟩ : ByteArray), .string (⟨#[]⟩ : ByteArray)] (0, 0) _ rfl (by (with_reducible repeat (first | refine blk_drewN ?_ _ | refine blk_drew ?_ | refine blk_alloc ?_ _)); refine blk_put_6 (.string (⟨#[]⟩ : ByteArray)) (.int .i64 0) (.int .i64 0) (.int .i64 0) (.string (⟨#[]⟩ : ByteArray)) (.string (⟨#[]⟩ : ByteArray)) ?_; exact bU BK651.out) Tryd.underlying25 rfl jK) rfl ?_
   exact ⟨jE, by exact wS2 HB.out GE651.out GE652.out⟩
 case rest =>
  clear HC4
  try clear c1
  try clear c2
  try clear p2
  try clear c7
  try clear c8
  try clear c10
  try clear c10b0
  try clear c10b1
  try clear c11
  try clear hcz12
  try clear hcz13
  try clear hcz8
  obtain ⟨kq, x652000_3, x652001_3, x652002_3, x652003_3, x652004_3, x652005_3, HA, HJ3, BK651, BK652, HB⟩ := hcut
  cases kq with
  | zero => exact absurd HA.out (by simp [spec_GetRecord.j0])
  | succ kj3 =>
   have H := HA.out
   clear HA
   simp only [spec_GetRecord.j0] at H
   have HC14 := aS H
   clear H
   go_upto_if 36 with (fail)
   go_cut [] (fun wc => ∃ (kq : Nat) (x652000_13 : ByteArray) (x652001_13 : Int) (x652002_13 : Int) (x652003_13 : Int) (x652004_13 : ByteArray) (x652005_13 : ByteArray), Aside0 (spec_GetRecord.j1 kq l0 t653 t654 (⟨#[]⟩ : ByteArray) 0 0 0 (⟨#[]⟩ : ByteArray) (⟨#[]⟩ : ByteArray) = some (r1, r2, r3, r4, r5, r6, r7, r8)) ∧ Aside0 (kq ≤ kj3) ∧ Aside0 (wc.heap[gb651]? = some (.cells #[.string x652000_13, .int .i64 x652001_13, .int .i64 x652002_13, .int .i64 x652003_13, .string x652004_13, .string x652005_13] 25 (0, 0))) ∧ Aside0 (wc.heap[gb652]? = some (.cells #[.string (⟨#[]⟩ : ByteArray), .int .i64 0, .int .i64 0, .int .i64 0, .string (⟨#[]⟩ : ByteArray), .string (⟨#[]⟩ : ByteArray)] 25 (0, 0))) ∧ Aside0 (Below w.heap.size w wc))
   case first =>
    have H := HC14.out
    clear HC14
    by_cases c15 : t654 > (wrap64 ((l0.length : Int) - 10))
    ·rw [if_pos c15] at H
     have c15b0 := decide_eq_true c15
     clear c15
     (first | rw [c15b0] | (simp only [i64_w, i32_w]; rw [c15b0]) | skip)
     simp only [Option.some.injEq, Prod.mk.injEq] at H
     obtain ⟨rfl, rfl, rfl, rfl, rfl, rfl, rfl, rfl⟩ := H
     have hnb16 := NB652_651.out
     have hnc16 := NB651_652.out
     have hcz17 := cells6f BK652.out
     have hcz18 := cells6f BK651.out
     go_wp2
     refine bodyPost_ret (results_ctt rfl _ _ gb651 25 #[.string (⟨#[]⟩ : ByteArray), .int .i64 0, .int .i64 0, .int .i64 0, .string (⟨#[]⟩ : ByteArray), .string (⟨#[]⟩ : ByteArray)] (0, 0) _ rfl (by (with_reducible repeat (first | refine blk_drewN ?_ _ | refine blk_drew ?_ | refine blk_alloc ?_ _)); refine blk_put_6 (.string x652000_3) (.int .i64 x652001_3) (.int .i64 x652002_3) (.int .i64 x652003_3) (.string x652004_3) (.string x652005_3) ?_; exact bU BK651.out) Tryd.underlying25 rfl jK) rfl ?_
     exact ⟨jE, by exact wS2 HB.out GE651.out GE652.out⟩
    ·rw [if_neg c15] at H
     have c15b0 := decide_eq_false c15
     clear c15
     (first | rw [c15b0] | (simp only [i64_w, i32_w]; rw [c15b0]) | skip)
     have H' := aS H
     clear H
     go_wp2
     go_meet
     case rel => exact ⟨_, (x652000_3), (x652001_3), (x652002_3), (x652003_3), (x652004_3), (x652005_3), H', ⟨by have := HJ3.out; first | omega | exact Nat.le_refl _⟩, ⟨by exact bU BK651.out⟩, ⟨by exact bU BK652.out⟩, ⟨by exact wS2 HB.out GE651.out GE652.out⟩⟩
   case rest =>
    clear HC14
    try clear c1
    try clear c2
    try clear p2
    try clear p6
    try clear c7
    try clear c8
    try clear c10
    try clear c10b0
    try clear c10b1
    try clear c11
    try clear c15
    try clear c15b0
    try clear c16
    try clear hcz12
    try clear hcz13
    try clear hcz17
    try clear hcz18
    try clear hcz8
    try clear p2
    obtain ⟨kq, x652000_13, x652001_13, x652002_13, x652003_13, x652004_13, x652005_13, HA, HJ13, BK651, BK652, HB⟩ := hcut
    cases kq with
    | zero => exact absurd HA.out (by simp [spec_GetRecord.j1])
    | succ kj13 =>
     have H := HA.out
     clear HA
     simp only [spec_GetRecord.j1] at H
     obtain ⟨⟨t656, t657⟩, A19, H⟩ := bM H
     try dsimp only at H
     obtain ⟨⟨t658, t659⟩, A20, H⟩ := bM H
     try dsimp only at H
     obtain ⟨⟨t660, t661⟩, A21, H⟩ := bM H
     try dsimp only at H
     obtain ⟨⟨t662, t663⟩, A22, H⟩ := bM H
     try dsimp only at H
     obtain ⟨⟨t664, t665, t666, t667, t668, t669, t670⟩, A23, H⟩ := bM H
     try dsimp only at H
     have HC24 := aS H
     clear H
     go_upto_if 75 with (first | ((with_reducible refine gate_callee (f := 83) rfl ?_); refine goesL_ (some 41) rfl rfl Tryd.func83 jK rfl #[.slice A0 l0.length c0, .int .i64 t654] rfl jA ?_; (with_reducible refine (spec_Get2.calls _ _ l0 t654 t656 t657 _ ?side1 ?side2 A19.out).mono ?_); (case side1 => exact cU ((Kd.C_below HR0.out HB.out))); (case side2 => exact HC0.out); rintro e w' ⟨rfl, ⟨nd, rfl⟩⟩; refine ⟨_, rfl, ?_⟩; (try (rw [drewN_self wc]; generalize hq_ : World.drewN wc _ = wc; have n0_ : Aside0 (wc.heap[gb651]? = some (.cells #[.string x652000_13, .int .i64 x652001_13, .int .i64 x652002_13, .int .i64 x652003_13, .string x652004_13, .string x652005_13] 25 (0, 0))) := ⟨by rw [← hq_]; exact (bU BK651.out)⟩; have n1_ : Aside0 (wc.heap[gb652]? = some (.cells #[.string (⟨#[]⟩ : ByteArray), .int .i64 0, .int .i64 0, .int .i64 0, .string (⟨#[]⟩ : ByteArray), .string (⟨#[]⟩ : ByteArray)] 25 (0, 0))) := ⟨by rw [← hq_]; exact (bU BK652.out)⟩; have n2_ : Aside0 (Below w.heap.size w wc) := ⟨by rw [← hq_]; exact (wS2 HB.out GE651.out GE652.out)⟩; clear BK651 BK652 HB hq_; revert n0_ n1_ n2_; intro BK651 BK652 HB))) | ((with_reducible refine gate_callee (f := 83) rfl ?_); refine goesL_ (some 48) rfl rfl Tryd.func83 jK rfl #[.slice A0 l0.length c0, .int .i64 (wrap64 (t654 + 2))] rfl jA ?_; (with_reducible refine (spec_Get2.calls _ _ l0 (wrap64 (t654 + 2)) t658 t659 _ ?side1 ?side2 A20.out).mono ?_); (case side1 => exact cU ((Kd.C_below HR0.out HB.out))); (case side2 => exact HC0.out); rintro e w' ⟨rfl, ⟨nd, rfl⟩⟩; refine ⟨_, rfl, ?_⟩; (try (rw [drewN_self wc]; generalize hq_ : World.drewN wc _ = wc; have n0_ : Aside0 (wc.heap[gb651]? = some (.cells #[.string x652000_13, .int .i64 x652001_13, .int .i64 x652002_13, .int .i64 x652003_13, .string x652004_13, .string x652005_13] 25 (0, 0))) := ⟨by rw [← hq_]; exact (bU BK651.out)⟩; have n1_ : Aside0 (wc.heap[gb652]? = some (.cells #[.string (⟨#[]⟩ : ByteArray), .int .i64 0, .int .i64 0, .int .i64 0, .string (⟨#[]⟩ : ByteArray), .string (⟨#[]⟩ : ByteArray)] 25 (0, 0))) := ⟨by rw [← hq_]; exact (bU BK652.out)⟩; have n2_ : Aside0 (Below w.heap.size w wc) := ⟨by rw [← hq_]; exact (wS2 HB.out GE651.out GE652.out)⟩; clear BK651 BK652 HB hq_; revert n0_ n1_ n2_; intro BK651 BK652 HB))) | ((with_reducible refine gate_callee (f := 84) rfl ?_); refine goesL_ (some 55) rfl rfl Tryd.func84 jK rfl #[.slice A0 l0.length c0, .int .i64 (wrap64 (t654 + 4))] rfl jA ?_; (with_reducible refine (spec_Get4.calls kj13 _ _ l0 (wrap64 (t654 + 4)) t660 t661 _ ?side1 ?side2 A21.out).mono ?_); (case side1 => exact cU ((Kd.C_below HR0.out HB.out))); (case side2 => exact HC0.out); rintro e w' ⟨rfl, ⟨nd, rfl⟩⟩; refine ⟨_, rfl, ?_⟩; (try (rw [drewN_self wc]; generalize hq_ : World.drewN wc _ = wc; have n0_ : Aside0 (wc.heap[gb651]? = some (.cells #[.string x652000_13, .int .i64 x652001_13, .int .i64 x652002_13, .int .i64 x652003_13, .string x652004_13, .string x652005_13] 25 (0, 0))) := ⟨by rw [← hq_]; exact (bU BK651.out)⟩; have n1_ : Aside0 (wc.heap[gb652]? = some (.cells #[.string (⟨#[]⟩ : ByteArray), .int .i64 0, .int .i64 0, .int .i64 0, .string (⟨#[]⟩ : ByteArray), .string (⟨#[]⟩ : ByteArray)] 25 (0, 0))) := ⟨by rw [← hq_]; exact (bU BK652.out)⟩; have n2_ : Aside0 (Below w.heap.size w wc) := ⟨by rw [← hq_]; exact (wS2 HB.out GE651.out GE652.out)⟩; clear BK651 BK652 HB hq_; revert n0_ n1_ n2_; intro BK651 BK652 HB))) | ((with_reducible refine gate_callee (f := 83) rfl ?_); refine goesL_ (some 62) rfl rfl Tryd.func83 jK rfl #[.slice A0 l0.length c0, .int .i64 (wrap64 (t654 + 8))] rfl jA ?_; (with_reducible refine (spec_Get2.calls _ _ l0 (wrap64 (t654 + 8)) t662 t663 _ ?side1 ?side2 A22.out).mono ?_); (case side1 => exact cU ((Kd.C_below HR0.out HB.out))); (case side2 => exact HC0.out); rintro e w' ⟨rfl, ⟨nd, rfl⟩⟩; refine ⟨_, rfl, ?_⟩; (try (rw [drewN_self wc]; generalize hq_ : World.drewN wc _ = wc; have n0_ : Aside0 (wc.heap[gb651]? = some (.cells #[.string x652000_13, .int .i64 x652001_13, .int .i64 x652002_13, .int .i64 x652003_13, .string x652004_13, .string x652005_13] 25 (0, 0))) := ⟨by rw [← hq_]; exact (bU BK651.out)⟩; have n1_ : Aside0 (wc.heap[gb652]? = some (.cells #[.string (⟨#[]⟩ : ByteArray), .int .i64 0, .int .i64 0, .int .i64 0, .string (⟨#[]⟩ : ByteArray), .string (⟨#[]⟩ : ByteArray)] 25 (0, 0))) := ⟨by rw [← hq_]; exact (bU BK652.out)⟩; have n2_ : Aside0 (Below w.heap.size w wc) := ⟨by rw [← hq_]; exact (wS2 HB.out GE651.out GE652.out)⟩; clear BK651 BK652 HB hq_; revert n0_ n1_ n2_; intro BK651 BK652 HB))) | ((with_reducible refine gate_callee (f := 26) rfl ?_); refine goesL_ (some 71) rfl rfl Tryd.func26 jK rfl #[.slice A0 l0.length c0, .int .i64 (wrap64 (t654 + 10)), .int .i64 t662, .int .i64 t656] rfl jA ?_; (with_reducible refine (spec_GetData.calls kj13 _ _ l0 (wrap64 (t654 + 10)) t662 t656 t664 t665 t666 t667 t668 t669 t670 _ ?side1 ?side2 A23.out).mono ?_); (case side1 => exact cU ((Kd.C_below HR0.out HB.out))); (case side2 => exact HC0.out); rintro e w25 ⟨rfl, hb⟩; refine ⟨_, rfl, ?_⟩; replace BK651 := aS (blk_below (bU BK651.out) hb); replace BK652 := aS (blk_below (bU BK652.out) hb); replace HB := aS (below_step (wS2 HB.out GE651.out GE652.out) hb); clear hb) | ((with_reducible refine gate_dst (N := 19) rfl ?_); refine box_event ?hg (N := 19) ?hd (cs := #[.string (⟨#[]⟩ : ByteArray), .int .i64 0, .int .i64 0, .int .i64 0, .string (⟨#[]⟩ : ByteArray), .string (⟨#[]⟩ : ByteArray)]) (t := 25) ?hr ?_; (case hd => rfl); (case hg => rfl); (case hr => first | (go_simp; done) | (go_simp; rfl)); intro gb671 hg w26 hbox hb; have BK671 := aS (hbox); have GW671 := aS ((by rw [hg]; exact (below_size (wS2 HB.out GE651.out GE652.out)) : w.heap.size ≤ gb671)); have GE671 := aS ((by rw [hg]; exact (below_size (wS2 HB.out GE651.out GE652.out)) : w.heap.size ≤ gb671)); replace HB := aS (below_step (wS2 HB.out GE651.out GE652.out) hb); have NB651_671 := aS ((by rw [hg]; exact Nat.ne_of_lt (blk_lt (bU BK651.out)) : gb651 ≠ gb671)); have NB671_651 := aS ((by rw [hg]; exact Nat.ne_of_gt (blk_lt (bU BK651.out)) : gb671 ≠ gb651)); replace BK651 := aS (blk_below (bU BK651.out) hb); have NB652_671 := aS ((by rw [hg]; exact Nat.ne_of_lt (blk_lt (bU BK652.out)) : gb652 ≠ gb671)); have NB671_652 := aS ((by rw [hg]; exact Nat.ne_of_gt (blk_lt (bU BK652.out)) : gb671 ≠ gb652)); replace BK652 := aS (blk_below (bU BK652.out) hb); clear hb hbox hg; have hnb27 := NB671_651.out; have hnc27 := NB651_671.out; have hnb28 := NB671_652.out; have hnc28 := NB652_671.out; have hcz29 := cells6f BK671.out))
     (try simp only [Act.put, List.setIfInBounds_toArray, List.set_cons_zero, List.set_cons_succ])
     go_cut [] (fun wc => ∃ (kq : Nat) (x652000_23 : ByteArray) (x652001_23 : Int) (x652002_23 : Int) (x652003_23 : Int) (x652004_23 : ByteArray) (x652005_23 : ByteArray), Aside0 (spec_GetRecord.j2 kq t653 t654 t658 t660 t661 t662 (⟨#[]⟩ : ByteArray) 0 0 0 (⟨#[]⟩ : ByteArray) (⟨#[]⟩ : ByteArray) t664 t665 t666 t667 t668 t669 = some (r1, r2, r3, r4, r5, r6, r7, r8)) ∧ Aside0 (kq ≤ kj13) ∧ Aside0 (wc.heap[gb651]? = some (.cells #[.string x652000_23, .int .i64 x652001_23, .int .i64 x652002_23, .int .i64 x652003_23, .string x652004_23, .string x652005_23] 25 (0, 0))) ∧ Aside0 (wc.heap[gb652]? = some (.cells #[.string (⟨#[]⟩ : ByteArray), .int .i64 0, .int .i64 0, .int .i64 0, .string (⟨#[]⟩ : ByteArray), .string (⟨#[]⟩ : ByteArray)] 25 (0, 0))) ∧ Aside0 (wc.heap[gb671]? = some (.cells #[.string t664, .int .i64 t665, .int .i64 t666, .int .i64 t667, .string t668, .string t669] 25 (0, 0))) ∧ Aside0 (Below w.heap.size w wc))
     case first =>
      have H := HC24.out
      clear HC24
      by_cases c30 : t670 = 0
      ·rw [if_pos c30] at H
       have c30b0 := beq_iff_eq.mpr c30
       have c30b1 := bne_eq_false_iff_eq.mpr c30
       clear c30
       (first | rw [c30b0] | (simp only [i64_w, i32_w]; rw [c30b0]) | skip)
       have H' := aS H
       clear H
       go_wp2
       go_meet
       case rel => exact ⟨_, (x652000_13), (x652001_13), (x652002_13), (x652003_13), (x652004_13), (x652005_13), H', ⟨by have := HJ3.out; have := HJ13.out; first | omega | exact Nat.le_refl _⟩, ⟨by (iterate 6 ((with_reducible repeat (first | refine blk_drewN ?_ _ | refine blk_drew ?_ | refine blk_alloc ?_ _)); refine blk_far ?_ NB651_671.out _)); exact bU BK651.out⟩, ⟨by (iterate 6 ((with_reducible repeat (first | refine blk_drewN ?_ _ | refine blk_drew ?_ | refine blk_alloc ?_ _)); refine blk_far ?_ NB652_671.out _)); exact bU BK652.out⟩, ⟨by (with_reducible repeat (first | refine blk_drewN ?_ _ | refine blk_drew ?_ | refine blk_alloc ?_ _)); refine blk_put_6 (.string (⟨#[]⟩ : ByteArray)) (.int .i64 0) (.int .i64 0) (.int .i64 0) (.string (⟨#[]⟩ : ByteArray)) (.string (⟨#[]⟩ : ByteArray)) ?_; exact bU BK671.out⟩, ⟨by exact wS3 HB.out GE651.out GE652.out GE671.out⟩⟩
      ·rw [if_neg c30] at H
       have c30b0 := beq_eq_false_iff_ne.mpr c30
       have c30b1 := bne_iff_ne.mpr c30
       (first | rw [c30b0] | (simp only [i64_w, i32_w]; rw [c30b0]) | skip)
       simp only [Option.some.injEq, Prod.mk.injEq] at H
       obtain ⟨rfl, rfl, rfl, rfl, rfl, rfl, rfl, rfl⟩ := H
       have hnb31 := NB652_651.out
       have hnc31 := NB651_652.out
       have hnb32 := NB652_671.out
       have hnc32 := NB671_652.out
       have hcz33 := cells6f BK652.out
       have hnb34 := NB651_671.out
       have hnc34 := NB671_651.out
       have hcz35 := cells6f BK651.out
       go_wp2
       refine bodyPost_ret (results_ctt rfl _ _ gb651 25 #[.string (⟨#[]⟩ : ByteArray), .int .i64 0, .int .i64 0, .int .i64 0, .string (⟨#[]⟩ : ByteArray), .string (⟨#[]⟩ : ByteArray)] (0, 0) _ rfl (by (with_reducible repeat (first | refine blk_drewN ?_ _ | refine blk_drew ?_ | refine blk_alloc ?_ _)); refine blk_put_6 (.string x652000_13) (.int .i64 x652001_13) (.int .i64 x652002_13) (.int .i64 x652003_13) (.string x652004_13) (.string x652005_13) ?_; (iterate 6 ((with_reducible repeat (first | refine blk_drewN ?_ _ | refine blk_drew ?_ | refine blk_alloc ?_ _)); refine blk_far ?_ NB651_671.out _)); exact bU BK651.out) Tryd.underlying25 rfl jK) rfl ?_
       exact ⟨jE, by exact wS3 HB.out GE651.out GE652.out GE671.out⟩
     case rest =>
      clear HC24
      try clear c1
      try clear c2
      try clear p2
      try clear c3
      try clear p6
      try clear c7
      try clear c8
      try clear c10
      try clear c10b0
      try clear c10b1
      try clear c11
      try clear c15
      try clear c15b0
      try clear c16
      try clear c24
      try clear c26
      try clear c27
      try clear c28
      try clear c30
      try clear c30b0
      try clear c30b1
      try clear c31
      try clear c32
      try clear c34
      try clear hcz12
      try clear hcz13
      try clear hcz17
      try clear hcz18
      try clear hcz29
      try clear hcz33
      try clear hcz35
      try clear hcz8
      try clear p2
      try clear p6
      obtain ⟨kq, x652000_23, x652001_23, x652002_23, x652003_23, x652004_23, x652005_23, HA, HJ23, BK651, BK652, BK671, HB⟩ := hcut
      cases kq with
      | zero => exact absurd HA.out (by simp [spec_GetRecord.j2])
      | succ kj23 =>
       have H := HA.out
       clear HA
       simp only [spec_GetRecord.j2] at H
       have HC36 := aS H
       clear H
       have hnb37 := NB671_651.out
       have hnc37 := NB651_671.out
       have hnb38 := NB671_652.out
       have hnc38 := NB652_671.out
       have hcz39 := cells6f BK671.out
       go_upto_region 16 with (fail)
       go_cut [92] (fun v92 wc => ∃ (kq : Nat) (x92_35 : Bool), v92 = .bool x92_35 ∧ Aside0 (spec_GetRecord.j3 kq t654 t662 x92_35 (⟨#[]⟩ : ByteArray) 0 0 0 (⟨#[]⟩ : ByteArray) (⟨#[]⟩ : ByteArray) t653 t665 t660 t667 t668 t669 = some (r1, r2, r3, r4, r5, r6, r7, r8)) ∧ Aside0 (kq ≤ kj23) ∧ Aside0 (wc.heap[gb651]? = some (.cells #[.string x652000_23, .int .i64 x652001_23, .int .i64 x652002_23, .int .i64 x652003_23, .string x652004_23, .string x652005_23] 25 (0, 0))) ∧ Aside0 (wc.heap[gb652]? = some (.cells #[.string (⟨#[]⟩ : ByteArray), .int .i64 0, .int .i64 0, .int .i64 0, .string (⟨#[]⟩ : ByteArray), .string (⟨#[]⟩ : ByteArray)] 25 (0, 0))) ∧ Aside0 (wc.heap[gb671]? = some (.cells #[.string t653, .int .i64 t665, .int .i64 t660, .int .i64 t667, .string t668, .string t669] 25 (0, 0))) ∧ Aside0 (Below w.heap.size w wc))
       case first =>
        have H := HC36.out
        clear HC36
        by_cases c40 : t661 = true
        ·subst c40
         rw [if_pos rfl] at H
         by_cases c41 : t658 = 1
         ·rw [if_pos c41] at H
          have c41b0 := beq_iff_eq.mpr c41
          have c41b1 := bne_eq_false_iff_eq.mpr c41
          clear c41
          (first | rw [c41b0] | (simp only [i64_w, i32_w]; rw [c41b0]) | skip)
          obtain ⟨t672, A42, H⟩ := bM H
          try dsimp only at H
          have H' := aS H
          clear H
          have hnb43 := NB671_651.out
          have hnc43 := NB651_671.out
          have hnb44 := NB671_652.out
          have hnc44 := NB652_671.out
          have hcz45 := cells6f BK671.out
          go_wp2_with (first | (go_at_call 54; (with_reducible refine (spec_RecordOk.calls kj23 t653 t665 t660 t667 t668 t669 t672 _ A42.out).mono ?_); rintro e w46 ⟨rfl, hb⟩; replace BK651 := aS (blk_below (g := gb651) (o := .cells #[.string x652000_23, .int .i64 x652001_23, .int .i64 x652002_23, .int .i64 x652003_23, .string x652004_23, .string x652005_23] 25 (0, 0)) (by (with_reducible repeat (first | refine blk_drewN ?_ _ | refine blk_drew ?_ | refine blk_alloc ?_ _)); refine blk_far ?_ NB651_671.out _; (with_reducible repeat (first | refine blk_drewN ?_ _ | refine blk_drew ?_ | refine blk_alloc ?_ _)); refine blk_far ?_ NB651_671.out _; exact bU BK651.out) hb); replace BK652 := aS (blk_below (g := gb652) (o := .cells #[.string (⟨#[]⟩ : ByteArray), .int .i64 0, .int .i64 0, .int .i64 0, .string (⟨#[]⟩ : ByteArray), .string (⟨#[]⟩ : ByteArray)] 25 (0, 0)) (by (with_reducible repeat (first | refine blk_drewN ?_ _ | refine blk_drew ?_ | refine blk_alloc ?_ _)); refine blk_far ?_ NB652_671.out _; (with_reducible repeat (first | refine blk_drewN ?_ _ | refine blk_drew ?_ | refine blk_alloc ?_ _)); refine blk_far ?_ NB652_671.out _; exact bU BK652.out) hb); replace BK671 := aS (blk_below (g := gb671) (o := .cells #[.string t653, .int .i64 t665, .int .i64 t660, .int .i64 t667, .string t668, .string t669] 25 (0, 0)) (by (with_reducible repeat (first | refine blk_drewN ?_ _ | refine blk_drew ?_ | refine blk_alloc ?_ _)); refine blk_put (cs := #[.string t653, .int .i64 t665, .int .i64 t666, .int .i64 t667, .string t668, .string t669]) ?_ 2 _ rfl; (with_reducible repeat (first | refine blk_drewN ?_ _ | refine blk_drew ?_ | refine blk_alloc ?_ _)); refine blk_put (cs := #[.string t664, .int .i64 t665, .int .i64 t666, .int .i64 t667, .string t668, .string t669]) ?_ 0 _ rfl; exact bU BK671.out) hb); replace HB := aS (below_step (wS3 HB.out GE651.out GE652.out GE671.out) hb); clear hb) | ((with_reducible show Oper.upon _ { dst := _, op := .load 25 _, type := 25, pos := _, after := _, guard := _ } _ _ _ _); simp (maxDischargeDepth := 20) [go_sem, *]))
          go_meet
          case rel => exact ⟨_, (!t672), jB, H', ⟨by have := HJ3.out; have := HJ13.out; have := HJ23.out; first | omega | exact Nat.le_refl _⟩, ⟨by exact bU BK651.out⟩, ⟨by exact bU BK652.out⟩, ⟨by exact bU BK671.out⟩, ⟨by exact wS3 HB.out GE651.out GE652.out GE671.out⟩⟩
         ·rw [if_neg c41] at H
          have c41b0 := beq_eq_false_iff_ne.mpr c41
          have c41b1 := bne_iff_ne.mpr c41
          (first | rw [c41b0] | (simp only [i64_w, i32_w]; rw [c41b0]) | skip)
          have H' := aS H
          clear H
          go_wp2
          go_meet
          case rel => exact ⟨_, (true), jB, H', ⟨by have := HJ3.out; have := HJ13.out; have := HJ23.out; first | omega | exact Nat.le_refl _⟩, ⟨by (with_reducible repeat (first | refine blk_drewN ?_ _ | refine blk_drew ?_ | refine blk_alloc ?_ _)); refine blk_far ?_ NB651_671.out _; (with_reducible repeat (first | refine blk_drewN ?_ _ | refine blk_drew ?_ | refine blk_alloc ?_ _)); refine blk_far ?_ NB651_671.out _; exact bU BK651.out⟩, ⟨by (with_reducible repeat (first | refine blk_drewN ?_ _ | refine blk_drew ?_ | refine blk_alloc ?_ _)); refine blk_far ?_ NB652_671.out _; (with_reducible repeat (first | refine blk_drewN ?_ _ | refine blk_drew ?_ | refine blk_alloc ?_ _)); refine blk_far ?_ NB652_671.out _; exact bU BK652.out⟩, ⟨by (with_reducible repeat (first | refine blk_drewN ?_ _ | refine blk_drew ?_ | refine blk_alloc ?_ _)); refine blk_put (cs := #[.string t653, .int .i64 t665, .int .i64 t666, .int .i64 t667, .string t668, .string t669]) ?_ 2 _ rfl; (with_reducible repeat (first | refine blk_drewN ?_ _ | refine blk_drew ?_ | refine blk_alloc ?_ _)); refine blk_put (cs := #[.string t664, .int .i64 t665, .int .i64 t666, .int .i64 t667, .string t668, .string t669]) ?_ 0 _ rfl; exact bU BK671.out⟩, ⟨by exact wS3 HB.out GE651.out GE652.out GE671.out⟩⟩
        ·replace c40 := Bool.eq_false_iff.mpr c40
         subst c40
         rw [if_neg Bool.false_ne_true] at H
         have H' := aS H
         clear H
         go_wp2
         go_meet
         case rel => exact ⟨_, (true), jB, H', ⟨by have := HJ3.out; have := HJ13.out; have := HJ23.out; first | omega | exact Nat.le_refl _⟩, ⟨by (with_reducible repeat (first | refine blk_drewN ?_ _ | refine blk_drew ?_ | refine blk_alloc ?_ _)); refine blk_far ?_ NB651_671.out _; (with_reducible repeat (first | refine blk_drewN ?_ _ | refine blk_drew ?_ | refine blk_alloc ?_ _)); refine blk_far ?_ NB651_671.out _; exact bU BK651.out⟩, ⟨by (with_reducible repeat (first | refine blk_drewN ?_ _ | refine blk_drew ?_ | refine blk_alloc ?_ _)); refine blk_far ?_ NB652_671.out _; (with_reducible repeat (first | refine blk_drewN ?_ _ | refine blk_drew ?_ | refine blk_alloc ?_ _)); refine blk_far ?_ NB652_671.out _; exact bU BK652.out⟩, ⟨by (with_reducible repeat (first | refine blk_drewN ?_ _ | refine blk_drew ?_ | refine blk_alloc ?_ _)); refine blk_put (cs := #[.string t653, .int .i64 t665, .int .i64 t666, .int .i64 t667, .string t668, .string t669]) ?_ 2 _ rfl; (with_reducible repeat (first | refine blk_drewN ?_ _ | refine blk_drew ?_ | refine blk_alloc ?_ _)); refine blk_put (cs := #[.string t664, .int .i64 t665, .int .i64 t666, .int .i64 t667, .string t668, .string t669]) ?_ 0 _ rfl; exact bU BK671.out⟩, ⟨by exact wS3 HB.out GE651.out GE652.out GE671.out⟩⟩
       case rest =>
        clear HC36
        try clear c1
        try clear c2
        try clear p2
        try clear c3
        try clear c4
        try clear p6
        try clear c7
        try clear c8
        try clear c10
        try clear c10b0
        try clear c10b1
        try clear c11
        try clear c15
        try clear c15b0
        try clear c16
        try clear c24
        try clear c26
        try clear c27
        try clear c28
        try clear c30
        try clear c30b0
        try clear c30b1
        try clear c31
        try clear c32
        try clear c34
        try clear c37
        try clear c38
        try clear c40
        try clear c41
        try clear c41b0
        try clear c41b1
        try clear c43
        try clear c44
        try clear hcz12
        try clear hcz13
        try clear hcz17
        try clear hcz18
        try clear hcz29
        try clear hcz33
        try clear hcz35
        try clear hcz39
        try clear hcz45
        try clear hcz8
        try clear p2
        try clear p6
        obtain ⟨kq, x92_35, rfl, HA, HJ35, BK651, BK652, BK671, HB⟩ := hcut
        cases kq with
        | zero => exact absurd HA.out (by simp [spec_GetRecord.j3])
        | succ kj35 =>
         have H := HA.out
         clear HA
         simp only [spec_GetRecord.j3] at H
         by_cases c47 : x92_35 = true
         ·subst c47
          rw [if_pos rfl] at H
          simp only [Option.some.injEq, Prod.mk.injEq] at H
          obtain ⟨rfl, rfl, rfl, rfl, rfl, rfl, rfl, rfl⟩ := H
          have hnb48 := NB652_651.out
          have hnc48 := NB651_652.out
          have hnb49 := NB652_671.out
          have hnc49 := NB671_652.out
          have hcz50 := cells6f BK652.out
          have hnb51 := NB651_671.out
          have hnc51 := NB671_651.out
          have hcz52 := cells6f BK651.out
          go_wp2
          refine bodyPost_ret (results_ctt rfl _ _ gb651 25 #[.string (⟨#[]⟩ : ByteArray), .int .i64 0, .int .i64 0, .int .i64 0, .string (⟨#[]⟩ : ByteArray), .string (⟨#[]⟩ : ByteArray)] (0, 0) _ rfl (by (with_reducible repeat (first | refine blk_drewN ?_ _ | refine blk_drew ?_ | refine blk_alloc ?_ _)); refine blk_put_6 (.string x652000_23) (.int .i64 x652001_23) (.int .i64 x652002_23) (.int .i64 x652003_23) (.string x652004_23) (.string x652005_23) ?_; exact bU BK651.out) Tryd.underlying25 rfl jK) rfl ?_
          exact ⟨jE, by exact wS3 HB.out GE651.out GE652.out GE671.out⟩
         ·replace c47 := Bool.eq_false_iff.mpr c47
          subst c47
          rw [if_neg Bool.false_ne_true] at H
          simp only [Option.some.injEq, Prod.mk.injEq] at H
          obtain ⟨rfl, rfl, rfl, rfl, rfl, rfl, rfl, rfl⟩ := H
          have hnb53 := NB671_651.out
          have hnc53 := NB651_671.out
          have hnb54 := NB671_652.out
          have hnc54 := NB652_671.out
          have hcz55 := cells6f BK671.out
          have hnb56 := NB651_652.out
          have hnc56 := NB652_651.out
          have hcz57 := cells6f BK651.out
          go_wp2
          refine bodyPost_ret (results_ctt rfl _ _ gb651 25 #[.string t653, .int .i64 t665, .int .i64 t660, .int .i64 t667, .string t668, .string t669] (0, 0) _ rfl (by (with_reducible repeat (first | refine blk_drewN ?_ _ | refine blk_drew ?_ | refine blk_alloc ?_ _)); refine blk_put_6 (.string x652000_23) (.int .i64 x652001_23) (.int .i64 x652002_23) (.int .i64 x652003_23) (.string x652004_23) (.string x652005_23) ?_; exact bU BK651.out) Tryd.underlying25 rfl jK) rfl ?_
          exact ⟨jE, by exact wS3 HB.out GE651.out GE652.out GE671.out⟩

/-! ### spec_DrawGetData: function 25 -/
def spec_DrawGetData.j0 : Nat → List Int → Int → Int → List Int → Int → Int → Option (List Int × Int × Int × Int)
 | 0, _, _, _, _, _, _ => none
 | k + 1, x8, x9, x10, x677000, x677001, x677002 => (spec_l3Name.f x677000 x677001 x677002).bind fun bt707 => ((spec_PutPlain.f k (([] : List Int)) bt707.1).bind fun t710 => (if t710.length + x8.length < 140737488355328 then ((some (t710 ++ x8 : List Int)).bind fun y713 => ((spec_l1Once.f x677000 bt707.2.1 bt707.2.2 5).bind fun bt716 => (if bt716.1 = true then (if 0 ≤ (wrap64 ((y713.length : Int) - (x8.length : Int))) then (if (wrap64 ((y713.length : Int) - (x8.length : Int))) ≤ (y713.length : Int) then ((some (y713.take ((wrap64 ((y713.length : Int) - (x8.length : Int))) : Int).toNat : List Int)).bind fun y719 => ((some (([192, 0] : List Int) : List Int)).bind fun y722 => (if y719.length + y722.length < 140737488355328 then ((spec_l1Bent.f x677000 bt716.2.1 bt716.2.2 (y719 ++ y722)).bind fun bt728 => (some (bt728.1, wrap64 ((y713.length : Int) - (x8.length : Int)), 2, x10))) else (none)))) else (none)) else (none)) else ((spec_l1Bent.f x677000 bt716.2.1 bt716.2.2 y713).bind fun bt733 => (some (bt733.1, wrap64 ((y713.length : Int) - (x8.length : Int)), x9, x10)))))) else (none)))
def spec_DrawGetData.f (k : Nat) (l0 : List Int) : Option (List Int × Int × Int × Int) := (spec_l1New.f k l0).bind fun bt673 => ((spec_l5Draw.f k bt673.1 bt673.2.1 bt673.2.2).bind fun bt677 => ((spec_PutData.f k bt677.1 bt677.2.1 bt677.2.2.1 bt677.2.2.2.1 bt677.2.2.2.2.1 bt677.2.2.2.2.2.1).bind fun t686 => ((spec_l1Below.f bt673.1 bt677.2.2.2.2.2.2.1 bt677.2.2.2.2.2.2.2 8).bind fun bt689 => (if bt689.1 = 0 then ((spec_l1Int.f bt673.1 bt689.2.1 bt689.2.2 (([0, wrap64 ((t686.length : Int) - 1), wrap64 ((t686.length : Int) + 1), 255, 256, (-1)] : List Int))).bind fun bt695 => (spec_DrawGetData.j0 k t686 bt695.1 bt677.2.1 bt673.1 bt695.2.1 bt695.2.2)) else (if bt689.1 = 1 then ((spec_l1Int.f bt673.1 bt689.2.1 bt689.2.2 (([0, 1, 2, 3, 6, 16] : List Int))).bind fun bt701 => (spec_DrawGetData.j0 k t686 (t686.length : Int) bt701.1 bt673.1 bt701.2.1 bt701.2.2)) else (spec_DrawGetData.j0 k t686 (t686.length : Int) bt677.2.1 bt673.1 bt689.2.1 bt689.2.2))))))
theorem spec_DrawGetData.mono_l : ∀ k, (∀ y0 y1 y2 y3 y4 y5, LeO (spec_DrawGetData.j0 k y0 y1 y2 y3 y4 y5) (spec_DrawGetData.j0 (k + 1) y0 y1 y2 y3 y4 y5))
 | 0 => fun _ _ _ _ _ _ r h => by simp [spec_DrawGetData.j0] at h
 | k + 1 => by
  have ih0 := spec_DrawGetData.mono_l k
  ·intro y0 y1 y2 y3 y4 y5
   unfold spec_DrawGetData.j0
   repeat' first
   | (with_reducible first | exact ih0 _ _ _ _ _ _ | exact spec_PutData.mono _ _ _ _ _ _ _ | exact spec_PutPlain.mono _ _ _ | exact spec_l1New.mono _ _ | exact spec_l5Draw.mono _ _ _ _ | exact LeO.refl _ | exact LeO.none _ | refine LeO.ite ?_ ?_ | refine LeO.bind ?_ (fun _ => ?_))
   | exact ih0 _ _ _ _ _ _
   | exact spec_PutData.mono _ _ _ _ _ _ _
   | exact spec_PutPlain.mono _ _ _
   | exact spec_l1New.mono _ _
   | exact spec_l5Draw.mono _ _ _ _
   | exact LeO.none _
   | refine LeO.ite ?_ ?_
   | refine LeO.bind ?_ (fun _ => ?_)
theorem spec_DrawGetData.mono : ∀ a0 k, LeO (spec_DrawGetData.f k a0) (spec_DrawGetData.f (k + 1) a0) := by
 intro a0 k
 have ih0 := spec_DrawGetData.mono_l k
 unfold spec_DrawGetData.f
 repeat' first
   | (with_reducible first | exact ih0 _ _ _ _ _ _ | exact spec_PutData.mono _ _ _ _ _ _ _ | exact spec_PutPlain.mono _ _ _ | exact spec_l1New.mono _ _ | exact spec_l5Draw.mono _ _ _ _ | exact LeO.refl _ | exact LeO.none _ | refine LeO.ite ?_ ?_ | refine LeO.bind ?_ (fun _ => ?_))
   | exact ih0 _ _ _ _ _ _
   | exact spec_PutData.mono _ _ _ _ _ _ _
   | exact spec_PutPlain.mono _ _ _
   | exact spec_l1New.mono _ _
   | exact spec_l5Draw.mono _ _ _ _
   | exact LeO.none _
   | refine LeO.ite ?_ ?_
   | refine LeO.bind ?_ (fun _ => ?_)
set_option maxHeartbeats 8000000 in
set_option maxRecDepth 100000 in
theorem spec_DrawGetData.calls (k : Nat) (A0 : Option Addr) (c0 : Nat) (l0 : List Int) (r1 : List Int) (r2 : Int) (r3 : Int) (r4 : Int) (w : World) (hr0 : Kd.C (Kd.int .u8) w A0 l0.length l0) (hc0 : l0.length ≤ c0) (h : spec_DrawGetData.f k l0 = some (r1, r2, r3, r4)) :
  Calls Tryd.prog 25 #[.slice A0 l0.length c0] w fun e w' => ∃ v0_ : Value, e = .returned (.tuple #[v0_, .int .i64 r2, .int .i64 r3, .int .i64 r4]) ∧ Kd.R (Kd.int .u8) 5 w' w.heap.size (fun _ => True) v0_ r1 ∧ Below w.heap.size w w' := by
 have hu25 := Tryd.underlying25
 have HR0 := aS hr0
 have HC0 := aS hc0
 clear hr0 hc0
 have HB := aS (Below.refl w.heap.size w)
 have H : ((spec_l1New.f k l0).bind fun bt673 => ((spec_l5Draw.f k bt673.1 bt673.2.1 bt673.2.2).bind fun bt677 => ((spec_PutData.f k bt677.1 bt677.2.1 bt677.2.2.1 bt677.2.2.2.1 bt677.2.2.2.2.1 bt677.2.2.2.2.2.1).bind fun t686 => ((spec_l1Below.f bt673.1 bt677.2.2.2.2.2.2.1 bt677.2.2.2.2.2.2.2 8).bind fun bt689 => (if bt689.1 = 0 then ((spec_l1Int.f bt673.1 bt689.2.1 bt689.2.2 (([0, wrap64 ((t686.length : Int) - 1), wrap64 ((t686.length : Int) + 1), 255, 256, (-1)] : List Int))).bind fun bt695 => (spec_DrawGetData.j0 k t686 bt695.1 bt677.2.1 bt673.1 bt695.2.1 bt695.2.2)) else (if bt689.1 = 1 then ((spec_l1Int.f bt673.1 bt689.2.1 bt689.2.2 (([0, 1, 2, 3, 6, 16] : List Int))).bind fun bt701 => (spec_DrawGetData.j0 k t686 (t686.length : Int) bt701.1 bt673.1 bt701.2.1 bt701.2.2)) else (spec_DrawGetData.j0 k t686 (t686.length : Int) bt677.2.1 bt673.1 bt689.2.1 bt689.2.2))))))) = some (r1, r2, r3, r4) := h
 clear h
 obtain ⟨⟨t673, t674, t675⟩, A2, H⟩ := bM H
 try dsimp only at H
 obtain ⟨⟨t677, t678, t679, t680, t681, t682, t683, t684⟩, A3, H⟩ := bM H
 try dsimp only at H
 obtain ⟨t686, A4, H⟩ := bM H
 try dsimp only at H
 obtain ⟨⟨t689, t690, t691⟩, A5, H⟩ := bM H
 try dsimp only at H
 have HC6 := aS H
 clear H
 go_enter Tryd.func25, Tryd.ntmps25
 go_upto_block 0 with (first | ((with_reducible refine gate_callee (f := 56) rfl ?_); refine goesL_ (some 14) rfl rfl Tryd.func56 jK rfl #[.slice A0 l0.length c0] rfl jA ?_; (with_reducible refine (spec_l1New.calls k _ _ l0 t673 t674 t675 w _ ?side1 ?side2 ?side3 A2.out).mono ?_); (case side1 => exact wU HB.out); (case side2 => exact HR0.out); (case side3 => exact HC0.out); rintro e w7 ⟨g676, rfl, hi, hb, hb2⟩; refine ⟨_, rfl, ?_⟩; replace HB := aS (hb); have HI676 := aS (hi); clear hi hb hb2) | ((with_reducible refine gate_callee (f := 79) rfl ?_); refine goesL_ (some 16) rfl rfl Tryd.func79 jK rfl #[.pointer (some ⟨g676, 0, none⟩)] rfl jA ?_; (with_reducible refine (spec_l5Draw.calls k g676 t673 t674 t675 t677 t678 t679 t680 t681 t682 t683 t684 w _ ?side1 ?side2 A3.out).mono ?_); (case side1 => exact IsS111.iS0 HI676.out); (case side2 => exact wS1 HB.out (IsS111.ge HI676.out)); rintro e w8 ⟨rfl, hi, hb, hk⟩; refine ⟨_, rfl, ?_⟩; replace HB := aS (hb); replace HI676 := aS (hi); clear hi hb hk) | ((with_reducible refine gate_dst (N := 7) rfl ?_); refine box_event ?hg (N := 7) ?hd (cs := #[.string (⟨#[]⟩ : ByteArray), .int .i64 0, .int .i64 0, .int .i64 0, .string (⟨#[]⟩ : ByteArray), .string (⟨#[]⟩ : ByteArray)]) (t := 25) ?hr ?_; (case hd => rfl); (case hg => rfl); (case hr => first | (go_simp; done) | (go_simp; rfl)); intro gb685 hg w9 hbox hb; have BK685 := aS (hbox); have GW685 := aS ((by rw [hg]; exact (below_size (by exact wS1 HB.out (IsS111.ge HI676.out))) : w.heap.size ≤ gb685)); have GE685 := aS ((by rw [hg]; exact (below_size (by exact wS1 HB.out (IsS111.ge HI676.out))) : w.heap.size ≤ gb685)); replace HB := aS (below_step (by exact wS1 HB.out (IsS111.ge HI676.out)) hb); have NB676_685 := aS ((by rw [hg]; exact Nat.ne_of_lt (IsS111.lt (show IsS111 w _ g676 t673 t683 t684 from by exact IsS111.iS0 HI676.out)) : g676 ≠ gb685)); have NB685_676 := aS ((by rw [hg]; exact Nat.ne_of_gt (IsS111.lt (show IsS111 w _ g676 t673 t683 t684 from by exact IsS111.iS0 HI676.out)) : gb685 ≠ g676)); replace HI676 := aS (IsS111.below (IsS111.iS0 HI676.out) hb); clear hb hbox hg; have hnb10 := NB685_676.out; have hnc10 := NB676_685.out; have hcz11 := cells6f BK685.out) | ((with_reducible refine gate_callee (f := 14) rfl ?_); refine goesL_ (some 18) rfl rfl Tryd.func14 jK rfl #[.agg #[.string t677, .int .i64 t678, .int .i64 t679, .int .i64 t680, .string t681, .string t682]] rfl jA ?_; (with_reducible refine (spec_PutData.calls k t677 t678 t679 t680 t681 t682 t686 _ A4.out).mono ?_); rintro e w12 ⟨v687, rfl, ho0, hb⟩; refine ⟨_, rfl, ?_⟩; have HO688 := aS (Kd.R_lower ho0 (below_size (by exact wS2 HB.out (IsS111.ge HI676.out) GE685.out))); replace BK685 := aS (blk_below (g := gb685) (o := .cells #[.string t677, .int .i64 t678, .int .i64 t679, .int .i64 t680, .string t681, .string t682] 25 (0, 0)) (by (with_reducible repeat (first | refine blk_drewN ?_ _ | refine blk_drew ?_ | refine blk_alloc ?_ _)); refine blk_put_6 (.string (⟨#[]⟩ : ByteArray)) (.int .i64 0) (.int .i64 0) (.int .i64 0) (.string (⟨#[]⟩ : ByteArray)) (.string (⟨#[]⟩ : ByteArray)) ?_; exact bU BK685.out) hb); replace HB := aS (below_step (by exact wS2 HB.out (IsS111.ge HI676.out) GE685.out) hb); replace HI676 := aS (IsS111.below (show IsS111 w ((((((w9.setCell ⟨gb685, 0, none⟩ (.string t677)).setCell ⟨gb685, 1, none⟩ (.int .i64 t678)).setCell ⟨gb685, 2, none⟩ (.int .i64 t679)).setCell ⟨gb685, 3, none⟩ (.int .i64 t680)).setCell ⟨gb685, 4, none⟩ (.string t681)).setCell ⟨gb685, 5, none⟩ (.string t682)) g676 t673 t683 t684 from by exact IsS111.iS1 HI676.out NB676_685.out) hb); clear hb; (try clear ho0); obtain ⟨Ao13, co13, eo13⟩ := Kd.R_slice HO688.out; subst eo13; have hcz14 := cells6f BK685.out) | ((with_reducible refine gate_callee (f := 78) rfl ?_); refine goesL_ (some 24) rfl rfl Tryd.func78 jK rfl #[.pointer (some ⟨g676, 0, none⟩), .int .i64 8] rfl jA ?_; (with_reducible refine (spec_l1Below.calls g676 t673 t683 t684 8 t689 t690 t691 w _ ?side1 ?side2 A5.out).mono ?_); (case side1 => exact IsS111.iS1 HI676.out NB676_685.out); (case side2 => exact wS2 HB.out (IsS111.ge HI676.out) GE685.out); rintro e w15 ⟨rfl, hi, hb, hk⟩; refine ⟨_, rfl, ?_⟩; replace BK685 := aS (KeepBut.blk hk (g' := gb685) (o := .cells #[.string t677, .int .i64 t678, .int .i64 t679, .int .i64 t680, .string t681, .string t682] 25 (0, 0)) (bU BK685.out) NB685_676.out (by simp)); replace HO688 := aS (Kd.R_mono (Kd.R_keep (IsS111.apart (show IsS111 w _ g676 t673 t683 t684 from by exact IsS111.iS1 HI676.out NB676_685.out) (rU HO688.out) (by decide)) hk (fun _ h => h.2)) (fun _ h => h.1)); replace HB := aS (hb); replace HI676 := aS (hi); clear hi hb hk))
 (try simp only [Act.put, List.setIfInBounds_toArray, List.set_cons_zero, List.set_cons_succ])
 go_cut [9, 10] (fun v9 v10 wc => ∃ (kq : Nat) (x9_5 : Int) (x10_5 : Int) (x677001_5 : Int) (x677002_5 : Int), v9 = .int .i64 x9_5 ∧ v10 = .int .i64 x10_5 ∧ Aside0 (spec_DrawGetData.j0 kq t686 x9_5 x10_5 t673 x677001_5 x677002_5 = some (r1, r2, r3, r4)) ∧ Aside0 (kq ≤ k) ∧ Aside0 (Kd.R (Kd.int .u8) 5 wc w.heap.size (fun _ => True) (.slice Ao13 t686.length co13) t686) ∧ Aside0 (wc.heap[gb685]? = some (.cells #[.string t677, .int .i64 t678, .int .i64 t679, .int .i64 t680, .string t681, .string t682] 25 (0, 0))) ∧ Aside0 (IsS111 w wc g676 t673 x677001_5 x677002_5) ∧ Aside0 (Below w.heap.size w wc))
 case first =>
  have H := HC6.out
  clear HC6
  by_cases c16 : t689 = 0
  ·rw [if_pos c16] at H
   have c16b0 := beq_iff_eq.mpr c16
   have c16b1 := bne_eq_false_iff_eq.mpr c16
   clear c16
   (first | rw [c16b0] | (simp only [i64_w, i32_w]; rw [c16b0]) | skip)
   obtain ⟨y692, hy_⟩ : ∃ y_ : List Int, y_ = (([0, wrap64 ((t686.length : Int) - 1), wrap64 ((t686.length : Int) + 1), 255, 256, (-1)] : List Int)) := ⟨_, rfl⟩
   replace H : ((spec_l1Int.f t673 t690 t691 y692).bind fun bt695 => (spec_DrawGetData.j0 k t686 bt695.1 t678 t673 bt695.2.1 bt695.2.2)) = some (r1, r2, r3, r4) := jD
   have Ny692 := aS hy_
   clear hy_
   obtain ⟨⟨t695, t696, t697⟩, A17, H⟩ := bM H
   try dsimp only at H
   have H' := aS H
   clear H
   go_wp2_with (first | ((with_reducible refine gate_dst (N := 32) rfl ?_); refine Kd.R_lit (Kd.int .i64) _ 3 ?hg (N := 32) ?hd (xs := ([0, wrap64 ((t686.length : Int) - 1), wrap64 ((t686.length : Int) + 1), 255, 256, (-1)] : List Int)) (inner := [.int .i64 0, .int .i64 (wrap64 ((t686.length : Int) - 1)), .int .i64 (wrap64 ((t686.length : Int) + 1)), .int .i64 255, .int .i64 256, .int .i64 (-1)]) (ok := fun _ => True) (okp := fun _ => True) ?hr ?hp (fun _ hk => hk) trivial (Below.refl _ _) (Nat.le_refl _) (by simp) ?_; (case hd => rfl); (case hg => rfl); (case hr => first | (go_simp; done) | (go_simp; rfl)); (case hp => exact (Reps.one (show Kd.M (Kd.int .i64) _ _ _ 0 [.int .i64 0] from rfl) (Reps.one (show Kd.M (Kd.int .i64) _ _ _ (wrap64 ((t686.length : Int) - 1)) [.int .i64 (wrap64 ((t686.length : Int) - 1))] from rfl) (Reps.one (show Kd.M (Kd.int .i64) _ _ _ (wrap64 ((t686.length : Int) + 1)) [.int .i64 (wrap64 ((t686.length : Int) + 1))] from rfl) (Reps.one (show Kd.M (Kd.int .i64) _ _ _ 255 [.int .i64 255] from rfl) (Reps.one (show Kd.M (Kd.int .i64) _ _ _ 256 [.int .i64 256] from rfl) (Reps.one (show Kd.M (Kd.int .i64) _ _ _ (-1) [.int .i64 (-1)] from rfl) (Reps.none _ _)))))))); intro v693 w18 ho19 hb hg_ hnew_; clear hg_ hnew_; (first | rw [← Ny692.out] at ho19 | (simp only [Int.reduceToNat] at ho19; rw [← Ny692.out] at ho19)); replace HO688 := aS (Kd.R_below (rU HO688.out) hb); have HO694 := aS (Kd.R_lower ho19 (below_size (by exact wS2 HB.out (IsS111.ge HI676.out) GE685.out))); replace BK685 := aS (blk_below (bU BK685.out) hb); replace HB := aS (below_step (by exact wS2 HB.out (IsS111.ge HI676.out) GE685.out) hb); replace HI676 := aS (IsS111.below (IsS111.iS1 HI676.out NB676_685.out) hb); clear hb ho19; obtain ⟨Ao20, co20, eo20⟩ := Kd.R_slice HO694.out; subst eo20) | ((with_reducible refine gate_callee (f := 81) rfl ?_); refine goesL_ (some 33) rfl rfl Tryd.func81 jK rfl #[.pointer (some ⟨g676, 0, none⟩), .slice Ao20 y692.length co20] rfl jA ?_; (with_reducible refine (spec_l1Int.calls g676 t673 t690 t691 _ _ y692 t695 t696 t697 w _ ?side1 ?side2 ?side3 ?side4 ?side5 A17.out).mono ?_); (case side1 => exact IsS111.iS1 HI676.out NB676_685.out); (case side2 => exact wS2 HB.out (IsS111.ge HI676.out) GE685.out); (case side3 => exact cU ((Kd.R_reads' HO694.out).2.2)); (case side4 => exact (Kd.R_reads' HO694.out).2.1); (case side5 => exact far_slice (IsS111.own_ne HI676.out HO694.out (by decide))); rintro e w21 ⟨rfl, hi, hb, hk⟩; refine ⟨_, rfl, ?_⟩; replace BK685 := aS (KeepBut.blk hk (g' := gb685) (o := .cells #[.string t677, .int .i64 t678, .int .i64 t679, .int .i64 t680, .string t681, .string t682] 25 (0, 0)) (bU BK685.out) NB685_676.out (by simp)); replace HO688 := aS (Kd.R_mono (Kd.R_keep (IsS111.apart (show IsS111 w _ g676 t673 t690 t691 from by exact IsS111.iS1 HI676.out NB676_685.out) (rU HO688.out) (by decide)) hk (fun _ h => h.2)) (fun _ h => h.1)); replace HO694 := aS (Kd.R_mono (Kd.R_keep (IsS111.apart (show IsS111 w _ g676 t673 t690 t691 from by exact IsS111.iS1 HI676.out NB676_685.out) (rU HO694.out) (by decide)) hk (fun _ h => h.2)) (fun _ h => h.1)); replace HB := aS (hb); replace HI676 := aS (hi); clear hi hb hk))
   go_meet
   case rel => exact ⟨_, (t695), (t678), (t696), (t697), jB, jB, H', ⟨by first | omega | exact Nat.le_refl _⟩, ⟨by exact rU HO688.out⟩, ⟨by exact bU BK685.out⟩, ⟨by exact IsS111.iS1 HI676.out NB676_685.out⟩, ⟨by exact wS2 HB.out (IsS111.ge HI676.out) GE685.out⟩⟩
  ·rw [if_neg c16] at H
   have c16b0 := beq_eq_false_iff_ne.mpr c16
   have c16b1 := bne_iff_ne.mpr c16
   (first | rw [c16b0] | (simp only [i64_w, i32_w]; rw [c16b0]) | skip)
   by_cases c22 : t689 = 1
   ·rw [if_pos c22] at H
    have c22b0 := beq_iff_eq.mpr c22
    have c22b1 := bne_eq_false_iff_eq.mpr c22
    clear c22
    obtain ⟨y698, hy_⟩ : ∃ y_ : List Int, y_ = (([0, 1, 2, 3, 6, 16] : List Int)) := ⟨_, rfl⟩
    rw [← hy_] at H
    have Ny698 := aS hy_
    clear hy_
    obtain ⟨⟨t701, t702, t703⟩, A23, H⟩ := bM H
    try dsimp only at H
    have H' := aS H
    clear H
    go_wp2_with (first | ((with_reducible refine gate_dst (N := 37) rfl ?_); refine Kd.R_lit (Kd.int .i64) _ 3 ?hg (N := 37) ?hd (xs := ([0, 1, 2, 3, 6, 16] : List Int)) (inner := [.int .i64 0, .int .i64 1, .int .i64 2, .int .i64 3, .int .i64 6, .int .i64 16]) (ok := fun _ => True) (okp := fun _ => True) ?hr ?hp (fun _ hk => hk) trivial (Below.refl _ _) (Nat.le_refl _) (by simp) ?_; (case hd => rfl); (case hg => rfl); (case hr => first | (go_simp; done) | (go_simp; rfl)); (case hp => exact (Reps.one (show Kd.M (Kd.int .i64) _ _ _ 0 [.int .i64 0] from rfl) (Reps.one (show Kd.M (Kd.int .i64) _ _ _ 1 [.int .i64 1] from rfl) (Reps.one (show Kd.M (Kd.int .i64) _ _ _ 2 [.int .i64 2] from rfl) (Reps.one (show Kd.M (Kd.int .i64) _ _ _ 3 [.int .i64 3] from rfl) (Reps.one (show Kd.M (Kd.int .i64) _ _ _ 6 [.int .i64 6] from rfl) (Reps.one (show Kd.M (Kd.int .i64) _ _ _ 16 [.int .i64 16] from rfl) (Reps.none _ _)))))))); intro v699 w24 ho25 hb hg_ hnew_; clear hg_ hnew_; (first | rw [← Ny698.out] at ho25 | (simp only [Int.reduceToNat] at ho25; rw [← Ny698.out] at ho25)); replace HO688 := aS (Kd.R_below (rU HO688.out) hb); have HO700 := aS (Kd.R_lower ho25 (below_size (by exact wS2 HB.out (IsS111.ge HI676.out) GE685.out))); replace BK685 := aS (blk_below (bU BK685.out) hb); replace HB := aS (below_step (by exact wS2 HB.out (IsS111.ge HI676.out) GE685.out) hb); replace HI676 := aS (IsS111.below (IsS111.iS1 HI676.out NB676_685.out) hb); clear hb ho25; obtain ⟨Ao26, co26, eo26⟩ := Kd.R_slice HO700.out; subst eo26) | ((with_reducible refine gate_callee (f := 81) rfl ?_); refine goesL_ (some 38) rfl rfl Tryd.func81 jK rfl #[.pointer (some ⟨g676, 0, none⟩), .slice Ao26 y698.length co26] rfl jA ?_; (with_reducible refine (spec_l1Int.calls g676 t673 t690 t691 _ _ y698 t701 t702 t703 w _ ?side1 ?side2 ?side3 ?side4 ?side5 A23.out).mono ?_); (case side1 => exact IsS111.iS1 HI676.out NB676_685.out); (case side2 => exact wS2 HB.out (IsS111.ge HI676.out) GE685.out); (case side3 => exact cU ((Kd.R_reads' HO700.out).2.2)); (case side4 => exact (Kd.R_reads' HO700.out).2.1); (case side5 => exact far_slice (IsS111.own_ne HI676.out HO700.out (by decide))); rintro e w27 ⟨rfl, hi, hb, hk⟩; refine ⟨_, rfl, ?_⟩; replace BK685 := aS (KeepBut.blk hk (g' := gb685) (o := .cells #[.string t677, .int .i64 t678, .int .i64 t679, .int .i64 t680, .string t681, .string t682] 25 (0, 0)) (bU BK685.out) NB685_676.out (by simp)); replace HO688 := aS (Kd.R_mono (Kd.R_keep (IsS111.apart (show IsS111 w _ g676 t673 t690 t691 from by exact IsS111.iS1 HI676.out NB676_685.out) (rU HO688.out) (by decide)) hk (fun _ h => h.2)) (fun _ h => h.1)); replace HO700 := aS (Kd.R_mono (Kd.R_keep (IsS111.apart (show IsS111 w _ g676 t673 t690 t691 from by exact IsS111.iS1 HI676.out NB676_685.out) (rU HO700.out) (by decide)) hk (fun _ h => h.2)) (fun _ h => h.1)); replace HB := aS (hb); replace HI676 := aS (hi); clear hi hb hk))
    go_meet
    case rel => exact ⟨_, ((t686.length : Int)), (t701), (t702), (t703), jB, jB, H', ⟨by first | omega | exact Nat.le_refl _⟩, ⟨by exact rU HO688.out⟩, ⟨by exact bU BK685.out⟩, ⟨by exact IsS111.iS1 HI676.out NB676_685.out⟩, ⟨by exact wS2 HB.out (IsS111.ge HI676.out) GE685.out⟩⟩
   ·rw [if_neg c22] at H
    have c22b0 := beq_eq_false_iff_ne.mpr c22
    have c22b1 := bne_iff_ne.mpr c22
    have H' := aS H
    clear H
    go_wp2
    go_meet
    case rel => exact ⟨_, ((t686.length : Int)), (t678), (t690), (t691), jB, jB, H', ⟨by first | omega | exact Nat.le_refl _⟩, ⟨by exact rU HO688.out⟩, ⟨by exact bU BK685.out⟩, ⟨by exact IsS111.iS1 HI676.out NB676_685.out⟩, ⟨by exact wS2 HB.out (IsS111.ge HI676.out) GE685.out⟩⟩
 case rest =>
  clear HC6
  try clear c1
  try clear c2
  try clear p2
  try clear c5
  try clear p6
  try clear c7
  try clear c8
  try clear c10
  try clear c14
  try clear c16
  try clear c16b0
  try clear c16b1
  try clear c22
  try clear c22b0
  try clear c22b1
  try clear c25
  try clear hcz11
  try clear hcz14
  obtain ⟨kq, x9_5, x10_5, x677001_5, x677002_5, rfl, rfl, HA, HJ5, HO_8, BK685, HI676, HB⟩ := hcut
  cases kq with
  | zero => exact absurd HA.out (by simp [spec_DrawGetData.j0])
  | succ kj5 =>
   have H := HA.out
   clear HA
   simp only [spec_DrawGetData.j0] at H
   obtain ⟨y704, hy_⟩ : ∃ y_ : List Int, y_ = (([] : List Int)) := ⟨_, rfl⟩
   replace H : ((spec_l3Name.f t673 x677001_5 x677002_5).bind fun bt707 => ((spec_PutPlain.f kj5 y704 bt707.1).bind fun t710 => (if t710.length + t686.length < 140737488355328 then ((some (t710 ++ t686 : List Int)).bind fun y713 => ((spec_l1Once.f t673 bt707.2.1 bt707.2.2 5).bind fun bt716 => (if bt716.1 = true then (if 0 ≤ (wrap64 ((y713.length : Int) - (t686.length : Int))) then (if (wrap64 ((y713.length : Int) - (t686.length : Int))) ≤ (y713.length : Int) then ((some (y713.take ((wrap64 ((y713.length : Int) - (t686.length : Int))) : Int).toNat : List Int)).bind fun y719 => ((some (([192, 0] : List Int) : List Int)).bind fun y722 => (if y719.length + y722.length < 140737488355328 then ((spec_l1Bent.f t673 bt716.2.1 bt716.2.2 (y719 ++ y722)).bind fun bt728 => (some (bt728.1, wrap64 ((y713.length : Int) - (t686.length : Int)), 2, x10_5))) else (none)))) else (none)) else (none)) else ((spec_l1Bent.f t673 bt716.2.1 bt716.2.2 y713).bind fun bt733 => (some (bt733.1, wrap64 ((y713.length : Int) - (t686.length : Int)), x9_5, x10_5)))))) else (none)))) = some (r1, r2, r3, r4) := jD
   have Ny704 := aS hy_
   clear hy_
   obtain ⟨⟨t707, t708, t709⟩, A28, H⟩ := bM H
   try dsimp only at H
   obtain ⟨t710, A29, H⟩ := bM H
   try dsimp only at H
   by_cases c30 : t710.length + t686.length < 140737488355328
   ·rw [if_pos c30] at H
    have LMc30 := aS c30
    clear c30
    obtain ⟨y713, hy_⟩ : ∃ y_ : List Int, y_ = (t710 ++ t686) := ⟨_, rfl⟩
    replace H : ((spec_l1Once.f t673 t708 t709 5).bind fun bt716 => (if bt716.1 = true then (if 0 ≤ (wrap64 ((y713.length : Int) - (t686.length : Int))) then (if (wrap64 ((y713.length : Int) - (t686.length : Int))) ≤ (y713.length : Int) then ((some (y713.take ((wrap64 ((y713.length : Int) - (t686.length : Int))) : Int).toNat : List Int)).bind fun y719 => ((some (([192, 0] : List Int) : List Int)).bind fun y722 => (if y719.length + y722.length < 140737488355328 then ((spec_l1Bent.f t673 bt716.2.1 bt716.2.2 (y719 ++ y722)).bind fun bt728 => (some (bt728.1, wrap64 ((y713.length : Int) - (t686.length : Int)), 2, x10_5))) else (none)))) else (none)) else (none)) else ((spec_l1Bent.f t673 bt716.2.1 bt716.2.2 y713).bind fun bt733 => (some (bt733.1, wrap64 ((y713.length : Int) - (t686.length : Int)), x9_5, x10_5))))) = some (r1, r2, r3, r4) := jD
    have Ny713 := aS hy_
    clear hy_
    obtain ⟨⟨t716, t717, t718⟩, A31, H⟩ := bM H
    try dsimp only at H
    have HC32 := aS H
    clear H
    go_upto_if 51 with (first | ((with_reducible refine gate_dst (N := 39) rfl ?_); refine Kd.R_lit (Kd.int .u8) _ 5 ?hg (N := 39) ?hd (xs := ([] : List Int)) (inner := []) (ok := fun _ => True) (okp := fun _ => True) ?hr ?hp (fun _ hk => hk) trivial (Below.refl _ _) (Nat.le_refl _) (by simp) ?_; (case hd => rfl); (case hg => rfl); (case hr => first | (go_simp; done) | (go_simp; rfl)); (case hp => exact (Reps.none _ _)); intro v705 w33 ho34 hb hg_ hnew_; clear hg_ hnew_; (first | rw [← Ny704.out] at ho34 | (simp only [Int.reduceToNat] at ho34; rw [← Ny704.out] at ho34)); have HO706 := aS (Kd.R_lower (Kd.R_new' ho34 (Kd.R_lt (rU HO_8.out))) (below_size (by exact wS2 HB.out (IsS111.ge HI676.out) GE685.out))); replace HO_8 := aS (Kd.R_elder' (rU HO_8.out) (Kd.R_base ho34) hb); replace BK685 := aS (blk_below (bU BK685.out) hb); replace HB := aS (below_step (by exact wS2 HB.out (IsS111.ge HI676.out) GE685.out) hb); replace HI676 := aS (IsS111.below (IsS111.iS1 HI676.out NB676_685.out) hb); clear hb ho34) | ((with_reducible refine gate_callee (f := 85) rfl ?_); refine goesL_ (some 41) rfl rfl Tryd.func85 jK rfl #[.pointer (some ⟨g676, 0, none⟩)] rfl jA ?_; (with_reducible refine (spec_l3Name.calls g676 t673 x677001_5 x677002_5 t707 t708 t709 w _ ?side1 ?side2 A28.out).mono ?_); (case side1 => exact IsS111.iS1 HI676.out NB676_685.out); (case side2 => exact wS2 HB.out (IsS111.ge HI676.out) GE685.out); rintro e w35 ⟨rfl, hi, hb, hk⟩; refine ⟨_, rfl, ?_⟩; replace HO_8 := aS (Kd.R_mono (Kd.R_keep (IsS111.apart (show IsS111 w _ g676 t673 x677001_5 x677002_5 from by exact IsS111.iS1 HI676.out NB676_685.out) (rU HO_8.out) (by decide)) hk (fun _ h => h.2)) (fun _ h => h.1)); replace BK685 := aS (KeepBut.blk hk (g' := gb685) (o := .cells #[.string t677, .int .i64 t678, .int .i64 t679, .int .i64 t680, .string t681, .string t682] 25 (0, 0)) (bU BK685.out) NB685_676.out (by simp)); replace HO706 := aS (Kd.R_mono (Kd.R_keep (IsS111.apart (show IsS111 w _ g676 t673 x677001_5 x677002_5 from by exact IsS111.iS1 HI676.out NB676_685.out) (rU HO706.out) (by decide)) hk (fun _ h => h.2)) (fun _ h => h.1)); replace HB := aS (hb); replace HI676 := aS (hi); clear hi hb hk; obtain ⟨Ao36, co36, eo36⟩ := Kd.R_slice HO706.out; subst eo36) | ((with_reducible refine gate_callee (f := 66) rfl ?_); refine goesL_ (some 42) rfl rfl Tryd.func66 jK rfl #[.slice Ao36 y704.length co36, .string t707] rfl jA ?_; (with_reducible refine (spec_PutPlain.calls kj5 _ _ y704 t707 t710 _ ?side1 ?side2 A29.out).mono ?_); (case side1 => exact cU ((Kd.R_reads' HO706.out).2.2)); (case side2 => exact (Kd.R_reads' HO706.out).2.1); rintro e w37 ⟨v711, rfl, ho0, hb⟩; refine ⟨_, rfl, ?_⟩; have HO712 := aS (Kd.R_lower (Kd.R_new' (Kd.R_new' ho0 (Kd.R_lt (rU HO_8.out))) (Kd.R_lt (rU HO706.out))) (below_size (by exact wS2 HB.out (IsS111.ge HI676.out) GE685.out))); replace HO_8 := aS (Kd.R_elder' (rU HO_8.out) (Kd.R_base ho0) hb); replace HO706 := aS (Kd.R_elder' (rU HO706.out) (Kd.R_base ho0) hb); replace BK685 := aS (blk_below (bU BK685.out) hb); replace HB := aS (below_step (by exact wS2 HB.out (IsS111.ge HI676.out) GE685.out) hb); replace HI676 := aS (IsS111.below (IsS111.iS1 HI676.out NB676_685.out) hb); clear hb; (try clear ho0)) | ((with_reducible refine gate_builtin (b := .append) (xs := #[.tmp 42, .tmp 43]) rfl ?_); at_builtin; refine Kd.R_append_rows (Kd.int .u8) (w0 := w) w.heap.size rfl (.tmp 42) (.tmp 43) 22 5 (.int .u8 0) 1 rfl Tryd.underlying22 info5 rfl (by decide) (by omega) v711 t710 t686 _ _ _ (fun k_ => some k_ ≠ (.slice Ao13 t686.length co13 : Value).ownBlock ∧ some k_ ≠ (.slice Ao36 y704.length co36 : Value).ownBlock) (fun _ => False) rfl rfl ?aO ?aR (fun _ _ h => h) (fun _ h => h.elim) ?aF ?aB ?aS ?aL ?_; (case aR => exact cU ((Kd.R_reads' HO_8.out).2.2)); (case aB => exact (by exact wS2 HB.out (IsS111.ge HI676.out) GE685.out)); (case aF => exact (fun k_ hk => ⟨Kd.fresh' (Kd.R_lt (rU HO_8.out)) k_ hk, Kd.fresh' (Kd.R_lt (rU HO706.out)) k_ hk⟩)); (case aO => exact (by (with_reducible repeat (first | apply Kd.R_alloc | apply Kd.R_drewN | apply Kd.R_drew)); exact Kd.R_mono HO712.out (fun _ hk => ⟨hk.1.2, hk.2⟩))); (case aS => exact (below_size (by exact wS2 HB.out (IsS111.ge HI676.out) GE685.out))); (case aL => have := LMc30.out; omega); intro v714 w38 ho hb hg hat; rw [← Ny713.out] at ho; replace HO_8 := aS (Kd.R_after (ok := (fun k_ => some k_ ≠ (.slice Ao36 y704.length co36 : Value).ownBlock)) (by (with_reducible repeat (first | apply Kd.R_alloc | apply Kd.R_drewN | apply Kd.R_drew)); exact Kd.R_mono HO_8.out (fun _ hk => ⟨hk.1.2, hk.2⟩)) hg hat); replace BK685 := aS (blk_grown (g := gb685) (o := .cells #[.string t677, .int .i64 t678, .int .i64 t679, .int .i64 t680, .string t681, .string t682] 25 (0, 0)) (bU BK685.out) hg (Kd.R_ne HO712.out BK685.out (by decide))); replace HI676 := aS (IsS111.grown (IsS111.iS1 HI676.out NB676_685.out) hg (IsS111.own_ne HI676.out HO712.out (by decide))); replace HO706 := aS (Kd.R_after (ok := (fun k_ => some k_ ≠ (.slice Ao13 t686.length co13 : Value).ownBlock)) (by (with_reducible repeat (first | apply Kd.R_alloc | apply Kd.R_drewN | apply Kd.R_drew)); exact Kd.R_mono HO706.out (fun _ hk => ⟨hk.1.2, hk.2⟩)) hg hat); replace HB := aS (hb); have HO715 := aS (ho); clear HO712; clear ho hb hg hat; obtain ⟨Ao39, co39, eo39⟩ := Kd.R_slice HO715.out; subst eo39) | ((with_reducible refine gate_callee (f := 76) rfl ?_); refine goesL_ (some 51) rfl rfl Tryd.func76 jK rfl #[.pointer (some ⟨g676, 0, none⟩), .int .i64 5] rfl jA ?_; (with_reducible refine (spec_l1Once.calls g676 t673 t708 t709 5 t716 t717 t718 w _ ?side1 ?side2 A31.out).mono ?_); (case side1 => exact IsS111.iS1 HI676.out NB676_685.out); (case side2 => exact wS2 HB.out (IsS111.ge HI676.out) GE685.out); rintro e w40 ⟨rfl, hi, hb, hk⟩; refine ⟨_, rfl, ?_⟩; replace HO_8 := aS (Kd.R_mono (Kd.R_keep (IsS111.apart (show IsS111 w _ g676 t673 t708 t709 from by exact IsS111.iS1 HI676.out NB676_685.out) (rU HO_8.out) (by decide)) hk (fun _ h => h.2)) (fun _ h => h.1)); replace BK685 := aS (KeepBut.blk hk (g' := gb685) (o := .cells #[.string t677, .int .i64 t678, .int .i64 t679, .int .i64 t680, .string t681, .string t682] 25 (0, 0)) (bU BK685.out) NB685_676.out (by simp)); replace HO706 := aS (Kd.R_mono (Kd.R_keep (IsS111.apart (show IsS111 w _ g676 t673 t708 t709 from by exact IsS111.iS1 HI676.out NB676_685.out) (rU HO706.out) (by decide)) hk (fun _ h => h.2)) (fun _ h => h.1)); replace HO715 := aS (Kd.R_mono (Kd.R_keep (IsS111.apart (show IsS111 w _ g676 t673 t708 t709 from by exact IsS111.iS1 HI676.out NB676_685.out) (rU HO715.out) (by decide)) hk (fun _ h => h.2)) (fun _ h => h.1)); replace HB := aS (hb); replace HI676 := aS (hi); clear hi hb hk))
    (try simp only [Act.put, List.setIfInBounds_toArray, List.set_cons_zero, List.set_cons_succ])
    have H := HC32.out
    clear HC32
    by_cases c41 : t716 = true
    ·subst c41
     rw [if_pos rfl] at H
     obtain ⟨ji42, hji42⟩ : ∃ j_ : Int, (wrap64 ((y713.length : Int) - (t686.length : Int))) = j_ := ⟨_, rfl⟩
     replace H : (if 0 ≤ (ji42) then (if (ji42) ≤ (y713.length : Int) then ((some (y713.take ((ji42) : Int).toNat : List Int)).bind fun y719 => ((some (([192, 0] : List Int) : List Int)).bind fun y722 => (if y719.length + y722.length < 140737488355328 then ((spec_l1Bent.f t673 t717 t718 (y719 ++ y722)).bind fun bt728 => (some (bt728.1, ji42, 2, x10_5))) else (none)))) else (none)) else (none)) = some (r1, r2, r3, r4) := by first | (rw [hji42] at H; exact H) | (simp only [hji42] at H ⊢; exact H)
     have hji42w : (IntKind.i64.wrap ((y713.length : Int) - (t686.length : Int))) = ji42 := (i64_w _).trans hji42
     by_cases c43 : 0 ≤ (ji42)
     ·rw [if_pos c43] at H
      have c43b0 := eq_true c43
      have c43b1 := decide_eq_true c43
      clear c43
      by_cases c44 : (ji42) ≤ (y713.length : Int)
      ·rw [if_pos c44] at H
       have c44b0 := eq_true c44
       have c44b1 := decide_eq_true c44
       clear c44
       obtain ⟨y719, hy_⟩ : ∃ y_ : List Int, y_ = (y713.take ((ji42) : Int).toNat) := ⟨_, rfl⟩
       replace H : ((some (([192, 0] : List Int) : List Int)).bind fun y722 => (if y719.length + y722.length < 140737488355328 then ((spec_l1Bent.f t673 t717 t718 (y719 ++ y722)).bind fun bt728 => (some (bt728.1, ji42, 2, x10_5))) else (none))) = some (r1, r2, r3, r4) := jD
       have Ny719 := aS hy_
       clear hy_
       obtain ⟨y722, hy_⟩ : ∃ y_ : List Int, y_ = (([192, 0] : List Int)) := ⟨_, rfl⟩
       replace H : (if y719.length + y722.length < 140737488355328 then ((spec_l1Bent.f t673 t717 t718 (y719 ++ y722)).bind fun bt728 => (some (bt728.1, ji42, 2, x10_5))) else (none)) = some (r1, r2, r3, r4) := jD
       have Ny722 := aS hy_
       clear hy_
       by_cases c45 : y719.length + y722.length < 140737488355328
       ·rw [if_pos c45] at H
        have LMc45 := aS c45
        clear c45
        obtain ⟨y725, hy_⟩ : ∃ y_ : List Int, y_ = (y719 ++ y722) := ⟨_, rfl⟩
        replace H : ((spec_l1Bent.f t673 t717 t718 y725).bind fun bt728 => (some (bt728.1, ji42, 2, x10_5))) = some (r1, r2, r3, r4) := jD
        have Ny725 := aS hy_
        clear hy_
        obtain ⟨⟨t728, t731, t732⟩, A46, H⟩ := bM H
        try dsimp only at H
        simp only [Option.some.injEq, Prod.mk.injEq] at H
        obtain ⟨rfl, rfl, rfl, rfl⟩ := H
        have q47 : ((ji42) : Int) ≤ ((y713.length : Int) : Int) := of_decide_eq_true jC
        obtain ⟨i047, hi047, _, hsz47, _⟩ := info_parts info5
        have hcut47 := cut_to (P := Tryd.prog) 22 5 .i64 Tryd.underlying22 hi047 Ao39 y713.length co39 (ji42) (of_decide_eq_true jC) q47 (Kd.R_reads' HO715.out).2.1
        have hr47 := Kd.R_take (m := ((ji42) : Int).toNat) HO715.out (by omega)
        have hy47 : y719.length = ((ji42) : Int).toNat := (by rw [Ny719.out, List.length_take]; omega)
        rw [← Ny719.out] at hr47
        rw [← hy47] at hr47 hcut47
        clear hy47 hi047 hsz47 HO715
        have HO721 := aS hr47
        clear hr47
        replace q47 := eq_true q47
        go_wp2_with (first | ((with_reducible refine gate_dst (N := 55) rfl ?_); refine Kd.R_lit (Kd.int .u8) _ 5 ?hg (N := 55) ?hd (xs := ([192, 0] : List Int)) (inner := [.int .u8 192, .int .u8 0]) (ok := fun _ => True) (okp := fun _ => True) ?hr ?hp (fun _ hk => hk) trivial (Below.refl _ _) (Nat.le_refl _) (by simp) ?_; (case hd => rfl); (case hg => rfl); (case hr => first | (go_simp; done) | (go_simp; rfl)); (case hp => exact (Reps.one (show Kd.M (Kd.int .u8) _ _ _ 192 [.int .u8 192] from rfl) (Reps.one (show Kd.M (Kd.int .u8) _ _ _ 0 [.int .u8 0] from rfl) (Reps.none _ _)))); intro v723 w48 ho49 hb hg_ hnew_; clear hg_ hnew_; (first | rw [← Ny722.out] at ho49 | (simp only [Int.reduceToNat] at ho49; rw [← Ny722.out] at ho49)); have HO724 := aS (Kd.R_lower (Kd.R_new' (Kd.R_new' (Kd.R_new' ho49 (Kd.R_lt (rU HO_8.out))) (Kd.R_lt (rU HO706.out))) (Kd.R_lt (rU HO721.out))) (below_size (by exact wS2 HB.out (IsS111.ge HI676.out) GE685.out))); replace HO_8 := aS (Kd.R_elder' (rU HO_8.out) (Kd.R_base ho49) hb); replace HO706 := aS (Kd.R_elder' (rU HO706.out) (Kd.R_base ho49) hb); replace HO721 := aS (Kd.R_elder' (rU HO721.out) (Kd.R_base ho49) hb); replace BK685 := aS (blk_below (bU BK685.out) hb); replace HB := aS (below_step (by exact wS2 HB.out (IsS111.ge HI676.out) GE685.out) hb); replace HI676 := aS (IsS111.below (IsS111.iS1 HI676.out NB676_685.out) hb); clear hb ho49; obtain ⟨Ao51, co51, eo51⟩ := Kd.R_slice HO724.out; subst eo51) | ((with_reducible refine gate_builtin (b := .append) (xs := #[.tmp 54, .tmp 55]) rfl ?_); at_builtin; refine Kd.R_append_rows (Kd.int .u8) (w0 := w) w.heap.size rfl (.tmp 54) (.tmp 55) 22 5 (.int .u8 0) 1 rfl Tryd.underlying22 info5 rfl (by decide) (by omega) (.slice Ao39 y719.length co39) y719 y722 _ _ _ (fun k_ => some k_ ≠ (.slice Ao13 t686.length co13 : Value).ownBlock ∧ some k_ ≠ (.slice Ao36 y704.length co36 : Value).ownBlock ∧ some k_ ≠ (.slice Ao51 y722.length co51 : Value).ownBlock) (fun _ => False) rfl rfl ?aO ?aR (fun _ _ h => h) (fun _ h => h.elim) ?aF ?aB ?aS ?aL ?_; (case aR => exact cU ((Kd.R_reads' HO724.out).2.2)); (case aB => exact (by exact wS2 HB.out (IsS111.ge HI676.out) GE685.out)); (case aF => exact (fun k_ hk => ⟨Kd.fresh' (Kd.R_lt (rU HO_8.out)) k_ hk, Kd.fresh' (Kd.R_lt (rU HO706.out)) k_ hk, Kd.fresh' (Kd.R_lt (rU HO724.out)) k_ hk⟩)); (case aO => exact (by (with_reducible repeat (first | apply Kd.R_alloc | apply Kd.R_drewN | apply Kd.R_drew)); exact Kd.R_mono HO721.out (fun _ hk => ⟨hk.1.1, ⟨hk.1.2, hk.2⟩⟩))); (case aS => exact (below_size (by exact wS2 HB.out (IsS111.ge HI676.out) GE685.out))); (case aL => have := LMc45.out; omega); intro v726 w50 ho hb hg hat; rw [← Ny725.out] at ho; replace HO_8 := aS (Kd.R_after (ok := (fun k_ => some k_ ≠ (.slice Ao36 y704.length co36 : Value).ownBlock ∧ some k_ ≠ (.slice Ao51 y722.length co51 : Value).ownBlock)) (by (with_reducible repeat (first | apply Kd.R_alloc | apply Kd.R_drewN | apply Kd.R_drew)); exact Kd.R_mono HO_8.out (fun _ hk => ⟨⟨hk.1.1, hk.2⟩, oW hk.1.2⟩)) hg hat); replace BK685 := aS (blk_grown (g := gb685) (o := .cells #[.string t677, .int .i64 t678, .int .i64 t679, .int .i64 t680, .string t681, .string t682] 25 (0, 0)) (bU BK685.out) hg (Kd.R_ne HO721.out BK685.out (by decide))); replace HI676 := aS (IsS111.grown (IsS111.iS1 HI676.out NB676_685.out) hg (IsS111.own_ne HI676.out HO721.out (by decide))); replace HO706 := aS (Kd.R_after (ok := (fun k_ => some k_ ≠ (.slice Ao13 t686.length co13 : Value).ownBlock ∧ some k_ ≠ (.slice Ao51 y722.length co51 : Value).ownBlock)) (by (with_reducible repeat (first | apply Kd.R_alloc | apply Kd.R_drewN | apply Kd.R_drew)); exact Kd.R_mono HO706.out (fun _ hk => ⟨⟨hk.1.1, hk.2⟩, oW hk.1.2⟩)) hg hat); replace HO724 := aS (Kd.R_after (ok := (fun k_ => some k_ ≠ (.slice Ao13 t686.length co13 : Value).ownBlock ∧ some k_ ≠ (.slice Ao36 y704.length co36 : Value).ownBlock)) (by (with_reducible repeat (first | apply Kd.R_alloc | apply Kd.R_drewN | apply Kd.R_drew)); exact Kd.R_mono HO724.out (fun _ hk => ⟨⟨hk.1.1.2, hk.1.2⟩, hk.2⟩)) hg hat); replace HB := aS (hb); have HO727 := aS (ho); clear HO721; clear ho hb hg hat; obtain ⟨Ao52, co52, eo52⟩ := Kd.R_slice HO727.out; subst eo52) | ((with_reducible refine gate_callee (f := 80) rfl ?_); refine goesL_ (some 59) rfl rfl Tryd.func80 jK rfl #[.pointer (some ⟨g676, 0, none⟩), .slice Ao52 y725.length co52] rfl jA ?_; (with_reducible refine (spec_l1Bent.calls g676 t673 t717 t718 _ _ y725 t728 t731 t732 w _ ?side1 ?side2 ?side3 ?side4 ?side5 A46.out).mono ?_); (case side1 => exact IsS111.iS1 HI676.out NB676_685.out); (case side2 => exact wS2 HB.out (IsS111.ge HI676.out) GE685.out); (case side3 => exact cU ((Kd.R_reads' HO727.out).2.2)); (case side4 => exact (Kd.R_reads' HO727.out).2.1); (case side5 => exact far_slice (IsS111.own_ne HI676.out HO727.out (by decide))); rintro e w53 ⟨v729, rfl, ho0, hi, hb, hk⟩; refine ⟨_, rfl, ?_⟩; replace BK685 := aS (KeepBut.blk hk (g' := gb685) (o := .cells #[.string t677, .int .i64 t678, .int .i64 t679, .int .i64 t680, .string t681, .string t682] 25 (0, 0)) (bU BK685.out) NB685_676.out (by simp)); have HO730 := aS (Kd.R_lower (Kd.R_new' (Kd.R_new' (Kd.R_new' (Kd.R_new' ho0 (Kd.R_lt (rU HO_8.out))) (Kd.R_lt (rU HO706.out))) (Kd.R_lt (rU HO724.out))) (Kd.R_lt (rU HO727.out))) (below_size (by exact wS2 HB.out (IsS111.ge HI676.out) GE685.out))); replace HO_8 := aS (Kd.R_mono (Kd.R_told (Kd.R_oldK (IsS111.apart (show IsS111 w _ g676 t673 t717 t718 from by exact IsS111.iS1 HI676.out NB676_685.out) (rU HO_8.out) (by decide)) hk) (Kd.R_base ho0)) (fun _ h_ => h_.1)); replace HO706 := aS (Kd.R_mono (Kd.R_told (Kd.R_oldK (IsS111.apart (show IsS111 w _ g676 t673 t717 t718 from by exact IsS111.iS1 HI676.out NB676_685.out) (rU HO706.out) (by decide)) hk) (Kd.R_base ho0)) (fun _ h_ => h_.1)); replace HO724 := aS (Kd.R_mono (Kd.R_told (Kd.R_oldK (IsS111.apart (show IsS111 w _ g676 t673 t717 t718 from by exact IsS111.iS1 HI676.out NB676_685.out) (rU HO724.out) (by decide)) hk) (Kd.R_base ho0)) (fun _ h_ => h_.1)); replace HO727 := aS (Kd.R_mono (Kd.R_told (Kd.R_oldK (IsS111.apart (show IsS111 w _ g676 t673 t717 t718 from by exact IsS111.iS1 HI676.out NB676_685.out) (rU HO727.out) (by decide)) hk) (Kd.R_base ho0)) (fun _ h_ => h_.1)); replace HB := aS (hb); replace HI676 := aS (hi); clear hi hb hk; (try clear ho0)))
        refine bodyPost_ret (results_list (rs := [.tmp 2, .tmp 3, .tmp 4, .tmp 5]) rfl (by simp) (.tmp (.tmp (.tmp (.tmp .nil))))) rfl ?_
        exact ⟨_, by first | rfl | (simp [errW_none, errW_some] <;> rfl) | (simp only [← hji42]; first | rfl | (simp [errW_none, errW_some] <;> rfl)) | (simp [*, errW_none, errW_some] <;> rfl), Kd.R_mono (rU HO730.out) (fun _ hk => trivial), by exact wS2 HB.out (IsS111.ge HI676.out) GE685.out⟩
       ·rw [if_neg c45] at H
        exact absurd H (by simp)
      ·rw [if_neg c44] at H
       exact absurd H (by simp)
     ·rw [if_neg c43] at H
      exact absurd H (by simp)
    ·replace c41 := Bool.eq_false_iff.mpr c41
     subst c41
     rw [if_neg Bool.false_ne_true] at H
     obtain ⟨⟨t733, t736, t737⟩, A54, H⟩ := bM H
     try dsimp only at H
     simp only [Option.some.injEq, Prod.mk.injEq] at H
     obtain ⟨rfl, rfl, rfl, rfl⟩ := H
     go_wp2_with (first | ((with_reducible refine gate_callee (f := 80) rfl ?_); refine goesL_ (some 59) rfl rfl Tryd.func80 jK rfl #[.pointer (some ⟨g676, 0, none⟩), .slice Ao39 y713.length co39] rfl jA ?_; (with_reducible refine (spec_l1Bent.calls g676 t673 t717 t718 _ _ y713 t733 t736 t737 w _ ?side1 ?side2 ?side3 ?side4 ?side5 A54.out).mono ?_); (case side1 => exact IsS111.iS1 HI676.out NB676_685.out); (case side2 => exact wS2 HB.out (IsS111.ge HI676.out) GE685.out); (case side3 => exact cU ((Kd.R_reads' HO715.out).2.2)); (case side4 => exact (Kd.R_reads' HO715.out).2.1); (case side5 => exact far_slice (IsS111.own_ne HI676.out HO715.out (by decide))); rintro e w55 ⟨v734, rfl, ho0, hi, hb, hk⟩; refine ⟨_, rfl, ?_⟩; replace BK685 := aS (KeepBut.blk hk (g' := gb685) (o := .cells #[.string t677, .int .i64 t678, .int .i64 t679, .int .i64 t680, .string t681, .string t682] 25 (0, 0)) (bU BK685.out) NB685_676.out (by simp)); have HO735 := aS (Kd.R_lower (Kd.R_new' (Kd.R_new' (Kd.R_new' ho0 (Kd.R_lt (rU HO_8.out))) (Kd.R_lt (rU HO706.out))) (Kd.R_lt (rU HO715.out))) (below_size (by exact wS2 HB.out (IsS111.ge HI676.out) GE685.out))); replace HO_8 := aS (Kd.R_mono (Kd.R_told (Kd.R_oldK (IsS111.apart (show IsS111 w _ g676 t673 t717 t718 from by exact IsS111.iS1 HI676.out NB676_685.out) (rU HO_8.out) (by decide)) hk) (Kd.R_base ho0)) (fun _ h_ => h_.1)); replace HO706 := aS (Kd.R_mono (Kd.R_told (Kd.R_oldK (IsS111.apart (show IsS111 w _ g676 t673 t717 t718 from by exact IsS111.iS1 HI676.out NB676_685.out) (rU HO706.out) (by decide)) hk) (Kd.R_base ho0)) (fun _ h_ => h_.1)); replace HO715 := aS (Kd.R_mono (Kd.R_told (Kd.R_oldK (IsS111.apart (show IsS111 w _ g676 t673 t717 t718 from by exact IsS111.iS1 HI676.out NB676_685.out) (rU HO715.out) (by decide)) hk) (Kd.R_base ho0)) (fun _ h_ => h_.1)); replace HB := aS (hb); replace HI676 := aS (hi); clear hi hb hk; (try clear ho0)))
     refine bodyPost_ret (results_list (rs := [.tmp 2, .tmp 3, .tmp 4, .tmp 5]) rfl (by simp) (.tmp (.tmp (.tmp (.tmp .nil))))) rfl ?_
     exact ⟨_, jE, Kd.R_mono (rU HO735.out) (fun _ hk => trivial), by exact wS2 HB.out (IsS111.ge HI676.out) GE685.out⟩
   ·rw [if_neg c30] at H
    exact absurd H (by simp)

/-! ### spec_PutRecords: function 20 -/
def spec_PutRecords.l0 : Nat → List (S25) → List Int → Int → Option (List Int)
 | 0, _, _, _ => none
 | k + 1, x1, x5, x6 => if x6 < (x1.length : Int) then (if 0 ≤ x6 then ((spec_PutRecord.f k x5 ((rd_T25 x1 x6).f0) ((rd_T25 x1 x6).f1) ((rd_T25 x1 x6).f2) ((rd_T25 x1 x6).f3) ((rd_T25 x1 x6).f4) ((rd_T25 x1 x6).f5)).bind fun t745 => (spec_PutRecords.l0 k x1 t745 (wrap64 (x6 + 1)))) else (none)) else (some x5)
def spec_PutRecords.f (k : Nat) (l0 : List Int) (l1 : List (S25)) : Option (List Int) := (some (([] : List Int) : List Int)).bind fun y738 => (if y738.length + l0.length < 140737488355328 then (spec_PutRecords.l0 k l1 (y738 ++ l0) 0) else (none))
theorem spec_PutRecords.mono_l : ∀ k, (∀ y0 y1 y2, LeO (spec_PutRecords.l0 k y0 y1 y2) (spec_PutRecords.l0 (k + 1) y0 y1 y2))
 | 0 => fun _ _ _ r h => by simp [spec_PutRecords.l0] at h
 | k + 1 => by
  have ih0 := spec_PutRecords.mono_l k
  ·intro y0 y1 y2
   unfold spec_PutRecords.l0
   repeat' first
   | (with_reducible first | exact ih0 _ _ _ | exact spec_PutRecord.mono _ _ _ _ _ _ _ _ | exact LeO.refl _ | exact LeO.none _ | refine LeO.ite ?_ ?_ | refine LeO.bind ?_ (fun _ => ?_))
   | exact ih0 _ _ _
   | exact spec_PutRecord.mono _ _ _ _ _ _ _ _
   | exact LeO.none _
   | refine LeO.ite ?_ ?_
   | refine LeO.bind ?_ (fun _ => ?_)
theorem spec_PutRecords.mono : ∀ a0 a1 k, LeO (spec_PutRecords.f k a0 a1) (spec_PutRecords.f (k + 1) a0 a1) := by
 intro a0 a1 k
 have ih0 := spec_PutRecords.mono_l k
 unfold spec_PutRecords.f
 repeat' first
   | (with_reducible first | exact ih0 _ _ _ | exact spec_PutRecord.mono _ _ _ _ _ _ _ _ | exact LeO.refl _ | exact LeO.none _ | refine LeO.ite ?_ ?_ | refine LeO.bind ?_ (fun _ => ?_))
   | exact ih0 _ _ _
   | exact spec_PutRecord.mono _ _ _ _ _ _ _ _
   | exact LeO.none _
   | refine LeO.ite ?_ ?_
   | refine LeO.bind ?_ (fun _ => ?_)
set_option maxHeartbeats 8000000 in
set_option maxRecDepth 100000 in
theorem spec_PutRecords.calls (k : Nat) (A0 : Option Addr) (c0 : Nat) (l0 : List Int) (A1 : Option Addr) (c1 : Nat) (l1 : List (S25)) (r : List Int) (w : World) (hr0 : Kd.C (Kd.int .u8) w A0 l0.length l0) (hc0 : l0.length ≤ c0) (hr1 : Kd.C k25 w A1 l1.length l1) (hc1 : l1.length ≤ c1) (h : spec_PutRecords.f k l0 l1 = some r) :
  Calls Tryd.prog 20 #[.slice A0 l0.length c0, .slice A1 l1.length c1] w fun e w' => ∃ v0_ : Value, e = .returned (v0_) ∧ Kd.R (Kd.int .u8) 5 w' w.heap.size (fun _ => True) v0_ r ∧ Below w.heap.size w w' := by
 have hu25 := Tryd.underlying25
 have HR0 := aS hr0
 have HC0 := aS hc0
 clear hr0 hc0
 have HR1 := aS hr1
 have HC1 := aS hc1
 clear hr1 hc1
 have HB := aS (Below.refl w.heap.size w)
 have H : ((some (([] : List Int) : List Int)).bind fun y738 => (if y738.length + l0.length < 140737488355328 then (spec_PutRecords.l0 k l1 (y738 ++ l0) 0) else (none))) = some r := h
 clear h
 obtain ⟨y738, hy_⟩ : ∃ y_ : List Int, y_ = (([] : List Int)) := ⟨_, rfl⟩
 replace H : (if y738.length + l0.length < 140737488355328 then (spec_PutRecords.l0 k l1 (y738 ++ l0) 0) else (none)) = some r := jD
 have Ny738 := aS hy_
 clear hy_
 by_cases c3 : y738.length + l0.length < 140737488355328
 ·rw [if_pos c3] at H
  have LMc3 := aS c3
  clear c3
  obtain ⟨y741, hy_⟩ : ∃ y_ : List Int, y_ = (y738 ++ l0) := ⟨_, rfl⟩
  replace H : (spec_PutRecords.l0 k l1 y741 0) = some r := jD
  have Ny741 := aS hy_
  clear hy_
  have H' := aS H
  clear H
  go_enter Tryd.func20, Tryd.ntmps20
  go_wp2_with (first | ((with_reducible refine gate_dst (N := 7) rfl ?_); refine Kd.R_lit (Kd.int .u8) _ 5 ?hg (N := 7) ?hd (xs := ([] : List Int)) (inner := []) (ok := fun _ => True) (okp := fun _ => True) ?hr ?hp (fun _ hk => hk) trivial (Below.refl _ _) (Nat.le_refl _) (by simp) ?_; (case hd => rfl); (case hg => rfl); (case hr => first | (go_simp; done) | (go_simp; rfl)); (case hp => exact (Reps.none _ _)); intro v739 w4 ho5 hb hg_ hnew_; clear hg_ hnew_; (first | rw [← Ny738.out] at ho5 | (simp only [Int.reduceToNat] at ho5; rw [← Ny738.out] at ho5)); have HO740 := aS (Kd.R_lower ho5 (below_size (wU HB.out))); replace HB := aS (below_step (wU HB.out) hb); clear hb ho5) | ((with_reducible refine gate_builtin (b := .append) (xs := #[.tmp 7, .tmp 8]) rfl ?_); at_builtin; refine Kd.R_append_rows (Kd.int .u8) (w0 := w) w.heap.size rfl (.tmp 7) (.tmp 8) 22 5 (.int .u8 0) 1 rfl Tryd.underlying22 info5 rfl (by decide) (by omega) v739 y738 l0 _ _ _ (fun _ => True) (fun _ => False) rfl rfl ?aO ?aR (fun _ _ h => h) (fun _ h => h.elim) ?aF ?aB ?aS ?aL ?_; (case aR => exact cU ((Kd.C_below HR0.out HB.out))); (case aB => exact (wU HB.out)); (case aF => exact (fun _ _ => trivial)); (case aO => exact (rU HO740.out)); (case aS => exact (below_size (wU HB.out))); (case aL => have := LMc3.out; omega); intro v742 w6 ho hb hg hat; rw [← Ny741.out] at ho; replace HB := aS (hb); have HO743 := aS (ho); clear HO740; clear ho hb hg hat))
  go_loopg [5, 6] k (fun kq v5 v6 w' => ∃ (x5_1 : List Int) (x6_1 : Int), v6 = .int .i64 x6_1 ∧ Aside0 (spec_PutRecords.l0 kq l1 x5_1 x6_1 = some r) ∧ Aside0 (kq ≤ k) ∧ Aside0 (Kd.R (Kd.int .u8) 5 w' w.heap.size (fun _ => True) v5 x5_1) ∧ Aside0 (Below w.heap.size w w'))
  case atStart => exact ⟨(y741), (0), jB, H', ⟨Nat.le_refl _⟩, ⟨by exact rU HO743.out⟩, ⟨by exact wU HB.out⟩⟩
  case round =>
   clear H'
   try clear c1
   try clear c2
   try clear p2
   try clear c3
   obtain ⟨x5_1, x6_1, rfl, HA, HK1, HO_5, HB⟩ := hrel
   cases gk with
   | zero => exact absurd HA.out (by simp [spec_PutRecords.l0])
   | succ k1 =>
    have H := HA.out
    clear HA
    simp only [spec_PutRecords.l0] at H
    by_cases c7 : x6_1 < (l1.length : Int)
    ·rw [if_pos c7] at H
     have c7b0 := decide_eq_true c7
     clear c7
     by_cases c8 : 0 ≤ x6_1
     ·rw [if_pos c8] at H
      have c8b0 := decide_eq_true c8
      clear c8
      obtain ⟨t745, A9, H⟩ := bM H
      try dsimp only at H
      have H' := aS H
      clear H
      have p744 : 0 ≤ (x6_1 : Int) := of_decide_eq_true jC
      have q744 : x6_1 < (l1.length : Int) := of_decide_eq_true jC
      obtain ⟨ad744, e744, hx744_0, hx744_1, hx744_2, hx744_3, hx744_4, hx744_5⟩ := at_T25 HR1.out x6_1 p744 q744
      cases e744
      try replace hx744_0 := (HB.out.cell (World.block_lt_of_cell? w _ hx744_0)).trans hx744_0
      try replace hx744_1 := (HB.out.cell (World.block_lt_of_cell? w _ hx744_1)).trans hx744_1
      try replace hx744_2 := (HB.out.cell (World.block_lt_of_cell? w _ hx744_2)).trans hx744_2
      try replace hx744_3 := (HB.out.cell (World.block_lt_of_cell? w _ hx744_3)).trans hx744_3
      try replace hx744_4 := (HB.out.cell (World.block_lt_of_cell? w _ hx744_4)).trans hx744_4
      try replace hx744_5 := (HB.out.cell (World.block_lt_of_cell? w _ hx744_5)).trans hx744_5
      replace p744 := eq_true p744
      replace q744 := eq_true q744
      obtain ⟨Ao10, co10, eo10⟩ := Kd.R_slice HO_5.out
      subst eo10
      go_wp2_with (first | ((with_reducible refine gate_callee (f := 13) rfl ?_); refine goesL_ (some 21) rfl rfl Tryd.func13 jK rfl #[.slice Ao10 x5_1.length co10, .agg #[.string ((rd_T25 l1 x6_1).f0), .int .i64 ((rd_T25 l1 x6_1).f1), .int .i64 ((rd_T25 l1 x6_1).f2), .int .i64 ((rd_T25 l1 x6_1).f3), .string ((rd_T25 l1 x6_1).f4), .string ((rd_T25 l1 x6_1).f5)]] rfl jA ?_; (with_reducible refine (spec_PutRecord.calls k1 _ _ x5_1 ((rd_T25 l1 x6_1).f0) ((rd_T25 l1 x6_1).f1) ((rd_T25 l1 x6_1).f2) ((rd_T25 l1 x6_1).f3) ((rd_T25 l1 x6_1).f4) ((rd_T25 l1 x6_1).f5) t745 _ ?side1 ?side2 A9.out).mono ?_); (case side1 => exact cU ((Kd.R_reads' HO_5.out).2.2)); (case side2 => exact (Kd.R_reads' HO_5.out).2.1); rintro e w11 ⟨v746, rfl, ho0, hb⟩; refine ⟨_, rfl, ?_⟩; have HO747 := aS (Kd.R_lower (Kd.R_new' ho0 (Kd.R_lt (rU HO_5.out))) (below_size (wU HB.out))); replace HO_5 := aS (Kd.R_elder' (rU HO_5.out) (Kd.R_base ho0) hb); replace HB := aS (below_step (wU HB.out) hb); clear hb; (try clear ho0)))
      go_roundg k1
      case measure => have := HK1.out; omega
      case rel => exact ⟨(t745), (wrap64 (x6_1 + 1)), jB, H', ⟨by have := HK1.out; omega⟩, ⟨Kd.R_mono (rU HO747.out) (fun _ hk => trivial)⟩, ⟨by exact wU HB.out⟩⟩
     ·rw [if_neg c8] at H
      exact absurd H (by simp)
    ·rw [if_neg c7] at H
     have c7b0 := decide_eq_false c7
     clear c7
     obtain rfl := Option.some.inj H
     go_wp2
     go_ret
     exact ⟨_, jE, by exact rU HO_5.out, by exact wU HB.out⟩
 ·rw [if_neg c3] at H
  exact absurd H (by simp)

end Go.Proofs.YtdigilidomimdaaDoor.Pr
