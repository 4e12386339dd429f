-- Written for this claim by a program of this session (wip/tool/pr.py, over the kit's printer).
-- half
import Derived.Test.YtdigilidomimdaaDoorPrx0
import Derived.Test.YtdigilidomimdaaDoorPrx1
import Derived.Test.YtdigilidomimdaaDoorPrx2
import Derived.Test.YtdigilidomimdaaDoorPrx3
import Derived.Test.YtdigilidomimdaaDoorPrx5
import Derived.Test.YtdigilidomimdaaDoorPrx6
import Derived.Test.YtdigilidomimdaaDoorPrx11
import Derived.Test.YtdigilidomimdaaDoorPrx12
import Derived.Test.YtdigilidomimdaaDoorPrx13
import Derived.Test.YtdigilidomimdaaDoorPrx15
import Derived.Test.YtdigilidomimdaaDoorPrx16
import Derived.Test.YtdigilidomimdaaDoorPrx17
import Derived.Test.YtdigilidomimdaaDoorPrx18
namespace Go.Proofs.YtdigilidomimdaaDoor.Pr
open Go.RowKit Go.Proofs.YtdigilidomimdaaDoorW.PrintWords Go.Proofs.YtdigilidomimdaaDoorW.PrintLast Go.Proofs.YtdigilidomimdaaDoorW.PrintMore
attribute [local go_sem] max2_int min2_int max_two min_two max_three min_three max_four min_four   -- for this text's walks alone
set_option linter.unusedVariables false
set_option linter.unusedSimpArgs false

attribute [local go_sem high] eqA25
/-! ### laws_FnRecords: function 7 -/
mutual
def laws_FnRecords.j0 : Nat → List (S25) → List (S25) → Bool → ByteArray → Int → Int → Int → ByteArray → ByteArray → ByteArray → Int → Int → Int → ByteArray → ByteArray → ByteArray → Int → Int → Int → ByteArray → ByteArray → Option (Bool)
 | 0, _, _, _, _, _, _, _, _, _, _, _, _, _, _, _, _, _, _, _, _, _ => none
 | k + 1, x5, x9, x65, x599000, x599001, x599002, x599003, x599004, x599005, x600000, x600001, x600002, x600003, x600004, x600005, x610000, x610001, x610002, x610003, x610004, x610005 => if x65 = true then (some false) else ((impl_LessRecord.f k x599000 x599001 x599002 x599003 x599004 x599005 x600000 x600001 x600002 x600003 x600004 x600005).bind fun t631 => (if t631 = true then ((impl_LessRecord.f k x600000 x600001 x600002 x600003 x600004 x600005 x599000 x599001 x599002 x599003 x599004 x599005).bind fun t632 => (if t632 = true then (laws_FnRecords.j1 k x5 x9 true x610000 x610001 x610002 x610003 x610004 x610005) else ((impl_LessRecord.f k x599000 x599001 x599002 x599003 x599004 x599005 x600000 x600001 x600002 x600003 x600004 x600005).bind fun t633 => (if t633 = true then (laws_FnRecords.j1 k x5 x9 (true == (x599000.toList == x600000.toList && (x599001 == x600001 && (x599002 == x600002 && (x599003 == x600003 && (x599004.toList == x600004.toList && (x599005.toList == x600005.toList))))))) x610000 x610001 x610002 x610003 x610004 x610005) else ((impl_LessRecord.f k x600000 x600001 x600002 x600003 x600004 x600005 x599000 x599001 x599002 x599003 x599004 x599005).bind fun t634 => (laws_FnRecords.j1 k x5 x9 (t634 == (x599000.toList == x600000.toList && (x599001 == x600001 && (x599002 == x600002 && (x599003 == x600003 && (x599004.toList == x600004.toList && (x599005.toList == x600005.toList))))))) x610000 x610001 x610002 x610003 x610004 x610005)))))) else ((impl_LessRecord.f k x599000 x599001 x599002 x599003 x599004 x599005 x600000 x600001 x600002 x600003 x600004 x600005).bind fun t635 => (if t635 = true then (laws_FnRecords.j1 k x5 x9 (true == (x599000.toList == x600000.toList && (x599001 == x600001 && (x599002 == x600002 && (x599003 == x600003 && (x599004.toList == x600004.toList && (x599005.toList == x600005.toList))))))) x610000 x610001 x610002 x610003 x610004 x610005) else ((impl_LessRecord.f k x600000 x600001 x600002 x600003 x600004 x600005 x599000 x599001 x599002 x599003 x599004 x599005).bind fun t636 => (laws_FnRecords.j1 k x5 x9 (t636 == (x599000.toList == x600000.toList && (x599001 == x600001 && (x599002 == x600002 && (x599003 == x600003 && (x599004.toList == x600004.toList && (x599005.toList == x600005.toList))))))) x610000 x610001 x610002 x610003 x610004 x610005))))))
def laws_FnRecords.j1 : Nat → List (S25) → List (S25) → Bool → ByteArray → Int → Int → Int → ByteArray → ByteArray → Option (Bool)
 | 0, _, _, _, _, _, _, _, _, _ => none
 | k + 1, x5, x9, x87, x610000, x610001, x610002, x610003, x610004, x610005 => if x87 = true then (some false) else (laws_FnRecords.l0 k x5 x9 1 x610000 x610001 x610002 x610003 x610004 x610005)
def laws_FnRecords.l0 : Nat → List (S25) → List (S25) → Int → ByteArray → Int → Int → Int → ByteArray → ByteArray → Option (Bool)
 | 0, _, _, _, _, _, _, _, _, _ => none
 | k + 1, x5, x9, x10, x610000, x610001, x610002, x610003, x610004, x610005 => if x10 < (x9.length : Int) then (if 0 ≤ x10 then (if 0 ≤ (wrap64 (x10 - 1)) then (if (wrap64 (x10 - 1)) < (x9.length : Int) then ((impl_LessRecord.f k ((rd_T25 x9 x10).f0) ((rd_T25 x9 x10).f1) ((rd_T25 x9 x10).f2) ((rd_T25 x9 x10).f3) ((rd_T25 x9 x10).f4) ((rd_T25 x9 x10).f5) ((rd_T25 x9 (wrap64 (x10 - 1))).f0) ((rd_T25 x9 (wrap64 (x10 - 1))).f1) ((rd_T25 x9 (wrap64 (x10 - 1))).f2) ((rd_T25 x9 (wrap64 (x10 - 1))).f3) ((rd_T25 x9 (wrap64 (x10 - 1))).f4) ((rd_T25 x9 (wrap64 (x10 - 1))).f5)).bind fun t639 => (if t639 = true then (some false) else (laws_FnRecords.l0 k x5 x9 (wrap64 (x10 + 1)) x610000 x610001 x610002 x610003 x610004 x610005))) else (none)) else (none)) else (none)) else (if (x9.length : Int) = (x5.length : Int) then ((impl_RecordText.f k x610000 x610001 x610002 x610003 x610004 x610005).bind fun t640 => ((impl_RecordOk.f k x610000 x610001 x610002 x610003 x610004 x610005).bind fun t641 => (some ((t640.toList != ([] : List UInt8)) == t641)))) else (some false))
end
noncomputable def laws_FnRecords.f (k : Nat) (l0 : List Int) : Option (Bool) := (laws_big.f l0).bind fun t585 => (if t585 = true then (some true) else ((spec_DrawLessRecord.f k l0).bind fun bt586 => ((spec_DrawSortRecords.f k l0).bind fun t600 => ((spec_DrawRecordText.f k l0).bind fun bt603 => ((spec_DrawSameRecords.f k l0).bind fun bt610 => ((impl_SortRecords.f k t600).bind fun t616 => ((impl_LessRecord.f k bt586.1 bt586.2.1 bt586.2.2.1 bt586.2.2.2.1 bt586.2.2.2.2.1 bt586.2.2.2.2.2.1 bt586.2.2.2.2.2.2.1 bt586.2.2.2.2.2.2.2.1 bt586.2.2.2.2.2.2.2.2.1 bt586.2.2.2.2.2.2.2.2.2.1 bt586.2.2.2.2.2.2.2.2.2.2.1 bt586.2.2.2.2.2.2.2.2.2.2.2).bind fun t619 => ((spec_LessRecord.f k bt586.1 bt586.2.1 bt586.2.2.1 bt586.2.2.2.1 bt586.2.2.2.2.1 bt586.2.2.2.2.2.1 bt586.2.2.2.2.2.2.1 bt586.2.2.2.2.2.2.2.1 bt586.2.2.2.2.2.2.2.2.1 bt586.2.2.2.2.2.2.2.2.2.1 bt586.2.2.2.2.2.2.2.2.2.2.1 bt586.2.2.2.2.2.2.2.2.2.2.2).bind fun t620 => (if (t619 != t620) = true then (laws_FnRecords.j0 k t600 t616 true bt586.1 bt586.2.1 bt586.2.2.1 bt586.2.2.2.1 bt586.2.2.2.2.1 bt586.2.2.2.2.2.1 bt586.2.2.2.2.2.2.1 bt586.2.2.2.2.2.2.2.1 bt586.2.2.2.2.2.2.2.2.1 bt586.2.2.2.2.2.2.2.2.2.1 bt586.2.2.2.2.2.2.2.2.2.2.1 bt586.2.2.2.2.2.2.2.2.2.2.2 bt603.1 bt603.2.1 bt603.2.2.1 bt603.2.2.2.1 bt603.2.2.2.2.1 bt603.2.2.2.2.2) else ((spec_SortRecords.f k t600).bind fun t621 => ((laws_sameRecs.f k t616 t621).bind fun t624 => (if t624 = true then ((impl_RecordText.f k bt603.1 bt603.2.1 bt603.2.2.1 bt603.2.2.2.1 bt603.2.2.2.2.1 bt603.2.2.2.2.2).bind fun t625 => ((spec_RecordText.f k bt603.1 bt603.2.1 bt603.2.2.1 bt603.2.2.2.1 bt603.2.2.2.2.1 bt603.2.2.2.2.2).bind fun t626 => (if t625.toList = t626.toList then ((impl_RecordOk.f k bt603.1 bt603.2.1 bt603.2.2.1 bt603.2.2.2.1 bt603.2.2.2.2.1 bt603.2.2.2.2.2).bind fun t627 => ((spec_RecordOk.f k bt603.1 bt603.2.1 bt603.2.2.1 bt603.2.2.2.1 bt603.2.2.2.2.1 bt603.2.2.2.2.2).bind fun t628 => (if (t627 != t628) = true then (laws_FnRecords.j0 k t600 t616 true bt586.1 bt586.2.1 bt586.2.2.1 bt586.2.2.2.1 bt586.2.2.2.2.1 bt586.2.2.2.2.2.1 bt586.2.2.2.2.2.2.1 bt586.2.2.2.2.2.2.2.1 bt586.2.2.2.2.2.2.2.2.1 bt586.2.2.2.2.2.2.2.2.2.1 bt586.2.2.2.2.2.2.2.2.2.2.1 bt586.2.2.2.2.2.2.2.2.2.2.2 bt603.1 bt603.2.1 bt603.2.2.1 bt603.2.2.2.1 bt603.2.2.2.2.1 bt603.2.2.2.2.2) else ((impl_SameRecords.f k bt610.1 bt610.2).bind fun t629 => ((laws_sameRecs.f k bt610.1 bt610.2).bind fun t630 => (laws_FnRecords.j0 k t600 t616 (t629 != t630) bt586.1 bt586.2.1 bt586.2.2.1 bt586.2.2.2.1 bt586.2.2.2.2.1 bt586.2.2.2.2.2.1 bt586.2.2.2.2.2.2.1 bt586.2.2.2.2.2.2.2.1 bt586.2.2.2.2.2.2.2.2.1 bt586.2.2.2.2.2.2.2.2.2.1 bt586.2.2.2.2.2.2.2.2.2.2.1 bt586.2.2.2.2.2.2.2.2.2.2.2 bt603.1 bt603.2.1 bt603.2.2.1 bt603.2.2.2.1 bt603.2.2.2.2.1 bt603.2.2.2.2.2)))))) else (laws_FnRecords.j0 k t600 t616 true bt586.1 bt586.2.1 bt586.2.2.1 bt586.2.2.2.1 bt586.2.2.2.2.1 bt586.2.2.2.2.2.1 bt586.2.2.2.2.2.2.1 bt586.2.2.2.2.2.2.2.1 bt586.2.2.2.2.2.2.2.2.1 bt586.2.2.2.2.2.2.2.2.2.1 bt586.2.2.2.2.2.2.2.2.2.2.1 bt586.2.2.2.2.2.2.2.2.2.2.2 bt603.1 bt603.2.1 bt603.2.2.1 bt603.2.2.2.1 bt603.2.2.2.2.1 bt603.2.2.2.2.2)))) else (laws_FnRecords.j0 k t600 t616 true bt586.1 bt586.2.1 bt586.2.2.1 bt586.2.2.2.1 bt586.2.2.2.2.1 bt586.2.2.2.2.2.1 bt586.2.2.2.2.2.2.1 bt586.2.2.2.2.2.2.2.1 bt586.2.2.2.2.2.2.2.2.1 bt586.2.2.2.2.2.2.2.2.2.1 bt586.2.2.2.2.2.2.2.2.2.2.1 bt586.2.2.2.2.2.2.2.2.2.2.2 bt603.1 bt603.2.1 bt603.2.2.1 bt603.2.2.2.1 bt603.2.2.2.2.1 bt603.2.2.2.2.2)))))))))))))
theorem laws_FnRecords.mono_l : ∀ k, (∀ y0 y1 y2 y3 y4 y5 y6 y7 y8 y9 y10 y11 y12 y13 y14 y15 y16 y17 y18 y19 y20, LeO (laws_FnRecords.j0 k y0 y1 y2 y3 y4 y5 y6 y7 y8 y9 y10 y11 y12 y13 y14 y15 y16 y17 y18 y19 y20) (laws_FnRecords.j0 (k + 1) y0 y1 y2 y3 y4 y5 y6 y7 y8 y9 y10 y11 y12 y13 y14 y15 y16 y17 y18 y19 y20)) ∧ (∀ y0 y1 y2 y3 y4 y5 y6 y7 y8, LeO (laws_FnRecords.j1 k y0 y1 y2 y3 y4 y5 y6 y7 y8) (laws_FnRecords.j1 (k + 1) y0 y1 y2 y3 y4 y5 y6 y7 y8)) ∧ (∀ y0 y1 y2 y3 y4 y5 y6 y7 y8, LeO (laws_FnRecords.l0 k y0 y1 y2 y3 y4 y5 y6 y7 y8) (laws_FnRecords.l0 (k + 1) y0 y1 y2 y3 y4 y5 y6 y7 y8))
 | 0 => ⟨fun _ _ _ _ _ _ _ _ _ _ _ _ _ _ _ _ _ _ _ _ _ r h => by simp [laws_FnRecords.j0] at h, fun _ _ _ _ _ _ _ _ _ r h => by simp [laws_FnRecords.j1] at h, fun _ _ _ _ _ _ _ _ _ r h => by simp [laws_FnRecords.l0] at h⟩
 | k + 1 => by
  obtain ⟨ih0, ih1, ih2⟩ := laws_FnRecords.mono_l k
  refine ⟨?_, ?_, ?_⟩
  ·intro y0 y1 y2 y3 y4 y5 y6 y7 y8 y9 y10 y11 y12 y13 y14 y15 y16 y17 y18 y19 y20
   unfold laws_FnRecords.j0
   repeat' first
   | (with_reducible first | exact ih0 _ _ _ _ _ _ _ _ _ _ _ _ _ _ _ _ _ _ _ _ _ | exact ih1 _ _ _ _ _ _ _ _ _ | exact ih2 _ _ _ _ _ _ _ _ _ | exact impl_LessRecord.mono _ _ _ _ _ _ _ _ _ _ _ _ _ | exact impl_RecordOk.mono _ _ _ _ _ _ _ | exact impl_RecordText.mono _ _ _ _ _ _ _ | exact impl_SameRecords.mono _ _ _ | exact impl_SortRecords.mono _ _ | exact laws_sameRecs.mono _ _ _ | exact spec_DrawLessRecord.mono _ _ | exact spec_DrawRecordText.mono _ _ | exact spec_DrawSameRecords.mono _ _ | exact spec_DrawSortRecords.mono _ _ | exact spec_LessRecord.mono _ _ _ _ _ _ _ _ _ _ _ _ _ | exact spec_RecordOk.mono _ _ _ _ _ _ _ | exact spec_RecordText.mono _ _ _ _ _ _ _ | exact spec_SortRecords.mono _ _ | exact LeO.refl _ | exact LeO.none _ | refine LeO.ite ?_ ?_ | refine LeO.bind ?_ (fun _ => ?_))
   | refine LeO.ite ?_ ?_
   | refine LeO.bind ?_ (fun _ => ?_)
  ·intro y0 y1 y2 y3 y4 y5 y6 y7 y8
   unfold laws_FnRecords.j1
   repeat' first
   | (with_reducible first | exact ih0 _ _ _ _ _ _ _ _ _ _ _ _ _ _ _ _ _ _ _ _ _ | exact ih1 _ _ _ _ _ _ _ _ _ | exact ih2 _ _ _ _ _ _ _ _ _ | exact impl_LessRecord.mono _ _ _ _ _ _ _ _ _ _ _ _ _ | exact impl_RecordOk.mono _ _ _ _ _ _ _ | exact impl_RecordText.mono _ _ _ _ _ _ _ | exact impl_SameRecords.mono _ _ _ | exact impl_SortRecords.mono _ _ | exact laws_sameRecs.mono _ _ _ | exact spec_DrawLessRecord.mono _ _ | exact spec_DrawRecordText.mono _ _ | exact spec_DrawSameRecords.mono _ _ | exact spec_DrawSortRecords.mono _ _ | exact spec_LessRecord.mono _ _ _ _ _ _ _ _ _ _ _ _ _ | exact spec_RecordOk.mono _ _ _ _ _ _ _ | exact spec_RecordText.mono _ _ _ _ _ _ _ | exact spec_SortRecords.mono _ _ | exact LeO.refl _ | exact LeO.none _ | refine LeO.ite ?_ ?_ | refine LeO.bind ?_ (fun _ => ?_))
   | refine LeO.ite ?_ ?_
   | refine LeO.bind ?_ (fun _ => ?_)
  ·intro y0 y1 y2 y3 y4 y5 y6 y7 y8
   unfold laws_FnRecords.l0
   repeat' first
   | (with_reducible first | exact ih0 _ _ _ _ _ _ _ _ _ _ _ _ _ _ _ _ _ _ _ _ _ | exact ih1 _ _ _ _ _ _ _ _ _ | exact ih2 _ _ _ _ _ _ _ _ _ | exact impl_LessRecord.mono _ _ _ _ _ _ _ _ _ _ _ _ _ | exact impl_RecordOk.mono _ _ _ _ _ _ _ | exact impl_RecordText.mono _ _ _ _ _ _ _ | exact impl_SameRecords.mono _ _ _ | exact impl_SortRecords.mono _ _ | exact laws_sameRecs.mono _ _ _ | exact spec_DrawLessRecord.mono _ _ | exact spec_DrawRecordText.mono _ _ | exact spec_DrawSameRecords.mono _ _ | exact spec_DrawSortRecords.mono _ _ | exact spec_LessRecord.mono _ _ _ _ _ _ _ _ _ _ _ _ _ | exact spec_RecordOk.mono _ _ _ _ _ _ _ | exact spec_RecordText.mono _ _ _ _ _ _ _ | exact spec_SortRecords.mono _ _ | exact LeO.refl _ | exact LeO.none _ | refine LeO.ite ?_ ?_ | refine LeO.bind ?_ (fun _ => ?_))
   | refine LeO.ite ?_ ?_
   | refine LeO.bind ?_ (fun _ => ?_)
theorem laws_FnRecords.j0f {k : Nat} : ∀ {y0 y1 y3 y4 y5 y6 y7 y8 y9 y10 y11 y12 y13 y14 y15 y16 y17 y18 y19 y20}, laws_FnRecords.j0 k y0 y1 true y3 y4 y5 y6 y7 y8 y9 y10 y11 y12 y13 y14 y15 y16 y17 y18 y19 y20 ≠ some true := by
 cases k <;> simp [laws_FnRecords.j0]
theorem laws_FnRecords.j1f {k : Nat} : ∀ {y0 y1 y3 y4 y5 y6 y7 y8}, laws_FnRecords.j1 k y0 y1 true y3 y4 y5 y6 y7 y8 ≠ some true := by
 cases k <;> simp [laws_FnRecords.j1]
theorem laws_FnRecords.mono : ∀ a0 k, LeO (laws_FnRecords.f k a0) (laws_FnRecords.f (k + 1) a0) := by
 intro a0 k
 obtain ⟨ih0, ih1, ih2⟩ := laws_FnRecords.mono_l k
 unfold laws_FnRecords.f
 repeat' first
   | (with_reducible first | exact ih0 _ _ _ _ _ _ _ _ _ _ _ _ _ _ _ _ _ _ _ _ _ | exact ih1 _ _ _ _ _ _ _ _ _ | exact ih2 _ _ _ _ _ _ _ _ _ | exact impl_LessRecord.mono _ _ _ _ _ _ _ _ _ _ _ _ _ | exact impl_RecordOk.mono _ _ _ _ _ _ _ | exact impl_RecordText.mono _ _ _ _ _ _ _ | exact impl_SameRecords.mono _ _ _ | exact impl_SortRecords.mono _ _ | exact laws_sameRecs.mono _ _ _ | exact spec_DrawLessRecord.mono _ _ | exact spec_DrawRecordText.mono _ _ | exact spec_DrawSameRecords.mono _ _ | exact spec_DrawSortRecords.mono _ _ | exact spec_LessRecord.mono _ _ _ _ _ _ _ _ _ _ _ _ _ | exact spec_RecordOk.mono _ _ _ _ _ _ _ | exact spec_RecordText.mono _ _ _ _ _ _ _ | exact spec_SortRecords.mono _ _ | exact LeO.refl _ | exact LeO.none _ | refine LeO.ite ?_ ?_ | refine LeO.bind ?_ (fun _ => ?_))
   | refine LeO.ite ?_ ?_
   | refine LeO.bind ?_ (fun _ => ?_)
def laws_FnRecords.T8 : Bool × List (List Nat × List Nat) := (true, [([], []), ([], []), ([0, 1], [0, 1]), ([], []), ([], []), ([3, 4, 2], [3, 4]), ([2, 5], [2, 5]), ([6, 5], [6]), ([7], [7]), ([7], [7]), ([9, 7, 7], [7, 9]), ([8, 10, 10, 7], [7, 8, 10]), ([11, 7], [7, 11]), ([7, 12], [7, 12]), ([13, 11], [13]), ([14], [14]), ([15, 14, 14], [14, 15]), ([14], [14]), ([17, 16, 14], [14, 17]), ([16, 18, 14], [14, 16, 18]), ([14, 19], [14, 19]), ([20, 18], [20]), ([21], [21]), ([22, 21, 21], [21, 22]), ([21], [21]), ([24, 23, 21], [21, 24]), ([23, 25, 21], [21, 23, 25]), ([21, 26], [21, 26]), ([27, 25], [27]), ([28], [28]), ([28], [28]), ([29, 30, 28, 28], [28, 29, 30]), ([28], [28]), ([28], [28]), ([32, 33, 31, 28], [28, 32, 33]), ([31, 34, 28], [28, 31, 34]), ([28, 35], [28, 35])])
def laws_FnRecords.B8 : List Nat := [0, 0, 3, 0, 0, 31, 63, 127, 255, 255, 767, 2047, 4095, 8191, 16383, 32767, 65535, 32767, 262143, 524287, 1048575, 2097151, 4194303, 8388607, 4194303, 33554431, 67108863, 134217727, 268435455, 536870911, 536870911, 2147483647, 536870911, 536870911, 17179869183, 34359738367, 68719476735]
theorem laws_FnRecords.tab8 : rtab .any (opsOf Tryd.f7 8) = laws_FnRecords.T8 := by kernel_rfl
theorem laws_FnRecords.bits8 : waitsOk laws_FnRecords.T8.2 laws_FnRecords.B8 = true := by kernel_rfl
def laws_FnRecords.T10 : Bool × List (List Nat × List Nat) := (true, [([], []), ([], []), ([0, 1], [0, 1]), ([2, 2], [2]), ([3], [3]), ([3], [3]), ([4, 5, 3, 3], [3, 4, 5]), ([3, 6], [3, 6]), ([7, 6], [7]), ([8], [8]), ([8], [8]), ([9, 10, 8, 8], [8, 9, 10]), ([11, 11, 8], [8, 11]), ([12], [12]), ([12], [12]), ([13, 14, 12, 12], [12, 13, 14]), ([12, 15, 8], [8, 12, 15]), ([8], [8]), ([8], [8]), ([17, 18, 8], [8, 17, 18]), ([16, 19, 8], [8, 16, 19]), ([8, 20], [8, 20])])
def laws_FnRecords.B10 : List Nat := [0, 0, 3, 7, 15, 15, 63, 127, 255, 511, 511, 2047, 4095, 8191, 8191, 32767, 65535, 511, 511, 393727, 1048575, 2097151]
theorem laws_FnRecords.tab10 : rtab .any (opsOf Tryd.f7 10) = laws_FnRecords.T10 := by kernel_rfl
theorem laws_FnRecords.bits10 : waitsOk laws_FnRecords.T10.2 laws_FnRecords.B10 = true := by kernel_rfl
def laws_FnRecords.T15 : Bool × List (List Nat × List Nat) := (true, [([], []), ([], []), ([0, 1], [0, 1]), ([2], [2]), ([], []), ([], []), ([5], [5]), ([4, 6], [4, 6]), ([7], [7]), ([3, 8], [3, 8])])
def laws_FnRecords.B15 : List Nat := [0, 0, 3, 7, 0, 0, 32, 112, 240, 511]
theorem laws_FnRecords.tab15 : rtab .any (opsOf Tryd.f7 15) = laws_FnRecords.T15 := by kernel_rfl
theorem laws_FnRecords.bits15 : waitsOk laws_FnRecords.T15.2 laws_FnRecords.B15 = true := by kernel_rfl
def laws_FnRecords.T17 : Bool × List (List Nat × List Nat) := (true, [([], []), ([0], [0]), ([], []), ([2], [2]), ([1, 3], [1, 3]), ([4], [4]), ([5], [5]), ([6, 5, 5], [5, 6]), ([7, 5], [5, 7]), ([5], [5]), ([9, 7, 5], [5, 9]), ([8, 10, 5], [5, 8, 10]), ([5, 11], [5, 11]), ([12, 10, 0, 1, 2, 3, 4, 5, 6, 7, 8, 9, 10, 11, 12], [12])])
def laws_FnRecords.B17 : List Nat := [0, 1, 0, 4, 15, 31, 63, 127, 255, 63, 767, 2047, 4095, 8191]
theorem laws_FnRecords.tab17 : rtab .any (opsOf Tryd.f7 17) = laws_FnRecords.T17 := by kernel_rfl
theorem laws_FnRecords.bits17 : waitsOk laws_FnRecords.T17.2 laws_FnRecords.B17 = true := by kernel_rfl
set_option maxHeartbeats 8000000 in
set_option maxRecDepth 100000 in
theorem laws_FnRecords.calls (k : Nat) (A0 : Option Addr) (c0 : Nat) (l0 : List Int) (r : Bool) (w : World) (hr0 : Kd.C (Kd.int .u8) w A0 l0.length l0) (hc0 : l0.length ≤ c0) (hrt_ : r = true) (h : laws_FnRecords.f k l0 = some r) :
  Calls Tryd.prog 7 #[.slice A0 l0.length c0] w fun e w' => e = .returned (.bool r) ∧ Below w.heap.size w w' := by
 have hu25 := Tryd.underlying25
 have HR0 := aS hr0
 have HC0 := aS hc0
 clear hr0 hc0
 have HB := aS (Below.refl w.heap.size w)
 have H : ((laws_big.f l0).bind fun t585 => (if t585 = true then (some true) else ((spec_DrawLessRecord.f k l0).bind fun bt586 => ((spec_DrawSortRecords.f k l0).bind fun t600 => ((spec_DrawRecordText.f k l0).bind fun bt603 => ((spec_DrawSameRecords.f k l0).bind fun bt610 => ((impl_SortRecords.f k t600).bind fun t616 => ((impl_LessRecord.f k bt586.1 bt586.2.1 bt586.2.2.1 bt586.2.2.2.1 bt586.2.2.2.2.1 bt586.2.2.2.2.2.1 bt586.2.2.2.2.2.2.1 bt586.2.2.2.2.2.2.2.1 bt586.2.2.2.2.2.2.2.2.1 bt586.2.2.2.2.2.2.2.2.2.1 bt586.2.2.2.2.2.2.2.2.2.2.1 bt586.2.2.2.2.2.2.2.2.2.2.2).bind fun t619 => ((spec_LessRecord.f k bt586.1 bt586.2.1 bt586.2.2.1 bt586.2.2.2.1 bt586.2.2.2.2.1 bt586.2.2.2.2.2.1 bt586.2.2.2.2.2.2.1 bt586.2.2.2.2.2.2.2.1 bt586.2.2.2.2.2.2.2.2.1 bt586.2.2.2.2.2.2.2.2.2.1 bt586.2.2.2.2.2.2.2.2.2.2.1 bt586.2.2.2.2.2.2.2.2.2.2.2).bind fun t620 => (if (t619 != t620) = true then (laws_FnRecords.j0 k t600 t616 true bt586.1 bt586.2.1 bt586.2.2.1 bt586.2.2.2.1 bt586.2.2.2.2.1 bt586.2.2.2.2.2.1 bt586.2.2.2.2.2.2.1 bt586.2.2.2.2.2.2.2.1 bt586.2.2.2.2.2.2.2.2.1 bt586.2.2.2.2.2.2.2.2.2.1 bt586.2.2.2.2.2.2.2.2.2.2.1 bt586.2.2.2.2.2.2.2.2.2.2.2 bt603.1 bt603.2.1 bt603.2.2.1 bt603.2.2.2.1 bt603.2.2.2.2.1 bt603.2.2.2.2.2) else ((spec_SortRecords.f k t600).bind fun t621 => ((laws_sameRecs.f k t616 t621).bind fun t624 => (if t624 = true then ((impl_RecordText.f k bt603.1 bt603.2.1 bt603.2.2.1 bt603.2.2.2.1 bt603.2.2.2.2.1 bt603.2.2.2.2.2).bind fun t625 => ((spec_RecordText.f k bt603.1 bt603.2.1 bt603.2.2.1 bt603.2.2.2.1 bt603.2.2.2.2.1 bt603.2.2.2.2.2).bind fun t626 => (if t625.toList = t626.toList then ((impl_RecordOk.f k bt603.1 bt603.2.1 bt603.2.2.1 bt603.2.2.2.1 bt603.2.2.2.2.1 bt603.2.2.2.2.2).bind fun t627 => ((spec_RecordOk.f k bt603.1 bt603.2.1 bt603.2.2.1 bt603.2.2.2.1 bt603.2.2.2.2.1 bt603.2.2.2.2.2).bind fun t628 => (if (t627 != t628) = true then (laws_FnRecords.j0 k t600 t616 true bt586.1 bt586.2.1 bt586.2.2.1 bt586.2.2.2.1 bt586.2.2.2.2.1 bt586.2.2.2.2.2.1 bt586.2.2.2.2.2.2.1 bt586.2.2.2.2.2.2.2.1 bt586.2.2.2.2.2.2.2.2.1 bt586.2.2.2.2.2.2.2.2.2.1 bt586.2.2.2.2.2.2.2.2.2.2.1 bt586.2.2.2.2.2.2.2.2.2.2.2 bt603.1 bt603.2.1 bt603.2.2.1 bt603.2.2.2.1 bt603.2.2.2.2.1 bt603.2.2.2.2.2) else ((impl_SameRecords.f k bt610.1 bt610.2).bind fun t629 => ((laws_sameRecs.f k bt610.1 bt610.2).bind fun t630 => (laws_FnRecords.j0 k t600 t616 (t629 != t630) bt586.1 bt586.2.1 bt586.2.2.1 bt586.2.2.2.1 bt586.2.2.2.2.1 bt586.2.2.2.2.2.1 bt586.2.2.2.2.2.2.1 bt586.2.2.2.2.2.2.2.1 bt586.2.2.2.2.2.2.2.2.1 bt586.2.2.2.2.2.2.2.2.2.1 bt586.2.2.2.2.2.2.2.2.2.2.1 bt586.2.2.2.2.2.2.2.2.2.2.2 bt603.1 bt603.2.1 bt603.2.2.1 bt603.2.2.2.1 bt603.2.2.2.2.1 bt603.2.2.2.2.2)))))) else (laws_FnRecords.j0 k t600 t616 true bt586.1 bt586.2.1 bt586.2.2.1 bt586.2.2.2.1 bt586.2.2.2.2.1 bt586.2.2.2.2.2.1 bt586.2.2.2.2.2.2.1 bt586.2.2.2.2.2.2.2.1 bt586.2.2.2.2.2.2.2.2.1 bt586.2.2.2.2.2.2.2.2.2.1 bt586.2.2.2.2.2.2.2.2.2.2.1 bt586.2.2.2.2.2.2.2.2.2.2.2 bt603.1 bt603.2.1 bt603.2.2.1 bt603.2.2.2.1 bt603.2.2.2.2.1 bt603.2.2.2.2.2)))) else (laws_FnRecords.j0 k t600 t616 true bt586.1 bt586.2.1 bt586.2.2.1 bt586.2.2.2.1 bt586.2.2.2.2.1 bt586.2.2.2.2.2.1 bt586.2.2.2.2.2.2.1 bt586.2.2.2.2.2.2.2.1 bt586.2.2.2.2.2.2.2.2.1 bt586.2.2.2.2.2.2.2.2.2.1 bt586.2.2.2.2.2.2.2.2.2.2.1 bt586.2.2.2.2.2.2.2.2.2.2.2 bt603.1 bt603.2.1 bt603.2.2.1 bt603.2.2.2.1 bt603.2.2.2.2.1 bt603.2.2.2.2.2)))))))))))))) = some r := h
 clear h
 obtain ⟨t585, A2, H⟩ := bM H
 try dsimp only at H
 by_cases c3 : t585 = true
 ·subst c3
  rw [if_pos rfl] at H
  obtain rfl := Option.some.inj H
  go_enter Tryd.func7, Tryd.ntmps7
  go_wp2_with (first | ((with_reducible refine gate_callee (f := 8) rfl ?_); refine gL (some 12) Tryd.func8 #[.slice A0 l0.length c0] ?_; (with_reducible refine (laws_big.calls _ _ l0 true _ ?side1 ?side2 A2.out).mono ?_); (case side1 => exact cU (HR0.out)); (case side2 => exact HC0.out); rintro e w' ⟨rfl, ⟨nd, rfl⟩⟩; refine ⟨_, rfl, ?_⟩))
  go_ret
  exact ⟨by first | rfl | (simp [errW_none, errW_some] <;> rfl) | (simp [*, errW_none, errW_some] <;> rfl) | (simp [X.bne_nil, X.beq_nil]; done) | (exfalso; simp_all; done) | ((have ai_ : ∀ p : Prop, Aside0 p ↔ p := fun p => ⟨fun h => h.out, fun h => ⟨h⟩⟩); simp_all [ai_]; done), by exact wU HB.out⟩
 ·replace c3 := Bool.eq_false_iff.mpr c3
  subst c3
  rw [if_neg Bool.false_ne_true] at H
  obtain ⟨⟨t586, t587, t588, t589, t590, t591, t592, t593, t594, t595, t596, t597⟩, A4, H⟩ := bM H
  try dsimp only at H
  obtain ⟨t600, A5, H⟩ := bM H
  try dsimp only at H
  obtain ⟨⟨t603, t604, t605, t606, t607, t608⟩, A6, H⟩ := bM H
  try dsimp only at H
  obtain ⟨⟨t610, t611⟩, A7, H⟩ := bM H
  try dsimp only at H
  obtain ⟨t616, A8, H⟩ := bM H
  try dsimp only at H
  have HC9 := aS H
  clear H
  go_enter Tryd.func7, Tryd.ntmps7
  go_upto_region 8 with (first | ((with_reducible refine gate_callee (f := 8) rfl ?_); refine gL (some 12) Tryd.func8 #[.slice A0 l0.length c0] ?_; (with_reducible refine (laws_big.calls _ _ l0 false _ ?side1 ?side2 A2.out).mono ?_); (case side1 => exact cU (HR0.out)); (case side2 => exact HC0.out); rintro e w' ⟨rfl, ⟨nd, rfl⟩⟩; refine ⟨_, rfl, ?_⟩) | ((with_reducible refine gate_callee (f := 44) rfl ?_); refine gL (some 15) Tryd.func44 #[.slice A0 l0.length c0] ?_; (with_reducible refine (spec_DrawLessRecord.calls k _ _ l0 t586 t587 t588 t589 t590 t591 t592 t593 t594 t595 t596 t597 _ ?side1 ?side2 A4.out).mono ?_); (case side1 => exact cU (HR0.out)); (case side2 => exact HC0.out); rintro e w10 ⟨rfl, hb⟩; refine ⟨_, rfl, ?_⟩; replace HB := aS (below_step (wU HB.out) hb); clear hb) | ((with_reducible refine gate_dst (N := 3) rfl ?_); refine xB 3 #[.string (⟨#[]⟩ : ByteArray), .int .i64 0, .int .i64 0, .int .i64 0, .string (⟨#[]⟩ : ByteArray), .string (⟨#[]⟩ : ByteArray)] 25 ?_; intro gb598 hg w11 hbox hb; have BK598 := aS (hbox); have GW598 := gW hg (wU HB.out); have GE598 := gW hg (wU HB.out); replace HB := aS (below_step (wU HB.out) hb); clear hb hbox hg) | ((with_reducible refine gate_dst (N := 4) rfl ?_); refine xB 4 #[.string (⟨#[]⟩ : ByteArray), .int .i64 0, .int .i64 0, .int .i64 0, .string (⟨#[]⟩ : ByteArray), .string (⟨#[]⟩ : ByteArray)] 25 ?_; intro gb599 hg w12 hbox hb; have BK599 := aS (hbox); have GW599 := gW hg (wS1 HB.out GE598.out); have GE599 := gW hg (wS1 HB.out GE598.out); replace HB := aS (below_step (wS1 HB.out GE598.out) hb); have NB598_599 := nB hg BK598; have NB599_598 := nS NB598_599; replace BK598 := bB BK598 hb; clear hb hbox hg; have hnb13 := NB598_599.out; have hnc13 := NB599_598.out; have hcz14 := cells6f BK598.out; have hcz15 := cells6f BK599.out) | ((with_reducible refine gate_callee (f := 45) rfl ?_); refine gL (some 19) Tryd.func45 #[.slice A0 l0.length c0] ?_; (with_reducible refine (spec_DrawSortRecords.calls k _ _ l0 t600 _ ?side1 ?side2 A5.out).mono ?_); (case side1 => exact Kd.C_below HR0.out (wS2 HB.out GE598.out GE599.out)); (case side2 => exact HC0.out); rintro e w16 ⟨v601, rfl, ho0, hb⟩; refine ⟨_, rfl, ?_⟩; have HO602 := aS (Kd.R_lower (Kd.R_newB (Kd.R_newB ho0 (g := gb598) (o := .cells #[.string t586, .int .i64 t587, .int .i64 t588, .int .i64 t589, .string t590, .string t591] 25 (0, 0)) (by (iterate 6 ((with_reducible repeat (first | refine blk_drewN ?_ _ | refine blk_drew ?_ | refine blk_alloc ?_ _)); refine blk_far ?_ NB598_599.out _)); (with_reducible repeat (first | refine blk_drewN ?_ _ | refine blk_drew ?_ | refine blk_alloc ?_ _)); refine blk_put_6 (.string (⟨#[]⟩ : ByteArray)) (.int .i64 0) (.int .i64 0) (.int .i64 0) (.string (⟨#[]⟩ : ByteArray)) (.string (⟨#[]⟩ : ByteArray)) ?_; exact bU BK598.out)) (g := gb599) (o := .cells #[.string t592, .int .i64 t593, .int .i64 t594, .int .i64 t595, .string t596, .string t597] 25 (0, 0)) (by (with_reducible repeat (first | refine blk_drewN ?_ _ | refine blk_drew ?_ | refine blk_alloc ?_ _)); refine blk_put_6 (.string (⟨#[]⟩ : ByteArray)) (.int .i64 0) (.int .i64 0) (.int .i64 0) (.string (⟨#[]⟩ : ByteArray)) (.string (⟨#[]⟩ : ByteArray)) ?_; exact bF1 BK599.out NB599_598.out)) (below_size (wS2 HB.out GE598.out GE599.out))); replace BK598 := aS (blk_below (g := gb598) (o := .cells #[.string t586, .int .i64 t587, .int .i64 t588, .int .i64 t589, .string t590, .string t591] 25 (0, 0)) (by (iterate 6 ((with_reducible repeat (first | refine blk_drewN ?_ _ | refine blk_drew ?_ | refine blk_alloc ?_ _)); refine blk_far ?_ NB598_599.out _)); (with_reducible repeat (first | refine blk_drewN ?_ _ | refine blk_drew ?_ | refine blk_alloc ?_ _)); refine blk_put_6 (.string (⟨#[]⟩ : ByteArray)) (.int .i64 0) (.int .i64 0) (.int .i64 0) (.string (⟨#[]⟩ : ByteArray)) (.string (⟨#[]⟩ : ByteArray)) ?_; exact bU BK598.out) hb); replace BK599 := aS (blk_below (g := gb599) (o := .cells #[.string t592, .int .i64 t593, .int .i64 t594, .int .i64 t595, .string t596, .string t597] 25 (0, 0)) (by (with_reducible repeat (first | refine blk_drewN ?_ _ | refine blk_drew ?_ | refine blk_alloc ?_ _)); refine blk_put_6 (.string (⟨#[]⟩ : ByteArray)) (.int .i64 0) (.int .i64 0) (.int .i64 0) (.string (⟨#[]⟩ : ByteArray)) (.string (⟨#[]⟩ : ByteArray)) ?_; exact bF1 BK599.out NB599_598.out) hb); replace HB := aS (below_step (wS2 HB.out GE598.out GE599.out) hb); clear hb; (try clear ho0)) | ((with_reducible refine gate_callee (f := 46) rfl ?_); refine gL (some 21) Tryd.func46 #[.slice A0 l0.length c0] ?_; (with_reducible refine (spec_DrawRecordText.calls k _ _ l0 t603 t604 t605 t606 t607 t608 _ ?side1 ?side2 A6.out).mono ?_); (case side1 => exact cU ((Kd.C_below HR0.out HB.out))); (case side2 => exact HC0.out); rintro e w17 ⟨rfl, hb⟩; refine ⟨_, rfl, ?_⟩; replace HO602 := rB HO602 hb; replace BK598 := bB BK598 hb; replace BK599 := bB BK599 hb; replace HB := aS (below_step (wS2 HB.out GE598.out GE599.out) hb); clear hb) | ((with_reducible refine gate_dst (N := 6) rfl ?_); refine xB 6 #[.string (⟨#[]⟩ : ByteArray), .int .i64 0, .int .i64 0, .int .i64 0, .string (⟨#[]⟩ : ByteArray), .string (⟨#[]⟩ : ByteArray)] 25 ?_; intro gb609 hg w18 hbox hb; replace HO602 := aS (Kd.R_below (Kd.R_elderB (rU HO602.out) gb609 (Nat.le_of_eq hg.symm)) hb); have BK609 := aS (hbox); have GW609 := gW hg (wS2 HB.out GE598.out GE599.out); have GE609 := gW hg (wS2 HB.out GE598.out GE599.out); replace HB := aS (below_step (wS2 HB.out GE598.out GE599.out) hb); have NB598_609 := nB hg BK598; have NB609_598 := nS NB598_609; replace BK598 := bB BK598 hb; have NB599_609 := nB hg BK599; have NB609_599 := nS NB599_609; replace BK599 := bB BK599 hb; clear hb hbox hg; have hnb19 := NB609_598.out; have hnc19 := NB598_609.out; have hnb20 := NB609_599.out; have hnc20 := NB599_609.out; have hcz21 := cells6f BK609.out) | ((with_reducible refine gate_callee (f := 47) rfl ?_); refine gL (some 24) Tryd.func47 #[.slice A0 l0.length c0] ?_; (with_reducible refine (spec_DrawSameRecords.calls k _ _ l0 t610 t611 _ ?side1 ?side2 A7.out).mono ?_); (case side1 => exact Kd.C_below HR0.out (wS3 HB.out GE598.out GE599.out GE609.out)); (case side2 => exact HC0.out); rintro e w22 ⟨v612, v614, rfl, ho0, ho1, hb⟩; refine ⟨_, rfl, ?_⟩; have HO613 := aS (Kd.R_lower (Kd.R_newB (Kd.R_newB (Kd.R_newB (Kd.R_new' ho0 (Kd.R_lt (by (with_reducible repeat (first | apply Kd.R_alloc | apply Kd.R_drewN | apply Kd.R_drew)); exact (Kd.R_mono (Kd.R_far (p := ⟨gb609, 5, none⟩) (Kd.R_far (p := ⟨gb609, 4, none⟩) (Kd.R_far (p := ⟨gb609, 3, none⟩) (Kd.R_far (p := ⟨gb609, 2, none⟩) (Kd.R_far (p := ⟨gb609, 1, none⟩) (Kd.R_far (p := ⟨gb609, 0, none⟩) (Kd.R_mono HO602.out (fun k_ hk => (⟨hk, hk.2⟩ : _ ∧ k_ ≠ gb609))) (fun _ hk => hk.2) (.string t603)) (fun _ hk => hk.2) (.int .i64 t604)) (fun _ hk => hk.2) (.int .i64 t605)) (fun _ hk => hk.2) (.int .i64 t606)) (fun _ hk => hk.2) (.string t607)) (fun _ hk => hk.2) (.string t608)) (fun _ h_ => h_.1))))) (g := gb598) (o := .cells #[.string t586, .int .i64 t587, .int .i64 t588, .int .i64 t589, .string t590, .string t591] 25 (0, 0)) (by exact bF1 BK598.out NB598_609.out)) (g := gb599) (o := .cells #[.string t592, .int .i64 t593, .int .i64 t594, .int .i64 t595, .string t596, .string t597] 25 (0, 0)) (by exact bF1 BK599.out NB599_609.out)) (g := gb609) (o := .cells #[.string t603, .int .i64 t604, .int .i64 t605, .int .i64 t606, .string t607, .string t608] 25 (0, 0)) (by (with_reducible repeat (first | refine blk_drewN ?_ _ | refine blk_drew ?_ | refine blk_alloc ?_ _)); refine blk_put_6 (.string (⟨#[]⟩ : ByteArray)) (.int .i64 0) (.int .i64 0) (.int .i64 0) (.string (⟨#[]⟩ : ByteArray)) (.string (⟨#[]⟩ : ByteArray)) ?_; exact bU BK609.out)) (below_size (wS3 HB.out GE598.out GE599.out GE609.out))); have HO615 := aS (Kd.R_lower (Kd.R_newB (Kd.R_newB (Kd.R_newB (Kd.R_new' ho1 (Kd.R_lt (by (with_reducible repeat (first | apply Kd.R_alloc | apply Kd.R_drewN | apply Kd.R_drew)); exact (Kd.R_mono (Kd.R_far (p := ⟨gb609, 5, none⟩) (Kd.R_far (p := ⟨gb609, 4, none⟩) (Kd.R_far (p := ⟨gb609, 3, none⟩) (Kd.R_far (p := ⟨gb609, 2, none⟩) (Kd.R_far (p := ⟨gb609, 1, none⟩) (Kd.R_far (p := ⟨gb609, 0, none⟩) (Kd.R_mono HO602.out (fun k_ hk => (⟨hk, hk.2⟩ : _ ∧ k_ ≠ gb609))) (fun _ hk => hk.2) (.string t603)) (fun _ hk => hk.2) (.int .i64 t604)) (fun _ hk => hk.2) (.int .i64 t605)) (fun _ hk => hk.2) (.int .i64 t606)) (fun _ hk => hk.2) (.string t607)) (fun _ hk => hk.2) (.string t608)) (fun _ h_ => h_.1))))) (g := gb598) (o := .cells #[.string t586, .int .i64 t587, .int .i64 t588, .int .i64 t589, .string t590, .string t591] 25 (0, 0)) (by exact bF1 BK598.out NB598_609.out)) (g := gb599) (o := .cells #[.string t592, .int .i64 t593, .int .i64 t594, .int .i64 t595, .string t596, .string t597] 25 (0, 0)) (by exact bF1 BK599.out NB599_609.out)) (g := gb609) (o := .cells #[.string t603, .int .i64 t604, .int .i64 t605, .int .i64 t606, .string t607, .string t608] 25 (0, 0)) (by (with_reducible repeat (first | refine blk_drewN ?_ _ | refine blk_drew ?_ | refine blk_alloc ?_ _)); refine blk_put_6 (.string (⟨#[]⟩ : ByteArray)) (.int .i64 0) (.int .i64 0) (.int .i64 0) (.string (⟨#[]⟩ : ByteArray)) (.string (⟨#[]⟩ : ByteArray)) ?_; exact bU BK609.out)) (below_size (wS3 HB.out GE598.out GE599.out GE609.out))); replace HO602 := aS (Kd.R_mono (Kd.R_told (Kd.R_told (Kd.R_old (by (with_reducible repeat (first | apply Kd.R_alloc | apply Kd.R_drewN | apply Kd.R_drew)); exact (Kd.R_mono (Kd.R_far (p := ⟨gb609, 5, none⟩) (Kd.R_far (p := ⟨gb609, 4, none⟩) (Kd.R_far (p := ⟨gb609, 3, none⟩) (Kd.R_far (p := ⟨gb609, 2, none⟩) (Kd.R_far (p := ⟨gb609, 1, none⟩) (Kd.R_far (p := ⟨gb609, 0, none⟩) (Kd.R_mono HO602.out (fun k_ hk => (⟨hk, hk.2⟩ : _ ∧ k_ ≠ gb609))) (fun _ hk => hk.2) (.string t603)) (fun _ hk => hk.2) (.int .i64 t604)) (fun _ hk => hk.2) (.int .i64 t605)) (fun _ hk => hk.2) (.int .i64 t606)) (fun _ hk => hk.2) (.string t607)) (fun _ hk => hk.2) (.string t608)) (fun _ h_ => h_.1))) hb) (Kd.R_base ho0)) (Kd.R_base ho1)) (fun _ h_ => h_.1)); replace BK598 := aS (blk_below (g := gb598) (o := .cells #[.string t586, .int .i64 t587, .int .i64 t588, .int .i64 t589, .string t590, .string t591] 25 (0, 0)) (by exact bF1 BK598.out NB598_609.out) hb); replace BK599 := aS (blk_below (g := gb599) (o := .cells #[.string t592, .int .i64 t593, .int .i64 t594, .int .i64 t595, .string t596, .string t597] 25 (0, 0)) (by exact bF1 BK599.out NB599_609.out) hb); replace BK609 := aS (blk_below (g := gb609) (o := .cells #[.string t603, .int .i64 t604, .int .i64 t605, .int .i64 t606, .string t607, .string t608] 25 (0, 0)) (by (with_reducible repeat (first | refine blk_drewN ?_ _ | refine blk_drew ?_ | refine blk_alloc ?_ _)); refine blk_put_6 (.string (⟨#[]⟩ : ByteArray)) (.int .i64 0) (.int .i64 0) (.int .i64 0) (.string (⟨#[]⟩ : ByteArray)) (.string (⟨#[]⟩ : ByteArray)) ?_; exact bU BK609.out) hb); replace HB := aS (below_step (wS3 HB.out GE598.out GE599.out GE609.out) hb); clear hb; (try clear ho0); (try clear ho1); obtain ⟨Ao23, co23, eo23⟩ := Kd.R_slice HO602.out; subst eo23) | ((with_reducible refine gate_callee (f := 48) rfl ?_); refine gL (some 28) Tryd.func48 #[.slice Ao23 t600.length co23] ?_; (with_reducible refine (impl_SortRecords.calls k _ _ t600 t616 _ ?side1 ?side2 A8.out).mono ?_); (case side1 => exact cU ((Kd.R_reads' HO602.out).2.2)); (case side2 => exact (Kd.R_reads' HO602.out).2.1); rintro e w24 ⟨v617, rfl, ho0, hb⟩; refine ⟨_, rfl, ?_⟩; have HO618 := aS (Kd.R_lower (Kd.R_newB (Kd.R_newB (Kd.R_newB (Kd.R_new' (Kd.R_new' (Kd.R_new' ho0 (Kd.R_lt (rU HO602.out))) (Kd.R_lt (rU HO613.out))) (Kd.R_lt (rU HO615.out))) (g := gb598) (o := .cells #[.string t586, .int .i64 t587, .int .i64 t588, .int .i64 t589, .string t590, .string t591] 25 (0, 0)) (bU BK598.out)) (g := gb599) (o := .cells #[.string t592, .int .i64 t593, .int .i64 t594, .int .i64 t595, .string t596, .string t597] 25 (0, 0)) (bU BK599.out)) (g := gb609) (o := .cells #[.string t603, .int .i64 t604, .int .i64 t605, .int .i64 t606, .string t607, .string t608] 25 (0, 0)) (bU BK609.out)) (below_size (wS3 HB.out GE598.out GE599.out GE609.out))); replace HO602 := aS (Kd.R_elder' (rU HO602.out) (Kd.R_base ho0) hb); replace HO613 := aS (Kd.R_elder' (rU HO613.out) (Kd.R_base ho0) hb); replace HO615 := aS (Kd.R_elder' (rU HO615.out) (Kd.R_base ho0) hb); replace BK598 := bB BK598 hb; replace BK599 := bB BK599 hb; replace BK609 := bB BK609 hb; replace HB := aS (below_step (wS3 HB.out GE598.out GE599.out GE609.out) hb); clear hb; (try clear ho0)))
  (try simp only [Act.put, List.setIfInBounds_toArray, List.set_cons_zero, List.set_cons_succ])
  go_cut [65] (fun v65 wc => ∃ (kq : Nat) (x65_8 : Bool), v65 = .bool x65_8 ∧ Aside0 (laws_FnRecords.j0 kq t600 t616 x65_8 t586 t587 t588 t589 t590 t591 t592 t593 t594 t595 t596 t597 t603 t604 t605 t606 t607 t608 = some r) ∧ Aside0 (kq ≤ k) ∧ Aside0 (Kd.R k25 25 wc w.heap.size (fun k_ => some k_ ≠ (v617 : Value).ownBlock ∧ k_ ≠ gb598 ∧ k_ ≠ gb599 ∧ k_ ≠ gb609) (.slice Ao23 t600.length co23) t600) ∧ Aside0 (Kd.R k25 25 wc w.heap.size (fun k_ => some k_ ≠ ((.slice Ao23 t600.length co23) : Value).ownBlock ∧ k_ ≠ gb598 ∧ k_ ≠ gb599 ∧ k_ ≠ gb609) v617 t616) ∧ Aside0 (wc.heap[gb598]? = some (.cells #[.string t586, .int .i64 t587, .int .i64 t588, .int .i64 t589, .string t590, .string t591] 25 (0, 0))) ∧ Aside0 (wc.heap[gb599]? = some (.cells #[.string t592, .int .i64 t593, .int .i64 t594, .int .i64 t595, .string t596, .string t597] 25 (0, 0))) ∧ Aside0 (wc.heap[gb609]? = some (.cells #[.string t603, .int .i64 t604, .int .i64 t605, .int .i64 t606, .string t607, .string t608] 25 (0, 0))) ∧ Aside0 (Below w.heap.size w wc))
  case first =>
   have H := HC9.out
   clear HC9
   obtain ⟨t619, A25, H⟩ := bM H
   try dsimp only at H
   obtain ⟨t620, A26, H⟩ := bM H
   try dsimp only at H
   by_cases c27 : (t619 != t620) = true
   ·rw [if_pos c27] at H
    have c27b0 : (t619 != t620) = true := c27
    (try (have c27b1 : decide (t619 = t620) = false := by simpa using c27))
    (try (have c27b2 : (t619 == t620) = false := by simpa using c27))
    (try (have c27b3 : ¬ (t619 = t620) := by simpa using c27))
    clear c27
    (first | rw [c27b0] | (simp only [i64_w, i32_w]; rw [c27b0]) | skip)
    exact absurd (H.trans (congrArg some hrt_)) laws_FnRecords.j0f
   ·rw [if_neg c27] at H
    have c27b0 : (t619 != t620) = false := by simpa using c27
    (try (have c27b1 : decide (t619 = t620) = true := by simpa using c27))
    (try (have c27b2 : (t619 == t620) = true := by simpa using c27))
    clear c27
    (first | rw [c27b0] | (simp only [i64_w, i32_w]; rw [c27b0]) | skip)
    obtain ⟨t621, A31, H⟩ := bM H
    try dsimp only at H
    obtain ⟨t624, A32, H⟩ := bM H
    try dsimp only at H
    by_cases c33 : t624 = true
    ·subst c33
     rw [if_pos rfl] at H
     obtain ⟨t625, A34, H⟩ := bM H
     try dsimp only at H
     obtain ⟨t626, A35, H⟩ := bM H
     try dsimp only at H
     by_cases c36 : t625.toList = t626.toList
     ·rw [if_pos c36] at H
      have c36b0 := beq_iff_eq.mpr c36
      have c36b1 := bne_eq_false_iff_eq.mpr c36
      clear c36
      obtain ⟨t627, A37, H⟩ := bM H
      try dsimp only at H
      obtain ⟨t628, A38, H⟩ := bM H
      try dsimp only at H
      by_cases c39 : (t627 != t628) = true
      ·rw [if_pos c39] at H
       have c39b0 : (t627 != t628) = true := c39
       (try (have c39b1 : decide (t627 = t628) = false := by simpa using c39))
       (try (have c39b2 : (t627 == t628) = false := by simpa using c39))
       (try (have c39b3 : ¬ (t627 = t628) := by simpa using c39))
       clear c39
       exact absurd (H.trans (congrArg some hrt_)) laws_FnRecords.j0f
      ·rw [if_neg c39] at H
       have c39b0 : (t627 != t628) = false := by simpa using c39
       (try (have c39b1 : decide (t627 = t628) = true := by simpa using c39))
       (try (have c39b2 : (t627 == t628) = true := by simpa using c39))
       clear c39
       obtain ⟨t629, A50, H⟩ := bM H
       try dsimp only at H
       obtain ⟨t630, A51, H⟩ := bM H
       try dsimp only at H
       have H' := aS H
       clear H
       try go_wp2
       replace HO602 := aS (Kd.R_drew HO602.out)
       replace HO613 := aS (Kd.R_drew HO613.out)
       replace HO615 := aS (Kd.R_drew HO615.out)
       replace HO618 := aS (Kd.R_drew HO618.out)
       replace BK598 := aS (blk_drew BK598.out)
       replace BK599 := aS (blk_drew BK599.out)
       replace BK609 := aS (blk_drew BK609.out)
       replace HB := aS (below_drew1 HB.out)
       refine start_ (n := 37) (S := fun w' => w'.cell? ⟨gb598, 0, none⟩ = some (.string t586) ∧ w'.cell? ⟨gb598, 1, none⟩ = some (.int .i64 t587) ∧ w'.cell? ⟨gb598, 2, none⟩ = some (.int .i64 t588) ∧ w'.cell? ⟨gb598, 3, none⟩ = some (.int .i64 t589) ∧ w'.cell? ⟨gb598, 4, none⟩ = some (.string t590) ∧ w'.cell? ⟨gb598, 5, none⟩ = some (.string t591) ∧ w'.cell? ⟨gb599, 0, none⟩ = some (.string t592) ∧ w'.cell? ⟨gb599, 1, none⟩ = some (.int .i64 t593) ∧ w'.cell? ⟨gb599, 2, none⟩ = some (.int .i64 t594) ∧ w'.cell? ⟨gb599, 3, none⟩ = some (.int .i64 t595) ∧ w'.cell? ⟨gb599, 4, none⟩ = some (.string t596) ∧ w'.cell? ⟨gb599, 5, none⟩ = some (.string t597) ∧ w'.cell? ⟨gb609, 0, none⟩ = some (.string t603) ∧ w'.cell? ⟨gb609, 1, none⟩ = some (.int .i64 t604) ∧ w'.cell? ⟨gb609, 2, none⟩ = some (.int .i64 t605) ∧ w'.cell? ⟨gb609, 3, none⟩ = some (.int .i64 t606) ∧ w'.cell? ⟨gb609, 4, none⟩ = some (.string t607) ∧ w'.cell? ⟨gb609, 5, none⟩ = some (.string t608)) (ds := []) #[false, false, false, false, false, false, false, false, false, false, false, false, false, false, false, false, false, false, false, false, false, false, false, false, false, false, false, false, false, false, false, false, false, false, false, false, false] jK rfl rfl (b6 BK598.out (b6 BK599.out (c6 BK609.out))) (fun hHeld => ?_); refine with_tabW laws_FnRecords.tab8 laws_FnRecords.bits8 (fun HT_ HW_ => ?_)
       generalize w24.drew = w52 at HO602 HO613 HO615 HO618 BK598 BK599 BK609 HB hHeld ⊢
       refine tA HT_ HW_ hHeld 0 (some 29) (tf 1 36) ?_
       refine tA HT_ HW_ hHeld 1 (some 30) (tf 2 35) ?_
       refine tA HT_ HW_ hHeld 3 (some 32) #[true, true, false, true, false, false, false, false, false, false, false, false, false, false, false, false, false, false, false, false, false, false, false, false, false, false, false, false, false, false, false, false, false, false, false, false, false] ?_
       refine tA HT_ HW_ hHeld 4 (some 33) #[true, true, false, true, true, false, false, false, false, false, false, false, false, false, false, false, false, false, false, false, false, false, false, false, false, false, false, false, false, false, false, false, false, false, false, false, false] ?_
       refine one_ (i := 2) (N := some 31) (tf 5 32) rfl rfl (one_of HT_.out jK) (by decide) (fun K hK => ?_)
       refine goes_ Tryd.func49 jK rfl #[.agg #[.string t586, .int .i64 t587, .int .i64 t588, .int .i64 t589, .string t590, .string t591], .agg #[.string t592, .int .i64 t593, .int .i64 t594, .int .i64 t595, .string t596, .string t597]] (by rfl) rfl rfl jA ?_
       with_reducible refine (impl_LessRecord.calls k t586 t587 t588 t589 t590 t591 t592 t593 t594 t595 t596 t597 t619 _ A25.out).mono ?_
       rintro e w53 ⟨rfl, hb⟩
       refine ⟨_, rfl, ?_⟩
       replace HO602 := rB HO602 hb
       replace HO613 := rB HO613 hb
       replace HO615 := rB HO615 hb
       replace HO618 := rB HO618 hb
       replace BK598 := bB BK598 hb
       replace BK599 := bB BK599 hb
       replace BK609 := bB BK609 hb
       replace HB := aS (below_step (wS3 HB.out GE598.out GE599.out GE609.out) hb)
       (try clear hb)
       (try clear hb2)
       (try clear hk)
       (try clear hi)
       refine hK.out _ _ (b6 BK598.out (b6 BK599.out (c6 BK609.out))) (fun hHeld => ?_)
       clear hK K
       refine nA (some 31) ?_
       refine one_ (i := 5) (N := some 34) (tf 6 31) rfl rfl (one_of HT_.out jK) (by decide) (fun K hK => ?_)
       refine goes_ Tryd.func50 jK rfl #[.agg #[.string t586, .int .i64 t587, .int .i64 t588, .int .i64 t589, .string t590, .string t591], .agg #[.string t592, .int .i64 t593, .int .i64 t594, .int .i64 t595, .string t596, .string t597]] (by rfl) rfl rfl jA ?_
       with_reducible refine (spec_LessRecord.calls k t586 t587 t588 t589 t590 t591 t592 t593 t594 t595 t596 t597 t620 _ A26.out).mono ?_
       rintro e w54 ⟨rfl, hb⟩
       refine ⟨_, rfl, ?_⟩
       replace HO602 := rB HO602 hb
       replace HO613 := rB HO613 hb
       replace HO615 := rB HO615 hb
       replace HO618 := rB HO618 hb
       replace BK598 := bB BK598 hb
       replace BK599 := bB BK599 hb
       replace BK609 := bB BK609 hb
       replace HB := aS (below_step (wS3 HB.out GE598.out GE599.out GE609.out) hb)
       (try clear hb)
       (try clear hb2)
       (try clear hk)
       (try clear hi)
       refine hK.out _ _ (b6 BK598.out (b6 BK599.out (c6 BK609.out))) (fun hHeld => ?_)
       clear hK K
       refine nA (some 34) ?_
       refine pA HT_ 6 (some 35) (tf 7 30) ?_
       refine pA HT_ 7 (some 36) (tf 8 29) ?_
       refine pA HT_ 8 (some 37) (tf 9 28) ?_
       refine pA HT_ 9 (some 38) (tf 10 27) ?_
       refine one_ (i := 10) (N := some 39) (tf 11 26) rfl rfl (one_of HT_.out jK) (by decide) (fun K hK => ?_)
       refine goes_ Tryd.func51 jK rfl #[.slice Ao23 t600.length co23] (by rfl) rfl rfl jA ?_
       with_reducible refine (spec_SortRecords.calls k _ _ t600 t621 _ ?side1 ?side2 A31.out).mono ?_
       (case side1 => exact cU ((Kd.R_reads' HO602.out).2.2))
       (case side2 => exact (Kd.R_reads' HO602.out).2.1)
       rintro e w55 ⟨v622, rfl, ho0, hb⟩
       refine ⟨_, rfl, ?_⟩
       have HO623 := aS (Kd.R_lower (Kd.R_newB (Kd.R_newB (Kd.R_newB (Kd.R_new' (Kd.R_new' (Kd.R_new' (Kd.R_new' ho0 (Kd.R_lt (rU HO602.out))) (Kd.R_lt (rU HO613.out))) (Kd.R_lt (rU HO615.out))) (Kd.R_lt (rU HO618.out))) (g := gb598) (o := .cells #[.string t586, .int .i64 t587, .int .i64 t588, .int .i64 t589, .string t590, .string t591] 25 (0, 0)) (bU BK598.out)) (g := gb599) (o := .cells #[.string t592, .int .i64 t593, .int .i64 t594, .int .i64 t595, .string t596, .string t597] 25 (0, 0)) (bU BK599.out)) (g := gb609) (o := .cells #[.string t603, .int .i64 t604, .int .i64 t605, .int .i64 t606, .string t607, .string t608] 25 (0, 0)) (bU BK609.out)) (below_size (wS3 HB.out GE598.out GE599.out GE609.out)))
       replace HO602 := aS (Kd.R_elder' (rU HO602.out) (Kd.R_base ho0) hb)
       replace HO613 := aS (Kd.R_elder' (rU HO613.out) (Kd.R_base ho0) hb)
       replace HO615 := aS (Kd.R_elder' (rU HO615.out) (Kd.R_base ho0) hb)
       replace HO618 := aS (Kd.R_elder' (rU HO618.out) (Kd.R_base ho0) hb)
       replace BK598 := bB BK598 hb
       replace BK599 := bB BK599 hb
       replace BK609 := bB BK609 hb
       replace HB := aS (below_step (wS3 HB.out GE598.out GE599.out GE609.out) hb)
       (try clear hb)
       (try clear hb2)
       (try clear hk)
       (try clear hi)
       (try clear ho0)
       obtain ⟨Ao56, co56, eo56⟩ := Kd.R_slice HO618.out
       (first | subst eo56 | (injection eo56 with f1_ f2_ f3_; have f4_ := f1_.symm; have f5_ := f3_.symm; clear f1_ f2_ f3_; subst f4_; subst f5_))
       obtain ⟨Ao57, co57, eo57⟩ := Kd.R_slice HO623.out
       (first | subst eo57 | (injection eo57 with f1_ f2_ f3_; have f4_ := f1_.symm; have f5_ := f3_.symm; clear f1_ f2_ f3_; subst f4_; subst f5_))
       refine hK.out _ _ (b6 BK598.out (b6 BK599.out (c6 BK609.out))) (fun hHeld => ?_)
       clear hK K
       refine nA (some 39) ?_
       refine one_ (i := 11) (N := some 40) (tf 12 25) rfl rfl (one_of HT_.out jK) (by decide) (fun K hK => ?_)
       refine goes_ Tryd.func22 jK rfl #[.slice Ao56 t616.length co56, .slice Ao57 t621.length co57] (by rfl) rfl rfl jA ?_
       with_reducible refine (laws_sameRecs.calls k _ _ t616 _ _ t621 true _ ?side1 ?side2 ?side3 ?side4 A32.out).mono ?_
       (case side1 => exact cU ((Kd.R_reads' HO618.out).2.2))
       (case side2 => exact (Kd.R_reads' HO618.out).2.1)
       (case side3 => exact cU ((Kd.R_reads' HO623.out).2.2))
       (case side4 => exact (Kd.R_reads' HO623.out).2.1)
       rintro e w' ⟨rfl, ⟨nd, rfl⟩⟩
       refine ⟨_, rfl, ?_⟩
       refine hK.out _ _ (b6 BK598.out (b6 BK599.out (c6 BK609.out))) (fun hHeld => ?_)
       clear hK K
       refine nA (some 40) ?_
       refine pA HT_ 12 (some 41) (tf 13 24) ?_
       refine pA HT_ 13 (some 42) (tf 14 23) ?_
       refine pA HT_ 14 (some 43) (tf 15 22) ?_
       refine tA HT_ HW_ hHeld 15 (some 44) (tf 16 21) ?_
       refine tA HT_ HW_ hHeld 17 (some 46) #[true, true, true, true, true, true, true, true, true, true, true, true, true, true, true, true, false, true, false, false, false, false, false, false, false, false, false, false, false, false, false, false, false, false, false, false, false] ?_
       refine one_ (i := 16) (N := some 45) (tf 18 19) rfl rfl (one_of HT_.out jK) (by decide) (fun K hK => ?_)
       refine goes_ Tryd.func52 jK rfl #[.agg #[.string t603, .int .i64 t604, .int .i64 t605, .int .i64 t606, .string t607, .string t608]] (by rfl) rfl rfl jA ?_
       with_reducible refine (impl_RecordText.calls k t603 t604 t605 t606 t607 t608 t625 _ A34.out).mono ?_
       rintro e w58 ⟨rfl, hb⟩
       refine ⟨_, rfl, ?_⟩
       replace HO602 := rB HO602 hb
       replace HO613 := rB HO613 hb
       replace HO615 := rB HO615 hb
       replace HO618 := rB HO618 hb
       replace HO623 := rB HO623 hb
       replace BK598 := bB BK598 hb
       replace BK599 := bB BK599 hb
       replace BK609 := bB BK609 hb
       replace HB := aS (below_step (wS3 HB.out GE598.out GE599.out GE609.out) hb)
       (try clear hb)
       (try clear hb2)
       (try clear hk)
       (try clear hi)
       refine hK.out _ _ (b6 BK598.out (b6 BK599.out (c6 BK609.out))) (fun hHeld => ?_)
       clear hK K
       refine nA (some 45) ?_
       refine one_ (i := 18) (N := some 47) (tf 19 18) rfl rfl (one_of HT_.out jK) (by decide) (fun K hK => ?_)
       refine goes_ Tryd.func53 jK rfl #[.agg #[.string t603, .int .i64 t604, .int .i64 t605, .int .i64 t606, .string t607, .string t608]] (by rfl) rfl rfl jA ?_
       with_reducible refine (spec_RecordText.calls k t603 t604 t605 t606 t607 t608 t626 _ A35.out).mono ?_
       rintro e w59 ⟨rfl, hb⟩
       refine ⟨_, rfl, ?_⟩
       replace HO602 := rB HO602 hb
       replace HO613 := rB HO613 hb
       replace HO615 := rB HO615 hb
       replace HO618 := rB HO618 hb
       replace HO623 := rB HO623 hb
       replace BK598 := bB BK598 hb
       replace BK599 := bB BK599 hb
       replace BK609 := bB BK609 hb
       replace HB := aS (below_step (wS3 HB.out GE598.out GE599.out GE609.out) hb)
       (try clear hb)
       (try clear hb2)
       (try clear hk)
       (try clear hi)
       refine hK.out _ _ (b6 BK598.out (b6 BK599.out (c6 BK609.out))) (fun hHeld => ?_)
       clear hK K
       refine nA (some 47) ?_
       refine pA HT_ 19 (some 48) (tf 20 17) ?_
       refine pA HT_ 20 (some 49) (tf 21 16) ?_
       refine pA HT_ 21 (some 50) (tf 22 15) ?_
       refine tA HT_ HW_ hHeld 22 (some 51) (tf 23 14) ?_
       refine tA HT_ HW_ hHeld 24 (some 53) #[true, true, true, true, true, true, true, true, true, true, true, true, true, true, true, true, true, true, true, true, true, true, true, false, true, false, false, false, false, false, false, false, false, false, false, false, false] ?_
       refine one_ (i := 23) (N := some 52) (tf 25 12) rfl rfl (one_of HT_.out jK) (by decide) (fun K hK => ?_)
       refine goes_ Tryd.func15 jK rfl #[.agg #[.string t603, .int .i64 t604, .int .i64 t605, .int .i64 t606, .string t607, .string t608]] (by rfl) rfl rfl jA ?_
       with_reducible refine (impl_RecordOk.calls k t603 t604 t605 t606 t607 t608 t627 _ A37.out).mono ?_
       rintro e w60 ⟨rfl, hb⟩
       refine ⟨_, rfl, ?_⟩
       replace HO602 := rB HO602 hb
       replace HO613 := rB HO613 hb
       replace HO615 := rB HO615 hb
       replace HO618 := rB HO618 hb
       replace HO623 := rB HO623 hb
       replace BK598 := bB BK598 hb
       replace BK599 := bB BK599 hb
       replace BK609 := bB BK609 hb
       replace HB := aS (below_step (wS3 HB.out GE598.out GE599.out GE609.out) hb)
       (try clear hb)
       (try clear hb2)
       (try clear hk)
       (try clear hi)
       refine hK.out _ _ (b6 BK598.out (b6 BK599.out (c6 BK609.out))) (fun hHeld => ?_)
       clear hK K
       refine nA (some 52) ?_
       refine one_ (i := 25) (N := some 54) (tf 26 11) rfl rfl (one_of HT_.out jK) (by decide) (fun K hK => ?_)
       refine goes_ Tryd.func54 jK rfl #[.agg #[.string t603, .int .i64 t604, .int .i64 t605, .int .i64 t606, .string t607, .string t608]] (by rfl) rfl rfl jA ?_
       with_reducible refine (spec_RecordOk.calls k t603 t604 t605 t606 t607 t608 t628 _ A38.out).mono ?_
       rintro e w61 ⟨rfl, hb⟩
       refine ⟨_, rfl, ?_⟩
       replace HO602 := rB HO602 hb
       replace HO613 := rB HO613 hb
       replace HO615 := rB HO615 hb
       replace HO618 := rB HO618 hb
       replace HO623 := rB HO623 hb
       replace BK598 := bB BK598 hb
       replace BK599 := bB BK599 hb
       replace BK609 := bB BK609 hb
       replace HB := aS (below_step (wS3 HB.out GE598.out GE599.out GE609.out) hb)
       (try clear hb)
       (try clear hb2)
       (try clear hk)
       (try clear hi)
       obtain ⟨Ao62, co62, eo62⟩ := Kd.R_slice HO613.out
       (first | subst eo62 | (injection eo62 with f1_ f2_ f3_; have f4_ := f1_.symm; have f5_ := f3_.symm; clear f1_ f2_ f3_; subst f4_; subst f5_))
       obtain ⟨Ao63, co63, eo63⟩ := Kd.R_slice HO615.out
       (first | subst eo63 | (injection eo63 with f1_ f2_ f3_; have f4_ := f1_.symm; have f5_ := f3_.symm; clear f1_ f2_ f3_; subst f4_; subst f5_))
       refine hK.out _ _ (b6 BK598.out (b6 BK599.out (c6 BK609.out))) (fun hHeld => ?_)
       clear hK K
       refine nA (some 54) ?_
       refine pA HT_ 26 (some 55) (tf 27 10) ?_
       refine pA HT_ 27 (some 56) (tf 28 9) ?_
       refine pA HT_ 28 (some 57) (tf 29 8) ?_
       refine pA HT_ 29 (some 58) (tf 30 7) ?_
       refine pA HT_ 30 (some 59) (tf 31 6) ?_
       refine pA HT_ 32 (some 61) #[true, true, true, true, true, true, true, true, true, true, true, true, true, true, true, true, true, true, true, true, true, true, true, true, true, true, true, true, true, true, true, false, true, false, false, false, false] ?_
       refine pA HT_ 33 (some 62) #[true, true, true, true, true, true, true, true, true, true, true, true, true, true, true, true, true, true, true, true, true, true, true, true, true, true, true, true, true, true, true, false, true, true, false, false, false] ?_
       refine one_ (i := 31) (N := some 60) (tf 34 3) rfl rfl (one_of HT_.out jK) (by decide) (fun K hK => ?_)
       refine goes_ Tryd.func55 jK rfl #[.slice Ao62 t610.length co62, .slice Ao63 t611.length co63] (by rfl) rfl rfl jA ?_
       with_reducible refine (impl_SameRecords.calls k _ _ t610 _ _ t611 t629 _ ?side1 ?side2 ?side3 ?side4 A50.out).mono ?_
       (case side1 => exact cU ((Kd.R_reads' HO613.out).2.2))
       (case side2 => exact (Kd.R_reads' HO613.out).2.1)
       (case side3 => exact cU ((Kd.R_reads' HO615.out).2.2))
       (case side4 => exact (Kd.R_reads' HO615.out).2.1)
       rintro e w' ⟨rfl, ⟨nd, rfl⟩⟩
       refine ⟨_, rfl, ?_⟩
       refine hK.out _ _ (b6 BK598.out (b6 BK599.out (c6 BK609.out))) (fun hHeld => ?_)
       clear hK K
       refine nA (some 60) ?_
       refine one_ (i := 34) (N := some 63) (tf 35 2) rfl rfl (one_of HT_.out jK) (by decide) (fun K hK => ?_)
       refine goes_ Tryd.func22 jK rfl #[.slice Ao62 t610.length co62, .slice Ao63 t611.length co63] (by rfl) rfl rfl jA ?_
       with_reducible refine (laws_sameRecs.calls k _ _ t610 _ _ t611 t630 _ ?side1 ?side2 ?side3 ?side4 A51.out).mono ?_
       (case side1 => exact cU ((Kd.R_reads' HO613.out).2.2))
       (case side2 => exact (Kd.R_reads' HO613.out).2.1)
       (case side3 => exact cU ((Kd.R_reads' HO615.out).2.2))
       (case side4 => exact (Kd.R_reads' HO615.out).2.1)
       rintro e w' ⟨rfl, ⟨nd, rfl⟩⟩
       refine ⟨_, rfl, ?_⟩
       refine hK.out _ _ (b6 BK598.out (b6 BK599.out (c6 BK609.out))) (fun hHeld => ?_)
       clear hK K
       refine nA (some 63) ?_
       refine pA HT_ 35 (some 64) (tf 36 1) ?_
       refine pA HT_ 36 (some 65) (tf 37 0) ?_
       refine done_ (done_of HT_.out jK) ?_
       try go_wp2
       go_meet
       case rel => exact ⟨_, ((t629 != t630)), jB, H', ⟨by first | omega | exact Nat.le_refl _⟩, ⟨by (with_reducible repeat (first | apply Kd.R_alloc | apply Kd.R_drewN | apply Kd.R_drew)); exact Kd.R_mono HO602.out (fun _ hk => ⟨hk.1.2, ⟨hk.1.1.1.1.1.1.2, ⟨hk.1.1.1.1.1.2, hk.1.1.1.1.2⟩⟩⟩)⟩, ⟨by (with_reducible repeat (first | apply Kd.R_alloc | apply Kd.R_drewN | apply Kd.R_drew)); exact Kd.R_mono HO618.out (fun _ hk => ⟨hk.1.1.1.1.1.1.2, ⟨hk.1.1.1.2, ⟨hk.1.1.2, hk.1.2⟩⟩⟩)⟩, ⟨by exact bU BK598.out⟩, ⟨by exact bU BK599.out⟩, ⟨by exact bU BK609.out⟩, ⟨by exact wS3 HB.out GE598.out GE599.out GE609.out⟩⟩
     ·rw [if_neg c36] at H
      have c36b0 := beq_eq_false_iff_ne.mpr c36
      have c36b1 := bne_iff_ne.mpr c36
      exact absurd (H.trans (congrArg some hrt_)) laws_FnRecords.j0f
    ·replace c33 := Bool.eq_false_iff.mpr c33
     subst c33
     rw [if_neg Bool.false_ne_true] at H
     exact absurd (H.trans (congrArg some hrt_)) laws_FnRecords.j0f
  case rest =>
   clear HC9
   try clear c2
   try clear p2
   try clear c3
   try clear c4
   try clear c5
   try clear c22
   try clear c33
   try clear c49
   try clear c50
   try clear c51
   try clear c52
   try clear c53
   obtain ⟨kq, x65_8, rfl, HA, HJ8, HO_5, HO_9, BK598, BK599, BK609, HB⟩ := hcut
   cases kq with
   | zero => exact absurd HA.out (by simp [laws_FnRecords.j0])
   | succ kj8 =>
    have H := HA.out
    clear HA
    simp only [laws_FnRecords.j0] at H
    by_cases c78 : x65_8 = true
    ·subst c78
     rw [if_pos rfl] at H
     exact absurd (H.trans (congrArg some hrt_)) (by simp)
    ·replace c78 := Bool.eq_false_iff.mpr c78
     subst c78
     rw [if_neg Bool.false_ne_true] at H
     have HC79 := aS H
     clear H
     go_upto_region 10 with (fail)
     go_cut [87] (fun v87 wc => ∃ (kq : Nat) (x87_78 : Bool), v87 = .bool x87_78 ∧ Aside0 (laws_FnRecords.j1 kq t600 t616 x87_78 t603 t604 t605 t606 t607 t608 = some r) ∧ Aside0 (kq ≤ kj8) ∧ Aside0 (Kd.R k25 25 wc w.heap.size (fun k_ => some k_ ≠ (v617 : Value).ownBlock ∧ k_ ≠ gb598 ∧ k_ ≠ gb599 ∧ k_ ≠ gb609) (.slice Ao23 t600.length co23) t600) ∧ Aside0 (Kd.R k25 25 wc w.heap.size (fun k_ => some k_ ≠ ((.slice Ao23 t600.length co23) : Value).ownBlock ∧ k_ ≠ gb598 ∧ k_ ≠ gb599 ∧ k_ ≠ gb609) v617 t616) ∧ Aside0 (wc.heap[gb598]? = some (.cells #[.string t586, .int .i64 t587, .int .i64 t588, .int .i64 t589, .string t590, .string t591] 25 (0, 0))) ∧ Aside0 (wc.heap[gb599]? = some (.cells #[.string t592, .int .i64 t593, .int .i64 t594, .int .i64 t595, .string t596, .string t597] 25 (0, 0))) ∧ Aside0 (wc.heap[gb609]? = some (.cells #[.string t603, .int .i64 t604, .int .i64 t605, .int .i64 t606, .string t607, .string t608] 25 (0, 0))) ∧ Aside0 (Below w.heap.size w wc))
     case first =>
      have H := HC79.out
      clear HC79
      obtain ⟨t631, A80, H⟩ := bM H
      try dsimp only at H
      by_cases c81 : t631 = true
      ·subst c81
       rw [if_pos rfl] at H
       obtain ⟨t632, A82, H⟩ := bM H
       try dsimp only at H
       by_cases c83 : t632 = true
       ·subst c83
        rw [if_pos rfl] at H
        exact absurd (H.trans (congrArg some hrt_)) laws_FnRecords.j1f
       ·replace c83 := Bool.eq_false_iff.mpr c83
        subst c83
        rw [if_neg Bool.false_ne_true] at H
        obtain ⟨t633, A87, H⟩ := bM H
        try dsimp only at H
        by_cases c88 : t633 = true
        ·subst c88
         rw [if_pos rfl] at H
         have H' := aS H
         clear H
         try go_wp2
         replace HO_5 := aS (Kd.R_drew HO_5.out)
         replace HO_9 := aS (Kd.R_drew HO_9.out)
         replace BK598 := aS (blk_drew BK598.out)
         replace BK599 := aS (blk_drew BK599.out)
         replace BK609 := aS (blk_drew BK609.out)
         replace HB := aS (below_drew1 HB.out)
         refine start_ (n := 22) (S := fun w' => w'.cell? ⟨gb598, 0, none⟩ = some (.string t586) ∧ w'.cell? ⟨gb598, 1, none⟩ = some (.int .i64 t587) ∧ w'.cell? ⟨gb598, 2, none⟩ = some (.int .i64 t588) ∧ w'.cell? ⟨gb598, 3, none⟩ = some (.int .i64 t589) ∧ w'.cell? ⟨gb598, 4, none⟩ = some (.string t590) ∧ w'.cell? ⟨gb598, 5, none⟩ = some (.string t591) ∧ w'.cell? ⟨gb599, 0, none⟩ = some (.string t592) ∧ w'.cell? ⟨gb599, 1, none⟩ = some (.int .i64 t593) ∧ w'.cell? ⟨gb599, 2, none⟩ = some (.int .i64 t594) ∧ w'.cell? ⟨gb599, 3, none⟩ = some (.int .i64 t595) ∧ w'.cell? ⟨gb599, 4, none⟩ = some (.string t596) ∧ w'.cell? ⟨gb599, 5, none⟩ = some (.string t597)) (ds := []) #[false, false, false, false, false, false, false, false, false, false, false, false, false, false, false, false, false, false, false, false, false, false] jK rfl rfl (b6 BK598.out (c6 BK599.out)) (fun hHeld => ?_); refine with_tabW laws_FnRecords.tab10 laws_FnRecords.bits10 (fun HT_ HW_ => ?_)
         generalize wc.drew = w89 at HO_5 HO_9 BK598 BK599 BK609 HB hHeld ⊢
         refine tA HT_ HW_ hHeld 0 (some 66) (tf 1 21) ?_
         refine tA HT_ HW_ hHeld 1 (some 67) (tf 2 20) ?_
         refine one_ (i := 2) (N := some 68) (tf 3 19) rfl rfl (one_of HT_.out jK) (by decide) (fun K hK => ?_)
         refine goes_ Tryd.func49 jK rfl #[.agg #[.string t586, .int .i64 t587, .int .i64 t588, .int .i64 t589, .string t590, .string t591], .agg #[.string t592, .int .i64 t593, .int .i64 t594, .int .i64 t595, .string t596, .string t597]] (by rfl) rfl rfl jA ?_
         with_reducible refine (impl_LessRecord.calls kj8 t586 t587 t588 t589 t590 t591 t592 t593 t594 t595 t596 t597 true _ A80.out).mono ?_
         rintro e w90 ⟨rfl, hb⟩
         refine ⟨_, rfl, ?_⟩
         replace HO_5 := rB HO_5 hb
         replace HO_9 := rB HO_9 hb
         replace BK598 := bB BK598 hb
         replace BK599 := bB BK599 hb
         replace BK609 := bB BK609 hb
         replace HB := aS (below_step (wS3 HB.out GE598.out GE599.out GE609.out) hb)
         (try clear hb)
         (try clear hb2)
         (try clear hk)
         (try clear hi)
         refine hK.out _ _ (b6 BK598.out (c6 BK599.out)) (fun hHeld => ?_)
         clear hK K
         refine nA (some 68) ?_
         refine pA HT_ 3 (some 69) (tf 4 18) ?_
         refine tA HT_ HW_ hHeld 4 (some 70) (tf 5 17) ?_
         refine tA HT_ HW_ hHeld 5 (some 71) (tf 6 16) ?_
         refine one_ (i := 6) (N := some 72) (tf 7 15) rfl rfl (one_of HT_.out jK) (by decide) (fun K hK => ?_)
         refine goes_ Tryd.func49 jK rfl #[.agg #[.string t592, .int .i64 t593, .int .i64 t594, .int .i64 t595, .string t596, .string t597], .agg #[.string t586, .int .i64 t587, .int .i64 t588, .int .i64 t589, .string t590, .string t591]] (by rfl) rfl rfl jA ?_
         with_reducible refine (impl_LessRecord.calls kj8 t592 t593 t594 t595 t596 t597 t586 t587 t588 t589 t590 t591 false _ A82.out).mono ?_
         rintro e w91 ⟨rfl, hb⟩
         refine ⟨_, rfl, ?_⟩
         replace HO_5 := rB HO_5 hb
         replace HO_9 := rB HO_9 hb
         replace BK598 := bB BK598 hb
         replace BK599 := bB BK599 hb
         replace BK609 := bB BK609 hb
         replace HB := aS (below_step (wS3 HB.out GE598.out GE599.out GE609.out) hb)
         (try clear hb)
         (try clear hb2)
         (try clear hk)
         (try clear hi)
         refine hK.out _ _ (b6 BK598.out (c6 BK599.out)) (fun hHeld => ?_)
         clear hK K
         refine nA (some 72) ?_
         refine pA HT_ 7 (some 73) (tf 8 14) ?_
         refine pA HT_ 8 (some 74) (tf 9 13) ?_
         refine tA HT_ HW_ hHeld 9 (some 75) (tf 10 12) ?_
         refine tA HT_ HW_ hHeld 10 (some 76) (tf 11 11) ?_
         refine tA HT_ HW_ hHeld 17 (some 83) #[true, true, true, true, true, true, true, true, true, true, true, false, false, false, false, false, false, true, false, false, false, false] ?_
         refine tA HT_ HW_ hHeld 18 (some 84) #[true, true, true, true, true, true, true, true, true, true, true, false, false, false, false, false, false, true, true, false, false, false] ?_
         refine pA HT_ 19 (some 85) #[true, true, true, true, true, true, true, true, true, true, true, false, false, false, false, false, false, true, true, true, false, false] ?_
         refine one_ (i := 11) (N := some 77) #[true, true, true, true, true, true, true, true, true, true, true, true, false, false, false, false, false, true, true, true, false, false] rfl rfl (one_of HT_.out jK) (by decide) (fun K hK => ?_)
         refine goes_ Tryd.func49 jK rfl #[.agg #[.string t586, .int .i64 t587, .int .i64 t588, .int .i64 t589, .string t590, .string t591], .agg #[.string t592, .int .i64 t593, .int .i64 t594, .int .i64 t595, .string t596, .string t597]] (by rfl) rfl rfl jA ?_
         with_reducible refine (impl_LessRecord.calls kj8 t586 t587 t588 t589 t590 t591 t592 t593 t594 t595 t596 t597 true _ A87.out).mono ?_
         rintro e w92 ⟨rfl, hb⟩
         refine ⟨_, rfl, ?_⟩
         replace HO_5 := rB HO_5 hb
         replace HO_9 := rB HO_9 hb
         replace BK598 := bB BK598 hb
         replace BK599 := bB BK599 hb
         replace BK609 := bB BK609 hb
         replace HB := aS (below_step (wS3 HB.out GE598.out GE599.out GE609.out) hb)
         (try clear hb)
         (try clear hb2)
         (try clear hk)
         (try clear hi)
         refine hK.out _ _ (b6 BK598.out (c6 BK599.out)) (fun hHeld => ?_)
         clear hK K
         refine nA (some 77) ?_
         refine pA HT_ 12 (some 78) #[true, true, true, true, true, true, true, true, true, true, true, true, true, false, false, false, false, true, true, true, false, false] ?_
         refine pU HT_ 13 (some 79) #[true, true, true, true, true, true, true, true, true, true, true, true, true, true, false, false, false, true, true, true, false, false] ?_
         refine pU HT_ 14 (some 80) #[true, true, true, true, true, true, true, true, true, true, true, true, true, true, true, false, false, true, true, true, false, false] ?_
         refine pU HT_ 15 (some 81) #[true, true, true, true, true, true, true, true, true, true, true, true, true, true, true, true, false, true, true, true, false, false] ?_
         refine pA HT_ 16 (some 82) (tf 20 2) ?_
         refine pA HT_ 20 (some 86) (tf 21 1) ?_
         refine pA HT_ 21 (some 87) (tf 22 0) ?_
         refine done_ (done_of HT_.out jK) ?_
         try go_wp2
         go_meet
         case rel => exact ⟨_, ((true == (t586.toList == t592.toList && (t587 == t593 && (t588 == t594 && (t589 == t595 && (t590.toList == t596.toList && (t591.toList == t597.toList)))))))), jB, H', ⟨by have := HJ8.out; first | omega | exact Nat.le_refl _⟩, ⟨by exact rU HO_5.out⟩, ⟨by exact rU HO_9.out⟩, ⟨by exact bU BK598.out⟩, ⟨by exact bU BK599.out⟩, ⟨by exact bU BK609.out⟩, ⟨by exact wS3 HB.out GE598.out GE599.out GE609.out⟩⟩
        ·replace c88 := Bool.eq_false_iff.mpr c88
         subst c88
         exact absurd (Option.some.inj (A80.out.symm.trans A87.out)) (by decide)
      ·replace c81 := Bool.eq_false_iff.mpr c81
       subst c81
       rw [if_neg Bool.false_ne_true] at H
       obtain ⟨t635, A99, H⟩ := bM H
       try dsimp only at H
       by_cases c100 : t635 = true
       ·subst c100
        exact absurd (Option.some.inj (A80.out.symm.trans A99.out)) (by decide)
       ·replace c100 := Bool.eq_false_iff.mpr c100
        subst c100
        rw [if_neg Bool.false_ne_true] at H
        obtain ⟨t636, A104, H⟩ := bM H
        try dsimp only at H
        have H' := aS H
        clear H
        try go_wp2
        replace HO_5 := aS (Kd.R_drew HO_5.out)
        replace HO_9 := aS (Kd.R_drew HO_9.out)
        replace BK598 := aS (blk_drew BK598.out)
        replace BK599 := aS (blk_drew BK599.out)
        replace BK609 := aS (blk_drew BK609.out)
        replace HB := aS (below_drew1 HB.out)
        refine start_ (n := 22) (S := fun w' => w'.cell? ⟨gb598, 0, none⟩ = some (.string t586) ∧ w'.cell? ⟨gb598, 1, none⟩ = some (.int .i64 t587) ∧ w'.cell? ⟨gb598, 2, none⟩ = some (.int .i64 t588) ∧ w'.cell? ⟨gb598, 3, none⟩ = some (.int .i64 t589) ∧ w'.cell? ⟨gb598, 4, none⟩ = some (.string t590) ∧ w'.cell? ⟨gb598, 5, none⟩ = some (.string t591) ∧ w'.cell? ⟨gb599, 0, none⟩ = some (.string t592) ∧ w'.cell? ⟨gb599, 1, none⟩ = some (.int .i64 t593) ∧ w'.cell? ⟨gb599, 2, none⟩ = some (.int .i64 t594) ∧ w'.cell? ⟨gb599, 3, none⟩ = some (.int .i64 t595) ∧ w'.cell? ⟨gb599, 4, none⟩ = some (.string t596) ∧ w'.cell? ⟨gb599, 5, none⟩ = some (.string t597)) (ds := []) #[false, false, false, false, false, false, false, false, false, false, false, false, false, false, false, false, false, false, false, false, false, false] jK rfl rfl (b6 BK598.out (c6 BK599.out)) (fun hHeld => ?_); refine with_tabW laws_FnRecords.tab10 laws_FnRecords.bits10 (fun HT_ HW_ => ?_)
        generalize wc.drew = w105 at HO_5 HO_9 BK598 BK599 BK609 HB hHeld ⊢
        refine tA HT_ HW_ hHeld 0 (some 66) (tf 1 21) ?_
        refine tA HT_ HW_ hHeld 1 (some 67) (tf 2 20) ?_
        refine one_ (i := 2) (N := some 68) (tf 3 19) rfl rfl (one_of HT_.out jK) (by decide) (fun K hK => ?_)
        refine goes_ Tryd.func49 jK rfl #[.agg #[.string t586, .int .i64 t587, .int .i64 t588, .int .i64 t589, .string t590, .string t591], .agg #[.string t592, .int .i64 t593, .int .i64 t594, .int .i64 t595, .string t596, .string t597]] (by rfl) rfl rfl jA ?_
        with_reducible refine (impl_LessRecord.calls kj8 t586 t587 t588 t589 t590 t591 t592 t593 t594 t595 t596 t597 false _ A80.out).mono ?_
        rintro e w106 ⟨rfl, hb⟩
        refine ⟨_, rfl, ?_⟩
        replace HO_5 := rB HO_5 hb
        replace HO_9 := rB HO_9 hb
        replace BK598 := bB BK598 hb
        replace BK599 := bB BK599 hb
        replace BK609 := bB BK609 hb
        replace HB := aS (below_step (wS3 HB.out GE598.out GE599.out GE609.out) hb)
        (try clear hb)
        (try clear hb2)
        (try clear hk)
        (try clear hi)
        refine hK.out _ _ (b6 BK598.out (c6 BK599.out)) (fun hHeld => ?_)
        clear hK K
        refine nA (some 68) ?_
        refine pA HT_ 3 (some 69) (tf 4 18) ?_
        refine pU HT_ 4 (some 70) (tf 5 17) ?_
        refine pU HT_ 5 (some 71) (tf 6 16) ?_
        refine pU HT_ 6 (some 72) (tf 7 15) ?_
        refine pA HT_ 7 (some 73) (tf 8 14) ?_
        refine pA HT_ 8 (some 74) (tf 9 13) ?_
        refine tA HT_ HW_ hHeld 9 (some 75) (tf 10 12) ?_
        refine tA HT_ HW_ hHeld 10 (some 76) (tf 11 11) ?_
        refine tA HT_ HW_ hHeld 17 (some 83) #[true, true, true, true, true, true, true, true, true, true, true, false, false, false, false, false, false, true, false, false, false, false] ?_
        refine tA HT_ HW_ hHeld 18 (some 84) #[true, true, true, true, true, true, true, true, true, true, true, false, false, false, false, false, false, true, true, false, false, false] ?_
        refine pA HT_ 19 (some 85) #[true, true, true, true, true, true, true, true, true, true, true, false, false, false, false, false, false, true, true, true, false, false] ?_
        refine one_ (i := 11) (N := some 77) #[true, true, true, true, true, true, true, true, true, true, true, true, false, false, false, false, false, true, true, true, false, false] rfl rfl (one_of HT_.out jK) (by decide) (fun K hK => ?_)
        refine goes_ Tryd.func49 jK rfl #[.agg #[.string t586, .int .i64 t587, .int .i64 t588, .int .i64 t589, .string t590, .string t591], .agg #[.string t592, .int .i64 t593, .int .i64 t594, .int .i64 t595, .string t596, .string t597]] (by rfl) rfl rfl jA ?_
        with_reducible refine (impl_LessRecord.calls kj8 t586 t587 t588 t589 t590 t591 t592 t593 t594 t595 t596 t597 false _ A99.out).mono ?_
        rintro e w107 ⟨rfl, hb⟩
        refine ⟨_, rfl, ?_⟩
        replace HO_5 := rB HO_5 hb
        replace HO_9 := rB HO_9 hb
        replace BK598 := bB BK598 hb
        replace BK599 := bB BK599 hb
        replace BK609 := bB BK609 hb
        replace HB := aS (below_step (wS3 HB.out GE598.out GE599.out GE609.out) hb)
        (try clear hb)
        (try clear hb2)
        (try clear hk)
        (try clear hi)
        refine hK.out _ _ (b6 BK598.out (c6 BK599.out)) (fun hHeld => ?_)
        clear hK K
        refine nA (some 77) ?_
        refine pA HT_ 12 (some 78) #[true, true, true, true, true, true, true, true, true, true, true, true, true, false, false, false, false, true, true, true, false, false] ?_
        refine tA HT_ HW_ hHeld 13 (some 79) #[true, true, true, true, true, true, true, true, true, true, true, true, true, true, false, false, false, true, true, true, false, false] ?_
        refine tA HT_ HW_ hHeld 14 (some 80) #[true, true, true, true, true, true, true, true, true, true, true, true, true, true, true, false, false, true, true, true, false, false] ?_
        refine one_ (i := 15) (N := some 81) #[true, true, true, true, true, true, true, true, true, true, true, true, true, true, true, true, false, true, true, true, false, false] rfl rfl (one_of HT_.out jK) (by decide) (fun K hK => ?_)
        refine goes_ Tryd.func49 jK rfl #[.agg #[.string t592, .int .i64 t593, .int .i64 t594, .int .i64 t595, .string t596, .string t597], .agg #[.string t586, .int .i64 t587, .int .i64 t588, .int .i64 t589, .string t590, .string t591]] (by rfl) rfl rfl jA ?_
        with_reducible refine (impl_LessRecord.calls kj8 t592 t593 t594 t595 t596 t597 t586 t587 t588 t589 t590 t591 t636 _ A104.out).mono ?_
        rintro e w108 ⟨rfl, hb⟩
        refine ⟨_, rfl, ?_⟩
        replace HO_5 := rB HO_5 hb
        replace HO_9 := rB HO_9 hb
        replace BK598 := bB BK598 hb
        replace BK599 := bB BK599 hb
        replace BK609 := bB BK609 hb
        replace HB := aS (below_step (wS3 HB.out GE598.out GE599.out GE609.out) hb)
        (try clear hb)
        (try clear hb2)
        (try clear hk)
        (try clear hi)
        refine hK.out _ _ (b6 BK598.out (c6 BK599.out)) (fun hHeld => ?_)
        clear hK K
        refine nA (some 81) ?_
        refine pA HT_ 16 (some 82) (tf 20 2) ?_
        refine pA HT_ 20 (some 86) (tf 21 1) ?_
        refine pA HT_ 21 (some 87) (tf 22 0) ?_
        refine done_ (done_of HT_.out jK) ?_
        try go_wp2
        go_meet
        case rel => exact ⟨_, ((t636 == (t586.toList == t592.toList && (t587 == t593 && (t588 == t594 && (t589 == t595 && (t590.toList == t596.toList && (t591.toList == t597.toList)))))))), jB, H', ⟨by have := HJ8.out; first | omega | exact Nat.le_refl _⟩, ⟨by exact rU HO_5.out⟩, ⟨by exact rU HO_9.out⟩, ⟨by exact bU BK598.out⟩, ⟨by exact bU BK599.out⟩, ⟨by exact bU BK609.out⟩, ⟨by exact wS3 HB.out GE598.out GE599.out GE609.out⟩⟩
     case rest =>
      clear HC79
      try clear c1
      try clear p2
      try clear c4
      try clear c8
      try clear c10
      try clear c49
      try clear c81
      try clear c100
      obtain ⟨kq, x87_78, rfl, HA, HJ78, HO_5, HO_9, BK598, BK599, BK609, HB⟩ := hcut
      cases kq with
      | zero => exact absurd HA.out (by simp [laws_FnRecords.j1])
      | succ kj78 =>
       have H := HA.out
       clear HA
       simp only [laws_FnRecords.j1] at H
       by_cases c109 : x87_78 = true
       ·subst c109
        rw [if_pos rfl] at H
        exact absurd (H.trans (congrArg some hrt_)) (by simp)
       ·replace c109 := Bool.eq_false_iff.mpr c109
        subst c109
        rw [if_neg Bool.false_ne_true] at H
        have H' := aS H
        clear H
        go_wp2
        go_loopg [10] kj78 (fun kq v10 w' => ∃ (x10_3 : Int), v10 = .int .i64 x10_3 ∧ Aside0 (laws_FnRecords.l0 kq t600 t616 x10_3 t603 t604 t605 t606 t607 t608 = some r) ∧ Aside0 (kq ≤ kj78) ∧ Aside0 (Kd.R k25 25 w' w.heap.size (fun k_ => some k_ ≠ (v617 : Value).ownBlock ∧ k_ ≠ gb598 ∧ k_ ≠ gb599 ∧ k_ ≠ gb609) (.slice Ao23 t600.length co23) t600) ∧ Aside0 (Kd.R k25 25 w' w.heap.size (fun k_ => some k_ ≠ ((.slice Ao23 t600.length co23) : Value).ownBlock ∧ k_ ≠ gb598 ∧ k_ ≠ gb599 ∧ k_ ≠ gb609) v617 t616) ∧ Aside0 (w'.heap[gb598]? = some (.cells #[.string t586, .int .i64 t587, .int .i64 t588, .int .i64 t589, .string t590, .string t591] 25 (0, 0))) ∧ Aside0 (w'.heap[gb599]? = some (.cells #[.string t592, .int .i64 t593, .int .i64 t594, .int .i64 t595, .string t596, .string t597] 25 (0, 0))) ∧ Aside0 (w'.heap[gb609]? = some (.cells #[.string t603, .int .i64 t604, .int .i64 t605, .int .i64 t606, .string t607, .string t608] 25 (0, 0))) ∧ Aside0 (Below w.heap.size w w'))
        case atStart => exact ⟨(1), jB, H', ⟨Nat.le_refl _⟩, ⟨by exact rU HO_5.out⟩, ⟨by exact rU HO_9.out⟩, ⟨by exact bU BK598.out⟩, ⟨by exact bU BK599.out⟩, ⟨by exact bU BK609.out⟩, ⟨by exact wS3 HB.out GE598.out GE599.out GE609.out⟩⟩
        case round =>
         clear H'
         try clear c1
         try clear p2
         try clear c4
         try clear c8
         try clear c10
         try clear c49
         try clear c81
         try clear c100
         try clear c109
         try clear p2
         obtain ⟨x10_3, rfl, HA, HK3, HO_5, HO_9, BK598, BK599, BK609, HB⟩ := hrel
         cases gk with
         | zero => exact absurd HA.out (by simp [laws_FnRecords.l0])
         | succ k3 =>
          have H := HA.out
          clear HA
          simp only [laws_FnRecords.l0] at H
          by_cases c110 : x10_3 < (t616.length : Int)
          ·rw [if_pos c110] at H
           have c110b0 := decide_eq_true c110
           clear c110
           by_cases c111 : 0 ≤ x10_3
           ·rw [if_pos c111] at H
            have c111b0 := decide_eq_true c111
            clear c111
            obtain ⟨ji112, hji112⟩ : ∃ j_ : Int, (wrap64 (x10_3 - 1)) = j_ := ⟨_, rfl⟩
            replace H : (if 0 ≤ (ji112) then (if (ji112) < (t616.length : Int) then ((impl_LessRecord.f k3 ((rd_T25 t616 x10_3).f0) ((rd_T25 t616 x10_3).f1) ((rd_T25 t616 x10_3).f2) ((rd_T25 t616 x10_3).f3) ((rd_T25 t616 x10_3).f4) ((rd_T25 t616 x10_3).f5) ((rd_T25 t616 (ji112)).f0) ((rd_T25 t616 (ji112)).f1) ((rd_T25 t616 (ji112)).f2) ((rd_T25 t616 (ji112)).f3) ((rd_T25 t616 (ji112)).f4) ((rd_T25 t616 (ji112)).f5)).bind fun t639 => (if t639 = true then (some false) else (laws_FnRecords.l0 k3 t600 t616 (wrap64 (x10_3 + 1)) t603 t604 t605 t606 t607 t608))) else (none)) else (none)) = some r := by first | (rw [hji112] at H; exact H) | (simp only [hji112] at H ⊢; exact H)
            have hji112w : (IntKind.i64.wrap (x10_3 - 1)) = ji112 := (i64_w _).trans hji112
            by_cases c113 : 0 ≤ (ji112)
            ·rw [if_pos c113] at H
             have c113b0 := decide_eq_true c113
             clear c113
             by_cases c114 : (ji112) < (t616.length : Int)
             ·rw [if_pos c114] at H
              have c114b0 := decide_eq_true c114
              clear c114
              obtain ⟨t639, A115, H⟩ := bM H
              try dsimp only at H
              by_cases c116 : t639 = true
              ·subst c116
               rw [if_pos rfl] at H
               exact absurd (H.trans (congrArg some hrt_)) (by simp)
              ·replace c116 := Bool.eq_false_iff.mpr c116
               subst c116
               rw [if_neg Bool.false_ne_true] at H
               have H' := aS H
               clear H
               obtain ⟨Ao117, co117, eo117⟩ := Kd.R_slice HO_9.out
               subst eo117
               try go_wp2
               replace HO_5 := aS (Kd.R_drew HO_5.out)
               replace HO_9 := aS (Kd.R_drew HO_9.out)
               replace BK598 := aS (blk_drew BK598.out)
               replace BK599 := aS (blk_drew BK599.out)
               replace BK609 := aS (blk_drew BK609.out)
               replace HB := aS (below_drew1 HB.out)
               have p637 : 0 ≤ (x10_3 : Int) := of_decide_eq_true jC
               have q637 : x10_3 < (t616.length : Int) := of_decide_eq_true jC
               obtain ⟨ad637, e637, hx637_0, hx637_1, hx637_2, hx637_3, hx637_4, hx637_5⟩ := at_T25 (Kd.R_reads' HO_9.out).2.2 x10_3 p637 q637
               cases e637
               replace p637 := eq_true p637
               replace q637 := eq_true q637
               have p638 : 0 ≤ ((ji112) : Int) := of_decide_eq_true jC
               have q638 : (ji112) < (t616.length : Int) := of_decide_eq_true jC
               obtain ⟨ad638, e638, hx638_0, hx638_1, hx638_2, hx638_3, hx638_4, hx638_5⟩ := at_T25 (Kd.R_reads' HO_9.out).2.2 (ji112) p638 q638
               obtain rfl : ad637 = ad638 := (by injection e638)
               replace p638 := eq_true p638
               replace q638 := eq_true q638
               refine start_ (n := 10) (S := fun w' => w'.cell? (ad637.add ((x10_3).toNat * 6)) = some (.string ((rd_T25 t616 x10_3).f0)) ∧ w'.cell? ⟨(ad637.add ((x10_3).toNat * 6)).block, (ad637.add ((x10_3).toNat * 6)).off + 1, none⟩ = some (.int .i64 ((rd_T25 t616 x10_3).f1)) ∧ w'.cell? ⟨(ad637.add ((x10_3).toNat * 6)).block, (ad637.add ((x10_3).toNat * 6)).off + 2, none⟩ = some (.int .i64 ((rd_T25 t616 x10_3).f2)) ∧ w'.cell? ⟨(ad637.add ((x10_3).toNat * 6)).block, (ad637.add ((x10_3).toNat * 6)).off + 3, none⟩ = some (.int .i64 ((rd_T25 t616 x10_3).f3)) ∧ w'.cell? ⟨(ad637.add ((x10_3).toNat * 6)).block, (ad637.add ((x10_3).toNat * 6)).off + 4, none⟩ = some (.string ((rd_T25 t616 x10_3).f4)) ∧ w'.cell? ⟨(ad637.add ((x10_3).toNat * 6)).block, (ad637.add ((x10_3).toNat * 6)).off + 5, none⟩ = some (.string ((rd_T25 t616 x10_3).f5)) ∧ w'.cell? (ad637.add (((ji112)).toNat * 6)) = some (.string ((rd_T25 t616 (ji112)).f0)) ∧ w'.cell? ⟨(ad637.add (((ji112)).toNat * 6)).block, (ad637.add (((ji112)).toNat * 6)).off + 1, none⟩ = some (.int .i64 ((rd_T25 t616 (ji112)).f1)) ∧ w'.cell? ⟨(ad637.add (((ji112)).toNat * 6)).block, (ad637.add (((ji112)).toNat * 6)).off + 2, none⟩ = some (.int .i64 ((rd_T25 t616 (ji112)).f2)) ∧ w'.cell? ⟨(ad637.add (((ji112)).toNat * 6)).block, (ad637.add (((ji112)).toNat * 6)).off + 3, none⟩ = some (.int .i64 ((rd_T25 t616 (ji112)).f3)) ∧ w'.cell? ⟨(ad637.add (((ji112)).toNat * 6)).block, (ad637.add (((ji112)).toNat * 6)).off + 4, none⟩ = some (.string ((rd_T25 t616 (ji112)).f4)) ∧ w'.cell? ⟨(ad637.add (((ji112)).toNat * 6)).block, (ad637.add (((ji112)).toNat * 6)).off + 5, none⟩ = some (.string ((rd_T25 t616 (ji112)).f5))) (ds := []) #[false, false, false, false, false, false, false, false, false, false] jK rfl rfl ⟨hx637_0, hx637_1, hx637_2, hx637_3, hx637_4, hx637_5, hx638_0, hx638_1, hx638_2, hx638_3, hx638_4, hx638_5⟩ (fun hHeld => ?_); refine with_tabW laws_FnRecords.tab15 laws_FnRecords.bits15 (fun HT_ HW_ => ?_)
               generalize wr.drew = w118 at HO_5 HO_9 BK598 BK599 BK609 HB hx637_0 hx637_1 hx637_2 hx637_3 hx637_4 hx637_5 hx638_0 hx638_1 hx638_2 hx638_3 hx638_4 hx638_5 hHeld ⊢
               refine pA HT_ 0 (some 94) (tf 1 9) ?_
               refine pA HT_ 1 (some 95) (tf 2 8) ?_
               refine pA HT_ 2 (some 96) (tf 3 7) ?_
               refine pA HT_ 4 (some 98) #[true, true, true, false, true, false, false, false, false, false] ?_
               refine pA HT_ 5 (some 99) #[true, true, true, false, true, true, false, false, false, false] ?_
               refine pA HT_ 6 (some 100) #[true, true, true, false, true, true, true, false, false, false] ?_
               refine pA HT_ 7 (some 101) #[true, true, true, false, true, true, true, true, false, false] ?_
               refine tA HT_ HW_ hHeld 3 (some 97) (tf 8 2) ?_
               refine tA HT_ HW_ hHeld 8 (some 102) (tf 9 1) ?_
               refine one_ (i := 9) (N := some 103) (tf 10 0) rfl rfl (one_of HT_.out jK) (by decide) (fun K hK => ?_)
               refine goes_ Tryd.func49 jK rfl #[.agg #[.string ((rd_T25 t616 x10_3).f0), .int .i64 ((rd_T25 t616 x10_3).f1), .int .i64 ((rd_T25 t616 x10_3).f2), .int .i64 ((rd_T25 t616 x10_3).f3), .string ((rd_T25 t616 x10_3).f4), .string ((rd_T25 t616 x10_3).f5)], .agg #[.string ((rd_T25 t616 (ji112)).f0), .int .i64 ((rd_T25 t616 (ji112)).f1), .int .i64 ((rd_T25 t616 (ji112)).f2), .int .i64 ((rd_T25 t616 (ji112)).f3), .string ((rd_T25 t616 (ji112)).f4), .string ((rd_T25 t616 (ji112)).f5)]] (by rfl) rfl rfl (by (try simp only [List.map_toArray, List.map_cons, List.map_nil]); first | done | (simp only [hji112]; rfl) | rfl | (simp only [List.length_drop, List.length_take]; rfl)) ?_
               with_reducible refine (impl_LessRecord.calls k3 ((rd_T25 t616 x10_3).f0) ((rd_T25 t616 x10_3).f1) ((rd_T25 t616 x10_3).f2) ((rd_T25 t616 x10_3).f3) ((rd_T25 t616 x10_3).f4) ((rd_T25 t616 x10_3).f5) ((rd_T25 t616 (ji112)).f0) ((rd_T25 t616 (ji112)).f1) ((rd_T25 t616 (ji112)).f2) ((rd_T25 t616 (ji112)).f3) ((rd_T25 t616 (ji112)).f4) ((rd_T25 t616 (ji112)).f5) false _ A115.out).mono ?_
               rintro e w119 ⟨rfl, hb⟩
               have HS0_ := (hb.cell (World.block_lt_of_cell? _ _ (hHeld.1))).trans (hHeld.1)
               have HS1_ := (hb.cell (World.block_lt_of_cell? _ _ (hHeld.2.1))).trans (hHeld.2.1)
               have HS2_ := (hb.cell (World.block_lt_of_cell? _ _ (hHeld.2.2.1))).trans (hHeld.2.2.1)
               have HS3_ := (hb.cell (World.block_lt_of_cell? _ _ (hHeld.2.2.2.1))).trans (hHeld.2.2.2.1)
               have HS4_ := (hb.cell (World.block_lt_of_cell? _ _ (hHeld.2.2.2.2.1))).trans (hHeld.2.2.2.2.1)
               have HS5_ := (hb.cell (World.block_lt_of_cell? _ _ (hHeld.2.2.2.2.2.1))).trans (hHeld.2.2.2.2.2.1)
               have HS6_ := (hb.cell (World.block_lt_of_cell? _ _ (hHeld.2.2.2.2.2.2.1))).trans (hHeld.2.2.2.2.2.2.1)
               have HS7_ := (hb.cell (World.block_lt_of_cell? _ _ (hHeld.2.2.2.2.2.2.2.1))).trans (hHeld.2.2.2.2.2.2.2.1)
               have HS8_ := (hb.cell (World.block_lt_of_cell? _ _ (hHeld.2.2.2.2.2.2.2.2.1))).trans (hHeld.2.2.2.2.2.2.2.2.1)
               have HS9_ := (hb.cell (World.block_lt_of_cell? _ _ (hHeld.2.2.2.2.2.2.2.2.2.1))).trans (hHeld.2.2.2.2.2.2.2.2.2.1)
               have HS10_ := (hb.cell (World.block_lt_of_cell? _ _ (hHeld.2.2.2.2.2.2.2.2.2.2.1))).trans (hHeld.2.2.2.2.2.2.2.2.2.2.1)
               have HS11_ := (hb.cell (World.block_lt_of_cell? _ _ (hHeld.2.2.2.2.2.2.2.2.2.2.2))).trans (hHeld.2.2.2.2.2.2.2.2.2.2.2)
               refine ⟨_, rfl, ?_⟩
               replace HO_5 := rB HO_5 hb
               replace HO_9 := rB HO_9 hb
               replace BK598 := bB BK598 hb
               replace BK599 := bB BK599 hb
               replace BK609 := bB BK609 hb
               replace HB := aS (below_step (wS3 HB.out GE598.out GE599.out GE609.out) hb)
               (try clear hb)
               (try clear hb2)
               (try clear hk)
               (try clear hi)
               refine hK.out _ _ ⟨HS0_, HS1_, HS2_, HS3_, HS4_, HS5_, HS6_, HS7_, HS8_, HS9_, HS10_, HS11_⟩ (fun hHeld => ?_)
               clear hK K
               refine nA (some 103) ?_
               refine done_ (done_of HT_.out jK) ?_
               try go_wp2
               go_roundg k3
               case measure => have := HJ8.out; have := HJ78.out; have := HK3.out; omega
               case rel => exact ⟨(wrap64 (x10_3 + 1)), jB, H', ⟨by have := HJ8.out; have := HJ78.out; have := HK3.out; omega⟩, ⟨by exact rU HO_5.out⟩, ⟨by exact rU HO_9.out⟩, ⟨by exact bU BK598.out⟩, ⟨by exact bU BK599.out⟩, ⟨by exact bU BK609.out⟩, ⟨by exact wS3 HB.out GE598.out GE599.out GE609.out⟩⟩
             ·rw [if_neg c114] at H
              exact absurd H (by simp)
            ·rw [if_neg c113] at H
             exact absurd H (by simp)
           ·rw [if_neg c111] at H
            exact absurd H (by simp)
          ·rw [if_neg c110] at H
           have c110b0 := decide_eq_false c110
           clear c110
           by_cases c120 : (t616.length : Int) = (t600.length : Int)
           ·rw [if_pos c120] at H
            have c120b0 := beq_iff_eq.mpr c120
            have c120b1 := bne_eq_false_iff_eq.mpr c120
            have c120b2 : (t616.length == t600.length) = true := by first | simpa using c120 | (simp at c120 ⊢; omega)
            clear c120
            obtain ⟨t640, A121, H⟩ := bM H
            try dsimp only at H
            obtain ⟨t641, A122, H⟩ := bM H
            try dsimp only at H
            obtain rfl := Option.some.inj H
            obtain ⟨Ao123, co123, eo123⟩ := Kd.R_slice HO_9.out
            subst eo123
            try go_wp2
            replace HO_5 := aS (Kd.R_drew HO_5.out)
            replace HO_9 := aS (Kd.R_drew HO_9.out)
            replace BK598 := aS (blk_drew BK598.out)
            replace BK599 := aS (blk_drew BK599.out)
            replace BK609 := aS (blk_drew BK609.out)
            replace HB := aS (below_drew1 HB.out)
            refine start_ (n := 14) (S := fun w' => w'.cell? ⟨gb609, 0, none⟩ = some (.string t603) ∧ w'.cell? ⟨gb609, 1, none⟩ = some (.int .i64 t604) ∧ w'.cell? ⟨gb609, 2, none⟩ = some (.int .i64 t605) ∧ w'.cell? ⟨gb609, 3, none⟩ = some (.int .i64 t606) ∧ w'.cell? ⟨gb609, 4, none⟩ = some (.string t607) ∧ w'.cell? ⟨gb609, 5, none⟩ = some (.string t608)) (ds := []) #[false, false, false, false, false, false, false, false, false, false, false, false, false, false] jK rfl rfl (c6 BK609.out) (fun hHeld => ?_); refine with_tabW laws_FnRecords.tab17 laws_FnRecords.bits17 (fun HT_ HW_ => ?_)
            generalize wr.drew = w124 at HO_5 HO_9 BK598 BK599 BK609 HB hHeld ⊢
            refine pA HT_ 0 (some 104) (tf 1 13) ?_
            refine pA HT_ 1 (some 105) (tf 2 12) ?_
            refine pA HT_ 2 (some 106) (tf 3 11) ?_
            refine pA HT_ 3 (some 107) (tf 4 10) ?_
            refine pA HT_ 4 (some 108) (tf 5 9) ?_
            refine pA HT_ 5 (some 109) (tf 6 8) ?_
            refine tA HT_ HW_ hHeld 6 (some 110) (tf 7 7) ?_
            refine tA HT_ HW_ hHeld 9 (some 113) #[true, true, true, true, true, true, true, false, false, true, false, false, false, false] ?_
            refine one_ (i := 7) (N := some 111) #[true, true, true, true, true, true, true, true, false, true, false, false, false, false] rfl rfl (one_of HT_.out jK) (by decide) (fun K hK => ?_)
            refine goes_ Tryd.func52 jK rfl #[.agg #[.string t603, .int .i64 t604, .int .i64 t605, .int .i64 t606, .string t607, .string t608]] (by rfl) rfl rfl jA ?_
            with_reducible refine (impl_RecordText.calls k3 t603 t604 t605 t606 t607 t608 t640 _ A121.out).mono ?_
            rintro e w125 ⟨rfl, hb⟩
            refine ⟨_, rfl, ?_⟩
            replace HO_5 := rB HO_5 hb
            replace HO_9 := rB HO_9 hb
            replace BK598 := bB BK598 hb
            replace BK599 := bB BK599 hb
            replace BK609 := bB BK609 hb
            replace HB := aS (below_step (wS3 HB.out GE598.out GE599.out GE609.out) hb)
            (try clear hb)
            (try clear hb2)
            (try clear hk)
            (try clear hi)
            refine hK.out _ _ (c6 BK609.out) (fun hHeld => ?_)
            clear hK K
            refine nA (some 111) ?_
            refine pA HT_ 8 (some 112) (tf 10 4) ?_
            refine one_ (i := 10) (N := some 114) (tf 11 3) rfl rfl (one_of HT_.out jK) (by decide) (fun K hK => ?_)
            refine goes_ Tryd.func15 jK rfl #[.agg #[.string t603, .int .i64 t604, .int .i64 t605, .int .i64 t606, .string t607, .string t608]] (by rfl) rfl rfl jA ?_
            with_reducible refine (impl_RecordOk.calls k3 t603 t604 t605 t606 t607 t608 t641 _ A122.out).mono ?_
            rintro e w126 ⟨rfl, hb⟩
            refine ⟨_, rfl, ?_⟩
            replace HO_5 := rB HO_5 hb
            replace HO_9 := rB HO_9 hb
            replace BK598 := bB BK598 hb
            replace BK599 := bB BK599 hb
            replace BK609 := bB BK609 hb
            replace HB := aS (below_step (wS3 HB.out GE598.out GE599.out GE609.out) hb)
            (try clear hb)
            (try clear hb2)
            (try clear hk)
            (try clear hi)
            refine hK.out _ _ (c6 BK609.out) (fun hHeld => ?_)
            clear hK K
            refine nA (some 114) ?_
            refine pA HT_ 11 (some 115) (tf 12 2) ?_
            refine pA HT_ 12 (some 116) (tf 13 1) ?_
            refine pA HT_ 13 (some 2) (tf 14 0) ?_
            refine done_ (done_of HT_.out jK) ?_
            try go_wp2
            go_ret
            exact ⟨by first | rfl | (simp [errW_none, errW_some] <;> rfl) | (simp [*, errW_none, errW_some] <;> rfl) | (simp [X.bne_nil, X.beq_nil]; done) | (exfalso; simp_all; done) | ((have ai_ : ∀ p : Prop, Aside0 p ↔ p := fun p => ⟨fun h => h.out, fun h => ⟨h⟩⟩); simp_all [ai_]; done), by exact wS3 HB.out GE598.out GE599.out GE609.out⟩
           ·rw [if_neg c120] at H
            have c120b0 := beq_eq_false_iff_ne.mpr c120
            have c120b1 := bne_iff_ne.mpr c120
            have c120b2 : (t616.length == t600.length) = false := by first | simpa using c120 | (simp at c120 ⊢; omega)
            exact absurd (H.trans (congrArg some hrt_)) (by simp)

/-- The one pure statement of laws_FnRecords. -/
def laws_FnRecords.Pure : Prop := ∀ (l0 : List Int), (l0.length ≤ maxLen ∧ l0.length * 1 ≤ 140737488351232 ∧ ∀ y_ ∈ l0, (Lit.int .u8 y_).wf = true) → ∃ k, laws_FnRecords.f k l0 = some true

end Go.Proofs.YtdigilidomimdaaDoor.Pr
