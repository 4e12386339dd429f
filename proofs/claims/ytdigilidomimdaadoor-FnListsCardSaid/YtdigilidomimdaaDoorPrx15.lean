-- Written for this claim by a program of this session (wip/tool/pr.py, over the kit's printer).
-- half
import Derived.Test.YtdigilidomimdaaDoorPrx0
import Derived.Test.YtdigilidomimdaaDoorPrx1
import Derived.Test.YtdigilidomimdaaDoorPrx3
import Derived.Test.YtdigilidomimdaaDoorPrx6
import Derived.Test.YtdigilidomimdaaDoorPrx13
import Derived.Test.YtdigilidomimdaaDoorPrx14
namespace Go.Proofs.YtdigilidomimdaaDoor.Pr
open Go.RowKit Go.Proofs.YtdigilidomimdaaDoorW.PrintWords Go.Proofs.YtdigilidomimdaaDoorW.PrintLast Go.Proofs.YtdigilidomimdaaDoorW.PrintMore
attribute [local go_sem] max2_int min2_int max_two min_two max_three min_three max_four min_four   -- for this text's walks alone
set_option linter.unusedVariables false
set_option linter.unusedSimpArgs false

attribute [local go_sem high] eqA25
/-! ### impl_GetRecord: function 16 -/
mutual
def impl_GetRecord.j0 : Nat → List Int → ByteArray → Int → Option (ByteArray × Int × Int × Int × ByteArray × ByteArray × Int × Int)
 | 0, _, _, _ => none
 | k + 1, x0, x7, x8 => if (wrap64 ((x0.length : Int) - x8)) < 10 then (some ((⟨#[]⟩ : ByteArray), 0, 0, 0, (⟨#[]⟩ : ByteArray), (⟨#[]⟩ : ByteArray), 0, 1)) else (impl_GetRecord.j1 k x0 x7 x8)
def impl_GetRecord.j1 : Nat → List Int → ByteArray → Int → Option (ByteArray × Int × Int × Int × ByteArray × ByteArray × Int × Int)
 | 0, _, _, _ => none
 | k + 1, x0, x7, x8 => (impl_Get2.f k x0 x8).bind fun bt746 => ((impl_Get2.f k x0 (wrap64 (x8 + 2))).bind fun bt748 => ((impl_Get4.f k x0 (wrap64 (x8 + 4))).bind fun bt750 => ((impl_Get2.f k x0 (wrap64 (x8 + 8))).bind fun bt752 => ((impl_GetData.f k x0 (wrap64 (x8 + 10)) bt752.1 bt746.1).bind fun bt754 => (if bt754.2.2.2.2.2.2 = 0 then (impl_GetRecord.j2 k x7 x8 bt748.1 bt750.1 bt750.2 bt752.1 bt754.1 bt754.2.1 bt754.2.2.1 bt754.2.2.2.1 bt754.2.2.2.2.1 bt754.2.2.2.2.2.1) else (some ((⟨#[]⟩ : ByteArray), 0, 0, 0, (⟨#[]⟩ : ByteArray), (⟨#[]⟩ : ByteArray), 0, bt754.2.2.2.2.2.2)))))))
def impl_GetRecord.j2 : Nat → ByteArray → Int → Int → Int → Bool → Int → ByteArray → Int → Int → Int → ByteArray → ByteArray → Option (ByteArray × Int × Int × Int × ByteArray × ByteArray × Int × Int)
 | 0, _, _, _, _, _, _, _, _, _, _, _, _ => none
 | k + 1, x7, x8, x12, x14, x15, x16, x762000, x762001, x762002, x762003, x762004, x762005 => if x12 = 1 then (if x15 = true then ((impl_RecordOk.f k x7 x762001 x14 x762003 x762004 x762005).bind fun t762 => (impl_GetRecord.j3 k x8 x16 (!t762) x7 x762001 x14 x762003 x762004 x762005)) else (impl_GetRecord.j3 k x8 x16 true x7 x762001 x14 x762003 x762004 x762005)) else (impl_GetRecord.j3 k x8 x16 true x7 x762001 x14 x762003 x762004 x762005)
def impl_GetRecord.j3 : Nat → Int → Int → Bool → ByteArray → Int → Int → Int → ByteArray → ByteArray → Option (ByteArray × Int × Int × Int × ByteArray × ByteArray × Int × Int)
 | 0, _, _, _, _, _, _, _, _, _ => none
 | k + 1, x8, x16, x90, x762000, x762001, x762002, x762003, x762004, x762005 => if x90 = true then (some ((⟨#[]⟩ : ByteArray), 0, 0, 0, (⟨#[]⟩ : ByteArray), (⟨#[]⟩ : ByteArray), 0, 2)) else (some (x762000, x762001, x762002, x762003, x762004, x762005, wrap64 ((wrap64 (x8 + 10)) + x16), 0))
end
def impl_GetRecord.f (k : Nat) (l0 : List Int) (a1 : Int) : Option (ByteArray × Int × Int × Int × ByteArray × ByteArray × Int × Int) := (impl_GetName.f k l0 a1).bind fun bt743 => (if bt743.2.2 = 0 then (impl_GetRecord.j0 k l0 bt743.1 bt743.2.1) else (some ((⟨#[]⟩ : ByteArray), 0, 0, 0, (⟨#[]⟩ : ByteArray), (⟨#[]⟩ : ByteArray), 0, bt743.2.2)))
theorem impl_GetRecord.mono_l : ∀ k, (∀ y0 y1 y2, LeO (impl_GetRecord.j0 k y0 y1 y2) (impl_GetRecord.j0 (k + 1) y0 y1 y2)) ∧ (∀ y0 y1 y2, LeO (impl_GetRecord.j1 k y0 y1 y2) (impl_GetRecord.j1 (k + 1) y0 y1 y2)) ∧ (∀ y0 y1 y2 y3 y4 y5 y6 y7 y8 y9 y10 y11, LeO (impl_GetRecord.j2 k y0 y1 y2 y3 y4 y5 y6 y7 y8 y9 y10 y11) (impl_GetRecord.j2 (k + 1) y0 y1 y2 y3 y4 y5 y6 y7 y8 y9 y10 y11)) ∧ (∀ y0 y1 y2 y3 y4 y5 y6 y7 y8, LeO (impl_GetRecord.j3 k y0 y1 y2 y3 y4 y5 y6 y7 y8) (impl_GetRecord.j3 (k + 1) y0 y1 y2 y3 y4 y5 y6 y7 y8))
 | 0 => ⟨fun _ _ _ r h => by simp [impl_GetRecord.j0] at h, fun _ _ _ r h => by simp [impl_GetRecord.j1] at h, fun _ _ _ _ _ _ _ _ _ _ _ _ r h => by simp [impl_GetRecord.j2] at h, fun _ _ _ _ _ _ _ _ _ r h => by simp [impl_GetRecord.j3] at h⟩
 | k + 1 => by
  obtain ⟨ih0, ih1, ih2, ih3⟩ := impl_GetRecord.mono_l k
  refine ⟨?_, ?_, ?_, ?_⟩
  ·intro y0 y1 y2
   unfold impl_GetRecord.j0
   repeat' first
   | (with_reducible first | exact ih0 _ _ _ | exact ih1 _ _ _ | exact ih2 _ _ _ _ _ _ _ _ _ _ _ _ | exact ih3 _ _ _ _ _ _ _ _ _ | exact impl_Get2.mono _ _ _ | exact impl_Get4.mono _ _ _ | exact impl_GetData.mono _ _ _ _ _ | exact impl_GetName.mono _ _ _ | exact impl_RecordOk.mono _ _ _ _ _ _ _ | exact LeO.refl _ | exact LeO.none _ | refine LeO.ite ?_ ?_ | refine LeO.bind ?_ (fun _ => ?_))
   | exact ih0 _ _ _
   | exact ih1 _ _ _
   | exact ih2 _ _ _ _ _ _ _ _ _ _ _ _
   | exact ih3 _ _ _ _ _ _ _ _ _
   | exact impl_Get2.mono _ _ _
   | exact impl_Get4.mono _ _ _
   | exact impl_GetData.mono _ _ _ _ _
   | exact impl_GetName.mono _ _ _
   | exact impl_RecordOk.mono _ _ _ _ _ _ _
   | exact LeO.none _
   | refine LeO.ite ?_ ?_
   | refine LeO.bind ?_ (fun _ => ?_)
  ·intro y0 y1 y2
   unfold impl_GetRecord.j1
   repeat' first
   | (with_reducible first | exact ih0 _ _ _ | exact ih1 _ _ _ | exact ih2 _ _ _ _ _ _ _ _ _ _ _ _ | exact ih3 _ _ _ _ _ _ _ _ _ | exact impl_Get2.mono _ _ _ | exact impl_Get4.mono _ _ _ | exact impl_GetData.mono _ _ _ _ _ | exact impl_GetName.mono _ _ _ | exact impl_RecordOk.mono _ _ _ _ _ _ _ | exact LeO.refl _ | exact LeO.none _ | refine LeO.ite ?_ ?_ | refine LeO.bind ?_ (fun _ => ?_))
   | exact ih0 _ _ _
   | exact ih1 _ _ _
   | exact ih2 _ _ _ _ _ _ _ _ _ _ _ _
   | exact ih3 _ _ _ _ _ _ _ _ _
   | exact impl_Get2.mono _ _ _
   | exact impl_Get4.mono _ _ _
   | exact impl_GetData.mono _ _ _ _ _
   | exact impl_GetName.mono _ _ _
   | exact impl_RecordOk.mono _ _ _ _ _ _ _
   | exact LeO.none _
   | refine LeO.ite ?_ ?_
   | refine LeO.bind ?_ (fun _ => ?_)
  ·intro y0 y1 y2 y3 y4 y5 y6 y7 y8 y9 y10 y11
   unfold impl_GetRecord.j2
   repeat' first
   | (with_reducible first | exact ih0 _ _ _ | exact ih1 _ _ _ | exact ih2 _ _ _ _ _ _ _ _ _ _ _ _ | exact ih3 _ _ _ _ _ _ _ _ _ | exact impl_Get2.mono _ _ _ | exact impl_Get4.mono _ _ _ | exact impl_GetData.mono _ _ _ _ _ | exact impl_GetName.mono _ _ _ | exact impl_RecordOk.mono _ _ _ _ _ _ _ | exact LeO.refl _ | exact LeO.none _ | refine LeO.ite ?_ ?_ | refine LeO.bind ?_ (fun _ => ?_))
   | exact ih0 _ _ _
   | exact ih1 _ _ _
   | exact ih2 _ _ _ _ _ _ _ _ _ _ _ _
   | exact ih3 _ _ _ _ _ _ _ _ _
   | exact impl_Get2.mono _ _ _
   | exact impl_Get4.mono _ _ _
   | exact impl_GetData.mono _ _ _ _ _
   | exact impl_GetName.mono _ _ _
   | exact impl_RecordOk.mono _ _ _ _ _ _ _
   | exact LeO.none _
   | refine LeO.ite ?_ ?_
   | refine LeO.bind ?_ (fun _ => ?_)
  ·intro y0 y1 y2 y3 y4 y5 y6 y7 y8
   unfold impl_GetRecord.j3
   repeat' first
   | (with_reducible first | exact ih0 _ _ _ | exact ih1 _ _ _ | exact ih2 _ _ _ _ _ _ _ _ _ _ _ _ | exact ih3 _ _ _ _ _ _ _ _ _ | exact impl_Get2.mono _ _ _ | exact impl_Get4.mono _ _ _ | exact impl_GetData.mono _ _ _ _ _ | exact impl_GetName.mono _ _ _ | exact impl_RecordOk.mono _ _ _ _ _ _ _ | exact LeO.refl _ | exact LeO.none _ | refine LeO.ite ?_ ?_ | refine LeO.bind ?_ (fun _ => ?_))
   | exact ih0 _ _ _
   | exact ih1 _ _ _
   | exact ih2 _ _ _ _ _ _ _ _ _ _ _ _
   | exact ih3 _ _ _ _ _ _ _ _ _
   | exact impl_Get2.mono _ _ _
   | exact impl_Get4.mono _ _ _
   | exact impl_GetData.mono _ _ _ _ _
   | exact impl_GetName.mono _ _ _
   | exact impl_RecordOk.mono _ _ _ _ _ _ _
   | exact LeO.none _
   | refine LeO.ite ?_ ?_
   | refine LeO.bind ?_ (fun _ => ?_)
theorem impl_GetRecord.mono : ∀ a0 a1 k, LeO (impl_GetRecord.f k a0 a1) (impl_GetRecord.f (k + 1) a0 a1) := by
 intro a0 a1 k
 obtain ⟨ih0, ih1, ih2, ih3⟩ := impl_GetRecord.mono_l k
 unfold impl_GetRecord.f
 repeat' first
   | (with_reducible first | exact ih0 _ _ _ | exact ih1 _ _ _ | exact ih2 _ _ _ _ _ _ _ _ _ _ _ _ | exact ih3 _ _ _ _ _ _ _ _ _ | exact impl_Get2.mono _ _ _ | exact impl_Get4.mono _ _ _ | exact impl_GetData.mono _ _ _ _ _ | exact impl_GetName.mono _ _ _ | exact impl_RecordOk.mono _ _ _ _ _ _ _ | exact LeO.refl _ | exact LeO.none _ | refine LeO.ite ?_ ?_ | refine LeO.bind ?_ (fun _ => ?_))
   | exact ih0 _ _ _
   | exact ih1 _ _ _
   | exact ih2 _ _ _ _ _ _ _ _ _ _ _ _
   | exact ih3 _ _ _ _ _ _ _ _ _
   | exact impl_Get2.mono _ _ _
   | exact impl_Get4.mono _ _ _
   | exact impl_GetData.mono _ _ _ _ _
   | exact impl_GetName.mono _ _ _
   | exact impl_RecordOk.mono _ _ _ _ _ _ _
   | exact LeO.none _
   | refine LeO.ite ?_ ?_
   | refine LeO.bind ?_ (fun _ => ?_)
set_option maxHeartbeats 8000000 in
set_option maxRecDepth 100000 in
theorem impl_GetRecord.calls (k : Nat) (A0 : Option Addr) (c0 : Nat) (l0 : List Int) (a1 : Int) (r1 : ByteArray) (r2 : Int) (r3 : Int) (r4 : Int) (r5 : ByteArray) (r6 : ByteArray) (r7 : Int) (r8 : Int) (w : World) (hr0 : Kd.C (Kd.int .u8) w A0 l0.length l0) (hc0 : l0.length ≤ c0) (h : impl_GetRecord.f k l0 a1 = some (r1, r2, r3, r4, r5, r6, r7, r8)) :
  Calls Tryd.prog 16 #[.slice A0 l0.length c0, .int .i64 a1] w fun e w' => e = .returned (.tuple #[.agg #[.string r1, .int .i64 r2, .int .i64 r3, .int .i64 r4, .string r5, .string r6], .int .i64 r7, .int .i64 r8]) ∧ Below w.heap.size w w' := by
 have hu25 := Tryd.underlying25
 have HR0 := aS hr0
 have HC0 := aS hc0
 clear hr0 hc0
 have HB := aS (Below.refl w.heap.size w)
 have H : ((impl_GetName.f k l0 a1).bind fun bt743 => (if bt743.2.2 = 0 then (impl_GetRecord.j0 k l0 bt743.1 bt743.2.1) else (some ((⟨#[]⟩ : ByteArray), 0, 0, 0, (⟨#[]⟩ : ByteArray), (⟨#[]⟩ : ByteArray), 0, bt743.2.2)))) = some (r1, r2, r3, r4, r5, r6, r7, r8) := h
 clear h
 obtain ⟨⟨t743, t744, t745⟩, A3, H⟩ := bM H
 try dsimp only at H
 have HC4 := aS H
 clear H
 go_enter Tryd.func16, Tryd.ntmps16
 go_upto_if 27 with (first | ((with_reducible refine gate_dst (N := 4) rfl ?_); refine box_event ?hg (N := 4) ?hd (cs := #[.string (⟨#[]⟩ : ByteArray), .int .i64 0, .int .i64 0, .int .i64 0, .string (⟨#[]⟩ : ByteArray), .string (⟨#[]⟩ : ByteArray)]) (t := 25) ?hr ?_; (case hd => rfl); (case hg => rfl); (case hr => first | (go_simp; done) | (go_simp; rfl)); intro gb742 hg w5 hbox hb; have BK742 := aS (hbox); have GW742 := aS ((by rw [hg]; exact (below_size (wU HB.out)) : w.heap.size ≤ gb742)); have GE742 := aS ((by rw [hg]; exact (below_size (wU HB.out)) : w.heap.size ≤ gb742)); replace HB := aS (below_step (wU HB.out) hb); clear hb hbox hg) | ((with_reducible refine gate_callee (f := 71) rfl ?_); refine goesL_ (some 22) rfl rfl Tryd.func71 jK rfl #[.slice A0 l0.length c0, .int .i64 a1] rfl jA ?_; (with_reducible refine (impl_GetName.calls k _ _ l0 a1 t743 t744 t745 _ ?side1 ?side2 A3.out).mono ?_); (case side1 => exact cU ((Kd.C_below HR0.out HB.out))); (case side2 => exact HC0.out); rintro e w6 ⟨rfl, hb⟩; refine ⟨_, rfl, ?_⟩; replace BK742 := aS (blk_below (bU BK742.out) hb); replace HB := aS (below_step (wS1 HB.out GE742.out) hb); clear hb))
 (try simp only [Act.put, List.setIfInBounds_toArray, List.set_cons_zero, List.set_cons_succ])
 go_cut [] (fun wc => ∃ (kq : Nat) (x743000_3 : ByteArray) (x743001_3 : Int) (x743002_3 : Int) (x743003_3 : Int) (x743004_3 : ByteArray) (x743005_3 : ByteArray), Aside0 (impl_GetRecord.j0 kq l0 t743 t744 = some (r1, r2, r3, r4, r5, r6, r7, r8)) ∧ Aside0 (kq ≤ k) ∧ Aside0 (wc.heap[gb742]? = some (.cells #[.string x743000_3, .int .i64 x743001_3, .int .i64 x743002_3, .int .i64 x743003_3, .string x743004_3, .string x743005_3] 25 (0, 0))) ∧ Aside0 (Below w.heap.size w wc))
 case first =>
  have H := HC4.out
  clear HC4
  by_cases c7 : t745 = 0
  ·rw [if_pos c7] at H
   have c7b0 := beq_iff_eq.mpr c7
   have c7b1 := bne_eq_false_iff_eq.mpr c7
   clear c7
   (first | rw [c7b0] | (simp only [i64_w, i32_w]; rw [c7b0]) | skip)
   have H' := aS H
   clear H
   go_wp2
   go_meet
   case rel => exact ⟨_, ((⟨#[]⟩ : ByteArray)), (0), (0), (0), ((⟨#[]⟩ : ByteArray)), ((⟨#[]⟩ : ByteArray)), H', ⟨by first | omega | exact Nat.le_refl _⟩, ⟨by exact bU BK742.out⟩, ⟨by exact wS1 HB.out GE742.out⟩⟩
  ·rw [if_neg c7] at H
   have c7b0 := beq_eq_false_iff_ne.mpr c7
   have c7b1 := bne_iff_ne.mpr c7
   (first | rw [c7b0] | (simp only [i64_w, i32_w]; rw [c7b0]) | skip)
   simp only [Option.some.injEq, Prod.mk.injEq] at H
   obtain ⟨rfl, rfl, rfl, rfl, rfl, rfl, rfl, rfl⟩ := H
   have hcz8 := cells6f BK742.out
   go_wp2
   refine bodyPost_ret (results_ctt rfl _ _ gb742 25 #[.string (⟨#[]⟩ : ByteArray), .int .i64 0, .int .i64 0, .int .i64 0, .string (⟨#[]⟩ : ByteArray), .string (⟨#[]⟩ : ByteArray)] (0, 0) _ rfl (by (with_reducible repeat (first | refine blk_drewN ?_ _ | refine blk_drew ?_ | refine blk_alloc ?_ _)); refine blk_put_6 (.string (⟨#[]⟩ : ByteArray)) (.int .i64 0) (.int .i64 0) (.int .i64 0) (.string (⟨#[]⟩ : ByteArray)) (.string (⟨#[]⟩ : ByteArray)) ?_; exact bU BK742.out) Tryd.underlying25 rfl jK) rfl ?_
   exact ⟨jE, by exact wS1 HB.out GE742.out⟩
 case rest =>
  clear HC4
  try clear c1
  try clear p2
  try clear c7
  try clear c7b0
  try clear c7b1
  try clear hcz8
  obtain ⟨kq, x743000_3, x743001_3, x743002_3, x743003_3, x743004_3, x743005_3, HA, HJ3, BK742, HB⟩ := hcut
  cases kq with
  | zero => exact absurd HA.out (by simp [impl_GetRecord.j0])
  | succ kj3 =>
   have H := HA.out
   clear HA
   simp only [impl_GetRecord.j0] at H
   have HC9 := aS H
   clear H
   go_upto_if 34 with (fail)
   go_cut [] (fun wc => ∃ (kq : Nat) (x743000_8 : ByteArray) (x743001_8 : Int) (x743002_8 : Int) (x743003_8 : Int) (x743004_8 : ByteArray) (x743005_8 : ByteArray), Aside0 (impl_GetRecord.j1 kq l0 t743 t744 = some (r1, r2, r3, r4, r5, r6, r7, r8)) ∧ Aside0 (kq ≤ kj3) ∧ Aside0 (wc.heap[gb742]? = some (.cells #[.string x743000_8, .int .i64 x743001_8, .int .i64 x743002_8, .int .i64 x743003_8, .string x743004_8, .string x743005_8] 25 (0, 0))) ∧ Aside0 (Below w.heap.size w wc))
   case first =>
    have H := HC9.out
    clear HC9
    by_cases c10 : (wrap64 ((l0.length : Int) - t744)) < 10
    ·rw [if_pos c10] at H
     have c10b0 := decide_eq_true c10
     clear c10
     (first | rw [c10b0] | (simp only [i64_w, i32_w]; rw [c10b0]) | skip)
     simp only [Option.some.injEq, Prod.mk.injEq] at H
     obtain ⟨rfl, rfl, rfl, rfl, rfl, rfl, rfl, rfl⟩ := H
     have hcz11 := cells6f BK742.out
     go_wp2
     refine bodyPost_ret (results_ctt rfl _ _ gb742 25 #[.string (⟨#[]⟩ : ByteArray), .int .i64 0, .int .i64 0, .int .i64 0, .string (⟨#[]⟩ : ByteArray), .string (⟨#[]⟩ : ByteArray)] (0, 0) _ rfl (by (with_reducible repeat (first | refine blk_drewN ?_ _ | refine blk_drew ?_ | refine blk_alloc ?_ _)); refine blk_put_6 (.string x743000_3) (.int .i64 x743001_3) (.int .i64 x743002_3) (.int .i64 x743003_3) (.string x743004_3) (.string x743005_3) ?_; exact bU BK742.out) Tryd.underlying25 rfl jK) rfl ?_
     exact ⟨jE, by exact wS1 HB.out GE742.out⟩
    ·rw [if_neg c10] at H
     have c10b0 := decide_eq_false c10
     clear c10
     (first | rw [c10b0] | (simp only [i64_w, i32_w]; rw [c10b0]) | skip)
     have H' := aS H
     clear H
     go_wp2
     go_meet
     case rel => exact ⟨_, (x743000_3), (x743001_3), (x743002_3), (x743003_3), (x743004_3), (x743005_3), H', ⟨by have := HJ3.out; first | omega | exact Nat.le_refl _⟩, ⟨by exact bU BK742.out⟩, ⟨by exact wS1 HB.out GE742.out⟩⟩
   case rest =>
    clear HC9
    try clear c1
    try clear p2
    try clear p6
    try clear c7
    try clear c7b0
    try clear c7b1
    try clear c10
    try clear c10b0
    try clear hcz11
    try clear hcz8
    try clear p2
    obtain ⟨kq, x743000_8, x743001_8, x743002_8, x743003_8, x743004_8, x743005_8, HA, HJ8, BK742, HB⟩ := hcut
    cases kq with
    | zero => exact absurd HA.out (by simp [impl_GetRecord.j1])
    | succ kj8 =>
     have H := HA.out
     clear HA
     simp only [impl_GetRecord.j1] at H
     obtain ⟨⟨t746, t747⟩, A12, H⟩ := bM H
     try dsimp only at H
     obtain ⟨⟨t748, t749⟩, A13, H⟩ := bM H
     try dsimp only at H
     obtain ⟨⟨t750, t751⟩, A14, H⟩ := bM H
     try dsimp only at H
     obtain ⟨⟨t752, t753⟩, A15, H⟩ := bM H
     try dsimp only at H
     obtain ⟨⟨t754, t755, t756, t757, t758, t759, t760⟩, A16, H⟩ := bM H
     try dsimp only at H
     have HC17 := aS H
     clear H
     go_upto_if 73 with (first | ((with_reducible refine gate_callee (f := 72) rfl ?_); refine goesL_ (some 39) rfl rfl Tryd.func72 jK rfl #[.slice A0 l0.length c0, .int .i64 t744] rfl jA ?_; (with_reducible refine (impl_Get2.calls kj8 _ _ l0 t744 t746 t747 _ ?side1 ?side2 A12.out).mono ?_); (case side1 => exact cU ((Kd.C_below HR0.out HB.out))); (case side2 => exact HC0.out); rintro e w' ⟨rfl, ⟨nd, rfl⟩⟩; refine ⟨_, rfl, ?_⟩; (try (rw [drewN_self wc]; generalize hq_ : World.drewN wc _ = wc; have n0_ : Aside0 (wc.heap[gb742]? = some (.cells #[.string x743000_8, .int .i64 x743001_8, .int .i64 x743002_8, .int .i64 x743003_8, .string x743004_8, .string x743005_8] 25 (0, 0))) := ⟨by rw [← hq_]; exact (bU BK742.out)⟩; have n1_ : Aside0 (Below w.heap.size w wc) := ⟨by rw [← hq_]; exact (wS1 HB.out GE742.out)⟩; clear BK742 HB hq_; revert n0_ n1_; intro BK742 HB))) | ((with_reducible refine gate_callee (f := 72) rfl ?_); refine goesL_ (some 46) rfl rfl Tryd.func72 jK rfl #[.slice A0 l0.length c0, .int .i64 (wrap64 (t744 + 2))] rfl jA ?_; (with_reducible refine (impl_Get2.calls kj8 _ _ l0 (wrap64 (t744 + 2)) t748 t749 _ ?side1 ?side2 A13.out).mono ?_); (case side1 => exact cU ((Kd.C_below HR0.out HB.out))); (case side2 => exact HC0.out); rintro e w' ⟨rfl, ⟨nd, rfl⟩⟩; refine ⟨_, rfl, ?_⟩; (try (rw [drewN_self wc]; generalize hq_ : World.drewN wc _ = wc; have n0_ : Aside0 (wc.heap[gb742]? = some (.cells #[.string x743000_8, .int .i64 x743001_8, .int .i64 x743002_8, .int .i64 x743003_8, .string x743004_8, .string x743005_8] 25 (0, 0))) := ⟨by rw [← hq_]; exact (bU BK742.out)⟩; have n1_ : Aside0 (Below w.heap.size w wc) := ⟨by rw [← hq_]; exact (wS1 HB.out GE742.out)⟩; clear BK742 HB hq_; revert n0_ n1_; intro BK742 HB))) | ((with_reducible refine gate_callee (f := 73) rfl ?_); refine goesL_ (some 53) rfl rfl Tryd.func73 jK rfl #[.slice A0 l0.length c0, .int .i64 (wrap64 (t744 + 4))] rfl jA ?_; (with_reducible refine (impl_Get4.calls kj8 _ _ l0 (wrap64 (t744 + 4)) t750 t751 _ ?side1 ?side2 A14.out).mono ?_); (case side1 => exact cU ((Kd.C_below HR0.out HB.out))); (case side2 => exact HC0.out); rintro e w' ⟨rfl, ⟨nd, rfl⟩⟩; refine ⟨_, rfl, ?_⟩; (try (rw [drewN_self wc]; generalize hq_ : World.drewN wc _ = wc; have n0_ : Aside0 (wc.heap[gb742]? = some (.cells #[.string x743000_8, .int .i64 x743001_8, .int .i64 x743002_8, .int .i64 x743003_8, .string x743004_8, .string x743005_8] 25 (0, 0))) := ⟨by rw [← hq_]; exact (bU BK742.out)⟩; have n1_ : Aside0 (Below w.heap.size w wc) := ⟨by rw [← hq_]; exact (wS1 HB.out GE742.out)⟩; clear BK742 HB hq_; revert n0_ n1_; intro BK742 HB))) | ((with_reducible refine gate_callee (f := 72) rfl ?_); refine goesL_ (some 60) rfl rfl Tryd.func72 jK rfl #[.slice A0 l0.length c0, .int .i64 (wrap64 (t744 + 8))] rfl jA ?_; (with_reducible refine (impl_Get2.calls kj8 _ _ l0 (wrap64 (t744 + 8)) t752 t753 _ ?side1 ?side2 A15.out).mono ?_); (case side1 => exact cU ((Kd.C_below HR0.out HB.out))); (case side2 => exact HC0.out); rintro e w' ⟨rfl, ⟨nd, rfl⟩⟩; refine ⟨_, rfl, ?_⟩; (try (rw [drewN_self wc]; generalize hq_ : World.drewN wc _ = wc; have n0_ : Aside0 (wc.heap[gb742]? = some (.cells #[.string x743000_8, .int .i64 x743001_8, .int .i64 x743002_8, .int .i64 x743003_8, .string x743004_8, .string x743005_8] 25 (0, 0))) := ⟨by rw [← hq_]; exact (bU BK742.out)⟩; have n1_ : Aside0 (Below w.heap.size w wc) := ⟨by rw [← hq_]; exact (wS1 HB.out GE742.out)⟩; clear BK742 HB hq_; revert n0_ n1_; intro BK742 HB))) | ((with_reducible refine gate_callee (f := 17) rfl ?_); refine goesL_ (some 69) rfl rfl Tryd.func17 jK rfl #[.slice A0 l0.length c0, .int .i64 (wrap64 (t744 + 10)), .int .i64 t752, .int .i64 t746] rfl jA ?_; (with_reducible refine (impl_GetData.calls kj8 _ _ l0 (wrap64 (t744 + 10)) t752 t746 t754 t755 t756 t757 t758 t759 t760 _ ?side1 ?side2 A16.out).mono ?_); (case side1 => exact cU ((Kd.C_below HR0.out HB.out))); (case side2 => exact HC0.out); rintro e w18 ⟨rfl, hb⟩; refine ⟨_, rfl, ?_⟩; replace BK742 := aS (blk_below (bU BK742.out) hb); replace HB := aS (below_step (wS1 HB.out GE742.out) hb); clear hb) | ((with_reducible refine gate_dst (N := 18) rfl ?_); refine box_event ?hg (N := 18) ?hd (cs := #[.string (⟨#[]⟩ : ByteArray), .int .i64 0, .int .i64 0, .int .i64 0, .string (⟨#[]⟩ : ByteArray), .string (⟨#[]⟩ : ByteArray)]) (t := 25) ?hr ?_; (case hd => rfl); (case hg => rfl); (case hr => first | (go_simp; done) | (go_simp; rfl)); intro gb761 hg w19 hbox hb; have BK761 := aS (hbox); have GW761 := aS ((by rw [hg]; exact (below_size (wS1 HB.out GE742.out)) : w.heap.size ≤ gb761)); have GE761 := aS ((by rw [hg]; exact (below_size (wS1 HB.out GE742.out)) : w.heap.size ≤ gb761)); replace HB := aS (below_step (wS1 HB.out GE742.out) hb); have NB742_761 := aS ((by rw [hg]; exact Nat.ne_of_lt (blk_lt (bU BK742.out)) : gb742 ≠ gb761)); have NB761_742 := aS ((by rw [hg]; exact Nat.ne_of_gt (blk_lt (bU BK742.out)) : gb761 ≠ gb742)); replace BK742 := aS (blk_below (bU BK742.out) hb); clear hb hbox hg; have hnb20 := NB761_742.out; have hnc20 := NB742_761.out; have hcz21 := cells6f BK761.out))
     (try simp only [Act.put, List.setIfInBounds_toArray, List.set_cons_zero, List.set_cons_succ])
     go_cut [] (fun wc => ∃ (kq : Nat) (x743000_16 : ByteArray) (x743001_16 : Int) (x743002_16 : Int) (x743003_16 : Int) (x743004_16 : ByteArray) (x743005_16 : ByteArray), Aside0 (impl_GetRecord.j2 kq t743 t744 t748 t750 t751 t752 t754 t755 t756 t757 t758 t759 = some (r1, r2, r3, r4, r5, r6, r7, r8)) ∧ Aside0 (kq ≤ kj8) ∧ Aside0 (wc.heap[gb742]? = some (.cells #[.string x743000_16, .int .i64 x743001_16, .int .i64 x743002_16, .int .i64 x743003_16, .string x743004_16, .string x743005_16] 25 (0, 0))) ∧ Aside0 (wc.heap[gb761]? = some (.cells #[.string t754, .int .i64 t755, .int .i64 t756, .int .i64 t757, .string t758, .string t759] 25 (0, 0))) ∧ Aside0 (Below w.heap.size w wc))
     case first =>
      have H := HC17.out
      clear HC17
      by_cases c22 : t760 = 0
      ·rw [if_pos c22] at H
       have c22b0 := beq_iff_eq.mpr c22
       have c22b1 := bne_eq_false_iff_eq.mpr c22
       clear c22
       (first | rw [c22b0] | (simp only [i64_w, i32_w]; rw [c22b0]) | skip)
       have H' := aS H
       clear H
       go_wp2
       go_meet
       case rel => exact ⟨_, (x743000_8), (x743001_8), (x743002_8), (x743003_8), (x743004_8), (x743005_8), H', ⟨by have := HJ3.out; have := HJ8.out; first | omega | exact Nat.le_refl _⟩, ⟨by (iterate 6 ((with_reducible repeat (first | refine blk_drewN ?_ _ | refine blk_drew ?_ | refine blk_alloc ?_ _)); refine blk_far ?_ NB742_761.out _)); exact bU BK742.out⟩, ⟨by (with_reducible repeat (first | refine blk_drewN ?_ _ | refine blk_drew ?_ | refine blk_alloc ?_ _)); refine blk_put_6 (.string (⟨#[]⟩ : ByteArray)) (.int .i64 0) (.int .i64 0) (.int .i64 0) (.string (⟨#[]⟩ : ByteArray)) (.string (⟨#[]⟩ : ByteArray)) ?_; exact bU BK761.out⟩, ⟨by exact wS2 HB.out GE742.out GE761.out⟩⟩
      ·rw [if_neg c22] at H
       have c22b0 := beq_eq_false_iff_ne.mpr c22
       have c22b1 := bne_iff_ne.mpr c22
       (first | rw [c22b0] | (simp only [i64_w, i32_w]; rw [c22b0]) | skip)
       simp only [Option.some.injEq, Prod.mk.injEq] at H
       obtain ⟨rfl, rfl, rfl, rfl, rfl, rfl, rfl, rfl⟩ := H
       have hnb23 := NB742_761.out
       have hnc23 := NB761_742.out
       have hcz24 := cells6f BK742.out
       go_wp2
       refine bodyPost_ret (results_ctt rfl _ _ gb742 25 #[.string (⟨#[]⟩ : ByteArray), .int .i64 0, .int .i64 0, .int .i64 0, .string (⟨#[]⟩ : ByteArray), .string (⟨#[]⟩ : ByteArray)] (0, 0) _ rfl (by (with_reducible repeat (first | refine blk_drewN ?_ _ | refine blk_drew ?_ | refine blk_alloc ?_ _)); refine blk_put_6 (.string x743000_8) (.int .i64 x743001_8) (.int .i64 x743002_8) (.int .i64 x743003_8) (.string x743004_8) (.string x743005_8) ?_; (iterate 6 ((with_reducible repeat (first | refine blk_drewN ?_ _ | refine blk_drew ?_ | refine blk_alloc ?_ _)); refine blk_far ?_ NB742_761.out _)); exact bU BK742.out) Tryd.underlying25 rfl jK) rfl ?_
       exact ⟨jE, by exact wS2 HB.out GE742.out GE761.out⟩
     case rest =>
      clear HC17
      try clear c1
      try clear c2
      try clear p2
      try clear p6
      try clear c7
      try clear c7b0
      try clear c7b1
      try clear c10
      try clear c10b0
      try clear c16
      try clear c17
      try clear c20
      try clear c22
      try clear c22b0
      try clear c22b1
      try clear c23
      try clear hcz11
      try clear hcz21
      try clear hcz24
      try clear hcz8
      try clear p2
      try clear p6
      obtain ⟨kq, x743000_16, x743001_16, x743002_16, x743003_16, x743004_16, x743005_16, HA, HJ16, BK742, BK761, HB⟩ := hcut
      cases kq with
      | zero => exact absurd HA.out (by simp [impl_GetRecord.j2])
      | succ kj16 =>
       have H := HA.out
       clear HA
       simp only [impl_GetRecord.j2] at H
       have HC25 := aS H
       clear H
       have hnb26 := NB761_742.out
       have hnc26 := NB742_761.out
       have hcz27 := cells6f BK761.out
       go_upto_region 15 with (fail)
       go_cut [90] (fun v90 wc => ∃ (kq : Nat) (x90_24 : Bool), v90 = .bool x90_24 ∧ Aside0 (impl_GetRecord.j3 kq t744 t752 x90_24 t743 t755 t750 t757 t758 t759 = some (r1, r2, r3, r4, r5, r6, r7, r8)) ∧ Aside0 (kq ≤ kj16) ∧ Aside0 (wc.heap[gb742]? = some (.cells #[.string x743000_16, .int .i64 x743001_16, .int .i64 x743002_16, .int .i64 x743003_16, .string x743004_16, .string x743005_16] 25 (0, 0))) ∧ Aside0 (wc.heap[gb761]? = some (.cells #[.string t743, .int .i64 t755, .int .i64 t750, .int .i64 t757, .string t758, .string t759] 25 (0, 0))) ∧ Aside0 (Below w.heap.size w wc))
       case first =>
        have H := HC25.out
        clear HC25
        by_cases c28 : t748 = 1
        ·rw [if_pos c28] at H
         have c28b0 := beq_iff_eq.mpr c28
         have c28b1 := bne_eq_false_iff_eq.mpr c28
         clear c28
         (first | rw [c28b0] | (simp only [i64_w, i32_w]; rw [c28b0]) | skip)
         by_cases c29 : t751 = true
         ·subst c29
          rw [if_pos rfl] at H
          obtain ⟨t762, A30, H⟩ := bM H
          try dsimp only at H
          have H' := aS H
          clear H
          have hnb31 := NB761_742.out
          have hnc31 := NB742_761.out
          have hcz32 := cells6f BK761.out
          go_wp2_with (first | (go_at_call 15; (with_reducible refine (impl_RecordOk.calls kj16 t743 t755 t750 t757 t758 t759 t762 _ A30.out).mono ?_); rintro e w33 ⟨rfl, hb⟩; replace BK742 := aS (blk_below (g := gb742) (o := .cells #[.string x743000_16, .int .i64 x743001_16, .int .i64 x743002_16, .int .i64 x743003_16, .string x743004_16, .string x743005_16] 25 (0, 0)) (by (with_reducible repeat (first | refine blk_drewN ?_ _ | refine blk_drew ?_ | refine blk_alloc ?_ _)); refine blk_far ?_ NB742_761.out _; (with_reducible repeat (first | refine blk_drewN ?_ _ | refine blk_drew ?_ | refine blk_alloc ?_ _)); refine blk_far ?_ NB742_761.out _; exact bU BK742.out) hb); replace BK761 := aS (blk_below (g := gb761) (o := .cells #[.string t743, .int .i64 t755, .int .i64 t750, .int .i64 t757, .string t758, .string t759] 25 (0, 0)) (by (with_reducible repeat (first | refine blk_drewN ?_ _ | refine blk_drew ?_ | refine blk_alloc ?_ _)); refine blk_put (cs := #[.string t743, .int .i64 t755, .int .i64 t756, .int .i64 t757, .string t758, .string t759]) ?_ 2 _ rfl; (with_reducible repeat (first | refine blk_drewN ?_ _ | refine blk_drew ?_ | refine blk_alloc ?_ _)); refine blk_put (cs := #[.string t754, .int .i64 t755, .int .i64 t756, .int .i64 t757, .string t758, .string t759]) ?_ 0 _ rfl; exact bU BK761.out) hb); replace HB := aS (below_step (wS2 HB.out GE742.out GE761.out) hb); clear hb) | ((with_reducible show Oper.upon _ { dst := _, op := .load 25 _, type := 25, pos := _, after := _, guard := _ } _ _ _ _); simp (maxDischargeDepth := 20) [go_sem, *]))
          go_meet
          case rel => exact ⟨_, (!t762), jB, H', ⟨by have := HJ3.out; have := HJ8.out; have := HJ16.out; first | omega | exact Nat.le_refl _⟩, ⟨by exact bU BK742.out⟩, ⟨by exact bU BK761.out⟩, ⟨by exact wS2 HB.out GE742.out GE761.out⟩⟩
         ·replace c29 := Bool.eq_false_iff.mpr c29
          subst c29
          rw [if_neg Bool.false_ne_true] at H
          have H' := aS H
          clear H
          go_wp2
          go_meet
          case rel => exact ⟨_, (true), jB, H', ⟨by have := HJ3.out; have := HJ8.out; have := HJ16.out; first | omega | exact Nat.le_refl _⟩, ⟨by (with_reducible repeat (first | refine blk_drewN ?_ _ | refine blk_drew ?_ | refine blk_alloc ?_ _)); refine blk_far ?_ NB742_761.out _; (with_reducible repeat (first | refine blk_drewN ?_ _ | refine blk_drew ?_ | refine blk_alloc ?_ _)); refine blk_far ?_ NB742_761.out _; exact bU BK742.out⟩, ⟨by (with_reducible repeat (first | refine blk_drewN ?_ _ | refine blk_drew ?_ | refine blk_alloc ?_ _)); refine blk_put (cs := #[.string t743, .int .i64 t755, .int .i64 t756, .int .i64 t757, .string t758, .string t759]) ?_ 2 _ rfl; (with_reducible repeat (first | refine blk_drewN ?_ _ | refine blk_drew ?_ | refine blk_alloc ?_ _)); refine blk_put (cs := #[.string t754, .int .i64 t755, .int .i64 t756, .int .i64 t757, .string t758, .string t759]) ?_ 0 _ rfl; exact bU BK761.out⟩, ⟨by exact wS2 HB.out GE742.out GE761.out⟩⟩
        ·rw [if_neg c28] at H
         have c28b0 := beq_eq_false_iff_ne.mpr c28
         have c28b1 := bne_iff_ne.mpr c28
         (first | rw [c28b0] | (simp only [i64_w, i32_w]; rw [c28b0]) | skip)
         have H' := aS H
         clear H
         go_wp2
         go_meet
         case rel => exact ⟨_, (true), jB, H', ⟨by have := HJ3.out; have := HJ8.out; have := HJ16.out; first | omega | exact Nat.le_refl _⟩, ⟨by (with_reducible repeat (first | refine blk_drewN ?_ _ | refine blk_drew ?_ | refine blk_alloc ?_ _)); refine blk_far ?_ NB742_761.out _; (with_reducible repeat (first | refine blk_drewN ?_ _ | refine blk_drew ?_ | refine blk_alloc ?_ _)); refine blk_far ?_ NB742_761.out _; exact bU BK742.out⟩, ⟨by (with_reducible repeat (first | refine blk_drewN ?_ _ | refine blk_drew ?_ | refine blk_alloc ?_ _)); refine blk_put (cs := #[.string t743, .int .i64 t755, .int .i64 t756, .int .i64 t757, .string t758, .string t759]) ?_ 2 _ rfl; (with_reducible repeat (first | refine blk_drewN ?_ _ | refine blk_drew ?_ | refine blk_alloc ?_ _)); refine blk_put (cs := #[.string t754, .int .i64 t755, .int .i64 t756, .int .i64 t757, .string t758, .string t759]) ?_ 0 _ rfl; exact bU BK761.out⟩, ⟨by exact wS2 HB.out GE742.out GE761.out⟩⟩
       case rest =>
        clear HC25
        try clear c1
        try clear c2
        try clear p2
        try clear c3
        try clear p6
        try clear c7
        try clear c7b0
        try clear c7b1
        try clear c10
        try clear c10b0
        try clear c16
        try clear c17
        try clear c20
        try clear c22
        try clear c22b0
        try clear c22b1
        try clear c23
        try clear c26
        try clear c28
        try clear c28b0
        try clear c28b1
        try clear c29
        try clear c31
        try clear hcz11
        try clear hcz21
        try clear hcz24
        try clear hcz27
        try clear hcz32
        try clear hcz8
        try clear p2
        try clear p6
        obtain ⟨kq, x90_24, rfl, HA, HJ24, BK742, BK761, HB⟩ := hcut
        cases kq with
        | zero => exact absurd HA.out (by simp [impl_GetRecord.j3])
        | succ kj24 =>
         have H := HA.out
         clear HA
         simp only [impl_GetRecord.j3] at H
         by_cases c34 : x90_24 = true
         ·subst c34
          rw [if_pos rfl] at H
          simp only [Option.some.injEq, Prod.mk.injEq] at H
          obtain ⟨rfl, rfl, rfl, rfl, rfl, rfl, rfl, rfl⟩ := H
          have hnb35 := NB742_761.out
          have hnc35 := NB761_742.out
          have hcz36 := cells6f BK742.out
          go_wp2
          refine bodyPost_ret (results_ctt rfl _ _ gb742 25 #[.string (⟨#[]⟩ : ByteArray), .int .i64 0, .int .i64 0, .int .i64 0, .string (⟨#[]⟩ : ByteArray), .string (⟨#[]⟩ : ByteArray)] (0, 0) _ rfl (by (with_reducible repeat (first | refine blk_drewN ?_ _ | refine blk_drew ?_ | refine blk_alloc ?_ _)); refine blk_put_6 (.string x743000_16) (.int .i64 x743001_16) (.int .i64 x743002_16) (.int .i64 x743003_16) (.string x743004_16) (.string x743005_16) ?_; exact bU BK742.out) Tryd.underlying25 rfl jK) rfl ?_
          exact ⟨jE, by exact wS2 HB.out GE742.out GE761.out⟩
         ·replace c34 := Bool.eq_false_iff.mpr c34
          subst c34
          rw [if_neg Bool.false_ne_true] at H
          simp only [Option.some.injEq, Prod.mk.injEq] at H
          obtain ⟨rfl, rfl, rfl, rfl, rfl, rfl, rfl, rfl⟩ := H
          have hnb37 := NB761_742.out
          have hnc37 := NB742_761.out
          have hcz38 := cells6f BK761.out
          have hcz39 := cells6f BK742.out
          go_wp2
          refine bodyPost_ret (results_ctt rfl _ _ gb742 25 #[.string t743, .int .i64 t755, .int .i64 t750, .int .i64 t757, .string t758, .string t759] (0, 0) _ rfl (by (with_reducible repeat (first | refine blk_drewN ?_ _ | refine blk_drew ?_ | refine blk_alloc ?_ _)); refine blk_put_6 (.string x743000_16) (.int .i64 x743001_16) (.int .i64 x743002_16) (.int .i64 x743003_16) (.string x743004_16) (.string x743005_16) ?_; exact bU BK742.out) Tryd.underlying25 rfl jK) rfl ?_
          exact ⟨jE, by exact wS2 HB.out GE742.out GE761.out⟩

/-! ### impl_GetRecords: function 21 -/
mutual
def impl_GetRecords.j0 : Nat → List Int → Int → Int → Bool → Option ((List (S25)) × Int × Int)
 | 0, _, _, _, _ => none
 | k + 1, x0, x1, x2, x18 => if x18 = true then (some (([] : List (S25)), 0, 2)) else (impl_GetRecords.l0 k x0 x1 (([] : List (S25))) x2 0)
def impl_GetRecords.l0 : Nat → List Int → Int → List (S25) → Int → Int → Option ((List (S25)) × Int × Int)
 | 0, _, _, _, _, _ => none
 | k + 1, x0, x1, x9, x20, x21 => if x21 < x20 then ((impl_GetRecord.f k x0 x1).bind fun bt766 => (if bt766.2.2.2.2.2.2.2 = 0 then (if x9.length < 1954687338268 then (impl_GetRecords.l0 k x0 bt766.2.2.2.2.2.2.1 (x9 ++ [(⟨bt766.1, bt766.2.1, bt766.2.2.1, bt766.2.2.2.1, bt766.2.2.2.2.1, bt766.2.2.2.2.2.1⟩ : S25)]) x20 (wrap64 (x21 + 1))) else (none)) else (some (([] : List (S25)), 0, bt766.2.2.2.2.2.2.2)))) else (some (x9, x1, 0))
end
def impl_GetRecords.f (k : Nat) (l0 : List Int) (a1 : Int) (a2 : Int) : Option ((List (S25)) × Int × Int) := if a2 < 0 then (impl_GetRecords.j0 k l0 a1 a2 true) else (impl_GetRecords.j0 k l0 a1 a2 (decide (a2 > 8)))
theorem impl_GetRecords.mono_l : ∀ k, (∀ y0 y1 y2 y3, LeO (impl_GetRecords.j0 k y0 y1 y2 y3) (impl_GetRecords.j0 (k + 1) y0 y1 y2 y3)) ∧ (∀ y0 y1 y2 y3 y4, LeO (impl_GetRecords.l0 k y0 y1 y2 y3 y4) (impl_GetRecords.l0 (k + 1) y0 y1 y2 y3 y4))
 | 0 => ⟨fun _ _ _ _ r h => by simp [impl_GetRecords.j0] at h, fun _ _ _ _ _ r h => by simp [impl_GetRecords.l0] at h⟩
 | k + 1 => by
  obtain ⟨ih0, ih1⟩ := impl_GetRecords.mono_l k
  refine ⟨?_, ?_⟩
  ·intro y0 y1 y2 y3
   unfold impl_GetRecords.j0
   repeat' first
   | (with_reducible first | exact ih0 _ _ _ _ | exact ih1 _ _ _ _ _ | exact impl_GetRecord.mono _ _ _ | exact LeO.refl _ | exact LeO.none _ | refine LeO.ite ?_ ?_ | refine LeO.bind ?_ (fun _ => ?_))
   | exact ih0 _ _ _ _
   | exact ih1 _ _ _ _ _
   | exact impl_GetRecord.mono _ _ _
   | exact LeO.none _
   | refine LeO.ite ?_ ?_
   | refine LeO.bind ?_ (fun _ => ?_)
  ·intro y0 y1 y2 y3 y4
   unfold impl_GetRecords.l0
   repeat' first
   | (with_reducible first | exact ih0 _ _ _ _ | exact ih1 _ _ _ _ _ | exact impl_GetRecord.mono _ _ _ | exact LeO.refl _ | exact LeO.none _ | refine LeO.ite ?_ ?_ | refine LeO.bind ?_ (fun _ => ?_))
   | exact ih0 _ _ _ _
   | exact ih1 _ _ _ _ _
   | exact impl_GetRecord.mono _ _ _
   | exact LeO.none _
   | refine LeO.ite ?_ ?_
   | refine LeO.bind ?_ (fun _ => ?_)
theorem impl_GetRecords.mono : ∀ a0 a1 a2 k, LeO (impl_GetRecords.f k a0 a1 a2) (impl_GetRecords.f (k + 1) a0 a1 a2) := by
 intro a0 a1 a2 k
 obtain ⟨ih0, ih1⟩ := impl_GetRecords.mono_l k
 unfold impl_GetRecords.f
 repeat' first
   | (with_reducible first | exact ih0 _ _ _ _ | exact ih1 _ _ _ _ _ | exact impl_GetRecord.mono _ _ _ | exact LeO.refl _ | exact LeO.none _ | refine LeO.ite ?_ ?_ | refine LeO.bind ?_ (fun _ => ?_))
   | exact ih0 _ _ _ _
   | exact ih1 _ _ _ _ _
   | exact impl_GetRecord.mono _ _ _
   | exact LeO.none _
   | refine LeO.ite ?_ ?_
   | refine LeO.bind ?_ (fun _ => ?_)
set_option maxHeartbeats 8000000 in
set_option maxRecDepth 100000 in
theorem impl_GetRecords.calls (k : Nat) (A0 : Option Addr) (c0 : Nat) (l0 : List Int) (a1 : Int) (a2 : Int) (r1 : List (S25)) (r2 : Int) (r3 : Int) (w : World) (hr0 : Kd.C (Kd.int .u8) w A0 l0.length l0) (hc0 : l0.length ≤ c0) (h : impl_GetRecords.f k l0 a1 a2 = some (r1, r2, r3)) :
  Calls Tryd.prog 21 #[.slice A0 l0.length c0, .int .i64 a1, .int .i64 a2] w fun e w' => ∃ v0_ : Value, e = .returned (.tuple #[v0_, .int .i64 r2, .int .i64 r3]) ∧ Kd.R k25 25 w' w.heap.size (fun _ => True) v0_ r1 ∧ Below w.heap.size w w' := by
 have hu25 := Tryd.underlying25
 have HR0 := aS hr0
 have HC0 := aS hc0
 clear hr0 hc0
 have HB := aS (Below.refl w.heap.size w)
 have H : (if a2 < 0 then (impl_GetRecords.j0 k l0 a1 a2 true) else (impl_GetRecords.j0 k l0 a1 a2 (decide (a2 > 8)))) = some (r1, r2, r3) := h
 clear h
 have HC4 := aS H
 clear H
 go_enter Tryd.func21, Tryd.ntmps21
 go_upto_region 1 with (fail)
 go_cut [18] (fun v18 wc => ∃ (kq : Nat) (x18_3 : Bool), v18 = .bool x18_3 ∧ Aside0 (impl_GetRecords.j0 kq l0 a1 a2 x18_3 = some (r1, r2, r3)) ∧ Aside0 (kq ≤ k) ∧ Aside0 (Below w.heap.size w wc))
 case first =>
  have H := HC4.out
  clear HC4
  by_cases c5 : a2 < 0
  ·rw [if_pos c5] at H
   have c5b0 := decide_eq_true c5
   clear c5
   (first | rw [c5b0] | (simp only [i64_w, i32_w]; rw [c5b0]) | skip)
   have H' := aS H
   clear H
   go_wp2
   go_meet
   case rel => exact ⟨_, (true), jB, H', ⟨by first | omega | exact Nat.le_refl _⟩, ⟨by exact wU HB.out⟩⟩
  ·rw [if_neg c5] at H
   have c5b0 := decide_eq_false c5
   clear c5
   (first | rw [c5b0] | (simp only [i64_w, i32_w]; rw [c5b0]) | skip)
   have H' := aS H
   clear H
   go_wp2
   go_meet
   case rel => exact ⟨_, (decide (a2 > 8)), jB, H', ⟨by first | omega | exact Nat.le_refl _⟩, ⟨by exact wU HB.out⟩⟩
 case rest =>
  clear HC4
  try clear c2
  try clear p2
  try clear c5
  try clear c5b0
  obtain ⟨kq, x18_3, rfl, HA, HJ3, HB⟩ := hcut
  cases kq with
  | zero => exact absurd HA.out (by simp [impl_GetRecords.j0])
  | succ kj3 =>
   have H := HA.out
   clear HA
   simp only [impl_GetRecords.j0] at H
   by_cases c6 : x18_3 = true
   ·subst c6
    rw [if_pos rfl] at H
    simp only [Option.some.injEq, Prod.mk.injEq] at H
    obtain ⟨rfl, rfl, rfl⟩ := H
    go_wp2
    go_ret3
    exact ⟨_, jE, by first | exact Kd.R_nil _ _ _ _ _ | exact Kd.N_nil _ _ _ _ _ | exact Kd.V_nil _ _ _ _ _ | exact Kd.Q_nil _ _ _ _ _ | exact Kd.S_nil _ _ _ _ _, by exact wU HB.out⟩
   ·replace c6 := Bool.eq_false_iff.mpr c6
    subst c6
    rw [if_neg Bool.false_ne_true] at H
    obtain ⟨y763, hy_⟩ : ∃ y_ : List (S25), y_ = (([] : List (S25))) := ⟨_, rfl⟩
    replace H : (impl_GetRecords.l0 kj3 l0 a1 y763 a2 0) = some (r1, r2, r3) := jD
    have Ny763 := aS hy_
    clear hy_
    have H' := aS H
    clear H
    go_wp2_with (first | ((with_reducible refine gate_dst (N := 19) rfl ?_); refine Kd.R_lit k25 _ 25 ?hg (N := 19) ?hd (xs := ([] : List (S25))) (inner := []) (ok := fun _ => True) (okp := fun _ => True) ?hr ?hp (fun _ hk => hk) trivial (Below.refl _ _) (Nat.le_refl _) (by simp) ?_; (case hd => rfl); (case hg => rfl); (case hr => first | (go_simp; done) | (go_simp; rfl)); (case hp => exact (Reps.none _ _)); intro v764 w7 ho8 hb hg_ hnew_; clear hg_ hnew_; (first | rw [← Ny763.out] at ho8 | (simp only [Int.reduceToNat] at ho8; rw [← Ny763.out] at ho8)); have HO765 := aS (Kd.R_lower ho8 (below_size (wU HB.out))); replace HB := aS (below_step (wU HB.out) hb); clear hb ho8))
    go_loopg [1, 9, 21] kj3 (fun kq v1 v9 v21 w' => ∃ (x1_2 : Int) (x9_2 : List (S25)) (x21_2 : Int), v1 = .int .i64 x1_2 ∧ v21 = .int .i64 x21_2 ∧ Aside0 (impl_GetRecords.l0 kq l0 x1_2 x9_2 a2 x21_2 = some (r1, r2, r3)) ∧ Aside0 (kq ≤ kj3) ∧ Aside0 (Kd.R k25 25 w' w.heap.size (fun _ => True) v9 x9_2) ∧ Aside0 (Below w.heap.size w w'))
    case atStart => exact ⟨(a1), (y763), (0), jB, jB, H', ⟨Nat.le_refl _⟩, ⟨by exact rU HO765.out⟩, ⟨by exact wU HB.out⟩⟩
    case round =>
     clear H'
     try clear c2
     try clear p2
     try clear c5
     try clear c5b0
     try clear c6
     try clear p2
     obtain ⟨x1_2, x9_2, x21_2, rfl, rfl, HA, HK2, HO_9, HB⟩ := hrel
     cases gk with
     | zero => exact absurd HA.out (by simp [impl_GetRecords.l0])
     | succ k2 =>
      have H := HA.out
      clear HA
      simp only [impl_GetRecords.l0] at H
      by_cases c9 : x21_2 < a2
      ·rw [if_pos c9] at H
       have c9b0 := decide_eq_true c9
       clear c9
       obtain ⟨⟨t766, t767, t768, t769, t770, t771, t772, t773⟩, A10, H⟩ := bM H
       try dsimp only at H
       by_cases c11 : t773 = 0
       ·rw [if_pos c11] at H
        have c11b0 := beq_iff_eq.mpr c11
        have c11b1 := bne_eq_false_iff_eq.mpr c11
        clear c11
        by_cases c12 : x9_2.length < 1954687338268
        ·rw [if_pos c12] at H
         have LMc12 := aS c12
         clear c12
         obtain ⟨y775, hy_⟩ : ∃ y_ : List (S25), y_ = (x9_2 ++ [(⟨t766, t767, t768, t769, t770, t771⟩ : S25)]) := ⟨_, rfl⟩
         replace H : (impl_GetRecords.l0 k2 l0 t772 y775 a2 (wrap64 (x21_2 + 1))) = some (r1, r2, r3) := jD
         have Ny775 := aS hy_
         clear hy_
         have H' := aS H
         clear H
         go_wp2_with (first | ((with_reducible refine gate_callee (f := 16) rfl ?_); refine goesL_ (some 26) rfl rfl Tryd.func16 jK rfl #[.slice A0 l0.length c0, .int .i64 x1_2] rfl jA ?_; (with_reducible refine (impl_GetRecord.calls k2 _ _ l0 x1_2 t766 t767 t768 t769 t770 t771 t772 t773 _ ?side1 ?side2 A10.out).mono ?_); (case side1 => exact cU ((Kd.C_below HR0.out HB.out))); (case side2 => exact HC0.out); rintro e w13 ⟨rfl, hb⟩; refine ⟨_, rfl, ?_⟩; replace HO_9 := aS (Kd.R_below (rU HO_9.out) hb); replace HB := aS (below_step (wU HB.out) hb); clear hb) | ((with_reducible refine gate_dst (N := 10) rfl ?_); refine box_event ?hg (N := 10) ?hd (cs := #[.string (⟨#[]⟩ : ByteArray), .int .i64 0, .int .i64 0, .int .i64 0, .string (⟨#[]⟩ : ByteArray), .string (⟨#[]⟩ : ByteArray)]) (t := 25) ?hr ?_; (case hd => rfl); (case hg => rfl); (case hr => first | (go_simp; done) | (go_simp; rfl)); intro gb774 hg w14 hbox hb; replace HO_9 := aS (Kd.R_below (Kd.R_elderB (rU HO_9.out) gb774 (Nat.le_of_eq hg.symm)) hb); have BK774 := aS (hbox); have GW774 := aS ((by rw [hg]; exact (below_size (wU HB.out)) : w.heap.size ≤ gb774)); have GE774 := aS ((by rw [hg]; exact (below_size (wU HB.out)) : w.heap.size ≤ gb774)); replace HB := aS (below_step (wU HB.out) hb); clear hb hbox hg; have hcz15 := cells6f BK774.out) | ((with_reducible refine gate_builtin (b := .append) (xs := #[.tmp 33, .tmp 35]) rfl ?_); at_builtin; refine Kd.R_append k25 (w0 := w) w.heap.size rfl (.tmp 33) (.tmp 35) 36 25 (.agg #[(.string ⟨#[]⟩), (.int .i64 0), (.int .i64 0), (.int .i64 0), (.string ⟨#[]⟩), (.string ⟨#[]⟩)]) 72 rfl Tryd.underlying36 info25 rfl (by decide) (by omega) u9 x9_2 (⟨t766, t767, t768, t769, t770, t771⟩ : S25) [.string t766, .int .i64 t767, .int .i64 t768, .int .i64 t769, .string t770, .string t771] (fun k_ => k_ ≠ gb774) (fun _ => False) rfl (by first | (go_simp; done) | (go_simp; rfl)) ?aP (fun _ hk => hk.elim) ?aF ?aO ?aB ?aS ?aL ?_; (case aP => exact k25_mkM _ _ _ (⟨t766, t767, t768, t769, t770, t771⟩ : S25)); (case aB => exact (wS1 HB.out GE774.out)); (case aF => exact (fun k_ hk => Kd.freshB (g := gb774) (o := .cells #[.string t766, .int .i64 t767, .int .i64 t768, .int .i64 t769, .string t770, .string t771] 25 (0, 0)) (by (with_reducible repeat (first | refine blk_drewN ?_ _ | refine blk_drew ?_ | refine blk_alloc ?_ _)); refine blk_put_6 (.string (⟨#[]⟩ : ByteArray)) (.int .i64 0) (.int .i64 0) (.int .i64 0) (.string (⟨#[]⟩ : ByteArray)) (.string (⟨#[]⟩ : ByteArray)) ?_; exact bU BK774.out) k_ hk)); (case aO => exact (by (with_reducible repeat (first | apply Kd.R_alloc | apply Kd.R_drewN | apply Kd.R_drew)); exact Kd.R_mono (Kd.R_far (p := ⟨gb774, 5, none⟩) (Kd.R_far (p := ⟨gb774, 4, none⟩) (Kd.R_far (p := ⟨gb774, 3, none⟩) (Kd.R_far (p := ⟨gb774, 2, none⟩) (Kd.R_far (p := ⟨gb774, 1, none⟩) (Kd.R_far (p := ⟨gb774, 0, none⟩) (Kd.R_mono HO_9.out (fun k_ hk => (⟨hk, hk.2⟩ : _ ∧ k_ ≠ gb774))) (fun _ hk => hk.2) (.string t766)) (fun _ hk => hk.2) (.int .i64 t767)) (fun _ hk => hk.2) (.int .i64 t768)) (fun _ hk => hk.2) (.int .i64 t769)) (fun _ hk => hk.2) (.string t770)) (fun _ hk => hk.2) (.string t771)) (fun _ hk => hk.1.2))); (case aS => exact (below_size (wS1 HB.out GE774.out))); (case aL => have := LMc12.out; omega); intro v776 w16 ho hb hg hat; rw [← Ny775.out] at ho; replace BK774 := aS (blk_grown (g := gb774) (o := .cells #[.string t766, .int .i64 t767, .int .i64 t768, .int .i64 t769, .string t770, .string t771] 25 (0, 0)) (by (with_reducible repeat (first | refine blk_drewN ?_ _ | refine blk_drew ?_ | refine blk_alloc ?_ _)); refine blk_put_6 (.string (⟨#[]⟩ : ByteArray)) (.int .i64 0) (.int .i64 0) (.int .i64 0) (.string (⟨#[]⟩ : ByteArray)) (.string (⟨#[]⟩ : ByteArray)) ?_; exact bU BK774.out) hg (Kd.R_away HO_9.out (fun _ hk => hk.2))); replace HB := aS (hb); have HO777 := aS (ho); clear HO_9; clear ho hb hg hat))
         go_roundg k2
         case measure => have := HJ3.out; have := HK2.out; omega
         case rel => exact ⟨(t772), (y775), (wrap64 (x21_2 + 1)), jB, jB, H', ⟨by have := HJ3.out; have := HK2.out; omega⟩, ⟨Kd.R_mono (rU HO777.out) (fun _ hk => trivial)⟩, ⟨by exact wS1 HB.out GE774.out⟩⟩
        ·rw [if_neg c12] at H
         exact absurd H (by simp)
       ·rw [if_neg c11] at H
        have c11b0 := beq_eq_false_iff_ne.mpr c11
        have c11b1 := bne_iff_ne.mpr c11
        simp only [Option.some.injEq, Prod.mk.injEq] at H
        obtain ⟨rfl, rfl, rfl⟩ := H
        go_wp2_with (first | ((with_reducible refine gate_callee (f := 16) rfl ?_); refine goesL_ (some 26) rfl rfl Tryd.func16 jK rfl #[.slice A0 l0.length c0, .int .i64 x1_2] rfl jA ?_; (with_reducible refine (impl_GetRecord.calls k2 _ _ l0 x1_2 t766 t767 t768 t769 t770 t771 t772 t773 _ ?side1 ?side2 A10.out).mono ?_); (case side1 => exact cU ((Kd.C_below HR0.out HB.out))); (case side2 => exact HC0.out); rintro e w17 ⟨rfl, hb⟩; refine ⟨_, rfl, ?_⟩; replace HO_9 := aS (Kd.R_below (rU HO_9.out) hb); replace HB := aS (below_step (wU HB.out) hb); clear hb) | ((with_reducible refine gate_dst (N := 10) rfl ?_); refine box_event ?hg (N := 10) ?hd (cs := #[.string (⟨#[]⟩ : ByteArray), .int .i64 0, .int .i64 0, .int .i64 0, .string (⟨#[]⟩ : ByteArray), .string (⟨#[]⟩ : ByteArray)]) (t := 25) ?hr ?_; (case hd => rfl); (case hg => rfl); (case hr => first | (go_simp; done) | (go_simp; rfl)); intro gb774 hg w18 hbox hb; replace HO_9 := aS (Kd.R_below (Kd.R_elderB (rU HO_9.out) gb774 (Nat.le_of_eq hg.symm)) hb); have BK774 := aS (hbox); have GW774 := aS ((by rw [hg]; exact (below_size (wU HB.out)) : w.heap.size ≤ gb774)); have GE774 := aS ((by rw [hg]; exact (below_size (wU HB.out)) : w.heap.size ≤ gb774)); replace HB := aS (below_step (wU HB.out) hb); clear hb hbox hg; have hcz19 := cells6f BK774.out))
        go_ret3
        exact ⟨_, jE, by first | exact Kd.R_nil _ _ _ _ _ | exact Kd.N_nil _ _ _ _ _ | exact Kd.V_nil _ _ _ _ _ | exact Kd.Q_nil _ _ _ _ _ | exact Kd.S_nil _ _ _ _ _, by exact wS1 HB.out GE774.out⟩
      ·rw [if_neg c9] at H
       have c9b0 := decide_eq_false c9
       clear c9
       simp only [Option.some.injEq, Prod.mk.injEq] at H
       obtain ⟨rfl, rfl, rfl⟩ := H
       go_wp2
       go_ret3
       exact ⟨_, jE, by exact rU HO_9.out, by exact wU HB.out⟩

/-! ### laws_sameRecs: function 22 -/
def laws_sameRecs.l0 : Nat → List (S25) → List (S25) → Int → Option (Bool)
 | 0, _, _, _ => none
 | k + 1, x0, x1, x5 => if x5 < (x0.length : Int) then (if 0 ≤ x5 then (if x5 < (x1.length : Int) then (if (!((((rd_T25 x0 x5).f0).toList) == (((rd_T25 x1 x5).f0).toList)) || (!(((rd_T25 x0 x5).f1) == ((rd_T25 x1 x5).f1)) || (!(((rd_T25 x0 x5).f2) == ((rd_T25 x1 x5).f2)) || (!(((rd_T25 x0 x5).f3) == ((rd_T25 x1 x5).f3)) || (!((((rd_T25 x0 x5).f4).toList) == (((rd_T25 x1 x5).f4).toList)) || (!((((rd_T25 x0 x5).f5).toList) == (((rd_T25 x1 x5).f5).toList)))))))) = true then (some false) else (laws_sameRecs.l0 k x0 x1 (wrap64 (x5 + 1)))) else (none)) else (none)) else (some true)
def laws_sameRecs.f (k : Nat) (l0 : List (S25)) (l1 : List (S25)) : Option (Bool) := if (l0.length : Int) = (l1.length : Int) then (laws_sameRecs.l0 k l0 l1 0) else (some false)
theorem laws_sameRecs.mono_l : ∀ k, (∀ y0 y1 y2, LeO (laws_sameRecs.l0 k y0 y1 y2) (laws_sameRecs.l0 (k + 1) y0 y1 y2))
 | 0 => fun _ _ _ r h => by simp [laws_sameRecs.l0] at h
 | k + 1 => by
  have ih0 := laws_sameRecs.mono_l k
  ·intro y0 y1 y2
   unfold laws_sameRecs.l0
   repeat' first
   | (with_reducible first | exact ih0 _ _ _ | exact LeO.refl _ | exact LeO.none _ | refine LeO.ite ?_ ?_ | refine LeO.bind ?_ (fun _ => ?_))
   | exact ih0 _ _ _
   | exact LeO.none _
   | refine LeO.ite ?_ ?_
   | refine LeO.bind ?_ (fun _ => ?_)
theorem laws_sameRecs.mono : ∀ a0 a1 k, LeO (laws_sameRecs.f k a0 a1) (laws_sameRecs.f (k + 1) a0 a1) := by
 intro a0 a1 k
 have ih0 := laws_sameRecs.mono_l k
 unfold laws_sameRecs.f
 repeat' first
   | (with_reducible first | exact ih0 _ _ _ | exact LeO.refl _ | exact LeO.none _ | refine LeO.ite ?_ ?_ | refine LeO.bind ?_ (fun _ => ?_))
   | exact ih0 _ _ _
   | exact LeO.none _
   | refine LeO.ite ?_ ?_
   | refine LeO.bind ?_ (fun _ => ?_)
set_option maxHeartbeats 8000000 in
set_option maxRecDepth 100000 in
theorem laws_sameRecs.calls (k : Nat) (A0 : Option Addr) (c0 : Nat) (l0 : List (S25)) (A1 : Option Addr) (c1 : Nat) (l1 : List (S25)) (r : Bool) (w : World) (hr0 : Kd.C k25 w A0 l0.length l0) (hc0 : l0.length ≤ c0) (hr1 : Kd.C k25 w A1 l1.length l1) (hc1 : l1.length ≤ c1) (h : laws_sameRecs.f k l0 l1 = some r) :
  Calls Tryd.prog 22 #[.slice A0 l0.length c0, .slice A1 l1.length c1] w fun e w' => e = .returned (.bool r) ∧ Drawn0 w w' := by
 have hu25 := Tryd.underlying25
 have HR0 := aS hr0
 have HC0 := aS hc0
 clear hr0 hc0
 have HR1 := aS hr1
 have HC1 := aS hc1
 clear hr1 hc1
 have H : (if (l0.length : Int) = (l1.length : Int) then (laws_sameRecs.l0 k l0 l1 0) else (some false)) = some r := h
 clear h
 by_cases c3 : (l0.length : Int) = (l1.length : Int)
 ·rw [if_pos c3] at H
  have c3b0 := beq_iff_eq.mpr c3
  have c3b1 := bne_eq_false_iff_eq.mpr c3
  have c3b2 : (l0.length == l1.length) = true := by first | simpa using c3 | (simp at c3 ⊢; omega)
  clear c3
  have H' := aS H
  clear H
  go_enter Tryd.func22, Tryd.ntmps22
  go_wp2
  repeat (go_quiet (fail); try go_wp2)
  go_loopg [5] k (fun kq v5 w' => ∃ (x5_1 : Int), v5 = .int .i64 x5_1 ∧ Aside0 (laws_sameRecs.l0 kq l0 l1 x5_1 = some r) ∧ Aside0 (kq ≤ k) ∧ Drawn0 w w')
  case atStart => exact ⟨(0), jB, H', ⟨Nat.le_refl _⟩, by repeat (first | exact Drawn0.refl _ | apply Drawn0.step)⟩
  case round =>
   clear H'
   try clear c1
   try clear c2
   try clear p2
   try clear c3
   try clear c3b0
   try clear c3b1
   try clear c3b2
   obtain ⟨x5_1, rfl, HA, HK1, ⟨m1, rfl⟩⟩ := hrel
   cases gk with
   | zero => exact absurd HA.out (by simp [laws_sameRecs.l0])
   | succ k1 =>
    have H := HA.out
    clear HA
    simp only [laws_sameRecs.l0] at H
    by_cases c4 : x5_1 < (l0.length : Int)
    ·rw [if_pos c4] at H
     have c4b0 := decide_eq_true c4
     clear c4
     by_cases c5 : 0 ≤ x5_1
     ·rw [if_pos c5] at H
      have c5b0 := decide_eq_true c5
      clear c5
      by_cases c6 : x5_1 < (l1.length : Int)
      ·rw [if_pos c6] at H
       have c6b0 := decide_eq_true c6
       clear c6
       by_cases c7 : (!((((rd_T25 l0 x5_1).f0).toList) == (((rd_T25 l1 x5_1).f0).toList)) || (!(((rd_T25 l0 x5_1).f1) == ((rd_T25 l1 x5_1).f1)) || (!(((rd_T25 l0 x5_1).f2) == ((rd_T25 l1 x5_1).f2)) || (!(((rd_T25 l0 x5_1).f3) == ((rd_T25 l1 x5_1).f3)) || (!((((rd_T25 l0 x5_1).f4).toList) == (((rd_T25 l1 x5_1).f4).toList)) || (!((((rd_T25 l0 x5_1).f5).toList) == (((rd_T25 l1 x5_1).f5).toList)))))))) = true
       ·rw [if_pos c7] at H
        have c7b0 : (!((((rd_T25 l0 x5_1).f0).toList) == (((rd_T25 l1 x5_1).f0).toList)) || (!(((rd_T25 l0 x5_1).f1) == ((rd_T25 l1 x5_1).f1)) || (!(((rd_T25 l0 x5_1).f2) == ((rd_T25 l1 x5_1).f2)) || (!(((rd_T25 l0 x5_1).f3) == ((rd_T25 l1 x5_1).f3)) || (!((((rd_T25 l0 x5_1).f4).toList) == (((rd_T25 l1 x5_1).f4).toList)) || (!((((rd_T25 l0 x5_1).f5).toList) == (((rd_T25 l1 x5_1).f5).toList)))))))) = true := c7
        clear c7
        obtain rfl := Option.some.inj H
        have p778 : 0 ≤ (x5_1 : Int) := of_decide_eq_true jC
        have q778 : x5_1 < (l0.length : Int) := of_decide_eq_true jC
        obtain ⟨ad778, e778, hx778_0, hx778_1, hx778_2, hx778_3, hx778_4, hx778_5⟩ := at_T25 HR0.out x5_1 p778 q778
        cases e778
        replace p778 := eq_true p778
        replace q778 := eq_true q778
        have p779 : 0 ≤ (x5_1 : Int) := of_decide_eq_true jC
        have q779 : x5_1 < (l1.length : Int) := of_decide_eq_true jC
        obtain ⟨ad779, e779, hx779_0, hx779_1, hx779_2, hx779_3, hx779_4, hx779_5⟩ := at_T25 HR1.out x5_1 p779 q779
        cases e779
        replace p779 := eq_true p779
        replace q779 := eq_true q779
        go_wp2
        repeat (go_quiet (fail); try go_wp2)
        go_ret
        exact ⟨by first | rfl | (simp; done) | (simp [*]; done) | (simp [X.bne_nil, X.beq_nil]; done) | (simp [*, X.bne_nil, X.beq_nil]; done) | (simp [X.bne_nil, X.beq_nil]; done), by repeat (first | exact Drawn0.refl _ | apply Drawn0.step)⟩
       ·rw [if_neg c7] at H
        have c7b0 : (!((((rd_T25 l0 x5_1).f0).toList) == (((rd_T25 l1 x5_1).f0).toList)) || (!(((rd_T25 l0 x5_1).f1) == ((rd_T25 l1 x5_1).f1)) || (!(((rd_T25 l0 x5_1).f2) == ((rd_T25 l1 x5_1).f2)) || (!(((rd_T25 l0 x5_1).f3) == ((rd_T25 l1 x5_1).f3)) || (!((((rd_T25 l0 x5_1).f4).toList) == (((rd_T25 l1 x5_1).f4).toList)) || (!((((rd_T25 l0 x5_1).f5).toList) == (((rd_T25 l1 x5_1).f5).toList)))))))) = false := by simpa using c7
        clear c7
        have H' := aS H
        clear H
        have p778 : 0 ≤ (x5_1 : Int) := of_decide_eq_true jC
        have q778 : x5_1 < (l0.length : Int) := of_decide_eq_true jC
        obtain ⟨ad778, e778, hx778_0, hx778_1, hx778_2, hx778_3, hx778_4, hx778_5⟩ := at_T25 HR0.out x5_1 p778 q778
        cases e778
        replace p778 := eq_true p778
        replace q778 := eq_true q778
        have p779 : 0 ≤ (x5_1 : Int) := of_decide_eq_true jC
        have q779 : x5_1 < (l1.length : Int) := of_decide_eq_true jC
        obtain ⟨ad779, e779, hx779_0, hx779_1, hx779_2, hx779_3, hx779_4, hx779_5⟩ := at_T25 HR1.out x5_1 p779 q779
        cases e779
        replace p779 := eq_true p779
        replace q779 := eq_true q779
        go_wp2
        repeat (go_quiet (fail); try go_wp2)
        go_roundg k1
        case measure => have := HK1.out; omega
        case rel => exact ⟨(wrap64 (x5_1 + 1)), jB, H', ⟨by have := HK1.out; omega⟩, by repeat (first | exact Drawn0.refl _ | apply Drawn0.step)⟩
      ·rw [if_neg c6] at H
       exact absurd H (by simp)
     ·rw [if_neg c5] at H
      exact absurd H (by simp)
    ·rw [if_neg c4] at H
     have c4b0 := decide_eq_false c4
     clear c4
     obtain rfl := Option.some.inj H
     go_wp2
     repeat (go_quiet (fail); try go_wp2)
     go_ret
     exact ⟨by first | rfl | (simp; done) | (simp [*]; done) | (simp [X.bne_nil, X.beq_nil]; done) | (simp [*, X.bne_nil, X.beq_nil]; done) | (simp [X.bne_nil, X.beq_nil]; done), by repeat (first | exact Drawn0.refl _ | apply Drawn0.step)⟩
 ·rw [if_neg c3] at H
  have c3b0 := beq_eq_false_iff_ne.mpr c3
  have c3b1 := bne_iff_ne.mpr c3
  have c3b2 : (l0.length == l1.length) = false := by first | simpa using c3 | (simp at c3 ⊢; omega)
  obtain rfl := Option.some.inj H
  go_enter Tryd.func22, Tryd.ntmps22
  go_wp2
  repeat (go_quiet (fail); try go_wp2)
  go_ret
  exact ⟨by first | rfl | (simp; done) | (simp [*]; done) | (simp [X.bne_nil, X.beq_nil]; done) | (simp [*, X.bne_nil, X.beq_nil]; done) | (simp [X.bne_nil, X.beq_nil]; done), by repeat (first | exact Drawn0.refl _ | apply Drawn0.step)⟩

end Go.Proofs.YtdigilidomimdaaDoor.Pr
