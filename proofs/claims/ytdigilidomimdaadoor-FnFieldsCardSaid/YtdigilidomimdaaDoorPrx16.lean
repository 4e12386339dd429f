-- Written for this claim by a program of this session (wip/tool/pr.py, over the kit's printer).
-- half
import Derived.Test.YtdigilidomimdaaDoorPrx0
import Derived.Test.YtdigilidomimdaaDoorPrx1
import Derived.Test.YtdigilidomimdaaDoorPrx2
import Derived.Test.YtdigilidomimdaaDoorPrx7
import Derived.Test.YtdigilidomimdaaDoorPrx8
import Derived.Test.YtdigilidomimdaaDoorPrx9
import Derived.Test.YtdigilidomimdaaDoorPrx10
import Derived.Test.YtdigilidomimdaaDoorPrx11
import Derived.Test.YtdigilidomimdaaDoorPrx12
import Derived.Test.YtdigilidomimdaaDoorPrx13
import Derived.Test.YtdigilidomimdaaDoorPrx14
import Derived.Test.YtdigilidomimdaaDoorPrx15
namespace Go.Proofs.YtdigilidomimdaaDoor.Pr
open Go.RowKit Go.Proofs.YtdigilidomimdaaDoorW.PrintWords Go.Proofs.YtdigilidomimdaaDoorW.PrintLast Go.Proofs.YtdigilidomimdaaDoorW.PrintMore
attribute [local go_sem] max2_int min2_int max_two min_two max_three min_three max_four min_four   -- for this text's walks alone
set_option linter.unusedVariables false
set_option linter.unusedSimpArgs false

attribute [local go_sem high] eqA25
/-! ### impl_GetRecord: function 16 -/
mutual
def impl_GetRecord.j0 : Nat → List Int → ByteArray → Int → Option (ByteArray × Int × Int × Int × ByteArray × ByteArray × Int × Int)
 | 0, _, _, _ => none
 | k + 1, x0, x7, x8 => if (wrap64 ((x0.length : Int) - x8)) < 10 then (some ((⟨#[]⟩ : ByteArray), 0, 0, 0, (⟨#[]⟩ : ByteArray), (⟨#[]⟩ : ByteArray), 0, 1)) else (impl_GetRecord.j1 k x0 x7 x8)
def impl_GetRecord.j1 : Nat → List Int → ByteArray → Int → Option (ByteArray × Int × Int × Int × ByteArray × ByteArray × Int × Int)
 | 0, _, _, _ => none
 | k + 1, x0, x7, x8 => (impl_Get2.f k x0 x8).bind fun bt770 => ((impl_Get2.f k x0 (wrap64 (x8 + 2))).bind fun bt772 => ((impl_Get4.f k x0 (wrap64 (x8 + 4))).bind fun bt774 => ((impl_Get2.f k x0 (wrap64 (x8 + 8))).bind fun bt776 => ((impl_GetData.f k x0 (wrap64 (x8 + 10)) bt776.1 bt770.1).bind fun bt778 => (if bt778.2.2.2.2.2.2 = 0 then (impl_GetRecord.j2 k x7 x8 bt772.1 bt774.1 bt774.2 bt776.1 bt778.1 bt778.2.1 bt778.2.2.1 bt778.2.2.2.1 bt778.2.2.2.2.1 bt778.2.2.2.2.2.1) else (some ((⟨#[]⟩ : ByteArray), 0, 0, 0, (⟨#[]⟩ : ByteArray), (⟨#[]⟩ : ByteArray), 0, bt778.2.2.2.2.2.2)))))))
def impl_GetRecord.j2 : Nat → ByteArray → Int → Int → Int → Bool → Int → ByteArray → Int → Int → Int → ByteArray → ByteArray → Option (ByteArray × Int × Int × Int × ByteArray × ByteArray × Int × Int)
 | 0, _, _, _, _, _, _, _, _, _, _, _, _ => none
 | k + 1, x7, x8, x12, x14, x15, x16, x786000, x786001, x786002, x786003, x786004, x786005 => if x12 = 1 then (if x15 = true then ((impl_RecordOk.f k x7 x786001 x14 x786003 x786004 x786005).bind fun t786 => (impl_GetRecord.j3 k x8 x16 (!t786) x7 x786001 x14 x786003 x786004 x786005)) else (impl_GetRecord.j3 k x8 x16 true x7 x786001 x14 x786003 x786004 x786005)) else (impl_GetRecord.j3 k x8 x16 true x7 x786001 x14 x786003 x786004 x786005)
def impl_GetRecord.j3 : Nat → Int → Int → Bool → ByteArray → Int → Int → Int → ByteArray → ByteArray → Option (ByteArray × Int × Int × Int × ByteArray × ByteArray × Int × Int)
 | 0, _, _, _, _, _, _, _, _, _ => none
 | k + 1, x8, x16, x90, x786000, x786001, x786002, x786003, x786004, x786005 => if x90 = true then (some ((⟨#[]⟩ : ByteArray), 0, 0, 0, (⟨#[]⟩ : ByteArray), (⟨#[]⟩ : ByteArray), 0, 2)) else (some (x786000, x786001, x786002, x786003, x786004, x786005, wrap64 ((wrap64 (x8 + 10)) + x16), 0))
end
def impl_GetRecord.f (k : Nat) (l0 : List Int) (a1 : Int) : Option (ByteArray × Int × Int × Int × ByteArray × ByteArray × Int × Int) := (impl_GetName.f k l0 a1).bind fun bt767 => (if bt767.2.2 = 0 then (impl_GetRecord.j0 k l0 bt767.1 bt767.2.1) else (some ((⟨#[]⟩ : ByteArray), 0, 0, 0, (⟨#[]⟩ : ByteArray), (⟨#[]⟩ : ByteArray), 0, bt767.2.2)))
theorem impl_GetRecord.mono_l : ∀ k, (∀ y0 y1 y2, LeO (impl_GetRecord.j0 k y0 y1 y2) (impl_GetRecord.j0 (k + 1) y0 y1 y2)) ∧ (∀ y0 y1 y2, LeO (impl_GetRecord.j1 k y0 y1 y2) (impl_GetRecord.j1 (k + 1) y0 y1 y2)) ∧ (∀ y0 y1 y2 y3 y4 y5 y6 y7 y8 y9 y10 y11, LeO (impl_GetRecord.j2 k y0 y1 y2 y3 y4 y5 y6 y7 y8 y9 y10 y11) (impl_GetRecord.j2 (k + 1) y0 y1 y2 y3 y4 y5 y6 y7 y8 y9 y10 y11)) ∧ (∀ y0 y1 y2 y3 y4 y5 y6 y7 y8, LeO (impl_GetRecord.j3 k y0 y1 y2 y3 y4 y5 y6 y7 y8) (impl_GetRecord.j3 (k + 1) y0 y1 y2 y3 y4 y5 y6 y7 y8))
 | 0 => ⟨fun _ _ _ r h => by simp [impl_GetRecord.j0] at h, fun _ _ _ r h => by simp [impl_GetRecord.j1] at h, fun _ _ _ _ _ _ _ _ _ _ _ _ r h => by simp [impl_GetRecord.j2] at h, fun _ _ _ _ _ _ _ _ _ r h => by simp [impl_GetRecord.j3] at h⟩
 | k + 1 => by
  obtain ⟨ih0, ih1, ih2, ih3⟩ := impl_GetRecord.mono_l k
  refine ⟨?_, ?_, ?_, ?_⟩
  ·intro y0 y1 y2
   unfold impl_GetRecord.j0
   repeat' first
   | (with_reducible first | exact ih0 _ _ _ | exact ih1 _ _ _ | exact ih2 _ _ _ _ _ _ _ _ _ _ _ _ | exact ih3 _ _ _ _ _ _ _ _ _ | exact impl_Get2.mono _ _ _ | exact impl_Get4.mono _ _ _ | exact impl_GetData.mono _ _ _ _ _ | exact impl_GetName.mono _ _ _ | exact impl_RecordOk.mono _ _ _ _ _ _ _ | exact LeO.refl _ | exact LeO.none _ | refine LeO.ite ?_ ?_ | refine LeO.bind ?_ (fun _ => ?_))
   | exact ih0 _ _ _
   | exact ih1 _ _ _
   | exact ih2 _ _ _ _ _ _ _ _ _ _ _ _
   | exact ih3 _ _ _ _ _ _ _ _ _
   | exact impl_Get2.mono _ _ _
   | exact impl_Get4.mono _ _ _
   | exact impl_GetData.mono _ _ _ _ _
   | exact impl_GetName.mono _ _ _
   | exact impl_RecordOk.mono _ _ _ _ _ _ _
   | exact LeO.none _
   | refine LeO.ite ?_ ?_
   | refine LeO.bind ?_ (fun _ => ?_)
  ·intro y0 y1 y2
   unfold impl_GetRecord.j1
   repeat' first
   | (with_reducible first | exact ih0 _ _ _ | exact ih1 _ _ _ | exact ih2 _ _ _ _ _ _ _ _ _ _ _ _ | exact ih3 _ _ _ _ _ _ _ _ _ | exact impl_Get2.mono _ _ _ | exact impl_Get4.mono _ _ _ | exact impl_GetData.mono _ _ _ _ _ | exact impl_GetName.mono _ _ _ | exact impl_RecordOk.mono _ _ _ _ _ _ _ | exact LeO.refl _ | exact LeO.none _ | refine LeO.ite ?_ ?_ | refine LeO.bind ?_ (fun _ => ?_))
   | exact ih0 _ _ _
   | exact ih1 _ _ _
   | exact ih2 _ _ _ _ _ _ _ _ _ _ _ _
   | exact ih3 _ _ _ _ _ _ _ _ _
   | exact impl_Get2.mono _ _ _
   | exact impl_Get4.mono _ _ _
   | exact impl_GetData.mono _ _ _ _ _
   | exact impl_GetName.mono _ _ _
   | exact impl_RecordOk.mono _ _ _ _ _ _ _
   | exact LeO.none _
   | refine LeO.ite ?_ ?_
   | refine LeO.bind ?_ (fun _ => ?_)
  ·intro y0 y1 y2 y3 y4 y5 y6 y7 y8 y9 y10 y11
   unfold impl_GetRecord.j2
   repeat' first
   | (with_reducible first | exact ih0 _ _ _ | exact ih1 _ _ _ | exact ih2 _ _ _ _ _ _ _ _ _ _ _ _ | exact ih3 _ _ _ _ _ _ _ _ _ | exact impl_Get2.mono _ _ _ | exact impl_Get4.mono _ _ _ | exact impl_GetData.mono _ _ _ _ _ | exact impl_GetName.mono _ _ _ | exact impl_RecordOk.mono _ _ _ _ _ _ _ | exact LeO.refl _ | exact LeO.none _ | refine LeO.ite ?_ ?_ | refine LeO.bind ?_ (fun _ => ?_))
   | exact ih0 _ _ _
   | exact ih1 _ _ _
   | exact ih2 _ _ _ _ _ _ _ _ _ _ _ _
   | exact ih3 _ _ _ _ _ _ _ _ _
   | exact impl_Get2.mono _ _ _
   | exact impl_Get4.mono _ _ _
   | exact impl_GetData.mono _ _ _ _ _
   | exact impl_GetName.mono _ _ _
   | exact impl_RecordOk.mono _ _ _ _ _ _ _
   | exact LeO.none _
   | refine LeO.ite ?_ ?_
   | refine LeO.bind ?_ (fun _ => ?_)
  ·intro y0 y1 y2 y3 y4 y5 y6 y7 y8
   unfold impl_GetRecord.j3
   repeat' first
   | (with_reducible first | exact ih0 _ _ _ | exact ih1 _ _ _ | exact ih2 _ _ _ _ _ _ _ _ _ _ _ _ | exact ih3 _ _ _ _ _ _ _ _ _ | exact impl_Get2.mono _ _ _ | exact impl_Get4.mono _ _ _ | exact impl_GetData.mono _ _ _ _ _ | exact impl_GetName.mono _ _ _ | exact impl_RecordOk.mono _ _ _ _ _ _ _ | exact LeO.refl _ | exact LeO.none _ | refine LeO.ite ?_ ?_ | refine LeO.bind ?_ (fun _ => ?_))
   | exact ih0 _ _ _
   | exact ih1 _ _ _
   | exact ih2 _ _ _ _ _ _ _ _ _ _ _ _
   | exact ih3 _ _ _ _ _ _ _ _ _
   | exact impl_Get2.mono _ _ _
   | exact impl_Get4.mono _ _ _
   | exact impl_GetData.mono _ _ _ _ _
   | exact impl_GetName.mono _ _ _
   | exact impl_RecordOk.mono _ _ _ _ _ _ _
   | exact LeO.none _
   | refine LeO.ite ?_ ?_
   | refine LeO.bind ?_ (fun _ => ?_)
theorem impl_GetRecord.mono : ∀ a0 a1 k, LeO (impl_GetRecord.f k a0 a1) (impl_GetRecord.f (k + 1) a0 a1) := by
 intro a0 a1 k
 obtain ⟨ih0, ih1, ih2, ih3⟩ := impl_GetRecord.mono_l k
 unfold impl_GetRecord.f
 repeat' first
   | (with_reducible first | exact ih0 _ _ _ | exact ih1 _ _ _ | exact ih2 _ _ _ _ _ _ _ _ _ _ _ _ | exact ih3 _ _ _ _ _ _ _ _ _ | exact impl_Get2.mono _ _ _ | exact impl_Get4.mono _ _ _ | exact impl_GetData.mono _ _ _ _ _ | exact impl_GetName.mono _ _ _ | exact impl_RecordOk.mono _ _ _ _ _ _ _ | exact LeO.refl _ | exact LeO.none _ | refine LeO.ite ?_ ?_ | refine LeO.bind ?_ (fun _ => ?_))
   | exact ih0 _ _ _
   | exact ih1 _ _ _
   | exact ih2 _ _ _ _ _ _ _ _ _ _ _ _
   | exact ih3 _ _ _ _ _ _ _ _ _
   | exact impl_Get2.mono _ _ _
   | exact impl_Get4.mono _ _ _
   | exact impl_GetData.mono _ _ _ _ _
   | exact impl_GetName.mono _ _ _
   | exact impl_RecordOk.mono _ _ _ _ _ _ _
   | exact LeO.none _
   | refine LeO.ite ?_ ?_
   | refine LeO.bind ?_ (fun _ => ?_)
set_option maxHeartbeats 8000000 in
set_option maxRecDepth 100000 in
theorem impl_GetRecord.calls (k : Nat) (A0 : Option Addr) (c0 : Nat) (l0 : List Int) (a1 : Int) (r1 : ByteArray) (r2 : Int) (r3 : Int) (r4 : Int) (r5 : ByteArray) (r6 : ByteArray) (r7 : Int) (r8 : Int) (w : World) (hr0 : Kd.C (Kd.int .u8) w A0 l0.length l0) (hc0 : l0.length ≤ c0) (h : impl_GetRecord.f k l0 a1 = some (r1, r2, r3, r4, r5, r6, r7, r8)) :
  Calls Tryd.prog 16 #[.slice A0 l0.length c0, .int .i64 a1] w fun e w' => e = .returned (.tuple #[.agg #[.string r1, .int .i64 r2, .int .i64 r3, .int .i64 r4, .string r5, .string r6], .int .i64 r7, .int .i64 r8]) ∧ Below w.heap.size w w' := by
 have hu25 := Tryd.underlying25
 have HR0 := aS hr0
 have HC0 := aS hc0
 clear hr0 hc0
 have HB := aS (Below.refl w.heap.size w)
 have H : ((impl_GetName.f k l0 a1).bind fun bt767 => (if bt767.2.2 = 0 then (impl_GetRecord.j0 k l0 bt767.1 bt767.2.1) else (some ((⟨#[]⟩ : ByteArray), 0, 0, 0, (⟨#[]⟩ : ByteArray), (⟨#[]⟩ : ByteArray), 0, bt767.2.2)))) = some (r1, r2, r3, r4, r5, r6, r7, r8) := h
 clear h
 replace H := Option.bind_eq_some_iff.mp H
 obtain ⟨⟨t767, t768, t769⟩, A3, H⟩ := H
 try dsimp only at H
 replace A3 := aS A3
 have HC4 := aS H
 clear H
 go_enter Tryd.func16, Tryd.ntmps16
 go_upto_if 27 with (first | ((with_reducible refine gate_dst (N := 4) rfl ?_); refine box_event ?hg (N := 4) ?hd (cs := #[.string (⟨#[]⟩ : ByteArray), .int .i64 0, .int .i64 0, .int .i64 0, .string (⟨#[]⟩ : ByteArray), .string (⟨#[]⟩ : ByteArray)]) (t := 25) ?hr ?_; (case hd => rfl); (case hg => rfl); (case hr => first | (go_simp; done) | (go_simp; rfl)); intro gb766 hg w5 hbox hb; have n0_ := aS (below_step (wU HB.out) hb); have n1_ := aS (hbox); have n2_ := aS ((by rw [hg]; exact (below_size (wU HB.out)) : w.heap.size ≤ gb766)); have n3_ := aS ((by rw [hg]; exact (below_size (wU HB.out)) : w.heap.size ≤ gb766)); clear HB; revert n0_ n1_ n2_ n3_; intro HB BK766 GW766 GE766; clear hb hbox hg) | ((with_reducible refine gate_callee (f := 71) rfl ?_); refine goesL_ (some 22) rfl rfl Tryd.func71 jK rfl #[.slice A0 l0.length c0, .int .i64 a1] rfl jA ?_; (with_reducible refine (impl_GetName.calls k _ _ l0 a1 t767 t768 t769 _ ?side1 ?side2 A3.out).mono ?_); (case side1 => exact cU ((Kd.C_below HR0.out HB.out))); (case side2 => exact HC0.out); rintro e w6 ⟨rfl, hb⟩; refine ⟨_, rfl, ?_⟩; have n0_ := aS (blk_below (bU BK766.out) hb); have n1_ := aS (below_step (wS1 HB.out GE766.out) hb); clear BK766 HB; revert n0_ n1_; intro BK766 HB; clear hb))
 (try simp only [Act.put, List.setIfInBounds_toArray, List.set_cons_zero, List.set_cons_succ])
 go_cut [] (fun wc => ∃ (kq : Nat) (x767000_3 : ByteArray) (x767001_3 : Int) (x767002_3 : Int) (x767003_3 : Int) (x767004_3 : ByteArray) (x767005_3 : ByteArray), Aside0 (impl_GetRecord.j0 kq l0 t767 t768 = some (r1, r2, r3, r4, r5, r6, r7, r8)) ∧ Aside0 (kq ≤ k) ∧ Aside0 (wc.heap[gb766]? = some (.cells #[.string x767000_3, .int .i64 x767001_3, .int .i64 x767002_3, .int .i64 x767003_3, .string x767004_3, .string x767005_3] 25 (0, 0))) ∧ Aside0 (Below w.heap.size w wc))
 case first =>
  have H := HC4.out
  clear HC4
  by_cases c7 : t769 = 0
  ·rw [if_pos c7] at H
   have c7b0 : (t769 == 0) = true := beq_iff_eq.mpr c7
   have c7b1 : (t769 != 0) = false := bne_eq_false_iff_eq.mpr c7
   clear c7
   (first | rw [c7b0] | (simp only [i64_w, i32_w]; rw [c7b0]) | skip)
   have H' := aS H
   clear H
   go_wp2
   go_meet
   case rel => exact ⟨_, ((⟨#[]⟩ : ByteArray)), (0), (0), (0), ((⟨#[]⟩ : ByteArray)), ((⟨#[]⟩ : ByteArray)), H', ⟨by first | omega | exact Nat.le_refl _⟩, ⟨by (with_reducible repeat (first | refine blk_drewN ?_ _ | refine blk_drew ?_ | refine blk_alloc ?_ _)); exact BK766.out⟩, ⟨by exact wS1 HB.out GE766.out⟩⟩
  ·rw [if_neg c7] at H
   have c7b0 : (t769 == 0) = false := beq_eq_false_iff_ne.mpr c7
   have c7b1 : (t769 != 0) = true := bne_iff_ne.mpr c7
   (first | rw [c7b0] | (simp only [i64_w, i32_w]; rw [c7b0]) | skip)
   simp only [Option.some.injEq, Prod.mk.injEq] at H
   obtain ⟨rfl, rfl, rfl, rfl, rfl, rfl, rfl, rfl⟩ := H
   have hcz8 := cells6f BK766.out
   go_wp2
   refine bodyPost_ret (results_ctt rfl _ _ gb766 25 #[.string (⟨#[]⟩ : ByteArray), .int .i64 0, .int .i64 0, .int .i64 0, .string (⟨#[]⟩ : ByteArray), .string (⟨#[]⟩ : ByteArray)] (0, 0) _ rfl (by (with_reducible repeat (first | refine blk_drewN ?_ _ | refine blk_drew ?_ | refine blk_alloc ?_ _)); refine blk_put_6 (.string (⟨#[]⟩ : ByteArray)) (.int .i64 0) (.int .i64 0) (.int .i64 0) (.string (⟨#[]⟩ : ByteArray)) (.string (⟨#[]⟩ : ByteArray)) ?_; (with_reducible repeat (first | refine blk_drewN ?_ _ | refine blk_drew ?_ | refine blk_alloc ?_ _)); exact BK766.out) Tryd.underlying25 rfl jK) rfl ?_
   exact ⟨jE, by exact wS1 HB.out GE766.out⟩
 case rest =>
  clear HC4
  try clear c1
  try clear p2
  try clear c7
  try clear c7b0
  try clear c7b1
  try clear hcz8
  obtain ⟨kq, x767000_3, x767001_3, x767002_3, x767003_3, x767004_3, x767005_3, HA, HJ3, BK766, HB⟩ := hcut
  cases kq with
  | zero => exact absurd HA.out (by simp [impl_GetRecord.j0])
  | succ kj3 =>
   have H := HA.out
   clear HA
   simp only [impl_GetRecord.j0] at H
   have HC9 := aS H
   clear H
   go_upto_if 34 with (fail)
   go_cut [] (fun wc => ∃ (kq : Nat) (x767000_8 : ByteArray) (x767001_8 : Int) (x767002_8 : Int) (x767003_8 : Int) (x767004_8 : ByteArray) (x767005_8 : ByteArray), Aside0 (impl_GetRecord.j1 kq l0 t767 t768 = some (r1, r2, r3, r4, r5, r6, r7, r8)) ∧ Aside0 (kq ≤ kj3) ∧ Aside0 (wc.heap[gb766]? = some (.cells #[.string x767000_8, .int .i64 x767001_8, .int .i64 x767002_8, .int .i64 x767003_8, .string x767004_8, .string x767005_8] 25 (0, 0))) ∧ Aside0 (Below w.heap.size w wc))
   case first =>
    have H := HC9.out
    clear HC9
    by_cases c10 : (wrap64 ((l0.length : Int) - t768)) < 10
    ·rw [if_pos c10] at H
     have c10b0 : decide ((wrap64 ((l0.length : Int) - t768)) < 10) = true := decide_eq_true c10
     clear c10
     (first | rw [c10b0] | (simp only [i64_w, i32_w]; rw [c10b0]) | skip)
     simp only [Option.some.injEq, Prod.mk.injEq] at H
     obtain ⟨rfl, rfl, rfl, rfl, rfl, rfl, rfl, rfl⟩ := H
     have hcz11 := cells6f BK766.out
     go_wp2
     refine bodyPost_ret (results_ctt rfl _ _ gb766 25 #[.string (⟨#[]⟩ : ByteArray), .int .i64 0, .int .i64 0, .int .i64 0, .string (⟨#[]⟩ : ByteArray), .string (⟨#[]⟩ : ByteArray)] (0, 0) _ rfl (by (with_reducible repeat (first | refine blk_drewN ?_ _ | refine blk_drew ?_ | refine blk_alloc ?_ _)); refine blk_put_6 (.string x767000_3) (.int .i64 x767001_3) (.int .i64 x767002_3) (.int .i64 x767003_3) (.string x767004_3) (.string x767005_3) ?_; (with_reducible repeat (first | refine blk_drewN ?_ _ | refine blk_drew ?_ | refine blk_alloc ?_ _)); exact BK766.out) Tryd.underlying25 rfl jK) rfl ?_
     exact ⟨jE, by exact wS1 HB.out GE766.out⟩
    ·rw [if_neg c10] at H
     have c10b0 : decide ((wrap64 ((l0.length : Int) - t768)) < 10) = false := decide_eq_false c10
     clear c10
     (first | rw [c10b0] | (simp only [i64_w, i32_w]; rw [c10b0]) | skip)
     have H' := aS H
     clear H
     go_wp2
     go_meet
     case rel => exact ⟨_, (x767000_3), (x767001_3), (x767002_3), (x767003_3), (x767004_3), (x767005_3), H', ⟨by have := HJ3.out; first | omega | exact Nat.le_refl _⟩, ⟨by (with_reducible repeat (first | refine blk_drewN ?_ _ | refine blk_drew ?_ | refine blk_alloc ?_ _)); exact BK766.out⟩, ⟨by exact wS1 HB.out GE766.out⟩⟩
   case rest =>
    clear HC9
    try clear c1
    try clear p2
    try clear p6
    try clear c7
    try clear c7b0
    try clear c7b1
    try clear c10
    try clear c10b0
    try clear hcz11
    try clear hcz8
    try clear p2
    obtain ⟨kq, x767000_8, x767001_8, x767002_8, x767003_8, x767004_8, x767005_8, HA, HJ8, BK766, HB⟩ := hcut
    cases kq with
    | zero => exact absurd HA.out (by simp [impl_GetRecord.j1])
    | succ kj8 =>
     have H := HA.out
     clear HA
     simp only [impl_GetRecord.j1] at H
     replace H := Option.bind_eq_some_iff.mp H
     obtain ⟨⟨t770, t771⟩, A12, H⟩ := H
     try dsimp only at H
     replace A12 := aS A12
     replace H := Option.bind_eq_some_iff.mp H
     obtain ⟨⟨t772, t773⟩, A13, H⟩ := H
     try dsimp only at H
     replace A13 := aS A13
     replace H := Option.bind_eq_some_iff.mp H
     obtain ⟨⟨t774, t775⟩, A14, H⟩ := H
     try dsimp only at H
     replace A14 := aS A14
     replace H := Option.bind_eq_some_iff.mp H
     obtain ⟨⟨t776, t777⟩, A15, H⟩ := H
     try dsimp only at H
     replace A15 := aS A15
     replace H := Option.bind_eq_some_iff.mp H
     obtain ⟨⟨t778, t779, t780, t781, t782, t783, t784⟩, A16, H⟩ := H
     try dsimp only at H
     replace A16 := aS A16
     have HC17 := aS H
     clear H
     go_upto_if 73 with (first | ((with_reducible refine gate_callee (f := 72) rfl ?_); refine goesL_ (some 39) rfl rfl Tryd.func72 jK rfl #[.slice A0 l0.length c0, .int .i64 t768] rfl jA ?_; (with_reducible refine (impl_Get2.calls kj8 _ _ l0 t768 t770 t771 _ ?side1 ?side2 A12.out).mono ?_); (case side1 => exact cU ((Kd.C_below HR0.out HB.out))); (case side2 => exact HC0.out); rintro e w' ⟨rfl, ⟨nd, rfl⟩⟩; refine ⟨_, rfl, ?_⟩; (try (rw [drewN_self wc]; generalize hq_ : World.drewN wc _ = wc; have n0_ : Aside0 (wc.heap[gb766]? = some (.cells #[.string x767000_8, .int .i64 x767001_8, .int .i64 x767002_8, .int .i64 x767003_8, .string x767004_8, .string x767005_8] 25 (0, 0))) := ⟨by rw [← hq_]; exact (bU BK766.out)⟩; have n1_ : Aside0 (Below w.heap.size w wc) := ⟨by rw [← hq_]; exact (wS1 HB.out GE766.out)⟩; clear BK766 HB hq_; revert n0_ n1_; intro BK766 HB))) | ((with_reducible refine gate_callee (f := 72) rfl ?_); refine goesL_ (some 46) rfl rfl Tryd.func72 jK rfl #[.slice A0 l0.length c0, .int .i64 (wrap64 (t768 + 2))] rfl jA ?_; (with_reducible refine (impl_Get2.calls kj8 _ _ l0 (wrap64 (t768 + 2)) t772 t773 _ ?side1 ?side2 A13.out).mono ?_); (case side1 => exact cU ((Kd.C_below HR0.out HB.out))); (case side2 => exact HC0.out); rintro e w' ⟨rfl, ⟨nd, rfl⟩⟩; refine ⟨_, rfl, ?_⟩; (try (rw [drewN_self wc]; generalize hq_ : World.drewN wc _ = wc; have n0_ : Aside0 (wc.heap[gb766]? = some (.cells #[.string x767000_8, .int .i64 x767001_8, .int .i64 x767002_8, .int .i64 x767003_8, .string x767004_8, .string x767005_8] 25 (0, 0))) := ⟨by rw [← hq_]; exact (bU BK766.out)⟩; have n1_ : Aside0 (Below w.heap.size w wc) := ⟨by rw [← hq_]; exact (wS1 HB.out GE766.out)⟩; clear BK766 HB hq_; revert n0_ n1_; intro BK766 HB))) | ((with_reducible refine gate_callee (f := 73) rfl ?_); refine goesL_ (some 53) rfl rfl Tryd.func73 jK rfl #[.slice A0 l0.length c0, .int .i64 (wrap64 (t768 + 4))] rfl jA ?_; (with_reducible refine (impl_Get4.calls kj8 _ _ l0 (wrap64 (t768 + 4)) t774 t775 _ ?side1 ?side2 A14.out).mono ?_); (case side1 => exact cU ((Kd.C_below HR0.out HB.out))); (case side2 => exact HC0.out); rintro e w' ⟨rfl, ⟨nd, rfl⟩⟩; refine ⟨_, rfl, ?_⟩; (try (rw [drewN_self wc]; generalize hq_ : World.drewN wc _ = wc; have n0_ : Aside0 (wc.heap[gb766]? = some (.cells #[.string x767000_8, .int .i64 x767001_8, .int .i64 x767002_8, .int .i64 x767003_8, .string x767004_8, .string x767005_8] 25 (0, 0))) := ⟨by rw [← hq_]; exact (bU BK766.out)⟩; have n1_ : Aside0 (Below w.heap.size w wc) := ⟨by rw [← hq_]; exact (wS1 HB.out GE766.out)⟩; clear BK766 HB hq_; revert n0_ n1_; intro BK766 HB))) | ((with_reducible refine gate_callee (f := 72) rfl ?_); refine goesL_ (some 60) rfl rfl Tryd.func72 jK rfl #[.slice A0 l0.length c0, .int .i64 (wrap64 (t768 + 8))] rfl jA ?_; (with_reducible refine (impl_Get2.calls kj8 _ _ l0 (wrap64 (t768 + 8)) t776 t777 _ ?side1 ?side2 A15.out).mono ?_); (case side1 => exact cU ((Kd.C_below HR0.out HB.out))); (case side2 => exact HC0.out); rintro e w' ⟨rfl, ⟨nd, rfl⟩⟩; refine ⟨_, rfl, ?_⟩; (try (rw [drewN_self wc]; generalize hq_ : World.drewN wc _ = wc; have n0_ : Aside0 (wc.heap[gb766]? = some (.cells #[.string x767000_8, .int .i64 x767001_8, .int .i64 x767002_8, .int .i64 x767003_8, .string x767004_8, .string x767005_8] 25 (0, 0))) := ⟨by rw [← hq_]; exact (bU BK766.out)⟩; have n1_ : Aside0 (Below w.heap.size w wc) := ⟨by rw [← hq_]; exact (wS1 HB.out GE766.out)⟩; clear BK766 HB hq_; revert n0_ n1_; intro BK766 HB))) | ((with_reducible refine gate_callee (f := 17) rfl ?_); refine goesL_ (some 69) rfl rfl Tryd.func17 jK rfl #[.slice A0 l0.length c0, .int .i64 (wrap64 (t768 + 10)), .int .i64 t776, .int .i64 t770] rfl jA ?_; (with_reducible refine (impl_GetData.calls kj8 _ _ l0 (wrap64 (t768 + 10)) t776 t770 t778 t779 t780 t781 t782 t783 t784 _ ?side1 ?side2 A16.out).mono ?_); (case side1 => exact cU ((Kd.C_below HR0.out HB.out))); (case side2 => exact HC0.out); rintro e w18 ⟨rfl, hb⟩; refine ⟨_, rfl, ?_⟩; have n0_ := aS (blk_below (bU BK766.out) hb); have n1_ := aS (below_step (wS1 HB.out GE766.out) hb); clear BK766 HB; revert n0_ n1_; intro BK766 HB; clear hb) | ((with_reducible refine gate_dst (N := 18) rfl ?_); refine box_event ?hg (N := 18) ?hd (cs := #[.string (⟨#[]⟩ : ByteArray), .int .i64 0, .int .i64 0, .int .i64 0, .string (⟨#[]⟩ : ByteArray), .string (⟨#[]⟩ : ByteArray)]) (t := 25) ?hr ?_; (case hd => rfl); (case hg => rfl); (case hr => first | (go_simp; done) | (go_simp; rfl)); intro gb785 hg w19 hbox hb; have n0_ := aS (blk_below (bU BK766.out) hb); have n1_ := aS (below_step (wS1 HB.out GE766.out) hb); have n2_ := aS (hbox); have n3_ := aS ((by rw [hg]; exact (below_size (wS1 HB.out GE766.out)) : w.heap.size ≤ gb785)); have n4_ := aS ((by rw [hg]; exact (below_size (wS1 HB.out GE766.out)) : w.heap.size ≤ gb785)); have n5_ := aS ((by rw [hg]; exact Nat.ne_of_lt (blk_lt (bU BK766.out)) : gb766 ≠ gb785)); have n6_ := aS ((by rw [hg]; exact Nat.ne_of_gt (blk_lt (bU BK766.out)) : gb785 ≠ gb766)); clear BK766 HB; revert n0_ n1_ n2_ n3_ n4_ n5_ n6_; intro BK766 HB BK785 GW785 GE785 NB766_785 NB785_766; clear hb hbox hg; have hnb20 := NB785_766.out; have hnc20 := NB766_785.out; have hcz21 := cells6f BK785.out))
     (try simp only [Act.put, List.setIfInBounds_toArray, List.set_cons_zero, List.set_cons_succ])
     go_cut [] (fun wc => ∃ (kq : Nat) (x767000_16 : ByteArray) (x767001_16 : Int) (x767002_16 : Int) (x767003_16 : Int) (x767004_16 : ByteArray) (x767005_16 : ByteArray), Aside0 (impl_GetRecord.j2 kq t767 t768 t772 t774 t775 t776 t778 t779 t780 t781 t782 t783 = some (r1, r2, r3, r4, r5, r6, r7, r8)) ∧ Aside0 (kq ≤ kj8) ∧ Aside0 (wc.heap[gb766]? = some (.cells #[.string x767000_16, .int .i64 x767001_16, .int .i64 x767002_16, .int .i64 x767003_16, .string x767004_16, .string x767005_16] 25 (0, 0))) ∧ Aside0 (wc.heap[gb785]? = some (.cells #[.string t778, .int .i64 t779, .int .i64 t780, .int .i64 t781, .string t782, .string t783] 25 (0, 0))) ∧ Aside0 (Below w.heap.size w wc))
     case first =>
      have H := HC17.out
      clear HC17
      by_cases c22 : t784 = 0
      ·rw [if_pos c22] at H
       have c22b0 : (t784 == 0) = true := beq_iff_eq.mpr c22
       have c22b1 : (t784 != 0) = false := bne_eq_false_iff_eq.mpr c22
       clear c22
       (first | rw [c22b0] | (simp only [i64_w, i32_w]; rw [c22b0]) | skip)
       have H' := aS H
       clear H
       go_wp2
       go_meet
       case rel => exact ⟨_, (x767000_8), (x767001_8), (x767002_8), (x767003_8), (x767004_8), (x767005_8), H', ⟨by have := HJ3.out; have := HJ8.out; first | omega | exact Nat.le_refl _⟩, ⟨by (iterate 6 ((with_reducible repeat (first | refine blk_drewN ?_ _ | refine blk_drew ?_ | refine blk_alloc ?_ _)); refine blk_far ?_ NB766_785.out _)); (with_reducible repeat (first | refine blk_drewN ?_ _ | refine blk_drew ?_ | refine blk_alloc ?_ _)); exact BK766.out⟩, ⟨by (with_reducible repeat (first | refine blk_drewN ?_ _ | refine blk_drew ?_ | refine blk_alloc ?_ _)); refine blk_put_6 (.string (⟨#[]⟩ : ByteArray)) (.int .i64 0) (.int .i64 0) (.int .i64 0) (.string (⟨#[]⟩ : ByteArray)) (.string (⟨#[]⟩ : ByteArray)) ?_; (with_reducible repeat (first | refine blk_drewN ?_ _ | refine blk_drew ?_ | refine blk_alloc ?_ _)); exact BK785.out⟩, ⟨by exact wS2 HB.out GE766.out GE785.out⟩⟩
      ·rw [if_neg c22] at H
       have c22b0 : (t784 == 0) = false := beq_eq_false_iff_ne.mpr c22
       have c22b1 : (t784 != 0) = true := bne_iff_ne.mpr c22
       (first | rw [c22b0] | (simp only [i64_w, i32_w]; rw [c22b0]) | skip)
       simp only [Option.some.injEq, Prod.mk.injEq] at H
       obtain ⟨rfl, rfl, rfl, rfl, rfl, rfl, rfl, rfl⟩ := H
       have hnb23 := NB766_785.out
       have hnc23 := NB785_766.out
       have hcz24 := cells6f BK766.out
       go_wp2
       refine bodyPost_ret (results_ctt rfl _ _ gb766 25 #[.string (⟨#[]⟩ : ByteArray), .int .i64 0, .int .i64 0, .int .i64 0, .string (⟨#[]⟩ : ByteArray), .string (⟨#[]⟩ : ByteArray)] (0, 0) _ rfl (by (with_reducible repeat (first | refine blk_drewN ?_ _ | refine blk_drew ?_ | refine blk_alloc ?_ _)); refine blk_put_6 (.string x767000_8) (.int .i64 x767001_8) (.int .i64 x767002_8) (.int .i64 x767003_8) (.string x767004_8) (.string x767005_8) ?_; (iterate 6 ((with_reducible repeat (first | refine blk_drewN ?_ _ | refine blk_drew ?_ | refine blk_alloc ?_ _)); refine blk_far ?_ NB766_785.out _)); (with_reducible repeat (first | refine blk_drewN ?_ _ | refine blk_drew ?_ | refine blk_alloc ?_ _)); exact BK766.out) Tryd.underlying25 rfl jK) rfl ?_
       exact ⟨jE, by exact wS2 HB.out GE766.out GE785.out⟩
     case rest =>
      clear HC17
      try clear c1
      try clear c2
      try clear p2
      try clear p6
      try clear c7
      try clear c7b0
      try clear c7b1
      try clear c10
      try clear c10b0
      try clear c16
      try clear c17
      try clear c20
      try clear c22
      try clear c22b0
      try clear c22b1
      try clear c23
      try clear hcz11
      try clear hcz21
      try clear hcz24
      try clear hcz8
      try clear p2
      try clear p6
      obtain ⟨kq, x767000_16, x767001_16, x767002_16, x767003_16, x767004_16, x767005_16, HA, HJ16, BK766, BK785, HB⟩ := hcut
      cases kq with
      | zero => exact absurd HA.out (by simp [impl_GetRecord.j2])
      | succ kj16 =>
       have H := HA.out
       clear HA
       simp only [impl_GetRecord.j2] at H
       have HC25 := aS H
       clear H
       have hnb26 := NB785_766.out
       have hnc26 := NB766_785.out
       have hcz27 := cells6f BK785.out
       go_upto_region 15 with (fail)
       go_cut [90] (fun v90 wc => ∃ (kq : Nat) (x90_24 : Bool), v90 = .bool x90_24 ∧ Aside0 (impl_GetRecord.j3 kq t768 t776 x90_24 t767 t779 t774 t781 t782 t783 = some (r1, r2, r3, r4, r5, r6, r7, r8)) ∧ Aside0 (kq ≤ kj16) ∧ Aside0 (wc.heap[gb766]? = some (.cells #[.string x767000_16, .int .i64 x767001_16, .int .i64 x767002_16, .int .i64 x767003_16, .string x767004_16, .string x767005_16] 25 (0, 0))) ∧ Aside0 (wc.heap[gb785]? = some (.cells #[.string t767, .int .i64 t779, .int .i64 t774, .int .i64 t781, .string t782, .string t783] 25 (0, 0))) ∧ Aside0 (Below w.heap.size w wc))
       case first =>
        have H := HC25.out
        clear HC25
        by_cases c28 : t772 = 1
        ·rw [if_pos c28] at H
         have c28b0 : (t772 == 1) = true := beq_iff_eq.mpr c28
         have c28b1 : (t772 != 1) = false := bne_eq_false_iff_eq.mpr c28
         clear c28
         (first | rw [c28b0] | (simp only [i64_w, i32_w]; rw [c28b0]) | skip)
         by_cases c29 : t775 = true
         ·subst c29
          have H1 : ((impl_RecordOk.f kj16 t767 t779 t774 t781 t782 t783).bind fun t786 => (impl_GetRecord.j3 kj16 t768 t776 (!t786) t767 t779 t774 t781 t782 t783)) = some (r1, r2, r3, r4, r5, r6, r7, r8) := by rw [if_pos rfl] at H; exact H
          clear H
          have H := H1
          clear H1
          replace H := Option.bind_eq_some_iff.mp H
          obtain ⟨t786, A30, H⟩ := H
          try dsimp only at H
          replace A30 := aS A30
          have H' := aS H
          clear H
          have hnb31 := NB785_766.out
          have hnc31 := NB766_785.out
          have hcz32 := cells6f BK785.out
          go_wp2_with (first | (go_at_call 15; (with_reducible refine (impl_RecordOk.calls kj16 t767 t779 t774 t781 t782 t783 t786 _ A30.out).mono ?_); rintro e w33 ⟨rfl, hb⟩; have n0_ := aS (blk_below (g := gb766) (o := .cells #[.string x767000_16, .int .i64 x767001_16, .int .i64 x767002_16, .int .i64 x767003_16, .string x767004_16, .string x767005_16] 25 (0, 0)) (by (with_reducible repeat (first | refine blk_drewN ?_ _ | refine blk_drew ?_ | refine blk_alloc ?_ _)); refine blk_far ?_ NB766_785.out _; (with_reducible repeat (first | refine blk_drewN ?_ _ | refine blk_drew ?_ | refine blk_alloc ?_ _)); refine blk_far ?_ NB766_785.out _; (with_reducible repeat (first | refine blk_drewN ?_ _ | refine blk_drew ?_ | refine blk_alloc ?_ _)); exact BK766.out) hb); have n1_ := aS (blk_below (g := gb785) (o := .cells #[.string t767, .int .i64 t779, .int .i64 t774, .int .i64 t781, .string t782, .string t783] 25 (0, 0)) (by (with_reducible repeat (first | refine blk_drewN ?_ _ | refine blk_drew ?_ | refine blk_alloc ?_ _)); refine blk_put (cs := #[.string t767, .int .i64 t779, .int .i64 t780, .int .i64 t781, .string t782, .string t783]) ?_ 2 _ rfl; (with_reducible repeat (first | refine blk_drewN ?_ _ | refine blk_drew ?_ | refine blk_alloc ?_ _)); refine blk_put (cs := #[.string t778, .int .i64 t779, .int .i64 t780, .int .i64 t781, .string t782, .string t783]) ?_ 0 _ rfl; (with_reducible repeat (first | refine blk_drewN ?_ _ | refine blk_drew ?_ | refine blk_alloc ?_ _)); exact BK785.out) hb); have n2_ := aS (below_step (wS2 HB.out GE766.out GE785.out) hb); clear BK766 BK785 HB; revert n0_ n1_ n2_; intro BK766 BK785 HB; clear hb) | ((with_reducible show Oper.upon _ { dst := _, op := .load 25 _, type := 25, pos := _, after := _, guard := _ } _ _ _ _); simp (maxDischargeDepth := 20) [go_sem, *]))
          go_meet
          case rel => exact ⟨_, (!t786), jB, H', ⟨by have := HJ3.out; have := HJ8.out; have := HJ16.out; first | omega | exact Nat.le_refl _⟩, ⟨by (with_reducible repeat (first | refine blk_drewN ?_ _ | refine blk_drew ?_ | refine blk_alloc ?_ _)); exact BK766.out⟩, ⟨by (with_reducible repeat (first | refine blk_drewN ?_ _ | refine blk_drew ?_ | refine blk_alloc ?_ _)); exact BK785.out⟩, ⟨by exact wS2 HB.out GE766.out GE785.out⟩⟩
         ·replace c29 := Bool.eq_false_iff.mpr c29
          subst c29
          have H1 : (impl_GetRecord.j3 kj16 t768 t776 true t767 t779 t774 t781 t782 t783) = some (r1, r2, r3, r4, r5, r6, r7, r8) := by rw [if_neg (show ¬ (false = true) by decide)] at H; exact H
          clear H
          have H := H1
          clear H1
          have H' := aS H
          clear H
          go_wp2
          go_meet
          case rel => exact ⟨_, (true), jB, H', ⟨by have := HJ3.out; have := HJ8.out; have := HJ16.out; first | omega | exact Nat.le_refl _⟩, ⟨by (with_reducible repeat (first | refine blk_drewN ?_ _ | refine blk_drew ?_ | refine blk_alloc ?_ _)); refine blk_far ?_ NB766_785.out _; (with_reducible repeat (first | refine blk_drewN ?_ _ | refine blk_drew ?_ | refine blk_alloc ?_ _)); refine blk_far ?_ NB766_785.out _; (with_reducible repeat (first | refine blk_drewN ?_ _ | refine blk_drew ?_ | refine blk_alloc ?_ _)); exact BK766.out⟩, ⟨by (with_reducible repeat (first | refine blk_drewN ?_ _ | refine blk_drew ?_ | refine blk_alloc ?_ _)); refine blk_put (cs := #[.string t767, .int .i64 t779, .int .i64 t780, .int .i64 t781, .string t782, .string t783]) ?_ 2 _ rfl; (with_reducible repeat (first | refine blk_drewN ?_ _ | refine blk_drew ?_ | refine blk_alloc ?_ _)); refine blk_put (cs := #[.string t778, .int .i64 t779, .int .i64 t780, .int .i64 t781, .string t782, .string t783]) ?_ 0 _ rfl; (with_reducible repeat (first | refine blk_drewN ?_ _ | refine blk_drew ?_ | refine blk_alloc ?_ _)); exact BK785.out⟩, ⟨by exact wS2 HB.out GE766.out GE785.out⟩⟩
        ·rw [if_neg c28] at H
         have c28b0 : (t772 == 1) = false := beq_eq_false_iff_ne.mpr c28
         have c28b1 : (t772 != 1) = true := bne_iff_ne.mpr c28
         (first | rw [c28b0] | (simp only [i64_w, i32_w]; rw [c28b0]) | skip)
         have H' := aS H
         clear H
         go_wp2
         go_meet
         case rel => exact ⟨_, (true), jB, H', ⟨by have := HJ3.out; have := HJ8.out; have := HJ16.out; first | omega | exact Nat.le_refl _⟩, ⟨by (with_reducible repeat (first | refine blk_drewN ?_ _ | refine blk_drew ?_ | refine blk_alloc ?_ _)); refine blk_far ?_ NB766_785.out _; (with_reducible repeat (first | refine blk_drewN ?_ _ | refine blk_drew ?_ | refine blk_alloc ?_ _)); refine blk_far ?_ NB766_785.out _; (with_reducible repeat (first | refine blk_drewN ?_ _ | refine blk_drew ?_ | refine blk_alloc ?_ _)); exact BK766.out⟩, ⟨by (with_reducible repeat (first | refine blk_drewN ?_ _ | refine blk_drew ?_ | refine blk_alloc ?_ _)); refine blk_put (cs := #[.string t767, .int .i64 t779, .int .i64 t780, .int .i64 t781, .string t782, .string t783]) ?_ 2 _ rfl; (with_reducible repeat (first | refine blk_drewN ?_ _ | refine blk_drew ?_ | refine blk_alloc ?_ _)); refine blk_put (cs := #[.string t778, .int .i64 t779, .int .i64 t780, .int .i64 t781, .string t782, .string t783]) ?_ 0 _ rfl; (with_reducible repeat (first | refine blk_drewN ?_ _ | refine blk_drew ?_ | refine blk_alloc ?_ _)); exact BK785.out⟩, ⟨by exact wS2 HB.out GE766.out GE785.out⟩⟩
       case rest =>
        clear HC25
        try clear c1
        try clear c2
        try clear p2
        try clear c3
        try clear p6
        try clear c7
        try clear c7b0
        try clear c7b1
        try clear c10
        try clear c10b0
        try clear c16
        try clear c17
        try clear c20
        try clear c22
        try clear c22b0
        try clear c22b1
        try clear c23
        try clear c26
        try clear c28
        try clear c28b0
        try clear c28b1
        try clear c29
        try clear c31
        try clear hcz11
        try clear hcz21
        try clear hcz24
        try clear hcz27
        try clear hcz32
        try clear hcz8
        try clear p2
        try clear p6
        obtain ⟨kq, x90_24, rfl, HA, HJ24, BK766, BK785, HB⟩ := hcut
        cases kq with
        | zero => exact absurd HA.out (by simp [impl_GetRecord.j3])
        | succ kj24 =>
         have H := HA.out
         clear HA
         simp only [impl_GetRecord.j3] at H
         by_cases c34 : x90_24 = true
         ·subst c34
          have H1 : (some ((⟨#[]⟩ : ByteArray), 0, 0, 0, (⟨#[]⟩ : ByteArray), (⟨#[]⟩ : ByteArray), 0, 2)) = some (r1, r2, r3, r4, r5, r6, r7, r8) := by rw [if_pos rfl] at H; exact H
          clear H
          have H := H1
          clear H1
          simp only [Option.some.injEq, Prod.mk.injEq] at H
          obtain ⟨rfl, rfl, rfl, rfl, rfl, rfl, rfl, rfl⟩ := H
          have hnb35 := NB766_785.out
          have hnc35 := NB785_766.out
          have hcz36 := cells6f BK766.out
          go_wp2
          refine bodyPost_ret (results_ctt rfl _ _ gb766 25 #[.string (⟨#[]⟩ : ByteArray), .int .i64 0, .int .i64 0, .int .i64 0, .string (⟨#[]⟩ : ByteArray), .string (⟨#[]⟩ : ByteArray)] (0, 0) _ rfl (by (with_reducible repeat (first | refine blk_drewN ?_ _ | refine blk_drew ?_ | refine blk_alloc ?_ _)); refine blk_put_6 (.string x767000_16) (.int .i64 x767001_16) (.int .i64 x767002_16) (.int .i64 x767003_16) (.string x767004_16) (.string x767005_16) ?_; (with_reducible repeat (first | refine blk_drewN ?_ _ | refine blk_drew ?_ | refine blk_alloc ?_ _)); exact BK766.out) Tryd.underlying25 rfl jK) rfl ?_
          exact ⟨jE, by exact wS2 HB.out GE766.out GE785.out⟩
         ·replace c34 := Bool.eq_false_iff.mpr c34
          subst c34
          have H1 : (some (t767, t779, t774, t781, t782, t783, wrap64 ((wrap64 (t768 + 10)) + t776), 0)) = some (r1, r2, r3, r4, r5, r6, r7, r8) := by rw [if_neg (show ¬ (false = true) by decide)] at H; exact H
          clear H
          have H := H1
          clear H1
          simp only [Option.some.injEq, Prod.mk.injEq] at H
          obtain ⟨rfl, rfl, rfl, rfl, rfl, rfl, rfl, rfl⟩ := H
          have hnb37 := NB785_766.out
          have hnc37 := NB766_785.out
          have hcz38 := cells6f BK785.out
          have hcz39 := cells6f BK766.out
          go_wp2
          refine bodyPost_ret (results_ctt rfl _ _ gb766 25 #[.string t767, .int .i64 t779, .int .i64 t774, .int .i64 t781, .string t782, .string t783] (0, 0) _ rfl (by (with_reducible repeat (first | refine blk_drewN ?_ _ | refine blk_drew ?_ | refine blk_alloc ?_ _)); refine blk_put_6 (.string x767000_16) (.int .i64 x767001_16) (.int .i64 x767002_16) (.int .i64 x767003_16) (.string x767004_16) (.string x767005_16) ?_; (with_reducible repeat (first | refine blk_drewN ?_ _ | refine blk_drew ?_ | refine blk_alloc ?_ _)); exact BK766.out) Tryd.underlying25 rfl jK) rfl ?_
          exact ⟨jE, by exact wS2 HB.out GE766.out GE785.out⟩

/-! ### laws_FnFields: function 3 -/
def laws_FnFields.f (k : Nat) (l0 : List Int) : Option (Bool) := (laws_big.f l0).bind fun t787 => (if t787 = true then (some true) else ((spec_DrawPutRecord.f k l0).bind fun bt788 => ((impl_PutRecord.f k bt788.1 bt788.2.1 bt788.2.2.1 bt788.2.2.2.1 bt788.2.2.2.2.1 bt788.2.2.2.2.2.1 bt788.2.2.2.2.2.2).bind fun t798 => ((impl_PutData.f k bt788.2.1 bt788.2.2.1 bt788.2.2.2.1 bt788.2.2.2.2.1 bt788.2.2.2.2.2.1 bt788.2.2.2.2.2.2).bind fun t801 => ((spec_PutRecord.f k bt788.1 bt788.2.1 bt788.2.2.1 bt788.2.2.2.1 bt788.2.2.2.2.1 bt788.2.2.2.2.2.1 bt788.2.2.2.2.2.2).bind fun t804 => ((laws_same.f k t798 t804).bind fun t807 => (if t807 = true then ((spec_PutData.f k bt788.2.1 bt788.2.2.1 bt788.2.2.2.1 bt788.2.2.2.2.1 bt788.2.2.2.2.2.1 bt788.2.2.2.2.2.2).bind fun t808 => ((laws_same.f k t801 t808).bind fun t811 => (if t811 = true then ((impl_RecordOk.f k bt788.2.1 bt788.2.2.1 bt788.2.2.2.1 bt788.2.2.2.2.1 bt788.2.2.2.2.2.1 bt788.2.2.2.2.2.2).bind fun t812 => (if t812 = true then ((impl_GetRecord.f k t798 (bt788.1.length : Int)).bind fun bt813 => ((impl_GetData.f k t801 0 (t801.length : Int) bt788.2.2.1).bind fun bt822 => (if bt813.2.2.2.2.2.2.2 = 0 then (if (bt813.1.toList == bt788.2.1.toList && (bt813.2.1 == bt788.2.2.1 && (bt813.2.2.1 == bt788.2.2.2.1 && (bt813.2.2.2.1 == bt788.2.2.2.2.1 && (bt813.2.2.2.2.1.toList == bt788.2.2.2.2.2.1.toList && (bt813.2.2.2.2.2.1.toList == bt788.2.2.2.2.2.2.toList)))))) = true then (if bt813.2.2.2.2.2.2.1 = (t798.length : Int) then (if bt822.2.2.2.2.2.2 = 0 then (some (bt822.2.1 == bt788.2.2.1 && (bt822.2.2.2.1 == bt788.2.2.2.2.1 && (bt822.2.2.2.2.1.toList == bt788.2.2.2.2.2.1.toList && (bt822.2.2.2.2.2.1.toList == bt788.2.2.2.2.2.2.toList))))) else (some false)) else (some false)) else (some false)) else (some false)))) else ((laws_same.f k t798 bt788.1).bind fun t830 => (if t830 = true then (some ((t801.length : Int) == 0)) else (some false))))) else (some false)))) else (some false))))))))
theorem laws_FnFields.mono : ∀ a0 k, LeO (laws_FnFields.f k a0) (laws_FnFields.f (k + 1) a0) := by
 intro a0 k
 unfold laws_FnFields.f
 repeat' first
   | (with_reducible first | exact impl_GetData.mono _ _ _ _ _ | exact impl_GetRecord.mono _ _ _ | exact impl_PutData.mono _ _ _ _ _ _ _ | exact impl_PutRecord.mono _ _ _ _ _ _ _ _ | exact impl_RecordOk.mono _ _ _ _ _ _ _ | exact laws_same.mono _ _ _ | exact spec_DrawPutRecord.mono _ _ | exact spec_PutData.mono _ _ _ _ _ _ _ | exact spec_PutRecord.mono _ _ _ _ _ _ _ _ | exact LeO.refl _ | exact LeO.none _ | refine LeO.ite ?_ ?_ | refine LeO.bind ?_ (fun _ => ?_))
   | exact impl_GetData.mono _ _ _ _ _
   | exact impl_GetRecord.mono _ _ _
   | exact impl_PutData.mono _ _ _ _ _ _ _
   | exact impl_PutRecord.mono _ _ _ _ _ _ _ _
   | exact impl_RecordOk.mono _ _ _ _ _ _ _
   | exact laws_same.mono _ _ _
   | exact spec_DrawPutRecord.mono _ _
   | exact spec_PutData.mono _ _ _ _ _ _ _
   | exact spec_PutRecord.mono _ _ _ _ _ _ _ _
   | exact LeO.none _
   | refine LeO.ite ?_ ?_
   | refine LeO.bind ?_ (fun _ => ?_)
set_option maxHeartbeats 8000000 in
set_option maxRecDepth 100000 in
theorem laws_FnFields.calls (k : Nat) (A0 : Option Addr) (c0 : Nat) (l0 : List Int) (r : Bool) (w : World) (hr0 : Kd.C (Kd.int .u8) w A0 l0.length l0) (hc0 : l0.length ≤ c0) (hrt_ : r = true) (h : laws_FnFields.f k l0 = some r) :
  Calls Tryd.prog 3 #[.slice A0 l0.length c0] w fun e w' => e = .returned (.bool r) ∧ Below w.heap.size w w' := by
 have hu25 := Tryd.underlying25
 have HR0 := aS hr0
 have HC0 := aS hc0
 clear hr0 hc0
 have HB := aS (Below.refl w.heap.size w)
 have H : ((laws_big.f l0).bind fun t787 => (if t787 = true then (some true) else ((spec_DrawPutRecord.f k l0).bind fun bt788 => ((impl_PutRecord.f k bt788.1 bt788.2.1 bt788.2.2.1 bt788.2.2.2.1 bt788.2.2.2.2.1 bt788.2.2.2.2.2.1 bt788.2.2.2.2.2.2).bind fun t798 => ((impl_PutData.f k bt788.2.1 bt788.2.2.1 bt788.2.2.2.1 bt788.2.2.2.2.1 bt788.2.2.2.2.2.1 bt788.2.2.2.2.2.2).bind fun t801 => ((spec_PutRecord.f k bt788.1 bt788.2.1 bt788.2.2.1 bt788.2.2.2.1 bt788.2.2.2.2.1 bt788.2.2.2.2.2.1 bt788.2.2.2.2.2.2).bind fun t804 => ((laws_same.f k t798 t804).bind fun t807 => (if t807 = true then ((spec_PutData.f k bt788.2.1 bt788.2.2.1 bt788.2.2.2.1 bt788.2.2.2.2.1 bt788.2.2.2.2.2.1 bt788.2.2.2.2.2.2).bind fun t808 => ((laws_same.f k t801 t808).bind fun t811 => (if t811 = true then ((impl_RecordOk.f k bt788.2.1 bt788.2.2.1 bt788.2.2.2.1 bt788.2.2.2.2.1 bt788.2.2.2.2.2.1 bt788.2.2.2.2.2.2).bind fun t812 => (if t812 = true then ((impl_GetRecord.f k t798 (bt788.1.length : Int)).bind fun bt813 => ((impl_GetData.f k t801 0 (t801.length : Int) bt788.2.2.1).bind fun bt822 => (if bt813.2.2.2.2.2.2.2 = 0 then (if (bt813.1.toList == bt788.2.1.toList && (bt813.2.1 == bt788.2.2.1 && (bt813.2.2.1 == bt788.2.2.2.1 && (bt813.2.2.2.1 == bt788.2.2.2.2.1 && (bt813.2.2.2.2.1.toList == bt788.2.2.2.2.2.1.toList && (bt813.2.2.2.2.2.1.toList == bt788.2.2.2.2.2.2.toList)))))) = true then (if bt813.2.2.2.2.2.2.1 = (t798.length : Int) then (if bt822.2.2.2.2.2.2 = 0 then (some (bt822.2.1 == bt788.2.2.1 && (bt822.2.2.2.1 == bt788.2.2.2.2.1 && (bt822.2.2.2.2.1.toList == bt788.2.2.2.2.2.1.toList && (bt822.2.2.2.2.2.1.toList == bt788.2.2.2.2.2.2.toList))))) else (some false)) else (some false)) else (some false)) else (some false)))) else ((laws_same.f k t798 bt788.1).bind fun t830 => (if t830 = true then (some ((t801.length : Int) == 0)) else (some false))))) else (some false)))) else (some false))))))))) = some r := h
 clear h
 replace H := Option.bind_eq_some_iff.mp H
 obtain ⟨t787, A2, H⟩ := H
 try dsimp only at H
 replace A2 := aS A2
 by_cases c3 : t787 = true
 ·subst c3
  have H1 : (some true) = some r := by rw [if_pos rfl] at H; exact H
  clear H
  have H := H1
  clear H1
  obtain rfl := Option.some.inj H
  go_enter Tryd.func3, Tryd.ntmps3
  go_wp2_with (first | ((with_reducible refine gate_callee (f := 8) rfl ?_); refine goesL_ (some 13) rfl rfl Tryd.func8 jK rfl #[.slice A0 l0.length c0] rfl jA ?_; (with_reducible refine (laws_big.calls _ _ l0 true _ ?side1 ?side2 A2.out).mono ?_); (case side1 => exact cU (HR0.out)); (case side2 => exact HC0.out); rintro e w' ⟨rfl, ⟨nd, rfl⟩⟩; refine ⟨_, rfl, ?_⟩) | ((with_reducible show Oper.upon _ { dst := _, op := .load 25 _, type := 25, pos := _, after := _, guard := _ } _ _ _ _); simp (maxDischargeDepth := 20) [go_sem, *]))
  go_ret
  exact ⟨by first | rfl | (simp [errW_none, errW_some] <;> rfl) | (simp [*, errW_none, errW_some] <;> rfl) | (exfalso; simp_all; done) | ((have ai_ : ∀ p : Prop, Aside0 p ↔ p := fun p => ⟨fun h => h.out, fun h => ⟨h⟩⟩); simp_all [ai_]; done), by repeat (first | (with_reducible first | exact HB.out | apply below_alloc | apply pw_below_drewN | apply below_drew1) | exact HB.out)⟩
 ·replace c3 := Bool.eq_false_iff.mpr c3
  subst c3
  have H1 : ((spec_DrawPutRecord.f k l0).bind fun bt788 => ((impl_PutRecord.f k bt788.1 bt788.2.1 bt788.2.2.1 bt788.2.2.2.1 bt788.2.2.2.2.1 bt788.2.2.2.2.2.1 bt788.2.2.2.2.2.2).bind fun t798 => ((impl_PutData.f k bt788.2.1 bt788.2.2.1 bt788.2.2.2.1 bt788.2.2.2.2.1 bt788.2.2.2.2.2.1 bt788.2.2.2.2.2.2).bind fun t801 => ((spec_PutRecord.f k bt788.1 bt788.2.1 bt788.2.2.1 bt788.2.2.2.1 bt788.2.2.2.2.1 bt788.2.2.2.2.2.1 bt788.2.2.2.2.2.2).bind fun t804 => ((laws_same.f k t798 t804).bind fun t807 => (if t807 = true then ((spec_PutData.f k bt788.2.1 bt788.2.2.1 bt788.2.2.2.1 bt788.2.2.2.2.1 bt788.2.2.2.2.2.1 bt788.2.2.2.2.2.2).bind fun t808 => ((laws_same.f k t801 t808).bind fun t811 => (if t811 = true then ((impl_RecordOk.f k bt788.2.1 bt788.2.2.1 bt788.2.2.2.1 bt788.2.2.2.2.1 bt788.2.2.2.2.2.1 bt788.2.2.2.2.2.2).bind fun t812 => (if t812 = true then ((impl_GetRecord.f k t798 (bt788.1.length : Int)).bind fun bt813 => ((impl_GetData.f k t801 0 (t801.length : Int) bt788.2.2.1).bind fun bt822 => (if bt813.2.2.2.2.2.2.2 = 0 then (if (bt813.1.toList == bt788.2.1.toList && (bt813.2.1 == bt788.2.2.1 && (bt813.2.2.1 == bt788.2.2.2.1 && (bt813.2.2.2.1 == bt788.2.2.2.2.1 && (bt813.2.2.2.2.1.toList == bt788.2.2.2.2.2.1.toList && (bt813.2.2.2.2.2.1.toList == bt788.2.2.2.2.2.2.toList)))))) = true then (if bt813.2.2.2.2.2.2.1 = (t798.length : Int) then (if bt822.2.2.2.2.2.2 = 0 then (some (bt822.2.1 == bt788.2.2.1 && (bt822.2.2.2.1 == bt788.2.2.2.2.1 && (bt822.2.2.2.2.1.toList == bt788.2.2.2.2.2.1.toList && (bt822.2.2.2.2.2.1.toList == bt788.2.2.2.2.2.2.toList))))) else (some false)) else (some false)) else (some false)) else (some false)))) else ((laws_same.f k t798 bt788.1).bind fun t830 => (if t830 = true then (some ((t801.length : Int) == 0)) else (some false))))) else (some false)))) else (some false))))))) = some r := by rw [if_neg (show ¬ (false = true) by decide)] at H; exact H
  clear H
  have H := H1
  clear H1
  replace H := Option.bind_eq_some_iff.mp H
  obtain ⟨⟨t788, t791, t792, t793, t794, t795, t796⟩, A4, H⟩ := H
  try dsimp only at H
  replace A4 := aS A4
  replace H := Option.bind_eq_some_iff.mp H
  obtain ⟨t798, A5, H⟩ := H
  try dsimp only at H
  replace A5 := aS A5
  replace H := Option.bind_eq_some_iff.mp H
  obtain ⟨t801, A6, H⟩ := H
  try dsimp only at H
  replace A6 := aS A6
  replace H := Option.bind_eq_some_iff.mp H
  obtain ⟨t804, A7, H⟩ := H
  try dsimp only at H
  replace A7 := aS A7
  replace H := Option.bind_eq_some_iff.mp H
  obtain ⟨t807, A8, H⟩ := H
  try dsimp only at H
  replace A8 := aS A8
  by_cases c9 : t807 = true
  ·subst c9
   have H1 : ((spec_PutData.f k t791 t792 t793 t794 t795 t796).bind fun t808 => ((laws_same.f k t801 t808).bind fun t811 => (if t811 = true then ((impl_RecordOk.f k t791 t792 t793 t794 t795 t796).bind fun t812 => (if t812 = true then ((impl_GetRecord.f k t798 (t788.length : Int)).bind fun bt813 => ((impl_GetData.f k t801 0 (t801.length : Int) t792).bind fun bt822 => (if bt813.2.2.2.2.2.2.2 = 0 then (if (bt813.1.toList == t791.toList && (bt813.2.1 == t792 && (bt813.2.2.1 == t793 && (bt813.2.2.2.1 == t794 && (bt813.2.2.2.2.1.toList == t795.toList && (bt813.2.2.2.2.2.1.toList == t796.toList)))))) = true then (if bt813.2.2.2.2.2.2.1 = (t798.length : Int) then (if bt822.2.2.2.2.2.2 = 0 then (some (bt822.2.1 == t792 && (bt822.2.2.2.1 == t794 && (bt822.2.2.2.2.1.toList == t795.toList && (bt822.2.2.2.2.2.1.toList == t796.toList))))) else (some false)) else (some false)) else (some false)) else (some false)))) else ((laws_same.f k t798 t788).bind fun t830 => (if t830 = true then (some ((t801.length : Int) == 0)) else (some false))))) else (some false)))) = some r := by rw [if_pos rfl] at H; exact H
   clear H
   have H := H1
   clear H1
   replace H := Option.bind_eq_some_iff.mp H
   obtain ⟨t808, A10, H⟩ := H
   try dsimp only at H
   replace A10 := aS A10
   replace H := Option.bind_eq_some_iff.mp H
   obtain ⟨t811, A11, H⟩ := H
   try dsimp only at H
   replace A11 := aS A11
   by_cases c12 : t811 = true
   ·subst c12
    have H1 : ((impl_RecordOk.f k t791 t792 t793 t794 t795 t796).bind fun t812 => (if t812 = true then ((impl_GetRecord.f k t798 (t788.length : Int)).bind fun bt813 => ((impl_GetData.f k t801 0 (t801.length : Int) t792).bind fun bt822 => (if bt813.2.2.2.2.2.2.2 = 0 then (if (bt813.1.toList == t791.toList && (bt813.2.1 == t792 && (bt813.2.2.1 == t793 && (bt813.2.2.2.1 == t794 && (bt813.2.2.2.2.1.toList == t795.toList && (bt813.2.2.2.2.2.1.toList == t796.toList)))))) = true then (if bt813.2.2.2.2.2.2.1 = (t798.length : Int) then (if bt822.2.2.2.2.2.2 = 0 then (some (bt822.2.1 == t792 && (bt822.2.2.2.1 == t794 && (bt822.2.2.2.2.1.toList == t795.toList && (bt822.2.2.2.2.2.1.toList == t796.toList))))) else (some false)) else (some false)) else (some false)) else (some false)))) else ((laws_same.f k t798 t788).bind fun t830 => (if t830 = true then (some ((t801.length : Int) == 0)) else (some false))))) = some r := by rw [if_pos rfl] at H; exact H
    clear H
    have H := H1
    clear H1
    replace H := Option.bind_eq_some_iff.mp H
    obtain ⟨t812, A13, H⟩ := H
    try dsimp only at H
    replace A13 := aS A13
    by_cases c14 : t812 = true
    ·subst c14
     have H1 : ((impl_GetRecord.f k t798 (t788.length : Int)).bind fun bt813 => ((impl_GetData.f k t801 0 (t801.length : Int) t792).bind fun bt822 => (if bt813.2.2.2.2.2.2.2 = 0 then (if (bt813.1.toList == t791.toList && (bt813.2.1 == t792 && (bt813.2.2.1 == t793 && (bt813.2.2.2.1 == t794 && (bt813.2.2.2.2.1.toList == t795.toList && (bt813.2.2.2.2.2.1.toList == t796.toList)))))) = true then (if bt813.2.2.2.2.2.2.1 = (t798.length : Int) then (if bt822.2.2.2.2.2.2 = 0 then (some (bt822.2.1 == t792 && (bt822.2.2.2.1 == t794 && (bt822.2.2.2.2.1.toList == t795.toList && (bt822.2.2.2.2.2.1.toList == t796.toList))))) else (some false)) else (some false)) else (some false)) else (some false)))) = some r := by rw [if_pos rfl] at H; exact H
     clear H
     have H := H1
     clear H1
     replace H := Option.bind_eq_some_iff.mp H
     obtain ⟨⟨t813, t814, t815, t816, t817, t818, t819, t820⟩, A15, H⟩ := H
     try dsimp only at H
     replace A15 := aS A15
     replace H := Option.bind_eq_some_iff.mp H
     obtain ⟨⟨t822, t823, t824, t825, t826, t827, t828⟩, A16, H⟩ := H
     try dsimp only at H
     replace A16 := aS A16
     by_cases c17 : t820 = 0
     ·rw [if_pos c17] at H
      have c17b0 : (t820 == 0) = true := beq_iff_eq.mpr c17
      have c17b1 : (t820 != 0) = false := bne_eq_false_iff_eq.mpr c17
      clear c17
      by_cases c18 : (t813.toList == t791.toList && (t814 == t792 && (t815 == t793 && (t816 == t794 && (t817.toList == t795.toList && (t818.toList == t796.toList)))))) = true
      ·rw [if_pos c18] at H
       have c18b0 : (t813.toList == t791.toList && (t814 == t792 && (t815 == t793 && (t816 == t794 && (t817.toList == t795.toList && (t818.toList == t796.toList)))))) = true := c18
       (try (have c18b1 : decide (t813.toList = t791.toList && (t814 == t792 && (t815 == t793 && (t816 == t794 && (t817.toList == t795.toList && (t818.toList == t796.toList)))))) = true := by simpa using c18))
       (try (have c18b2 : (t813.toList == t791.toList && (t814 == t792 && (t815 == t793 && (t816 == t794 && (t817.toList == t795.toList && (t818.toList == t796.toList)))))) = true := by simpa using c18))
       clear c18
       by_cases c19 : t819 = (t798.length : Int)
       ·rw [if_pos c19] at H
        have c19b0 : (t819 == (t798.length : Int)) = true := beq_iff_eq.mpr c19
        have c19b1 : (t819 != (t798.length : Int)) = false := bne_eq_false_iff_eq.mpr c19
        clear c19
        by_cases c20 : t828 = 0
        ·rw [if_pos c20] at H
         have c20b0 : (t828 == 0) = true := beq_iff_eq.mpr c20
         have c20b1 : (t828 != 0) = false := bne_eq_false_iff_eq.mpr c20
         clear c20
         obtain rfl := Option.some.inj H
         go_enter Tryd.func3, Tryd.ntmps3
         go_wp2_with (first | ((with_reducible refine gate_callee (f := 8) rfl ?_); refine goesL_ (some 13) rfl rfl Tryd.func8 jK rfl #[.slice A0 l0.length c0] rfl jA ?_; (with_reducible refine (laws_big.calls _ _ l0 false _ ?side1 ?side2 A2.out).mono ?_); (case side1 => exact cU (HR0.out)); (case side2 => exact HC0.out); rintro e w' ⟨rfl, ⟨nd, rfl⟩⟩; refine ⟨_, rfl, ?_⟩) | ((with_reducible refine gate_callee (f := 9) rfl ?_); refine goesL_ (some 16) rfl rfl Tryd.func9 jK rfl #[.slice A0 l0.length c0] rfl jA ?_; (with_reducible refine (spec_DrawPutRecord.calls k _ _ l0 t788 t791 t792 t793 t794 t795 t796 _ ?side1 ?side2 A4.out).mono ?_); (case side1 => exact cU (HR0.out)); (case side2 => exact HC0.out); rintro e w21 ⟨v789, rfl, ho0, hb⟩; refine ⟨_, rfl, ?_⟩; have n0_ := aS (Kd.R_lower ho0 (below_size (wU HB.out))); have n1_ := aS (below_step (wU HB.out) hb); clear HB; revert n0_ n1_; intro HO790 HB; clear hb; (try clear ho0)) | ((with_reducible refine gate_dst (N := 4) rfl ?_); (try (refine gate_guard (by rfl) ?_; dsimp only)); refine box_event ?hg (N := 4) ?hd (cs := #[.string (⟨#[]⟩ : ByteArray), .int .i64 0, .int .i64 0, .int .i64 0, .string (⟨#[]⟩ : ByteArray), .string (⟨#[]⟩ : ByteArray)]) (t := 25) ?hr ?_; (case hd => rfl); (case hg => rfl); (case hr => first | (go_simp; done) | (go_simp; rfl)); intro gb797 hg w22 hbox hb; have n0_ := aS (Kd.R_below (rU HO790.out) hb); have n1_ := aS (below_step (wU HB.out) hb); have n2_ := aS (hbox); have n3_ := aS ((by rw [hg]; exact (below_size (wU HB.out)) : w.heap.size ≤ gb797)); have n4_ := aS ((by rw [hg]; exact (below_size (wU HB.out)) : w.heap.size ≤ gb797)); clear HO790 HB; revert n0_ n1_ n2_ n3_ n4_; intro HO790 HB BK797 GW797 GE797; clear hb hbox hg; have hcz23 := cells6f BK797.out; obtain ⟨Ao24, co24, eo24⟩ := Kd.R_slice HO790.out; subst eo24) | ((with_reducible refine gate_callee (f := 10) rfl ?_); refine goesL_ (some 21) rfl rfl Tryd.func10 jK rfl #[.slice Ao24 t788.length co24, .agg #[.string t791, .int .i64 t792, .int .i64 t793, .int .i64 t794, .string t795, .string t796]] rfl jA ?_; (with_reducible refine (impl_PutRecord.calls k _ _ t788 t791 t792 t793 t794 t795 t796 t798 _ ?side1 ?side2 A5.out).mono ?_); (case side1 => refine (Kd.R_reads' (e := 5) (base := w.heap.size) (ok := fun k_ => True) (n := t788.length) (c := co24) ?_).2.2; exact (by (with_reducible repeat (first | apply Kd.R_alloc | apply Kd.R_drewN | apply Kd.R_drew)); exact (Kd.R_mono (Kd.R_far (p := ⟨gb797, 5, none⟩) (Kd.R_far (p := ⟨gb797, 4, none⟩) (Kd.R_far (p := ⟨gb797, 3, none⟩) (Kd.R_far (p := ⟨gb797, 2, none⟩) (Kd.R_far (p := ⟨gb797, 1, none⟩) (Kd.R_far (p := ⟨gb797, 0, none⟩) (Kd.R_types HO790.out BK797.out (by decide)) (fun _ hk => hk.2) (.string t791)) (fun _ hk => hk.2) (.int .i64 t792)) (fun _ hk => hk.2) (.int .i64 t793)) (fun _ hk => hk.2) (.int .i64 t794)) (fun _ hk => hk.2) (.string t795)) (fun _ hk => hk.2) (.string t796)) (fun _ h_ => h_.1)))); (case side2 => exact (Kd.R_reads' HO790.out).2.1); rintro e w25 ⟨v799, rfl, ho0, hb⟩; refine ⟨_, rfl, ?_⟩; have n0_ := aS (Kd.R_elder' (by (with_reducible repeat (first | apply Kd.R_alloc | apply Kd.R_drewN | apply Kd.R_drew)); exact (Kd.R_mono (Kd.R_far (p := ⟨gb797, 5, none⟩) (Kd.R_far (p := ⟨gb797, 4, none⟩) (Kd.R_far (p := ⟨gb797, 3, none⟩) (Kd.R_far (p := ⟨gb797, 2, none⟩) (Kd.R_far (p := ⟨gb797, 1, none⟩) (Kd.R_far (p := ⟨gb797, 0, none⟩) (Kd.R_types HO790.out BK797.out (by decide)) (fun _ hk => hk.2) (.string t791)) (fun _ hk => hk.2) (.int .i64 t792)) (fun _ hk => hk.2) (.int .i64 t793)) (fun _ hk => hk.2) (.int .i64 t794)) (fun _ hk => hk.2) (.string t795)) (fun _ hk => hk.2) (.string t796)) (fun _ h_ => h_.1))) (Kd.R_base ho0) hb); have n1_ := aS (Kd.R_lower (Kd.R_new' ho0 (Kd.R_lt (by (with_reducible repeat (first | apply Kd.R_alloc | apply Kd.R_drewN | apply Kd.R_drew)); exact (Kd.R_mono (Kd.R_far (p := ⟨gb797, 5, none⟩) (Kd.R_far (p := ⟨gb797, 4, none⟩) (Kd.R_far (p := ⟨gb797, 3, none⟩) (Kd.R_far (p := ⟨gb797, 2, none⟩) (Kd.R_far (p := ⟨gb797, 1, none⟩) (Kd.R_far (p := ⟨gb797, 0, none⟩) (Kd.R_types HO790.out BK797.out (by decide)) (fun _ hk => hk.2) (.string t791)) (fun _ hk => hk.2) (.int .i64 t792)) (fun _ hk => hk.2) (.int .i64 t793)) (fun _ hk => hk.2) (.int .i64 t794)) (fun _ hk => hk.2) (.string t795)) (fun _ hk => hk.2) (.string t796)) (fun _ h_ => h_.1))))) (below_size (wS1 HB.out GE797.out))); have n2_ := aS (blk_below (g := gb797) (o := .cells #[.string t791, .int .i64 t792, .int .i64 t793, .int .i64 t794, .string t795, .string t796] 25 (0, 0)) (by (with_reducible repeat (first | refine blk_drewN ?_ _ | refine blk_drew ?_ | refine blk_alloc ?_ _)); refine blk_put_6 (.string (⟨#[]⟩ : ByteArray)) (.int .i64 0) (.int .i64 0) (.int .i64 0) (.string (⟨#[]⟩ : ByteArray)) (.string (⟨#[]⟩ : ByteArray)) ?_; (with_reducible repeat (first | refine blk_drewN ?_ _ | refine blk_drew ?_ | refine blk_alloc ?_ _)); exact BK797.out) hb); have n3_ := aS (below_step (wS1 HB.out GE797.out) hb); clear HO790 BK797 HB; revert n0_ n1_ n2_ n3_; intro HO790 HO800 BK797 HB; clear hb; (try clear ho0); have hcz26 := cells6f BK797.out) | ((with_reducible refine gate_callee (f := 11) rfl ?_); refine goesL_ (some 23) rfl rfl Tryd.func11 jK rfl #[.agg #[.string t791, .int .i64 t792, .int .i64 t793, .int .i64 t794, .string t795, .string t796]] rfl jA ?_; (with_reducible refine (impl_PutData.calls k t791 t792 t793 t794 t795 t796 t801 _ A6.out).mono ?_); rintro e w27 ⟨v802, rfl, ho0, hb⟩; refine ⟨_, rfl, ?_⟩; have n0_ := aS (Kd.R_elder' (rU HO790.out) (Kd.R_base ho0) hb); have n1_ := aS (Kd.R_elder' (rU HO800.out) (Kd.R_base ho0) hb); have n2_ := aS (Kd.R_lower (Kd.R_new' (Kd.R_new' ho0 (Kd.R_lt (rU HO790.out))) (Kd.R_lt (rU HO800.out))) (below_size (wS1 HB.out GE797.out))); have n3_ := aS (blk_below (bU BK797.out) hb); have n4_ := aS (below_step (wS1 HB.out GE797.out) hb); clear HO790 HO800 BK797 HB; revert n0_ n1_ n2_ n3_ n4_; intro HO790 HO800 HO803 BK797 HB; clear hb; (try clear ho0); have hcz28 := cells6f BK797.out) | ((with_reducible refine gate_callee (f := 13) rfl ?_); refine goesL_ (some 27) rfl rfl Tryd.func13 jK rfl #[.slice Ao24 t788.length co24, .agg #[.string t791, .int .i64 t792, .int .i64 t793, .int .i64 t794, .string t795, .string t796]] rfl jA ?_; (with_reducible refine (spec_PutRecord.calls k _ _ t788 t791 t792 t793 t794 t795 t796 t804 _ ?side1 ?side2 A7.out).mono ?_); (case side1 => exact cU ((Kd.R_reads' HO790.out).2.2)); (case side2 => exact (Kd.R_reads' HO790.out).2.1); rintro e w29 ⟨v805, rfl, ho0, hb⟩; refine ⟨_, rfl, ?_⟩; have n0_ := aS (Kd.R_elder' (rU HO790.out) (Kd.R_base ho0) hb); have n1_ := aS (Kd.R_elder' (rU HO800.out) (Kd.R_base ho0) hb); have n2_ := aS (Kd.R_elder' (rU HO803.out) (Kd.R_base ho0) hb); have n3_ := aS (Kd.R_lower (Kd.R_new' (Kd.R_new' (Kd.R_new' ho0 (Kd.R_lt (rU HO790.out))) (Kd.R_lt (rU HO800.out))) (Kd.R_lt (rU HO803.out))) (below_size (wS1 HB.out GE797.out))); have n4_ := aS (blk_below (bU BK797.out) hb); have n5_ := aS (below_step (wS1 HB.out GE797.out) hb); clear HO790 HO800 HO803 BK797 HB; revert n0_ n1_ n2_ n3_ n4_ n5_; intro HO790 HO800 HO803 HO806 BK797 HB; clear hb; (try clear ho0); obtain ⟨Ao30, co30, eo30⟩ := Kd.R_slice HO800.out; subst eo30; obtain ⟨Ao31, co31, eo31⟩ := Kd.R_slice HO806.out; subst eo31) | ((with_reducible refine gate_callee (f := 12) rfl ?_); refine goesL_ (some 28) rfl rfl Tryd.func12 jK rfl #[.slice Ao30 t798.length co30, .slice Ao31 t804.length co31] rfl jA ?_; (with_reducible refine (laws_same.calls k _ _ t798 _ _ t804 true _ ?side1 ?side2 ?side3 ?side4 A8.out).mono ?_); (case side1 => exact cU ((Kd.R_reads' HO800.out).2.2)); (case side2 => exact (Kd.R_reads' HO800.out).2.1); (case side3 => exact cU ((Kd.R_reads' HO806.out).2.2)); (case side4 => exact (Kd.R_reads' HO806.out).2.1); rintro e w' ⟨rfl, ⟨nd, rfl⟩⟩; refine ⟨_, rfl, ?_⟩; have n_ := aS (Kd.R_mono (ok' := (fun k_ => some k_ ≠ (.slice Ao30 t798.length co30 : Value).ownBlock ∧ some k_ ≠ (v802 : Value).ownBlock ∧ some k_ ≠ (.slice Ao31 t804.length co31 : Value).ownBlock)) HO790.out (fun k_ hk => ⟨hk.1.1.2, ⟨hk.1.2, hk.2⟩⟩)); clear HO790; have HO790 := n_; clear n_; have n_ := aS (Kd.R_mono (ok' := (fun k_ => some k_ ≠ (.slice Ao24 t788.length co24 : Value).ownBlock ∧ some k_ ≠ (v802 : Value).ownBlock ∧ some k_ ≠ (.slice Ao31 t804.length co31 : Value).ownBlock)) HO800.out (fun k_ hk => ⟨hk.1.1.2, ⟨hk.1.2, hk.2⟩⟩)); clear HO800; have HO800 := n_; clear n_; have n_ := aS (Kd.R_mono (ok' := (fun k_ => some k_ ≠ (.slice Ao24 t788.length co24 : Value).ownBlock ∧ some k_ ≠ (.slice Ao30 t798.length co30 : Value).ownBlock ∧ some k_ ≠ (.slice Ao31 t804.length co31 : Value).ownBlock)) HO803.out (fun k_ hk => ⟨hk.1.1.2, ⟨hk.1.2, hk.2⟩⟩)); clear HO803; have HO803 := n_; clear n_; have n_ := aS (Kd.R_mono (ok' := (fun k_ => some k_ ≠ (.slice Ao24 t788.length co24 : Value).ownBlock ∧ some k_ ≠ (.slice Ao30 t798.length co30 : Value).ownBlock ∧ some k_ ≠ (v802 : Value).ownBlock)) HO806.out (fun k_ hk => ⟨hk.1.1.2, ⟨hk.1.2, hk.2⟩⟩)); clear HO806; have HO806 := n_; clear n_; (try (rw [drewN_self w29]; generalize hq_ : World.drewN w29 _ = w29; have n0_ : Aside0 (Kd.R (Kd.int .u8) 5 w29 w.heap.size (fun k_ => some k_ ≠ (.slice Ao30 t798.length co30 : Value).ownBlock ∧ some k_ ≠ (v802 : Value).ownBlock ∧ some k_ ≠ (.slice Ao31 t804.length co31 : Value).ownBlock) (.slice Ao24 t788.length co24) t788) := ⟨by rw [← hq_]; exact (rU HO790.out)⟩; have n1_ : Aside0 (Kd.R (Kd.int .u8) 5 w29 w.heap.size (fun k_ => some k_ ≠ (.slice Ao24 t788.length co24 : Value).ownBlock ∧ some k_ ≠ (v802 : Value).ownBlock ∧ some k_ ≠ (.slice Ao31 t804.length co31 : Value).ownBlock) (.slice Ao30 t798.length co30) t798) := ⟨by rw [← hq_]; exact (rU HO800.out)⟩; have n2_ : Aside0 (Kd.R (Kd.int .u8) 5 w29 w.heap.size (fun k_ => some k_ ≠ (.slice Ao24 t788.length co24 : Value).ownBlock ∧ some k_ ≠ (.slice Ao30 t798.length co30 : Value).ownBlock ∧ some k_ ≠ (.slice Ao31 t804.length co31 : Value).ownBlock) v802 t801) := ⟨by rw [← hq_]; exact (rU HO803.out)⟩; have n3_ : Aside0 (Kd.R (Kd.int .u8) 5 w29 w.heap.size (fun k_ => some k_ ≠ (.slice Ao24 t788.length co24 : Value).ownBlock ∧ some k_ ≠ (.slice Ao30 t798.length co30 : Value).ownBlock ∧ some k_ ≠ (v802 : Value).ownBlock) (.slice Ao31 t804.length co31) t804) := ⟨by rw [← hq_]; exact (rU HO806.out)⟩; have n4_ : Aside0 (w29.heap[gb797]? = some (.cells #[.string t791, .int .i64 t792, .int .i64 t793, .int .i64 t794, .string t795, .string t796] 25 (0, 0))) := ⟨by rw [← hq_]; exact (bU BK797.out)⟩; have n5_ : Aside0 (Below w.heap.size w w29) := ⟨by rw [← hq_]; exact (wS1 HB.out GE797.out)⟩; clear HO790 HO800 HO803 HO806 BK797 HB hq_; revert n0_ n1_ n2_ n3_ n4_ n5_; intro HO790 HO800 HO803 HO806 BK797 HB)); have hcz32 := cells6f BK797.out) | (go_at_call 14; (with_reducible refine (spec_PutData.calls k t791 t792 t793 t794 t795 t796 t808 _ A10.out).mono ?_); rintro e w33 ⟨v809, rfl, ho0, hb⟩; have n0_ := aS (Kd.R_elder' (rU HO790.out) (Kd.R_base ho0) hb); have n1_ := aS (Kd.R_elder' (rU HO800.out) (Kd.R_base ho0) hb); have n2_ := aS (Kd.R_elder' (rU HO803.out) (Kd.R_base ho0) hb); have n3_ := aS (Kd.R_lower (Kd.R_new' (Kd.R_new' (Kd.R_new' ho0 (Kd.R_lt (rU HO790.out))) (Kd.R_lt (rU HO800.out))) (Kd.R_lt (rU HO803.out))) (below_size (wS1 HB.out GE797.out))); have n4_ := aS (blk_below (bU BK797.out) hb); have n5_ := aS (below_step (wS1 HB.out GE797.out) hb); clear HO790 HO800 HO803 BK797 HB; revert n0_ n1_ n2_ n3_ n4_ n5_; intro HO790 HO800 HO803 HO810 BK797 HB; clear hb; (try clear ho0); obtain ⟨Ao34, co34, eo34⟩ := Kd.R_slice HO803.out; subst eo34; obtain ⟨Ao35, co35, eo35⟩ := Kd.R_slice HO810.out; subst eo35) | (go_at_call 12; (with_reducible refine (laws_same.calls k _ _ t801 _ _ t808 true _ ?side1 ?side2 ?side3 ?side4 A11.out).mono ?_); (case side1 => exact cU ((Kd.R_reads' HO803.out).2.2)); (case side2 => exact (Kd.R_reads' HO803.out).2.1); (case side3 => exact cU ((Kd.R_reads' HO810.out).2.2)); (case side4 => exact (Kd.R_reads' HO810.out).2.1); rintro e w' ⟨rfl, ⟨nd, rfl⟩⟩; have n_ := aS (Kd.R_mono (ok' := (fun k_ => some k_ ≠ (.slice Ao30 t798.length co30 : Value).ownBlock ∧ some k_ ≠ (.slice Ao34 t801.length co34 : Value).ownBlock ∧ some k_ ≠ (.slice Ao35 t808.length co35 : Value).ownBlock)) HO790.out (fun k_ hk => ⟨hk.1.1, ⟨hk.1.2.1, hk.2⟩⟩)); clear HO790; have HO790 := n_; clear n_; have n_ := aS (Kd.R_mono (ok' := (fun k_ => some k_ ≠ (.slice Ao24 t788.length co24 : Value).ownBlock ∧ some k_ ≠ (.slice Ao34 t801.length co34 : Value).ownBlock ∧ some k_ ≠ (.slice Ao35 t808.length co35 : Value).ownBlock)) HO800.out (fun k_ hk => ⟨hk.1.1, ⟨hk.1.2.1, hk.2⟩⟩)); clear HO800; have HO800 := n_; clear n_; have n_ := aS (Kd.R_mono (ok' := (fun k_ => some k_ ≠ (.slice Ao24 t788.length co24 : Value).ownBlock ∧ some k_ ≠ (.slice Ao30 t798.length co30 : Value).ownBlock ∧ some k_ ≠ (.slice Ao35 t808.length co35 : Value).ownBlock)) HO803.out (fun k_ hk => ⟨hk.1.1, ⟨hk.1.2.1, hk.2⟩⟩)); clear HO803; have HO803 := n_; clear n_; have n_ := aS (Kd.R_mono (ok' := (fun k_ => some k_ ≠ (.slice Ao24 t788.length co24 : Value).ownBlock ∧ some k_ ≠ (.slice Ao30 t798.length co30 : Value).ownBlock ∧ some k_ ≠ (.slice Ao34 t801.length co34 : Value).ownBlock)) HO810.out (fun k_ hk => ⟨hk.1.1.2, ⟨hk.1.2, hk.2⟩⟩)); clear HO810; have HO810 := n_; clear n_; (try (rw [drewN_self w33]; generalize hq_ : World.drewN w33 _ = w33; have n0_ : Aside0 (Kd.R (Kd.int .u8) 5 w33 w.heap.size (fun k_ => some k_ ≠ (.slice Ao30 t798.length co30 : Value).ownBlock ∧ some k_ ≠ (.slice Ao34 t801.length co34 : Value).ownBlock ∧ some k_ ≠ (.slice Ao35 t808.length co35 : Value).ownBlock) (.slice Ao24 t788.length co24) t788) := ⟨by rw [← hq_]; exact (rU HO790.out)⟩; have n1_ : Aside0 (Kd.R (Kd.int .u8) 5 w33 w.heap.size (fun k_ => some k_ ≠ (.slice Ao24 t788.length co24 : Value).ownBlock ∧ some k_ ≠ (.slice Ao34 t801.length co34 : Value).ownBlock ∧ some k_ ≠ (.slice Ao35 t808.length co35 : Value).ownBlock) (.slice Ao30 t798.length co30) t798) := ⟨by rw [← hq_]; exact (rU HO800.out)⟩; have n2_ : Aside0 (Kd.R (Kd.int .u8) 5 w33 w.heap.size (fun k_ => some k_ ≠ (.slice Ao24 t788.length co24 : Value).ownBlock ∧ some k_ ≠ (.slice Ao30 t798.length co30 : Value).ownBlock ∧ some k_ ≠ (.slice Ao35 t808.length co35 : Value).ownBlock) (.slice Ao34 t801.length co34) t801) := ⟨by rw [← hq_]; exact (rU HO803.out)⟩; have n3_ : Aside0 (Kd.R (Kd.int .u8) 5 w33 w.heap.size (fun k_ => some k_ ≠ (.slice Ao24 t788.length co24 : Value).ownBlock ∧ some k_ ≠ (.slice Ao30 t798.length co30 : Value).ownBlock ∧ some k_ ≠ (.slice Ao34 t801.length co34 : Value).ownBlock) (.slice Ao35 t808.length co35) t808) := ⟨by rw [← hq_]; exact (rU HO810.out)⟩; have n4_ : Aside0 (w33.heap[gb797]? = some (.cells #[.string t791, .int .i64 t792, .int .i64 t793, .int .i64 t794, .string t795, .string t796] 25 (0, 0))) := ⟨by rw [← hq_]; exact (bU BK797.out)⟩; have n5_ : Aside0 (Below w.heap.size w w33) := ⟨by rw [← hq_]; exact (wS1 HB.out GE797.out)⟩; clear HO790 HO800 HO803 HO810 BK797 HB hq_; revert n0_ n1_ n2_ n3_ n4_ n5_; intro HO790 HO800 HO803 HO810 BK797 HB)); have hcz36 := cells6f BK797.out) | ((with_reducible refine gate_callee (f := 15) rfl ?_); refine goesL_ (some 38) rfl rfl Tryd.func15 jK rfl #[.agg #[.string t791, .int .i64 t792, .int .i64 t793, .int .i64 t794, .string t795, .string t796]] rfl jA ?_; (with_reducible refine (impl_RecordOk.calls k t791 t792 t793 t794 t795 t796 true _ A13.out).mono ?_); rintro e w37 ⟨rfl, hb⟩; refine ⟨_, rfl, ?_⟩; have n0_ := aS (Kd.R_below (rU HO790.out) hb); have n1_ := aS (Kd.R_below (rU HO800.out) hb); have n2_ := aS (Kd.R_below (rU HO803.out) hb); have n3_ := aS (blk_below (bU BK797.out) hb); have n4_ := aS (below_step (wS1 HB.out GE797.out) hb); clear HO790 HO800 HO803 BK797 HB; revert n0_ n1_ n2_ n3_ n4_; intro HO790 HO800 HO803 BK797 HB; clear hb) | ((with_reducible refine gate_callee (f := 16) rfl ?_); refine goesL_ (some 52) rfl rfl Tryd.func16 jK rfl #[.slice Ao30 t798.length co30, .int .i64 (t788.length : Int)] rfl jA ?_; (with_reducible refine (impl_GetRecord.calls k _ _ t798 (t788.length : Int) t813 t814 t815 t816 t817 t818 t819 t820 _ ?side1 ?side2 A15.out).mono ?_); (case side1 => exact cU ((Kd.R_reads' HO800.out).2.2)); (case side2 => exact (Kd.R_reads' HO800.out).2.1); rintro e w38 ⟨rfl, hb⟩; refine ⟨_, rfl, ?_⟩; have n0_ := aS (Kd.R_below (rU HO800.out) hb); have n1_ := aS (Kd.R_below (rU HO803.out) hb); have n2_ := aS (blk_below (bU BK797.out) hb); have n3_ := aS (below_step (wS1 HB.out GE797.out) hb); clear HO800 HO803 BK797 HB; revert n0_ n1_ n2_ n3_; intro HO800 HO803 BK797 HB; clear hb) | ((with_reducible refine gate_dst (N := 7) rfl ?_); (try (refine gate_guard (by rfl) ?_; dsimp only)); refine box_event ?hg (N := 7) ?hd (cs := #[.string (⟨#[]⟩ : ByteArray), .int .i64 0, .int .i64 0, .int .i64 0, .string (⟨#[]⟩ : ByteArray), .string (⟨#[]⟩ : ByteArray)]) (t := 25) ?hr ?_; (case hd => rfl); (case hg => rfl); (case hr => first | (go_simp; done) | (go_simp; rfl)); intro gb821 hg w39 hbox hb; have n0_ := aS (Kd.R_below (rU HO800.out) hb); have n1_ := aS (Kd.R_below (rU HO803.out) hb); have n2_ := aS (blk_below (bU BK797.out) hb); have n3_ := aS (below_step (wS1 HB.out GE797.out) hb); have n4_ := aS (hbox); have n5_ := aS ((by rw [hg]; exact (below_size (wS1 HB.out GE797.out)) : w.heap.size ≤ gb821)); have n6_ := aS ((by rw [hg]; exact (below_size (wS1 HB.out GE797.out)) : w.heap.size ≤ gb821)); have n7_ := aS ((by rw [hg]; exact Nat.ne_of_lt (blk_lt (bU BK797.out)) : gb797 ≠ gb821)); have n8_ := aS ((by rw [hg]; exact Nat.ne_of_gt (blk_lt (bU BK797.out)) : gb821 ≠ gb797)); clear HO800 HO803 BK797 HB; revert n0_ n1_ n2_ n3_ n4_ n5_ n6_ n7_ n8_; intro HO800 HO803 BK797 HB BK821 GW821 GE821 NB797_821 NB821_797; clear hb hbox hg; have hnb40 := NB821_797.out; have hnc40 := NB797_821.out; have hcz41 := cells6f BK821.out; have hcz42 := cells6f BK797.out) | ((with_reducible refine gate_callee (f := 17) rfl ?_); refine goesL_ (some 62) rfl rfl Tryd.func17 jK rfl #[.slice Ao34 t801.length co34, .int .i64 0, .int .i64 (t801.length : Int), .int .i64 t792] rfl jA ?_; (with_reducible refine (impl_GetData.calls k _ _ t801 0 (t801.length : Int) t792 t822 t823 t824 t825 t826 t827 t828 _ ?side1 ?side2 A16.out).mono ?_); (case side1 => refine (Kd.R_reads' (e := 5) (base := w.heap.size) (ok := fun k_ => (some k_ ≠ (.slice Ao24 t788.length co24 : Value).ownBlock ∧ (some k_ ≠ (.slice Ao30 t798.length co30 : Value).ownBlock ∧ some k_ ≠ (.slice Ao35 t808.length co35 : Value).ownBlock))) (n := t801.length) (c := co34) ?_).2.2; exact (by (with_reducible repeat (first | apply Kd.R_alloc | apply Kd.R_drewN | apply Kd.R_drew)); exact (Kd.R_mono (Kd.R_far (p := ⟨gb821, 5, none⟩) (Kd.R_far (p := ⟨gb821, 4, none⟩) (Kd.R_far (p := ⟨gb821, 3, none⟩) (Kd.R_far (p := ⟨gb821, 2, none⟩) (Kd.R_far (p := ⟨gb821, 1, none⟩) (Kd.R_far (p := ⟨gb821, 0, none⟩) (Kd.R_types HO803.out BK821.out (by decide)) (fun _ hk => hk.2) (.string t813)) (fun _ hk => hk.2) (.int .i64 t814)) (fun _ hk => hk.2) (.int .i64 t815)) (fun _ hk => hk.2) (.int .i64 t816)) (fun _ hk => hk.2) (.string t817)) (fun _ hk => hk.2) (.string t818)) (fun _ h_ => h_.1)))); (case side2 => exact (Kd.R_reads' HO803.out).2.1); rintro e w43 ⟨rfl, hb⟩; refine ⟨_, rfl, ?_⟩; have n0_ := aS (Kd.R_below (by (with_reducible repeat (first | apply Kd.R_alloc | apply Kd.R_drewN | apply Kd.R_drew)); exact (Kd.R_mono (Kd.R_far (p := ⟨gb821, 5, none⟩) (Kd.R_far (p := ⟨gb821, 4, none⟩) (Kd.R_far (p := ⟨gb821, 3, none⟩) (Kd.R_far (p := ⟨gb821, 2, none⟩) (Kd.R_far (p := ⟨gb821, 1, none⟩) (Kd.R_far (p := ⟨gb821, 0, none⟩) (Kd.R_types HO800.out BK821.out (by decide)) (fun _ hk => hk.2) (.string t813)) (fun _ hk => hk.2) (.int .i64 t814)) (fun _ hk => hk.2) (.int .i64 t815)) (fun _ hk => hk.2) (.int .i64 t816)) (fun _ hk => hk.2) (.string t817)) (fun _ hk => hk.2) (.string t818)) (fun _ h_ => h_.1))) hb); have n1_ := aS (Kd.R_below (by (with_reducible repeat (first | apply Kd.R_alloc | apply Kd.R_drewN | apply Kd.R_drew)); exact (Kd.R_mono (Kd.R_far (p := ⟨gb821, 5, none⟩) (Kd.R_far (p := ⟨gb821, 4, none⟩) (Kd.R_far (p := ⟨gb821, 3, none⟩) (Kd.R_far (p := ⟨gb821, 2, none⟩) (Kd.R_far (p := ⟨gb821, 1, none⟩) (Kd.R_far (p := ⟨gb821, 0, none⟩) (Kd.R_types HO803.out BK821.out (by decide)) (fun _ hk => hk.2) (.string t813)) (fun _ hk => hk.2) (.int .i64 t814)) (fun _ hk => hk.2) (.int .i64 t815)) (fun _ hk => hk.2) (.int .i64 t816)) (fun _ hk => hk.2) (.string t817)) (fun _ hk => hk.2) (.string t818)) (fun _ h_ => h_.1))) hb); have n2_ := aS (blk_below (g := gb797) (o := .cells #[.string t791, .int .i64 t792, .int .i64 t793, .int .i64 t794, .string t795, .string t796] 25 (0, 0)) (by (iterate 6 ((with_reducible repeat (first | refine blk_drewN ?_ _ | refine blk_drew ?_ | refine blk_alloc ?_ _)); refine blk_far ?_ NB797_821.out _)); (with_reducible repeat (first | refine blk_drewN ?_ _ | refine blk_drew ?_ | refine blk_alloc ?_ _)); exact BK797.out) hb); have n3_ := aS (blk_below (g := gb821) (o := .cells #[.string t813, .int .i64 t814, .int .i64 t815, .int .i64 t816, .string t817, .string t818] 25 (0, 0)) (by (with_reducible repeat (first | refine blk_drewN ?_ _ | refine blk_drew ?_ | refine blk_alloc ?_ _)); refine blk_put_6 (.string (⟨#[]⟩ : ByteArray)) (.int .i64 0) (.int .i64 0) (.int .i64 0) (.string (⟨#[]⟩ : ByteArray)) (.string (⟨#[]⟩ : ByteArray)) ?_; (with_reducible repeat (first | refine blk_drewN ?_ _ | refine blk_drew ?_ | refine blk_alloc ?_ _)); exact BK821.out) hb); have n4_ := aS (below_step (wS2 HB.out GE797.out GE821.out) hb); clear HO800 HO803 BK797 BK821 HB; revert n0_ n1_ n2_ n3_ n4_; intro HO800 HO803 BK797 BK821 HB; clear hb) | ((with_reducible refine gate_dst (N := 10) rfl ?_); (try (refine gate_guard (by rfl) ?_; dsimp only)); refine box_event ?hg (N := 10) ?hd (cs := #[.string (⟨#[]⟩ : ByteArray), .int .i64 0, .int .i64 0, .int .i64 0, .string (⟨#[]⟩ : ByteArray), .string (⟨#[]⟩ : ByteArray)]) (t := 25) ?hr ?_; (case hd => rfl); (case hg => rfl); (case hr => first | (go_simp; done) | (go_simp; rfl)); intro gb829 hg w44 hbox hb; have n0_ := aS (Kd.R_below (rU HO800.out) hb); have n1_ := aS (Kd.R_below (rU HO803.out) hb); have n2_ := aS (blk_below (bU BK797.out) hb); have n3_ := aS (blk_below (bU BK821.out) hb); have n4_ := aS (below_step (wS2 HB.out GE797.out GE821.out) hb); have n5_ := aS (hbox); have n6_ := aS ((by rw [hg]; exact (below_size (wS2 HB.out GE797.out GE821.out)) : w.heap.size ≤ gb829)); have n7_ := aS ((by rw [hg]; exact (below_size (wS2 HB.out GE797.out GE821.out)) : w.heap.size ≤ gb829)); have n8_ := aS ((by rw [hg]; exact Nat.ne_of_lt (blk_lt (bU BK797.out)) : gb797 ≠ gb829)); have n9_ := aS ((by rw [hg]; exact Nat.ne_of_gt (blk_lt (bU BK797.out)) : gb829 ≠ gb797)); have n10_ := aS ((by rw [hg]; exact Nat.ne_of_lt (blk_lt (bU BK821.out)) : gb821 ≠ gb829)); have n11_ := aS ((by rw [hg]; exact Nat.ne_of_gt (blk_lt (bU BK821.out)) : gb829 ≠ gb821)); clear HO800 HO803 BK797 BK821 HB; revert n0_ n1_ n2_ n3_ n4_ n5_ n6_ n7_ n8_ n9_ n10_ n11_; intro HO800 HO803 BK797 BK821 HB BK829 GW829 GE829 NB797_829 NB829_797 NB821_829 NB829_821; clear hb hbox hg; have hnb45 := NB829_797.out; have hnc45 := NB797_829.out; have hnb46 := NB829_821.out; have hnc46 := NB821_829.out; have hcz47 := cells6f BK829.out; have hcz48 := cells6f BK797.out; have hcz49 := cells6f BK821.out) | ((with_reducible show Oper.upon _ { dst := _, op := .load 25 _, type := 25, pos := _, after := _, guard := _ } _ _ _ _); simp (maxDischargeDepth := 20) [go_sem, *]))
         go_ret
         exact ⟨by first | rfl | (simp [errW_none, errW_some] <;> rfl) | (simp [*, errW_none, errW_some] <;> rfl) | (exfalso; simp_all; done) | ((have ai_ : ∀ p : Prop, Aside0 p ↔ p := fun p => ⟨fun h => h.out, fun h => ⟨h⟩⟩); simp_all [ai_]; done), by exact wS3 HB.out GE797.out GE821.out GE829.out⟩
        ·rw [if_neg c20] at H
         have c20b0 : (t828 == 0) = false := beq_eq_false_iff_ne.mpr c20
         have c20b1 : (t828 != 0) = true := bne_iff_ne.mpr c20
         exact absurd (H.trans (congrArg some hrt_)) (by simp)
       ·rw [if_neg c19] at H
        have c19b0 : (t819 == (t798.length : Int)) = false := beq_eq_false_iff_ne.mpr c19
        have c19b1 : (t819 != (t798.length : Int)) = true := bne_iff_ne.mpr c19
        exact absurd (H.trans (congrArg some hrt_)) (by simp)
      ·rw [if_neg c18] at H
       have c18b0 : (t813.toList == t791.toList && (t814 == t792 && (t815 == t793 && (t816 == t794 && (t817.toList == t795.toList && (t818.toList == t796.toList)))))) = false := by simpa using c18
       (try (have c18b1 : decide (t813.toList = t791.toList && (t814 == t792 && (t815 == t793 && (t816 == t794 && (t817.toList == t795.toList && (t818.toList == t796.toList)))))) = false := by simpa using c18))
       (try (have c18b2 : (t813.toList == t791.toList && (t814 == t792 && (t815 == t793 && (t816 == t794 && (t817.toList == t795.toList && (t818.toList == t796.toList)))))) = false := by simpa using c18))
       (try (have c18b3 : ¬ (t813.toList = t791.toList && (t814 == t792 && (t815 == t793 && (t816 == t794 && (t817.toList == t795.toList && (t818.toList == t796.toList)))))) := by simpa using c18))
       clear c18
       exact absurd (H.trans (congrArg some hrt_)) (by simp)
     ·rw [if_neg c17] at H
      have c17b0 : (t820 == 0) = false := beq_eq_false_iff_ne.mpr c17
      have c17b1 : (t820 != 0) = true := bne_iff_ne.mpr c17
      exact absurd (H.trans (congrArg some hrt_)) (by simp)
    ·replace c14 := Bool.eq_false_iff.mpr c14
     subst c14
     have H1 : ((laws_same.f k t798 t788).bind fun t830 => (if t830 = true then (some ((t801.length : Int) == 0)) else (some false))) = some r := by rw [if_neg (show ¬ (false = true) by decide)] at H; exact H
     clear H
     have H := H1
     clear H1
     replace H := Option.bind_eq_some_iff.mp H
     obtain ⟨t830, A50, H⟩ := H
     try dsimp only at H
     replace A50 := aS A50
     by_cases c51 : t830 = true
     ·subst c51
      have H1 : (some ((t801.length : Int) == 0)) = some r := by rw [if_pos rfl] at H; exact H
      clear H
      have H := H1
      clear H1
      obtain rfl := Option.some.inj H
      go_enter Tryd.func3, Tryd.ntmps3
      go_wp2_with (first | ((with_reducible refine gate_callee (f := 8) rfl ?_); refine goesL_ (some 13) rfl rfl Tryd.func8 jK rfl #[.slice A0 l0.length c0] rfl jA ?_; (with_reducible refine (laws_big.calls _ _ l0 false _ ?side1 ?side2 A2.out).mono ?_); (case side1 => exact cU (HR0.out)); (case side2 => exact HC0.out); rintro e w' ⟨rfl, ⟨nd, rfl⟩⟩; refine ⟨_, rfl, ?_⟩) | ((with_reducible refine gate_callee (f := 9) rfl ?_); refine goesL_ (some 16) rfl rfl Tryd.func9 jK rfl #[.slice A0 l0.length c0] rfl jA ?_; (with_reducible refine (spec_DrawPutRecord.calls k _ _ l0 t788 t791 t792 t793 t794 t795 t796 _ ?side1 ?side2 A4.out).mono ?_); (case side1 => exact cU (HR0.out)); (case side2 => exact HC0.out); rintro e w52 ⟨v789, rfl, ho0, hb⟩; refine ⟨_, rfl, ?_⟩; have n0_ := aS (Kd.R_lower ho0 (below_size (wU HB.out))); have n1_ := aS (below_step (wU HB.out) hb); clear HB; revert n0_ n1_; intro HO790 HB; clear hb; (try clear ho0)) | ((with_reducible refine gate_dst (N := 4) rfl ?_); (try (refine gate_guard (by rfl) ?_; dsimp only)); refine box_event ?hg (N := 4) ?hd (cs := #[.string (⟨#[]⟩ : ByteArray), .int .i64 0, .int .i64 0, .int .i64 0, .string (⟨#[]⟩ : ByteArray), .string (⟨#[]⟩ : ByteArray)]) (t := 25) ?hr ?_; (case hd => rfl); (case hg => rfl); (case hr => first | (go_simp; done) | (go_simp; rfl)); intro gb797 hg w53 hbox hb; have n0_ := aS (Kd.R_below (rU HO790.out) hb); have n1_ := aS (below_step (wU HB.out) hb); have n2_ := aS (hbox); have n3_ := aS ((by rw [hg]; exact (below_size (wU HB.out)) : w.heap.size ≤ gb797)); have n4_ := aS ((by rw [hg]; exact (below_size (wU HB.out)) : w.heap.size ≤ gb797)); clear HO790 HB; revert n0_ n1_ n2_ n3_ n4_; intro HO790 HB BK797 GW797 GE797; clear hb hbox hg; have hcz54 := cells6f BK797.out; obtain ⟨Ao55, co55, eo55⟩ := Kd.R_slice HO790.out; subst eo55) | ((with_reducible refine gate_callee (f := 10) rfl ?_); refine goesL_ (some 21) rfl rfl Tryd.func10 jK rfl #[.slice Ao55 t788.length co55, .agg #[.string t791, .int .i64 t792, .int .i64 t793, .int .i64 t794, .string t795, .string t796]] rfl jA ?_; (with_reducible refine (impl_PutRecord.calls k _ _ t788 t791 t792 t793 t794 t795 t796 t798 _ ?side1 ?side2 A5.out).mono ?_); (case side1 => refine (Kd.R_reads' (e := 5) (base := w.heap.size) (ok := fun k_ => True) (n := t788.length) (c := co55) ?_).2.2; exact (by (with_reducible repeat (first | apply Kd.R_alloc | apply Kd.R_drewN | apply Kd.R_drew)); exact (Kd.R_mono (Kd.R_far (p := ⟨gb797, 5, none⟩) (Kd.R_far (p := ⟨gb797, 4, none⟩) (Kd.R_far (p := ⟨gb797, 3, none⟩) (Kd.R_far (p := ⟨gb797, 2, none⟩) (Kd.R_far (p := ⟨gb797, 1, none⟩) (Kd.R_far (p := ⟨gb797, 0, none⟩) (Kd.R_types HO790.out BK797.out (by decide)) (fun _ hk => hk.2) (.string t791)) (fun _ hk => hk.2) (.int .i64 t792)) (fun _ hk => hk.2) (.int .i64 t793)) (fun _ hk => hk.2) (.int .i64 t794)) (fun _ hk => hk.2) (.string t795)) (fun _ hk => hk.2) (.string t796)) (fun _ h_ => h_.1)))); (case side2 => exact (Kd.R_reads' HO790.out).2.1); rintro e w56 ⟨v799, rfl, ho0, hb⟩; refine ⟨_, rfl, ?_⟩; have n0_ := aS (Kd.R_elder' (by (with_reducible repeat (first | apply Kd.R_alloc | apply Kd.R_drewN | apply Kd.R_drew)); exact (Kd.R_mono (Kd.R_far (p := ⟨gb797, 5, none⟩) (Kd.R_far (p := ⟨gb797, 4, none⟩) (Kd.R_far (p := ⟨gb797, 3, none⟩) (Kd.R_far (p := ⟨gb797, 2, none⟩) (Kd.R_far (p := ⟨gb797, 1, none⟩) (Kd.R_far (p := ⟨gb797, 0, none⟩) (Kd.R_types HO790.out BK797.out (by decide)) (fun _ hk => hk.2) (.string t791)) (fun _ hk => hk.2) (.int .i64 t792)) (fun _ hk => hk.2) (.int .i64 t793)) (fun _ hk => hk.2) (.int .i64 t794)) (fun _ hk => hk.2) (.string t795)) (fun _ hk => hk.2) (.string t796)) (fun _ h_ => h_.1))) (Kd.R_base ho0) hb); have n1_ := aS (Kd.R_lower (Kd.R_new' ho0 (Kd.R_lt (by (with_reducible repeat (first | apply Kd.R_alloc | apply Kd.R_drewN | apply Kd.R_drew)); exact (Kd.R_mono (Kd.R_far (p := ⟨gb797, 5, none⟩) (Kd.R_far (p := ⟨gb797, 4, none⟩) (Kd.R_far (p := ⟨gb797, 3, none⟩) (Kd.R_far (p := ⟨gb797, 2, none⟩) (Kd.R_far (p := ⟨gb797, 1, none⟩) (Kd.R_far (p := ⟨gb797, 0, none⟩) (Kd.R_types HO790.out BK797.out (by decide)) (fun _ hk => hk.2) (.string t791)) (fun _ hk => hk.2) (.int .i64 t792)) (fun _ hk => hk.2) (.int .i64 t793)) (fun _ hk => hk.2) (.int .i64 t794)) (fun _ hk => hk.2) (.string t795)) (fun _ hk => hk.2) (.string t796)) (fun _ h_ => h_.1))))) (below_size (wS1 HB.out GE797.out))); have n2_ := aS (blk_below (g := gb797) (o := .cells #[.string t791, .int .i64 t792, .int .i64 t793, .int .i64 t794, .string t795, .string t796] 25 (0, 0)) (by (with_reducible repeat (first | refine blk_drewN ?_ _ | refine blk_drew ?_ | refine blk_alloc ?_ _)); refine blk_put_6 (.string (⟨#[]⟩ : ByteArray)) (.int .i64 0) (.int .i64 0) (.int .i64 0) (.string (⟨#[]⟩ : ByteArray)) (.string (⟨#[]⟩ : ByteArray)) ?_; (with_reducible repeat (first | refine blk_drewN ?_ _ | refine blk_drew ?_ | refine blk_alloc ?_ _)); exact BK797.out) hb); have n3_ := aS (below_step (wS1 HB.out GE797.out) hb); clear HO790 BK797 HB; revert n0_ n1_ n2_ n3_; intro HO790 HO800 BK797 HB; clear hb; (try clear ho0); have hcz57 := cells6f BK797.out) | ((with_reducible refine gate_callee (f := 11) rfl ?_); refine goesL_ (some 23) rfl rfl Tryd.func11 jK rfl #[.agg #[.string t791, .int .i64 t792, .int .i64 t793, .int .i64 t794, .string t795, .string t796]] rfl jA ?_; (with_reducible refine (impl_PutData.calls k t791 t792 t793 t794 t795 t796 t801 _ A6.out).mono ?_); rintro e w58 ⟨v802, rfl, ho0, hb⟩; refine ⟨_, rfl, ?_⟩; have n0_ := aS (Kd.R_elder' (rU HO790.out) (Kd.R_base ho0) hb); have n1_ := aS (Kd.R_elder' (rU HO800.out) (Kd.R_base ho0) hb); have n2_ := aS (Kd.R_lower (Kd.R_new' (Kd.R_new' ho0 (Kd.R_lt (rU HO790.out))) (Kd.R_lt (rU HO800.out))) (below_size (wS1 HB.out GE797.out))); have n3_ := aS (blk_below (bU BK797.out) hb); have n4_ := aS (below_step (wS1 HB.out GE797.out) hb); clear HO790 HO800 BK797 HB; revert n0_ n1_ n2_ n3_ n4_; intro HO790 HO800 HO803 BK797 HB; clear hb; (try clear ho0); have hcz59 := cells6f BK797.out) | ((with_reducible refine gate_callee (f := 13) rfl ?_); refine goesL_ (some 27) rfl rfl Tryd.func13 jK rfl #[.slice Ao55 t788.length co55, .agg #[.string t791, .int .i64 t792, .int .i64 t793, .int .i64 t794, .string t795, .string t796]] rfl jA ?_; (with_reducible refine (spec_PutRecord.calls k _ _ t788 t791 t792 t793 t794 t795 t796 t804 _ ?side1 ?side2 A7.out).mono ?_); (case side1 => exact cU ((Kd.R_reads' HO790.out).2.2)); (case side2 => exact (Kd.R_reads' HO790.out).2.1); rintro e w60 ⟨v805, rfl, ho0, hb⟩; refine ⟨_, rfl, ?_⟩; have n0_ := aS (Kd.R_elder' (rU HO790.out) (Kd.R_base ho0) hb); have n1_ := aS (Kd.R_elder' (rU HO800.out) (Kd.R_base ho0) hb); have n2_ := aS (Kd.R_elder' (rU HO803.out) (Kd.R_base ho0) hb); have n3_ := aS (Kd.R_lower (Kd.R_new' (Kd.R_new' (Kd.R_new' ho0 (Kd.R_lt (rU HO790.out))) (Kd.R_lt (rU HO800.out))) (Kd.R_lt (rU HO803.out))) (below_size (wS1 HB.out GE797.out))); have n4_ := aS (blk_below (bU BK797.out) hb); have n5_ := aS (below_step (wS1 HB.out GE797.out) hb); clear HO790 HO800 HO803 BK797 HB; revert n0_ n1_ n2_ n3_ n4_ n5_; intro HO790 HO800 HO803 HO806 BK797 HB; clear hb; (try clear ho0); obtain ⟨Ao61, co61, eo61⟩ := Kd.R_slice HO800.out; subst eo61; obtain ⟨Ao62, co62, eo62⟩ := Kd.R_slice HO806.out; subst eo62) | ((with_reducible refine gate_callee (f := 12) rfl ?_); refine goesL_ (some 28) rfl rfl Tryd.func12 jK rfl #[.slice Ao61 t798.length co61, .slice Ao62 t804.length co62] rfl jA ?_; (with_reducible refine (laws_same.calls k _ _ t798 _ _ t804 true _ ?side1 ?side2 ?side3 ?side4 A8.out).mono ?_); (case side1 => exact cU ((Kd.R_reads' HO800.out).2.2)); (case side2 => exact (Kd.R_reads' HO800.out).2.1); (case side3 => exact cU ((Kd.R_reads' HO806.out).2.2)); (case side4 => exact (Kd.R_reads' HO806.out).2.1); rintro e w' ⟨rfl, ⟨nd, rfl⟩⟩; refine ⟨_, rfl, ?_⟩; have hcz63 := cells6f BK797.out) | (go_at_call 14; (with_reducible refine (spec_PutData.calls k t791 t792 t793 t794 t795 t796 t808 _ A10.out).mono ?_); rintro e w64 ⟨v809, rfl, ho0, hb⟩; have n0_ := aS (Kd.R_elder' (rU HO790.out) (Kd.R_base ho0) hb); have n1_ := aS (Kd.R_elder' (rU HO800.out) (Kd.R_base ho0) hb); have n2_ := aS (Kd.R_elder' (rU HO803.out) (Kd.R_base ho0) hb); have n3_ := aS (Kd.R_lower (Kd.R_new' (Kd.R_new' (Kd.R_new' ho0 (Kd.R_lt (rU HO790.out))) (Kd.R_lt (rU HO800.out))) (Kd.R_lt (rU HO803.out))) (below_size (wS1 HB.out GE797.out))); have n4_ := aS (blk_below (bU BK797.out) hb); have n5_ := aS (below_step (wS1 HB.out GE797.out) hb); clear HO790 HO800 HO803 BK797 HB; revert n0_ n1_ n2_ n3_ n4_ n5_; intro HO790 HO800 HO803 HO810 BK797 HB; clear hb; (try clear ho0); obtain ⟨Ao65, co65, eo65⟩ := Kd.R_slice HO803.out; subst eo65; obtain ⟨Ao66, co66, eo66⟩ := Kd.R_slice HO810.out; subst eo66) | (go_at_call 12; (with_reducible refine (laws_same.calls k _ _ t801 _ _ t808 true _ ?side1 ?side2 ?side3 ?side4 A11.out).mono ?_); (case side1 => exact cU ((Kd.R_reads' HO803.out).2.2)); (case side2 => exact (Kd.R_reads' HO803.out).2.1); (case side3 => exact cU ((Kd.R_reads' HO810.out).2.2)); (case side4 => exact (Kd.R_reads' HO810.out).2.1); rintro e w' ⟨rfl, ⟨nd, rfl⟩⟩; have hcz67 := cells6f BK797.out) | ((with_reducible refine gate_callee (f := 15) rfl ?_); refine goesL_ (some 38) rfl rfl Tryd.func15 jK rfl #[.agg #[.string t791, .int .i64 t792, .int .i64 t793, .int .i64 t794, .string t795, .string t796]] rfl jA ?_; (with_reducible refine (impl_RecordOk.calls k t791 t792 t793 t794 t795 t796 false _ A13.out).mono ?_); rintro e w68 ⟨rfl, hb⟩; refine ⟨_, rfl, ?_⟩; have n0_ := aS (Kd.R_below (rU HO790.out) hb); have n1_ := aS (Kd.R_below (rU HO800.out) hb); have n2_ := aS (Kd.R_below (rU HO803.out) hb); have n3_ := aS (blk_below (bU BK797.out) hb); have n4_ := aS (below_step (wS1 HB.out GE797.out) hb); clear HO790 HO800 HO803 BK797 HB; revert n0_ n1_ n2_ n3_ n4_; intro HO790 HO800 HO803 BK797 HB; clear hb) | ((with_reducible refine gate_callee (f := 12) rfl ?_); refine goesL_ (some 42) rfl rfl Tryd.func12 jK rfl #[.slice Ao61 t798.length co61, .slice Ao55 t788.length co55] rfl jA ?_; (with_reducible refine (laws_same.calls k _ _ t798 _ _ t788 true _ ?side1 ?side2 ?side3 ?side4 A50.out).mono ?_); (case side1 => exact cU ((Kd.R_reads' HO800.out).2.2)); (case side2 => exact (Kd.R_reads' HO800.out).2.1); (case side3 => exact cU ((Kd.R_reads' HO790.out).2.2)); (case side4 => exact (Kd.R_reads' HO790.out).2.1); rintro e w' ⟨rfl, ⟨nd, rfl⟩⟩; refine ⟨_, rfl, ?_⟩) | ((with_reducible show Oper.upon _ { dst := _, op := .load 25 _, type := 25, pos := _, after := _, guard := _ } _ _ _ _); simp (maxDischargeDepth := 20) [go_sem, *]))
      go_ret
      exact ⟨by first | rfl | (simp [errW_none, errW_some] <;> rfl) | (simp [*, errW_none, errW_some] <;> rfl) | (exfalso; simp_all; done) | ((have ai_ : ∀ p : Prop, Aside0 p ↔ p := fun p => ⟨fun h => h.out, fun h => ⟨h⟩⟩); simp_all [ai_]; done), by exact wS1 HB.out GE797.out⟩
     ·replace c51 := Bool.eq_false_iff.mpr c51
      subst c51
      have H1 : (some false) = some r := by rw [if_neg (show ¬ (false = true) by decide)] at H; exact H
      clear H
      have H := H1
      clear H1
      exact absurd (H.trans (congrArg some hrt_)) (by simp)
   ·replace c12 := Bool.eq_false_iff.mpr c12
    subst c12
    have H1 : (some false) = some r := by rw [if_neg (show ¬ (false = true) by decide)] at H; exact H
    clear H
    have H := H1
    clear H1
    exact absurd (H.trans (congrArg some hrt_)) (by simp)
  ·replace c9 := Bool.eq_false_iff.mpr c9
   subst c9
   have H1 : (some false) = some r := by rw [if_neg (show ¬ (false = true) by decide)] at H; exact H
   clear H
   have H := H1
   clear H1
   exact absurd (H.trans (congrArg some hrt_)) (by simp)

/-- The one pure statement of laws_FnFields. -/
def laws_FnFields.Pure : Prop := ∀ (l0 : List Int), (l0.length ≤ maxLen ∧ l0.length * 1 ≤ 140737488351232 ∧ ∀ y_ ∈ l0, (Lit.int .u8 y_).wf = true) → ∃ k, laws_FnFields.f k l0 = some true

end Go.Proofs.YtdigilidomimdaaDoor.Pr
