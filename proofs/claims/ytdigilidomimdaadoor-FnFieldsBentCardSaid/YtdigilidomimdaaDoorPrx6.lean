-- Written for this claim by a program of this session (wip/tool/pr.py, over the kit's printer).
-- half
import Derived.Test.YtdigilidomimdaaDoorPrx0
import Derived.Test.YtdigilidomimdaaDoorPrx3
import Derived.Test.YtdigilidomimdaaDoorPrx4
import Derived.Test.YtdigilidomimdaaDoorPrx5
namespace Go.Proofs.YtdigilidomimdaaDoor.Pr
open Go.RowKit Go.Proofs.YtdigilidomimdaaDoorW.PrintWords Go.Proofs.YtdigilidomimdaaDoorW.PrintLast Go.Proofs.YtdigilidomimdaaDoorW.PrintMore
attribute [local go_sem] max2_int min2_int max_two min_two max_three min_three max_four min_four   -- for this text's walks alone
set_option linter.unusedVariables false
set_option linter.unusedSimpArgs false

/-! ### impl_GetRecord: function 16 -/
mutual
def impl_GetRecord.j0 : Nat → List Int → ByteArray → Int → Option (ByteArray × Int × Int × Int × ByteArray × ByteArray × Int × Int)
 | 0, _, _, _ => none
 | k + 1, x0, x7, x8 => if (wrap64 ((x0.length : Int) - x8)) < 10 then (some ((⟨#[]⟩ : ByteArray), 0, 0, 0, (⟨#[]⟩ : ByteArray), (⟨#[]⟩ : ByteArray), 0, 1)) else (impl_GetRecord.j1 k x0 x7 x8)
def impl_GetRecord.j1 : Nat → List Int → ByteArray → Int → Option (ByteArray × Int × Int × Int × ByteArray × ByteArray × Int × Int)
 | 0, _, _, _ => none
 | k + 1, x0, x7, x8 => (impl_Get2.f k x0 x8).bind fun bt179 => ((impl_Get2.f k x0 (wrap64 (x8 + 2))).bind fun bt181 => ((impl_Get4.f k x0 (wrap64 (x8 + 4))).bind fun bt183 => ((impl_Get2.f k x0 (wrap64 (x8 + 8))).bind fun bt185 => ((impl_GetData.f k x0 (wrap64 (x8 + 10)) bt185.1 bt179.1).bind fun bt187 => (if bt187.2.2.2.2.2.2 = 0 then (impl_GetRecord.j2 k x7 x8 bt181.1 bt183.1 bt183.2 bt185.1 bt187.1 bt187.2.1 bt187.2.2.1 bt187.2.2.2.1 bt187.2.2.2.2.1 bt187.2.2.2.2.2.1) else (some ((⟨#[]⟩ : ByteArray), 0, 0, 0, (⟨#[]⟩ : ByteArray), (⟨#[]⟩ : ByteArray), 0, bt187.2.2.2.2.2.2)))))))
def impl_GetRecord.j2 : Nat → ByteArray → Int → Int → Int → Bool → Int → ByteArray → Int → Int → Int → ByteArray → ByteArray → Option (ByteArray × Int × Int × Int × ByteArray × ByteArray × Int × Int)
 | 0, _, _, _, _, _, _, _, _, _, _, _, _ => none
 | k + 1, x7, x8, x12, x14, x15, x16, x195000, x195001, x195002, x195003, x195004, x195005 => if x12 = 1 then (if x15 = true then ((impl_RecordOk.f k x7 x195001 x14 x195003 x195004 x195005).bind fun t195 => (impl_GetRecord.j3 k x8 x16 (!t195) x7 x195001 x14 x195003 x195004 x195005)) else (impl_GetRecord.j3 k x8 x16 true x7 x195001 x14 x195003 x195004 x195005)) else (impl_GetRecord.j3 k x8 x16 true x7 x195001 x14 x195003 x195004 x195005)
def impl_GetRecord.j3 : Nat → Int → Int → Bool → ByteArray → Int → Int → Int → ByteArray → ByteArray → Option (ByteArray × Int × Int × Int × ByteArray × ByteArray × Int × Int)
 | 0, _, _, _, _, _, _, _, _, _ => none
 | k + 1, x8, x16, x90, x195000, x195001, x195002, x195003, x195004, x195005 => if x90 = true then (some ((⟨#[]⟩ : ByteArray), 0, 0, 0, (⟨#[]⟩ : ByteArray), (⟨#[]⟩ : ByteArray), 0, 2)) else (some (x195000, x195001, x195002, x195003, x195004, x195005, wrap64 ((wrap64 (x8 + 10)) + x16), 0))
end
def impl_GetRecord.f (k : Nat) (l0 : List Int) (a1 : Int) : Option (ByteArray × Int × Int × Int × ByteArray × ByteArray × Int × Int) := (impl_GetName.f k l0 a1).bind fun bt176 => (if bt176.2.2 = 0 then (impl_GetRecord.j0 k l0 bt176.1 bt176.2.1) else (some ((⟨#[]⟩ : ByteArray), 0, 0, 0, (⟨#[]⟩ : ByteArray), (⟨#[]⟩ : ByteArray), 0, bt176.2.2)))
theorem impl_GetRecord.mono_l : ∀ k, (∀ y0 y1 y2, LeO (impl_GetRecord.j0 k y0 y1 y2) (impl_GetRecord.j0 (k + 1) y0 y1 y2)) ∧ (∀ y0 y1 y2, LeO (impl_GetRecord.j1 k y0 y1 y2) (impl_GetRecord.j1 (k + 1) y0 y1 y2)) ∧ (∀ y0 y1 y2 y3 y4 y5 y6 y7 y8 y9 y10 y11, LeO (impl_GetRecord.j2 k y0 y1 y2 y3 y4 y5 y6 y7 y8 y9 y10 y11) (impl_GetRecord.j2 (k + 1) y0 y1 y2 y3 y4 y5 y6 y7 y8 y9 y10 y11)) ∧ (∀ y0 y1 y2 y3 y4 y5 y6 y7 y8, LeO (impl_GetRecord.j3 k y0 y1 y2 y3 y4 y5 y6 y7 y8) (impl_GetRecord.j3 (k + 1) y0 y1 y2 y3 y4 y5 y6 y7 y8))
 | 0 => ⟨fun _ _ _ r h => by simp [impl_GetRecord.j0] at h, fun _ _ _ r h => by simp [impl_GetRecord.j1] at h, fun _ _ _ _ _ _ _ _ _ _ _ _ r h => by simp [impl_GetRecord.j2] at h, fun _ _ _ _ _ _ _ _ _ r h => by simp [impl_GetRecord.j3] at h⟩
 | k + 1 => by
  obtain ⟨ih0, ih1, ih2, ih3⟩ := impl_GetRecord.mono_l k
  refine ⟨?_, ?_, ?_, ?_⟩
  ·intro y0 y1 y2
   unfold impl_GetRecord.j0
   repeat' first
   | (with_reducible first | exact ih0 _ _ _ | exact ih1 _ _ _ | exact ih2 _ _ _ _ _ _ _ _ _ _ _ _ | exact ih3 _ _ _ _ _ _ _ _ _ | exact impl_Get2.mono _ _ _ | exact impl_Get4.mono _ _ _ | exact impl_GetData.mono _ _ _ _ _ | exact impl_GetName.mono _ _ _ | exact impl_RecordOk.mono _ _ _ _ _ _ _ | exact LeO.refl _ | exact LeO.none _ | refine LeO.ite ?_ ?_ | refine LeO.bind ?_ (fun _ => ?_))
   | exact ih0 _ _ _
   | exact ih1 _ _ _
   | exact ih2 _ _ _ _ _ _ _ _ _ _ _ _
   | exact ih3 _ _ _ _ _ _ _ _ _
   | exact impl_Get2.mono _ _ _
   | exact impl_Get4.mono _ _ _
   | exact impl_GetData.mono _ _ _ _ _
   | exact impl_GetName.mono _ _ _
   | exact impl_RecordOk.mono _ _ _ _ _ _ _
   | exact LeO.none _
   | refine LeO.ite ?_ ?_
   | refine LeO.bind ?_ (fun _ => ?_)
  ·intro y0 y1 y2
   unfold impl_GetRecord.j1
   repeat' first
   | (with_reducible first | exact ih0 _ _ _ | exact ih1 _ _ _ | exact ih2 _ _ _ _ _ _ _ _ _ _ _ _ | exact ih3 _ _ _ _ _ _ _ _ _ | exact impl_Get2.mono _ _ _ | exact impl_Get4.mono _ _ _ | exact impl_GetData.mono _ _ _ _ _ | exact impl_GetName.mono _ _ _ | exact impl_RecordOk.mono _ _ _ _ _ _ _ | exact LeO.refl _ | exact LeO.none _ | refine LeO.ite ?_ ?_ | refine LeO.bind ?_ (fun _ => ?_))
   | exact ih0 _ _ _
   | exact ih1 _ _ _
   | exact ih2 _ _ _ _ _ _ _ _ _ _ _ _
   | exact ih3 _ _ _ _ _ _ _ _ _
   | exact impl_Get2.mono _ _ _
   | exact impl_Get4.mono _ _ _
   | exact impl_GetData.mono _ _ _ _ _
   | exact impl_GetName.mono _ _ _
   | exact impl_RecordOk.mono _ _ _ _ _ _ _
   | exact LeO.none _
   | refine LeO.ite ?_ ?_
   | refine LeO.bind ?_ (fun _ => ?_)
  ·intro y0 y1 y2 y3 y4 y5 y6 y7 y8 y9 y10 y11
   unfold impl_GetRecord.j2
   repeat' first
   | (with_reducible first | exact ih0 _ _ _ | exact ih1 _ _ _ | exact ih2 _ _ _ _ _ _ _ _ _ _ _ _ | exact ih3 _ _ _ _ _ _ _ _ _ | exact impl_Get2.mono _ _ _ | exact impl_Get4.mono _ _ _ | exact impl_GetData.mono _ _ _ _ _ | exact impl_GetName.mono _ _ _ | exact impl_RecordOk.mono _ _ _ _ _ _ _ | exact LeO.refl _ | exact LeO.none _ | refine LeO.ite ?_ ?_ | refine LeO.bind ?_ (fun _ => ?_))
   | exact ih0 _ _ _
   | exact ih1 _ _ _
   | exact ih2 _ _ _ _ _ _ _ _ _ _ _ _
   | exact ih3 _ _ _ _ _ _ _ _ _
   | exact impl_Get2.mono _ _ _
   | exact impl_Get4.mono _ _ _
   | exact impl_GetData.mono _ _ _ _ _
   | exact impl_GetName.mono _ _ _
   | exact impl_RecordOk.mono _ _ _ _ _ _ _
   | exact LeO.none _
   | refine LeO.ite ?_ ?_
   | refine LeO.bind ?_ (fun _ => ?_)
  ·intro y0 y1 y2 y3 y4 y5 y6 y7 y8
   unfold impl_GetRecord.j3
   repeat' first
   | (with_reducible first | exact ih0 _ _ _ | exact ih1 _ _ _ | exact ih2 _ _ _ _ _ _ _ _ _ _ _ _ | exact ih3 _ _ _ _ _ _ _ _ _ | exact impl_Get2.mono _ _ _ | exact impl_Get4.mono _ _ _ | exact impl_GetData.mono _ _ _ _ _ | exact impl_GetName.mono _ _ _ | exact impl_RecordOk.mono _ _ _ _ _ _ _ | exact LeO.refl _ | exact LeO.none _ | refine LeO.ite ?_ ?_ | refine LeO.bind ?_ (fun _ => ?_))
   | exact ih0 _ _ _
   | exact ih1 _ _ _
   | exact ih2 _ _ _ _ _ _ _ _ _ _ _ _
   | exact ih3 _ _ _ _ _ _ _ _ _
   | exact impl_Get2.mono _ _ _
   | exact impl_Get4.mono _ _ _
   | exact impl_GetData.mono _ _ _ _ _
   | exact impl_GetName.mono _ _ _
   | exact impl_RecordOk.mono _ _ _ _ _ _ _
   | exact LeO.none _
   | refine LeO.ite ?_ ?_
   | refine LeO.bind ?_ (fun _ => ?_)
theorem impl_GetRecord.mono : ∀ a0 a1 k, LeO (impl_GetRecord.f k a0 a1) (impl_GetRecord.f (k + 1) a0 a1) := by
 intro a0 a1 k
 obtain ⟨ih0, ih1, ih2, ih3⟩ := impl_GetRecord.mono_l k
 unfold impl_GetRecord.f
 repeat' first
   | (with_reducible first | exact ih0 _ _ _ | exact ih1 _ _ _ | exact ih2 _ _ _ _ _ _ _ _ _ _ _ _ | exact ih3 _ _ _ _ _ _ _ _ _ | exact impl_Get2.mono _ _ _ | exact impl_Get4.mono _ _ _ | exact impl_GetData.mono _ _ _ _ _ | exact impl_GetName.mono _ _ _ | exact impl_RecordOk.mono _ _ _ _ _ _ _ | exact LeO.refl _ | exact LeO.none _ | refine LeO.ite ?_ ?_ | refine LeO.bind ?_ (fun _ => ?_))
   | exact ih0 _ _ _
   | exact ih1 _ _ _
   | exact ih2 _ _ _ _ _ _ _ _ _ _ _ _
   | exact ih3 _ _ _ _ _ _ _ _ _
   | exact impl_Get2.mono _ _ _
   | exact impl_Get4.mono _ _ _
   | exact impl_GetData.mono _ _ _ _ _
   | exact impl_GetName.mono _ _ _
   | exact impl_RecordOk.mono _ _ _ _ _ _ _
   | exact LeO.none _
   | refine LeO.ite ?_ ?_
   | refine LeO.bind ?_ (fun _ => ?_)
set_option maxHeartbeats 8000000 in
set_option maxRecDepth 100000 in
theorem impl_GetRecord.calls (k : Nat) (A0 : Option Addr) (c0 : Nat) (l0 : List Int) (a1 : Int) (r1 : ByteArray) (r2 : Int) (r3 : Int) (r4 : Int) (r5 : ByteArray) (r6 : ByteArray) (r7 : Int) (r8 : Int) (w : World) (hr0 : Kd.C (Kd.int .u8) w A0 l0.length l0) (hc0 : l0.length ≤ c0) (h : impl_GetRecord.f k l0 a1 = some (r1, r2, r3, r4, r5, r6, r7, r8)) :
  Calls Tryd.prog 16 #[.slice A0 l0.length c0, .int .i64 a1] w fun e w' => e = .returned (.tuple #[.agg #[.string r1, .int .i64 r2, .int .i64 r3, .int .i64 r4, .string r5, .string r6], .int .i64 r7, .int .i64 r8]) ∧ Below w.heap.size w w' := by
 have hu25 := Tryd.underlying25
 have HR0 := aS hr0
 have HC0 := aS hc0
 clear hr0 hc0
 have HB := aS (Below.refl w.heap.size w)
 have H : ((impl_GetName.f k l0 a1).bind fun bt176 => (if bt176.2.2 = 0 then (impl_GetRecord.j0 k l0 bt176.1 bt176.2.1) else (some ((⟨#[]⟩ : ByteArray), 0, 0, 0, (⟨#[]⟩ : ByteArray), (⟨#[]⟩ : ByteArray), 0, bt176.2.2)))) = some (r1, r2, r3, r4, r5, r6, r7, r8) := h
 clear h
 obtain ⟨⟨t176, t177, t178⟩, A3, H⟩ := bM H
 try dsimp only at H
 have HC4 := aS H
 clear H
 go_enter Tryd.func16, Tryd.ntmps16
 go_upto_if 27 with (first | ((with_reducible refine gate_dst (N := 4) rfl ?_); refine box_event ?hg (N := 4) ?hd (cs := #[.string (⟨#[]⟩ : ByteArray), .int .i64 0, .int .i64 0, .int .i64 0, .string (⟨#[]⟩ : ByteArray), .string (⟨#[]⟩ : ByteArray)]) (t := 25) ?hr ?_; (case hd => rfl); (case hg => rfl); (case hr => first | (go_simp; done) | (go_simp; rfl)); intro gb175 hg w5 hbox hb; have BK175 := aS (hbox); have GW175 := aS ((by rw [hg]; exact (below_size (wU HB.out)) : w.heap.size ≤ gb175)); have GE175 := aS ((by rw [hg]; exact (below_size (wU HB.out)) : w.heap.size ≤ gb175)); replace HB := aS (below_step (wU HB.out) hb); clear hb hbox hg) | ((with_reducible refine gate_callee (f := 71) rfl ?_); refine goesL_ (some 22) rfl rfl Tryd.func71 jK rfl #[.slice A0 l0.length c0, .int .i64 a1] rfl jA ?_; (with_reducible refine (impl_GetName.calls k _ _ l0 a1 t176 t177 t178 _ ?side1 ?side2 A3.out).mono ?_); (case side1 => exact cU ((Kd.C_below HR0.out HB.out))); (case side2 => exact HC0.out); rintro e w6 ⟨rfl, hb⟩; refine ⟨_, rfl, ?_⟩; replace BK175 := aS (blk_below (bU BK175.out) hb); replace HB := aS (below_step (wS1 HB.out GE175.out) hb); clear hb))
 (try simp only [Act.put, List.setIfInBounds_toArray, List.set_cons_zero, List.set_cons_succ])
 go_cut [] (fun wc => ∃ (kq : Nat) (x176000_3 : ByteArray) (x176001_3 : Int) (x176002_3 : Int) (x176003_3 : Int) (x176004_3 : ByteArray) (x176005_3 : ByteArray), Aside0 (impl_GetRecord.j0 kq l0 t176 t177 = some (r1, r2, r3, r4, r5, r6, r7, r8)) ∧ Aside0 (kq ≤ k) ∧ Aside0 (wc.heap[gb175]? = some (.cells #[.string x176000_3, .int .i64 x176001_3, .int .i64 x176002_3, .int .i64 x176003_3, .string x176004_3, .string x176005_3] 25 (0, 0))) ∧ Aside0 (Below w.heap.size w wc))
 case first =>
  have H := HC4.out
  clear HC4
  by_cases c7 : t178 = 0
  ·rw [if_pos c7] at H
   have c7b0 := beq_iff_eq.mpr c7
   have c7b1 := bne_eq_false_iff_eq.mpr c7
   clear c7
   (first | rw [c7b0] | (simp only [i64_w, i32_w]; rw [c7b0]) | skip)
   have H' := aS H
   clear H
   go_wp2
   go_meet
   case rel => exact ⟨_, ((⟨#[]⟩ : ByteArray)), (0), (0), (0), ((⟨#[]⟩ : ByteArray)), ((⟨#[]⟩ : ByteArray)), H', ⟨by first | omega | exact Nat.le_refl _⟩, ⟨by exact bU BK175.out⟩, ⟨by exact wS1 HB.out GE175.out⟩⟩
  ·rw [if_neg c7] at H
   have c7b0 := beq_eq_false_iff_ne.mpr c7
   have c7b1 := bne_iff_ne.mpr c7
   (first | rw [c7b0] | (simp only [i64_w, i32_w]; rw [c7b0]) | skip)
   simp only [Option.some.injEq, Prod.mk.injEq] at H
   obtain ⟨rfl, rfl, rfl, rfl, rfl, rfl, rfl, rfl⟩ := H
   have hcz8 := cells6f BK175.out
   go_wp2
   refine bodyPost_ret (results_ctt rfl _ _ gb175 25 #[.string (⟨#[]⟩ : ByteArray), .int .i64 0, .int .i64 0, .int .i64 0, .string (⟨#[]⟩ : ByteArray), .string (⟨#[]⟩ : ByteArray)] (0, 0) _ rfl (by (with_reducible repeat (first | refine blk_drewN ?_ _ | refine blk_drew ?_ | refine blk_alloc ?_ _)); refine blk_put_6 (.string (⟨#[]⟩ : ByteArray)) (.int .i64 0) (.int .i64 0) (.int .i64 0) (.string (⟨#[]⟩ : ByteArray)) (.string (⟨#[]⟩ : ByteArray)) ?_; exact bU BK175.out) Tryd.underlying25 rfl jK) rfl ?_
   exact ⟨jE, by exact wS1 HB.out GE175.out⟩
 case rest =>
  clear HC4
  try clear c1
  try clear p2
  try clear c7
  try clear c7b0
  try clear c7b1
  try clear hcz8
  obtain ⟨kq, x176000_3, x176001_3, x176002_3, x176003_3, x176004_3, x176005_3, HA, HJ3, BK175, HB⟩ := hcut
  cases kq with
  | zero => exact absurd HA.out (by simp [impl_GetRecord.j0])
  | succ kj3 =>
   have H := HA.out
   clear HA
   simp only [impl_GetRecord.j0] at H
   have HC9 := aS H
   clear H
   go_upto_if 34 with (fail)
   go_cut [] (fun wc => ∃ (kq : Nat) (x176000_8 : ByteArray) (x176001_8 : Int) (x176002_8 : Int) (x176003_8 : Int) (x176004_8 : ByteArray) (x176005_8 : ByteArray), Aside0 (impl_GetRecord.j1 kq l0 t176 t177 = some (r1, r2, r3, r4, r5, r6, r7, r8)) ∧ Aside0 (kq ≤ kj3) ∧ Aside0 (wc.heap[gb175]? = some (.cells #[.string x176000_8, .int .i64 x176001_8, .int .i64 x176002_8, .int .i64 x176003_8, .string x176004_8, .string x176005_8] 25 (0, 0))) ∧ Aside0 (Below w.heap.size w wc))
   case first =>
    have H := HC9.out
    clear HC9
    by_cases c10 : (wrap64 ((l0.length : Int) - t177)) < 10
    ·rw [if_pos c10] at H
     have c10b0 := decide_eq_true c10
     clear c10
     (first | rw [c10b0] | (simp only [i64_w, i32_w]; rw [c10b0]) | skip)
     simp only [Option.some.injEq, Prod.mk.injEq] at H
     obtain ⟨rfl, rfl, rfl, rfl, rfl, rfl, rfl, rfl⟩ := H
     have hcz11 := cells6f BK175.out
     go_wp2
     refine bodyPost_ret (results_ctt rfl _ _ gb175 25 #[.string (⟨#[]⟩ : ByteArray), .int .i64 0, .int .i64 0, .int .i64 0, .string (⟨#[]⟩ : ByteArray), .string (⟨#[]⟩ : ByteArray)] (0, 0) _ rfl (by (with_reducible repeat (first | refine blk_drewN ?_ _ | refine blk_drew ?_ | refine blk_alloc ?_ _)); refine blk_put_6 (.string x176000_3) (.int .i64 x176001_3) (.int .i64 x176002_3) (.int .i64 x176003_3) (.string x176004_3) (.string x176005_3) ?_; exact bU BK175.out) Tryd.underlying25 rfl jK) rfl ?_
     exact ⟨jE, by exact wS1 HB.out GE175.out⟩
    ·rw [if_neg c10] at H
     have c10b0 := decide_eq_false c10
     clear c10
     (first | rw [c10b0] | (simp only [i64_w, i32_w]; rw [c10b0]) | skip)
     have H' := aS H
     clear H
     go_wp2
     go_meet
     case rel => exact ⟨_, (x176000_3), (x176001_3), (x176002_3), (x176003_3), (x176004_3), (x176005_3), H', ⟨by have := HJ3.out; first | omega | exact Nat.le_refl _⟩, ⟨by exact bU BK175.out⟩, ⟨by exact wS1 HB.out GE175.out⟩⟩
   case rest =>
    clear HC9
    try clear c1
    try clear p2
    try clear p6
    try clear c7
    try clear c7b0
    try clear c7b1
    try clear c10
    try clear c10b0
    try clear hcz11
    try clear hcz8
    try clear p2
    obtain ⟨kq, x176000_8, x176001_8, x176002_8, x176003_8, x176004_8, x176005_8, HA, HJ8, BK175, HB⟩ := hcut
    cases kq with
    | zero => exact absurd HA.out (by simp [impl_GetRecord.j1])
    | succ kj8 =>
     have H := HA.out
     clear HA
     simp only [impl_GetRecord.j1] at H
     obtain ⟨⟨t179, t180⟩, A12, H⟩ := bM H
     try dsimp only at H
     obtain ⟨⟨t181, t182⟩, A13, H⟩ := bM H
     try dsimp only at H
     obtain ⟨⟨t183, t184⟩, A14, H⟩ := bM H
     try dsimp only at H
     obtain ⟨⟨t185, t186⟩, A15, H⟩ := bM H
     try dsimp only at H
     obtain ⟨⟨t187, t188, t189, t190, t191, t192, t193⟩, A16, H⟩ := bM H
     try dsimp only at H
     have HC17 := aS H
     clear H
     go_upto_if 73 with (first | ((with_reducible refine gate_callee (f := 72) rfl ?_); refine goesL_ (some 39) rfl rfl Tryd.func72 jK rfl #[.slice A0 l0.length c0, .int .i64 t177] rfl jA ?_; (with_reducible refine (impl_Get2.calls kj8 _ _ l0 t177 t179 t180 _ ?side1 ?side2 A12.out).mono ?_); (case side1 => exact cU ((Kd.C_below HR0.out HB.out))); (case side2 => exact HC0.out); rintro e w' ⟨rfl, ⟨nd, rfl⟩⟩; refine ⟨_, rfl, ?_⟩; (try (rw [drewN_self wc]; generalize hq_ : World.drewN wc _ = wc; have n0_ : Aside0 (wc.heap[gb175]? = some (.cells #[.string x176000_8, .int .i64 x176001_8, .int .i64 x176002_8, .int .i64 x176003_8, .string x176004_8, .string x176005_8] 25 (0, 0))) := ⟨by rw [← hq_]; exact (bU BK175.out)⟩; have n1_ : Aside0 (Below w.heap.size w wc) := ⟨by rw [← hq_]; exact (wS1 HB.out GE175.out)⟩; clear BK175 HB hq_; revert n0_ n1_; intro BK175 HB))) | ((with_reducible refine gate_callee (f := 72) rfl ?_); refine goesL_ (some 46) rfl rfl Tryd.func72 jK rfl #[.slice A0 l0.length c0, .int .i64 (wrap64 (t177 + 2))] rfl jA ?_; (with_reducible refine (impl_Get2.calls kj8 _ _ l0 (wrap64 (t177 + 2)) t181 t182 _ ?side1 ?side2 A13.out).mono ?_); (case side1 => exact cU ((Kd.C_below HR0.out HB.out))); (case side2 => exact HC0.out); rintro e w' ⟨rfl, ⟨nd, rfl⟩⟩; refine ⟨_, rfl, ?_⟩; (try (rw [drewN_self wc]; generalize hq_ : World.drewN wc _ = wc; have n0_ : Aside0 (wc.heap[gb175]? = some (.cells #[.string x176000_8, .int .i64 x176001_8, .int .i64 x176002_8, .int .i64 x176003_8, .string x176004_8, .string x176005_8] 25 (0, 0))) := ⟨by rw [← hq_]; exact (bU BK175.out)⟩; have n1_ : Aside0 (Below w.heap.size w wc) := ⟨by rw [← hq_]; exact (wS1 HB.out GE175.out)⟩; clear BK175 HB hq_; revert n0_ n1_; intro BK175 HB))) | ((with_reducible refine gate_callee (f := 73) rfl ?_); refine goesL_ (some 53) rfl rfl Tryd.func73 jK rfl #[.slice A0 l0.length c0, .int .i64 (wrap64 (t177 + 4))] rfl jA ?_; (with_reducible refine (impl_Get4.calls kj8 _ _ l0 (wrap64 (t177 + 4)) t183 t184 _ ?side1 ?side2 A14.out).mono ?_); (case side1 => exact cU ((Kd.C_below HR0.out HB.out))); (case side2 => exact HC0.out); rintro e w' ⟨rfl, ⟨nd, rfl⟩⟩; refine ⟨_, rfl, ?_⟩; (try (rw [drewN_self wc]; generalize hq_ : World.drewN wc _ = wc; have n0_ : Aside0 (wc.heap[gb175]? = some (.cells #[.string x176000_8, .int .i64 x176001_8, .int .i64 x176002_8, .int .i64 x176003_8, .string x176004_8, .string x176005_8] 25 (0, 0))) := ⟨by rw [← hq_]; exact (bU BK175.out)⟩; have n1_ : Aside0 (Below w.heap.size w wc) := ⟨by rw [← hq_]; exact (wS1 HB.out GE175.out)⟩; clear BK175 HB hq_; revert n0_ n1_; intro BK175 HB))) | ((with_reducible refine gate_callee (f := 72) rfl ?_); refine goesL_ (some 60) rfl rfl Tryd.func72 jK rfl #[.slice A0 l0.length c0, .int .i64 (wrap64 (t177 + 8))] rfl jA ?_; (with_reducible refine (impl_Get2.calls kj8 _ _ l0 (wrap64 (t177 + 8)) t185 t186 _ ?side1 ?side2 A15.out).mono ?_); (case side1 => exact cU ((Kd.C_below HR0.out HB.out))); (case side2 => exact HC0.out); rintro e w' ⟨rfl, ⟨nd, rfl⟩⟩; refine ⟨_, rfl, ?_⟩; (try (rw [drewN_self wc]; generalize hq_ : World.drewN wc _ = wc; have n0_ : Aside0 (wc.heap[gb175]? = some (.cells #[.string x176000_8, .int .i64 x176001_8, .int .i64 x176002_8, .int .i64 x176003_8, .string x176004_8, .string x176005_8] 25 (0, 0))) := ⟨by rw [← hq_]; exact (bU BK175.out)⟩; have n1_ : Aside0 (Below w.heap.size w wc) := ⟨by rw [← hq_]; exact (wS1 HB.out GE175.out)⟩; clear BK175 HB hq_; revert n0_ n1_; intro BK175 HB))) | ((with_reducible refine gate_callee (f := 17) rfl ?_); refine goesL_ (some 69) rfl rfl Tryd.func17 jK rfl #[.slice A0 l0.length c0, .int .i64 (wrap64 (t177 + 10)), .int .i64 t185, .int .i64 t179] rfl jA ?_; (with_reducible refine (impl_GetData.calls kj8 _ _ l0 (wrap64 (t177 + 10)) t185 t179 t187 t188 t189 t190 t191 t192 t193 _ ?side1 ?side2 A16.out).mono ?_); (case side1 => exact cU ((Kd.C_below HR0.out HB.out))); (case side2 => exact HC0.out); rintro e w18 ⟨rfl, hb⟩; refine ⟨_, rfl, ?_⟩; replace BK175 := aS (blk_below (bU BK175.out) hb); replace HB := aS (below_step (wS1 HB.out GE175.out) hb); clear hb) | ((with_reducible refine gate_dst (N := 18) rfl ?_); refine box_event ?hg (N := 18) ?hd (cs := #[.string (⟨#[]⟩ : ByteArray), .int .i64 0, .int .i64 0, .int .i64 0, .string (⟨#[]⟩ : ByteArray), .string (⟨#[]⟩ : ByteArray)]) (t := 25) ?hr ?_; (case hd => rfl); (case hg => rfl); (case hr => first | (go_simp; done) | (go_simp; rfl)); intro gb194 hg w19 hbox hb; have BK194 := aS (hbox); have GW194 := aS ((by rw [hg]; exact (below_size (wS1 HB.out GE175.out)) : w.heap.size ≤ gb194)); have GE194 := aS ((by rw [hg]; exact (below_size (wS1 HB.out GE175.out)) : w.heap.size ≤ gb194)); replace HB := aS (below_step (wS1 HB.out GE175.out) hb); have NB175_194 := aS ((by rw [hg]; exact Nat.ne_of_lt (blk_lt (bU BK175.out)) : gb175 ≠ gb194)); have NB194_175 := aS ((by rw [hg]; exact Nat.ne_of_gt (blk_lt (bU BK175.out)) : gb194 ≠ gb175)); replace BK175 := aS (blk_below (bU BK175.out) hb); clear hb hbox hg; have hnb20 := NB194_175.out; have hnc20 := NB175_194.out; have hcz21 := cells6f BK194.out))
     (try simp only [Act.put, List.setIfInBounds_toArray, List.set_cons_zero, List.set_cons_succ])
     go_cut [] (fun wc => ∃ (kq : Nat) (x176000_16 : ByteArray) (x176001_16 : Int) (x176002_16 : Int) (x176003_16 : Int) (x176004_16 : ByteArray) (x176005_16 : ByteArray), Aside0 (impl_GetRecord.j2 kq t176 t177 t181 t183 t184 t185 t187 t188 t189 t190 t191 t192 = some (r1, r2, r3, r4, r5, r6, r7, r8)) ∧ Aside0 (kq ≤ kj8) ∧ Aside0 (wc.heap[gb175]? = some (.cells #[.string x176000_16, .int .i64 x176001_16, .int .i64 x176002_16, .int .i64 x176003_16, .string x176004_16, .string x176005_16] 25 (0, 0))) ∧ Aside0 (wc.heap[gb194]? = some (.cells #[.string t187, .int .i64 t188, .int .i64 t189, .int .i64 t190, .string t191, .string t192] 25 (0, 0))) ∧ Aside0 (Below w.heap.size w wc))
     case first =>
      have H := HC17.out
      clear HC17
      by_cases c22 : t193 = 0
      ·rw [if_pos c22] at H
       have c22b0 := beq_iff_eq.mpr c22
       have c22b1 := bne_eq_false_iff_eq.mpr c22
       clear c22
       (first | rw [c22b0] | (simp only [i64_w, i32_w]; rw [c22b0]) | skip)
       have H' := aS H
       clear H
       go_wp2
       go_meet
       case rel => exact ⟨_, (x176000_8), (x176001_8), (x176002_8), (x176003_8), (x176004_8), (x176005_8), H', ⟨by have := HJ3.out; have := HJ8.out; first | omega | exact Nat.le_refl _⟩, ⟨by (iterate 6 ((with_reducible repeat (first | refine blk_drewN ?_ _ | refine blk_drew ?_ | refine blk_alloc ?_ _)); refine blk_far ?_ NB175_194.out _)); exact bU BK175.out⟩, ⟨by (with_reducible repeat (first | refine blk_drewN ?_ _ | refine blk_drew ?_ | refine blk_alloc ?_ _)); refine blk_put_6 (.string (⟨#[]⟩ : ByteArray)) (.int .i64 0) (.int .i64 0) (.int .i64 0) (.string (⟨#[]⟩ : ByteArray)) (.string (⟨#[]⟩ : ByteArray)) ?_; exact bU BK194.out⟩, ⟨by exact wS2 HB.out GE175.out GE194.out⟩⟩
      ·rw [if_neg c22] at H
       have c22b0 := beq_eq_false_iff_ne.mpr c22
       have c22b1 := bne_iff_ne.mpr c22
       (first | rw [c22b0] | (simp only [i64_w, i32_w]; rw [c22b0]) | skip)
       simp only [Option.some.injEq, Prod.mk.injEq] at H
       obtain ⟨rfl, rfl, rfl, rfl, rfl, rfl, rfl, rfl⟩ := H
       have hnb23 := NB175_194.out
       have hnc23 := NB194_175.out
       have hcz24 := cells6f BK175.out
       go_wp2
       refine bodyPost_ret (results_ctt rfl _ _ gb175 25 #[.string (⟨#[]⟩ : ByteArray), .int .i64 0, .int .i64 0, .int .i64 0, .string (⟨#[]⟩ : ByteArray), .string (⟨#[]⟩ : ByteArray)] (0, 0) _ rfl (by (with_reducible repeat (first | refine blk_drewN ?_ _ | refine blk_drew ?_ | refine blk_alloc ?_ _)); refine blk_put_6 (.string x176000_8) (.int .i64 x176001_8) (.int .i64 x176002_8) (.int .i64 x176003_8) (.string x176004_8) (.string x176005_8) ?_; (iterate 6 ((with_reducible repeat (first | refine blk_drewN ?_ _ | refine blk_drew ?_ | refine blk_alloc ?_ _)); refine blk_far ?_ NB175_194.out _)); exact bU BK175.out) Tryd.underlying25 rfl jK) rfl ?_
       exact ⟨jE, by exact wS2 HB.out GE175.out GE194.out⟩
     case rest =>
      clear HC17
      try clear c1
      try clear c2
      try clear p2
      try clear p6
      try clear c7
      try clear c7b0
      try clear c7b1
      try clear c10
      try clear c10b0
      try clear c16
      try clear c17
      try clear c20
      try clear c22
      try clear c22b0
      try clear c22b1
      try clear c23
      try clear hcz11
      try clear hcz21
      try clear hcz24
      try clear hcz8
      try clear p2
      try clear p6
      obtain ⟨kq, x176000_16, x176001_16, x176002_16, x176003_16, x176004_16, x176005_16, HA, HJ16, BK175, BK194, HB⟩ := hcut
      cases kq with
      | zero => exact absurd HA.out (by simp [impl_GetRecord.j2])
      | succ kj16 =>
       have H := HA.out
       clear HA
       simp only [impl_GetRecord.j2] at H
       have HC25 := aS H
       clear H
       have hnb26 := NB194_175.out
       have hnc26 := NB175_194.out
       have hcz27 := cells6f BK194.out
       go_upto_region 15 with (fail)
       go_cut [90] (fun v90 wc => ∃ (kq : Nat) (x90_24 : Bool), v90 = .bool x90_24 ∧ Aside0 (impl_GetRecord.j3 kq t177 t185 x90_24 t176 t188 t183 t190 t191 t192 = some (r1, r2, r3, r4, r5, r6, r7, r8)) ∧ Aside0 (kq ≤ kj16) ∧ Aside0 (wc.heap[gb175]? = some (.cells #[.string x176000_16, .int .i64 x176001_16, .int .i64 x176002_16, .int .i64 x176003_16, .string x176004_16, .string x176005_16] 25 (0, 0))) ∧ Aside0 (wc.heap[gb194]? = some (.cells #[.string t176, .int .i64 t188, .int .i64 t183, .int .i64 t190, .string t191, .string t192] 25 (0, 0))) ∧ Aside0 (Below w.heap.size w wc))
       case first =>
        have H := HC25.out
        clear HC25
        by_cases c28 : t181 = 1
        ·rw [if_pos c28] at H
         have c28b0 := beq_iff_eq.mpr c28
         have c28b1 := bne_eq_false_iff_eq.mpr c28
         clear c28
         (first | rw [c28b0] | (simp only [i64_w, i32_w]; rw [c28b0]) | skip)
         by_cases c29 : t184 = true
         ·subst c29
          rw [if_pos rfl] at H
          obtain ⟨t195, A30, H⟩ := bM H
          try dsimp only at H
          have H' := aS H
          clear H
          have hnb31 := NB194_175.out
          have hnc31 := NB175_194.out
          have hcz32 := cells6f BK194.out
          go_wp2_with (first | (go_at_call 15; (with_reducible refine (impl_RecordOk.calls kj16 t176 t188 t183 t190 t191 t192 t195 _ A30.out).mono ?_); rintro e w33 ⟨rfl, hb⟩; replace BK175 := aS (blk_below (g := gb175) (o := .cells #[.string x176000_16, .int .i64 x176001_16, .int .i64 x176002_16, .int .i64 x176003_16, .string x176004_16, .string x176005_16] 25 (0, 0)) (by (with_reducible repeat (first | refine blk_drewN ?_ _ | refine blk_drew ?_ | refine blk_alloc ?_ _)); refine blk_far ?_ NB175_194.out _; (with_reducible repeat (first | refine blk_drewN ?_ _ | refine blk_drew ?_ | refine blk_alloc ?_ _)); refine blk_far ?_ NB175_194.out _; exact bU BK175.out) hb); replace BK194 := aS (blk_below (g := gb194) (o := .cells #[.string t176, .int .i64 t188, .int .i64 t183, .int .i64 t190, .string t191, .string t192] 25 (0, 0)) (by (with_reducible repeat (first | refine blk_drewN ?_ _ | refine blk_drew ?_ | refine blk_alloc ?_ _)); refine blk_put (cs := #[.string t176, .int .i64 t188, .int .i64 t189, .int .i64 t190, .string t191, .string t192]) ?_ 2 _ rfl; (with_reducible repeat (first | refine blk_drewN ?_ _ | refine blk_drew ?_ | refine blk_alloc ?_ _)); refine blk_put (cs := #[.string t187, .int .i64 t188, .int .i64 t189, .int .i64 t190, .string t191, .string t192]) ?_ 0 _ rfl; exact bU BK194.out) hb); replace HB := aS (below_step (wS2 HB.out GE175.out GE194.out) hb); clear hb) | ((with_reducible show Oper.upon _ { dst := _, op := .load 25 _, type := 25, pos := _, after := _, guard := _ } _ _ _ _); simp (maxDischargeDepth := 20) [go_sem, *]))
          go_meet
          case rel => exact ⟨_, (!t195), jB, H', ⟨by have := HJ3.out; have := HJ8.out; have := HJ16.out; first | omega | exact Nat.le_refl _⟩, ⟨by exact bU BK175.out⟩, ⟨by exact bU BK194.out⟩, ⟨by exact wS2 HB.out GE175.out GE194.out⟩⟩
         ·replace c29 := Bool.eq_false_iff.mpr c29
          subst c29
          rw [if_neg Bool.false_ne_true] at H
          have H' := aS H
          clear H
          go_wp2
          go_meet
          case rel => exact ⟨_, (true), jB, H', ⟨by have := HJ3.out; have := HJ8.out; have := HJ16.out; first | omega | exact Nat.le_refl _⟩, ⟨by (with_reducible repeat (first | refine blk_drewN ?_ _ | refine blk_drew ?_ | refine blk_alloc ?_ _)); refine blk_far ?_ NB175_194.out _; (with_reducible repeat (first | refine blk_drewN ?_ _ | refine blk_drew ?_ | refine blk_alloc ?_ _)); refine blk_far ?_ NB175_194.out _; exact bU BK175.out⟩, ⟨by (with_reducible repeat (first | refine blk_drewN ?_ _ | refine blk_drew ?_ | refine blk_alloc ?_ _)); refine blk_put (cs := #[.string t176, .int .i64 t188, .int .i64 t189, .int .i64 t190, .string t191, .string t192]) ?_ 2 _ rfl; (with_reducible repeat (first | refine blk_drewN ?_ _ | refine blk_drew ?_ | refine blk_alloc ?_ _)); refine blk_put (cs := #[.string t187, .int .i64 t188, .int .i64 t189, .int .i64 t190, .string t191, .string t192]) ?_ 0 _ rfl; exact bU BK194.out⟩, ⟨by exact wS2 HB.out GE175.out GE194.out⟩⟩
        ·rw [if_neg c28] at H
         have c28b0 := beq_eq_false_iff_ne.mpr c28
         have c28b1 := bne_iff_ne.mpr c28
         (first | rw [c28b0] | (simp only [i64_w, i32_w]; rw [c28b0]) | skip)
         have H' := aS H
         clear H
         go_wp2
         go_meet
         case rel => exact ⟨_, (true), jB, H', ⟨by have := HJ3.out; have := HJ8.out; have := HJ16.out; first | omega | exact Nat.le_refl _⟩, ⟨by (with_reducible repeat (first | refine blk_drewN ?_ _ | refine blk_drew ?_ | refine blk_alloc ?_ _)); refine blk_far ?_ NB175_194.out _; (with_reducible repeat (first | refine blk_drewN ?_ _ | refine blk_drew ?_ | refine blk_alloc ?_ _)); refine blk_far ?_ NB175_194.out _; exact bU BK175.out⟩, ⟨by (with_reducible repeat (first | refine blk_drewN ?_ _ | refine blk_drew ?_ | refine blk_alloc ?_ _)); refine blk_put (cs := #[.string t176, .int .i64 t188, .int .i64 t189, .int .i64 t190, .string t191, .string t192]) ?_ 2 _ rfl; (with_reducible repeat (first | refine blk_drewN ?_ _ | refine blk_drew ?_ | refine blk_alloc ?_ _)); refine blk_put (cs := #[.string t187, .int .i64 t188, .int .i64 t189, .int .i64 t190, .string t191, .string t192]) ?_ 0 _ rfl; exact bU BK194.out⟩, ⟨by exact wS2 HB.out GE175.out GE194.out⟩⟩
       case rest =>
        clear HC25
        try clear c1
        try clear c2
        try clear p2
        try clear c3
        try clear p6
        try clear c7
        try clear c7b0
        try clear c7b1
        try clear c10
        try clear c10b0
        try clear c16
        try clear c17
        try clear c20
        try clear c22
        try clear c22b0
        try clear c22b1
        try clear c23
        try clear c26
        try clear c28
        try clear c28b0
        try clear c28b1
        try clear c29
        try clear c31
        try clear hcz11
        try clear hcz21
        try clear hcz24
        try clear hcz27
        try clear hcz32
        try clear hcz8
        try clear p2
        try clear p6
        obtain ⟨kq, x90_24, rfl, HA, HJ24, BK175, BK194, HB⟩ := hcut
        cases kq with
        | zero => exact absurd HA.out (by simp [impl_GetRecord.j3])
        | succ kj24 =>
         have H := HA.out
         clear HA
         simp only [impl_GetRecord.j3] at H
         by_cases c34 : x90_24 = true
         ·subst c34
          rw [if_pos rfl] at H
          simp only [Option.some.injEq, Prod.mk.injEq] at H
          obtain ⟨rfl, rfl, rfl, rfl, rfl, rfl, rfl, rfl⟩ := H
          have hnb35 := NB175_194.out
          have hnc35 := NB194_175.out
          have hcz36 := cells6f BK175.out
          go_wp2
          refine bodyPost_ret (results_ctt rfl _ _ gb175 25 #[.string (⟨#[]⟩ : ByteArray), .int .i64 0, .int .i64 0, .int .i64 0, .string (⟨#[]⟩ : ByteArray), .string (⟨#[]⟩ : ByteArray)] (0, 0) _ rfl (by (with_reducible repeat (first | refine blk_drewN ?_ _ | refine blk_drew ?_ | refine blk_alloc ?_ _)); refine blk_put_6 (.string x176000_16) (.int .i64 x176001_16) (.int .i64 x176002_16) (.int .i64 x176003_16) (.string x176004_16) (.string x176005_16) ?_; exact bU BK175.out) Tryd.underlying25 rfl jK) rfl ?_
          exact ⟨jE, by exact wS2 HB.out GE175.out GE194.out⟩
         ·replace c34 := Bool.eq_false_iff.mpr c34
          subst c34
          rw [if_neg Bool.false_ne_true] at H
          simp only [Option.some.injEq, Prod.mk.injEq] at H
          obtain ⟨rfl, rfl, rfl, rfl, rfl, rfl, rfl, rfl⟩ := H
          have hnb37 := NB194_175.out
          have hnc37 := NB175_194.out
          have hcz38 := cells6f BK194.out
          have hcz39 := cells6f BK175.out
          go_wp2
          refine bodyPost_ret (results_ctt rfl _ _ gb175 25 #[.string t176, .int .i64 t188, .int .i64 t183, .int .i64 t190, .string t191, .string t192] (0, 0) _ rfl (by (with_reducible repeat (first | refine blk_drewN ?_ _ | refine blk_drew ?_ | refine blk_alloc ?_ _)); refine blk_put_6 (.string x176000_16) (.int .i64 x176001_16) (.int .i64 x176002_16) (.int .i64 x176003_16) (.string x176004_16) (.string x176005_16) ?_; exact bU BK175.out) Tryd.underlying25 rfl jK) rfl ?_
          exact ⟨jE, by exact wS2 HB.out GE175.out GE194.out⟩

/-! ### spec_l1In: function 86 -/
def spec_l1In.f (a0 : Int) (a1 : Int) (a2 : Int) : Option (Bool) := if a0 ≥ a1 then (some (decide (a0 ≤ a2))) else (some false)
set_option maxHeartbeats 8000000 in
set_option maxRecDepth 100000 in
theorem spec_l1In.calls (a0 : Int) (a1 : Int) (a2 : Int) (r : Bool) (w : World) (h : spec_l1In.f a0 a1 a2 = some r) :
  Calls Tryd.prog 86 #[.int .i64 a0, .int .i64 a1, .int .i64 a2] w fun e w' => e = .returned (.bool r) ∧ Drawn0 w w' := by
 have H : (if a0 ≥ a1 then (some (decide (a0 ≤ a2))) else (some false)) = some r := h
 clear h
 by_cases c4 : a0 ≥ a1
 ·rw [if_pos c4] at H
  have c4b0 := decide_eq_true c4
  clear c4
  obtain rfl := Option.some.inj H
  go_enter Tryd.func86, Tryd.ntmps86
  go_wp2
  go_ret
  exact ⟨by first | rfl | (simp; done) | (simp [*]; done) | (simp [X.bne_nil, X.beq_nil]; done) | (simp [*, X.bne_nil, X.beq_nil]; done) | (simp [X.bne_nil, X.beq_nil]; done), by repeat (first | exact Drawn0.refl _ | apply Drawn0.step)⟩
 ·rw [if_neg c4] at H
  have c4b0 := decide_eq_false c4
  clear c4
  obtain rfl := Option.some.inj H
  go_enter Tryd.func86, Tryd.ntmps86
  go_wp2
  go_ret
  exact ⟨by first | rfl | (simp; done) | (simp [*]; done) | (simp [X.bne_nil, X.beq_nil]; done) | (simp [*, X.bne_nil, X.beq_nil]; done) | (simp [X.bne_nil, X.beq_nil]; done), by repeat (first | exact Drawn0.refl _ | apply Drawn0.step)⟩

/-! ### spec_l5Text: function 88 -/
def spec_l5Text.l0 : Nat → ByteArray → Int → Option (Bool)
 | 0, _, _ => none
 | k + 1, x0, x3 => if x3 < (x0.size : Int) then (if 0 ≤ x3 then ((spec_l1In.f (wrap64 (bt x0 x3)) 33 126).bind fun t213 => (if t213 = true then (spec_l5Text.l0 k x0 (wrap64 (x3 + 1))) else (some false))) else (none)) else (some (decide ((x0.size : Int) ≤ 12)))
def spec_l5Text.f (k : Nat) (a0 : ByteArray) : Option (Bool) := spec_l5Text.l0 k a0 0
theorem spec_l5Text.mono_l : ∀ k, (∀ y0 y1, LeO (spec_l5Text.l0 k y0 y1) (spec_l5Text.l0 (k + 1) y0 y1))
 | 0 => fun _ _ r h => by simp [spec_l5Text.l0] at h
 | k + 1 => by
  have ih0 := spec_l5Text.mono_l k
  ·intro y0 y1
   unfold spec_l5Text.l0
   repeat' first
   | (with_reducible first | exact ih0 _ _ | exact LeO.refl _ | exact LeO.none _ | refine LeO.ite ?_ ?_ | refine LeO.bind ?_ (fun _ => ?_))
   | exact ih0 _ _
   | exact LeO.none _
   | refine LeO.ite ?_ ?_
   | refine LeO.bind ?_ (fun _ => ?_)
theorem spec_l5Text.mono : ∀ a0 k, LeO (spec_l5Text.f k a0) (spec_l5Text.f (k + 1) a0) := by
 intro a0 k
 have ih0 := spec_l5Text.mono_l k
 unfold spec_l5Text.f
 repeat' first
   | (with_reducible first | exact ih0 _ _ | exact LeO.refl _ | exact LeO.none _ | refine LeO.ite ?_ ?_ | refine LeO.bind ?_ (fun _ => ?_))
   | exact ih0 _ _
   | exact LeO.none _
   | refine LeO.ite ?_ ?_
   | refine LeO.bind ?_ (fun _ => ?_)
set_option maxHeartbeats 8000000 in
set_option maxRecDepth 100000 in
theorem spec_l5Text.calls (k : Nat) (a0 : ByteArray) (r : Bool) (w : World) (h : spec_l5Text.f k a0 = some r) :
  Calls Tryd.prog 88 #[.string a0] w fun e w' => e = .returned (.bool r) ∧ Drawn0 w w' := by
 have H : (spec_l5Text.l0 k a0 0) = some r := h
 clear h
 have H' := aS H
 clear H
 go_enter Tryd.func88, Tryd.ntmps88
 go_wp2
 go_loopg [3] k (fun kq v3 w' => ∃ (x3_1 : Int), v3 = .int .i64 x3_1 ∧ Aside0 (spec_l5Text.l0 kq a0 x3_1 = some r) ∧ Aside0 (kq ≤ k) ∧ Drawn0 w w')
 case atStart => exact ⟨(0), jB, H', ⟨Nat.le_refl _⟩, by repeat (first | exact Drawn0.refl _ | apply Drawn0.step)⟩
 case round =>
  clear H'
  obtain ⟨x3_1, rfl, HA, HK1, ⟨m1, rfl⟩⟩ := hrel
  cases gk with
  | zero => exact absurd HA.out (by simp [spec_l5Text.l0])
  | succ k1 =>
   have H := HA.out
   clear HA
   simp only [spec_l5Text.l0] at H
   by_cases c2 : x3_1 < (a0.size : Int)
   ·rw [if_pos c2] at H
    have c2b0 := decide_eq_true c2
    clear c2
    by_cases c3 : 0 ≤ x3_1
    ·rw [if_pos c3] at H
     have c3b0 := decide_eq_true c3
     clear c3
     obtain ⟨t213, A5, H⟩ := bM H
     try dsimp only at H
     by_cases c6 : t213 = true
     ·subst c6
      rw [if_pos rfl] at H
      have H' := aS H
      clear H
      have p4 : 0 ≤ (x3_1 : Int) := of_decide_eq_true jC
      have q4 : x3_1 < (a0.size : Int) := of_decide_eq_true jC
      have hx4 := bt_at a0 x3_1
      replace p4 := eq_true p4
      replace q4 := eq_true q4
      go_wp2_with (first | ((with_reducible refine gate_callee (f := 86) rfl ?_); refine goesL_ (some 14) rfl rfl Tryd.func86 jK rfl #[.int .i64 (wrap64 (bt a0 x3_1)), .int .i64 33, .int .i64 126] rfl jA ?_; (with_reducible refine (spec_l1In.calls (wrap64 (bt a0 x3_1)) 33 126 true _ A5.out).mono ?_); rintro e w' ⟨rfl, ⟨nd, rfl⟩⟩; refine ⟨_, rfl, ?_⟩))
      go_roundg k1
      case measure => have := HK1.out; omega
      case rel => exact ⟨(wrap64 (x3_1 + 1)), jB, H', ⟨by have := HK1.out; omega⟩, by repeat (first | exact Drawn0.refl _ | apply Drawn0.step)⟩
     ·replace c6 := Bool.eq_false_iff.mpr c6
      subst c6
      rw [if_neg Bool.false_ne_true] at H
      obtain rfl := Option.some.inj H
      have p4 : 0 ≤ (x3_1 : Int) := of_decide_eq_true jC
      have q4 : x3_1 < (a0.size : Int) := of_decide_eq_true jC
      have hx4 := bt_at a0 x3_1
      replace p4 := eq_true p4
      replace q4 := eq_true q4
      go_wp2_with (first | ((with_reducible refine gate_callee (f := 86) rfl ?_); refine goesL_ (some 14) rfl rfl Tryd.func86 jK rfl #[.int .i64 (wrap64 (bt a0 x3_1)), .int .i64 33, .int .i64 126] rfl jA ?_; (with_reducible refine (spec_l1In.calls (wrap64 (bt a0 x3_1)) 33 126 false _ A5.out).mono ?_); rintro e w' ⟨rfl, ⟨nd, rfl⟩⟩; refine ⟨_, rfl, ?_⟩))
      go_ret
      exact ⟨by first | rfl | (simp; done) | (simp [*]; done) | (simp [X.bne_nil, X.beq_nil]; done) | (simp [*, X.bne_nil, X.beq_nil]; done) | (simp [X.bne_nil, X.beq_nil]; done), by repeat (first | exact Drawn0.refl _ | apply Drawn0.step)⟩
    ·rw [if_neg c3] at H
     exact absurd H (by simp)
   ·rw [if_neg c2] at H
    have c2b0 := decide_eq_false c2
    clear c2
    obtain rfl := Option.some.inj H
    go_wp2
    go_ret
    exact ⟨by first | rfl | (simp; done) | (simp [*]; done) | (simp [X.bne_nil, X.beq_nil]; done) | (simp [*, X.bne_nil, X.beq_nil]; done) | (simp [X.bne_nil, X.beq_nil]; done), by repeat (first | exact Drawn0.refl _ | apply Drawn0.step)⟩

/-! ### spec_Labels: function 121 -/
mutual
def spec_Labels.l0 : Nat → ByteArray → List ByteArray → Int → Int → Option (List ByteArray)
 | 0, _, _, _, _ => none
 | k + 1, x0, x3, x4, x5 => if x5 ≤ (x0.size : Int) then (spec_Labels.j1 k x0 x3 x4 x5 (x0.toList != ([] : List UInt8))) else (spec_Labels.j1 k x0 x3 x4 x5 false)
def spec_Labels.j1 : Nat → ByteArray → List ByteArray → Int → Int → Bool → Option (List ByteArray)
 | 0, _, _, _, _, _ => none
 | k + 1, x0, x3, x4, x5, x14 => if x14 = true then (if x5 = (x0.size : Int) then (if 0 ≤ x4 then (if x4 ≤ x5 then (if x5 ≤ (x0.size : Int) then (if x3.length < 8796093022208 then (spec_Labels.l0 k x0 (x3 ++ [x0.extract (x4 : Int).toNat (x5 : Int).toNat]) (wrap64 (x5 + 1)) (wrap64 (x5 + 1))) else (none)) else (none)) else (none)) else (none)) else (if 0 ≤ x5 then (if x5 < (x0.size : Int) then (if (bt x0 x5) = 46 then (if 0 ≤ x4 then (if x4 ≤ x5 then (if x5 ≤ (x0.size : Int) then (if x3.length < 8796093022208 then (spec_Labels.l0 k x0 (x3 ++ [x0.extract (x4 : Int).toNat (x5 : Int).toNat]) (wrap64 (x5 + 1)) (wrap64 (x5 + 1))) else (none)) else (none)) else (none)) else (none)) else (spec_Labels.l0 k x0 x3 x4 (wrap64 (x5 + 1)))) else (none)) else (none))) else (some x3)
end
def spec_Labels.f (k : Nat) (a0 : ByteArray) : Option (List ByteArray) := spec_Labels.l0 k a0 (([] : List ByteArray)) 0 0
theorem spec_Labels.mono_l : ∀ k, (∀ y0 y1 y2 y3, LeO (spec_Labels.l0 k y0 y1 y2 y3) (spec_Labels.l0 (k + 1) y0 y1 y2 y3)) ∧ (∀ y0 y1 y2 y3 y4, LeO (spec_Labels.j1 k y0 y1 y2 y3 y4) (spec_Labels.j1 (k + 1) y0 y1 y2 y3 y4))
 | 0 => ⟨fun _ _ _ _ r h => by simp [spec_Labels.l0] at h, fun _ _ _ _ _ r h => by simp [spec_Labels.j1] at h⟩
 | k + 1 => by
  obtain ⟨ih0, ih1⟩ := spec_Labels.mono_l k
  refine ⟨?_, ?_⟩
  ·intro y0 y1 y2 y3
   unfold spec_Labels.l0
   repeat' first
   | (with_reducible first | exact ih0 _ _ _ _ | exact ih1 _ _ _ _ _ | exact LeO.refl _ | exact LeO.none _ | refine LeO.ite ?_ ?_ | refine LeO.bind ?_ (fun _ => ?_))
   | exact ih0 _ _ _ _
   | exact ih1 _ _ _ _ _
   | exact LeO.none _
   | refine LeO.ite ?_ ?_
   | refine LeO.bind ?_ (fun _ => ?_)
  ·intro y0 y1 y2 y3 y4
   unfold spec_Labels.j1
   repeat' first
   | (with_reducible first | exact ih0 _ _ _ _ | exact ih1 _ _ _ _ _ | exact LeO.refl _ | exact LeO.none _ | refine LeO.ite ?_ ?_ | refine LeO.bind ?_ (fun _ => ?_))
   | exact ih0 _ _ _ _
   | exact ih1 _ _ _ _ _
   | exact LeO.none _
   | refine LeO.ite ?_ ?_
   | refine LeO.bind ?_ (fun _ => ?_)
theorem spec_Labels.mono : ∀ a0 k, LeO (spec_Labels.f k a0) (spec_Labels.f (k + 1) a0) := by
 intro a0 k
 obtain ⟨ih0, ih1⟩ := spec_Labels.mono_l k
 unfold spec_Labels.f
 repeat' first
   | (with_reducible first | exact ih0 _ _ _ _ | exact ih1 _ _ _ _ _ | exact LeO.refl _ | exact LeO.none _ | refine LeO.ite ?_ ?_ | refine LeO.bind ?_ (fun _ => ?_))
   | exact ih0 _ _ _ _
   | exact ih1 _ _ _ _ _
   | exact LeO.none _
   | refine LeO.ite ?_ ?_
   | refine LeO.bind ?_ (fun _ => ?_)
set_option maxHeartbeats 8000000 in
set_option maxRecDepth 100000 in
theorem spec_Labels.calls (k : Nat) (a0 : ByteArray) (r : List ByteArray) (w : World) (h : spec_Labels.f k a0 = some r) :
  Calls Tryd.prog 121 #[.string a0] w fun e w' => ∃ v0_ : Value, e = .returned (v0_) ∧ Kd.R Kd.string 9 w' w.heap.size (fun _ => True) v0_ r ∧ Below w.heap.size w w' := by
 have HB := aS (Below.refl w.heap.size w)
 have H : (spec_Labels.l0 k a0 (([] : List ByteArray)) 0 0) = some r := h
 clear h
 obtain ⟨y214, hy_⟩ : ∃ y_ : List ByteArray, y_ = (([] : List ByteArray)) := ⟨_, rfl⟩
 replace H : (spec_Labels.l0 k a0 y214 0 0) = some r := jD
 have Ny214 := aS hy_
 clear hy_
 have H' := aS H
 clear H
 go_enter Tryd.func121, Tryd.ntmps121
 go_wp2_with (first | ((with_reducible refine gate_dst (N := 6) rfl ?_); refine Kd.R_lit Kd.string _ 9 ?hg (N := 6) ?hd (xs := ([] : List ByteArray)) (inner := []) (ok := fun _ => True) (okp := fun _ => True) ?hr ?hp (fun _ hk => hk) trivial (Below.refl _ _) (Nat.le_refl _) (by simp) ?_; (case hd => rfl); (case hg => rfl); (case hr => first | (go_simp; done) | (go_simp; rfl)); (case hp => exact (Reps.none _ _)); intro v215 w2 ho3 hb hg_ hnew_; clear hg_ hnew_; (first | rw [← Ny214.out] at ho3 | (simp only [Int.reduceToNat] at ho3; rw [← Ny214.out] at ho3)); have HO216 := aS (Kd.R_lower ho3 (below_size (wU HB.out))); replace HB := aS (below_step (wU HB.out) hb); clear hb ho3))
 go_loopg [3, 4, 5] k (fun kq v3 v4 v5 w' => ∃ (x3_1 : List ByteArray) (x4_1 : Int) (x5_1 : Int), v4 = .int .i64 x4_1 ∧ v5 = .int .i64 x5_1 ∧ Aside0 (spec_Labels.l0 kq a0 x3_1 x4_1 x5_1 = some r) ∧ Aside0 (kq ≤ k) ∧ Aside0 (Kd.R Kd.string 9 w' w.heap.size (fun _ => True) v3 x3_1) ∧ Aside0 (Below w.heap.size w w'))
 case atStart => exact ⟨(y214), (0), (0), jB, jB, H', ⟨Nat.le_refl _⟩, ⟨by exact rU HO216.out⟩, ⟨by exact wU HB.out⟩⟩
 case round =>
  clear H'
  try clear c1
  try clear p2
  obtain ⟨x3_1, x4_1, x5_1, rfl, rfl, HA, HK1, HO_3, HB⟩ := hrel
  cases gk with
  | zero => exact absurd HA.out (by simp [spec_Labels.l0])
  | succ k1 =>
   have H := HA.out
   clear HA
   simp only [spec_Labels.l0] at H
   have HC4 := aS H
   clear H
   go_upto_region 4 with (fail)
   go_cut [14] (fun v14 wc => ∃ (kq : Nat) (x14_3 : Bool), v14 = .bool x14_3 ∧ Aside0 (spec_Labels.j1 kq a0 x3_1 x4_1 x5_1 x14_3 = some r) ∧ Aside0 (kq ≤ k1) ∧ Aside0 (Kd.R Kd.string 9 wc w.heap.size (fun _ => True) u3 x3_1) ∧ Aside0 (Below w.heap.size w wc))
   case first =>
    have H := HC4.out
    clear HC4
    by_cases c5 : x5_1 ≤ (a0.size : Int)
    ·rw [if_pos c5] at H
     have c5b0 := decide_eq_true c5
     clear c5
     (first | rw [c5b0] | (simp only [i64_w, i32_w]; rw [c5b0]) | skip)
     have H' := aS H
     clear H
     go_wp2
     go_meet
     case rel => exact ⟨_, ((a0.toList != ([] : List UInt8))), jB, H', ⟨by have := HK1.out; first | omega | exact Nat.le_refl _⟩, ⟨by exact rU HO_3.out⟩, ⟨by exact wU HB.out⟩⟩
    ·rw [if_neg c5] at H
     have c5b0 := decide_eq_false c5
     clear c5
     (first | rw [c5b0] | (simp only [i64_w, i32_w]; rw [c5b0]) | skip)
     have H' := aS H
     clear H
     go_wp2
     go_meet
     case rel => exact ⟨_, (false), jB, H', ⟨by have := HK1.out; first | omega | exact Nat.le_refl _⟩, ⟨by exact rU HO_3.out⟩, ⟨by exact wU HB.out⟩⟩
   case rest =>
    clear HC4
    try clear c1
    try clear p2
    try clear c5
    try clear c5b0
    try clear p2
    obtain ⟨kq, x14_3, rfl, HA, HJ3, HO_3, HB⟩ := hcut
    cases kq with
    | zero => exact absurd HA.out (by simp [spec_Labels.j1])
    | succ kj3 =>
     have H := HA.out
     clear HA
     simp only [spec_Labels.j1] at H
     by_cases c6 : x14_3 = true
     ·subst c6
      rw [if_pos rfl] at H
      by_cases c7 : x5_1 = (a0.size : Int)
      ·rw [if_pos c7] at H
       have c7b0 := beq_iff_eq.mpr c7
       have c7b1 := bne_eq_false_iff_eq.mpr c7
       clear c7
       by_cases c8 : 0 ≤ x4_1
       ·rw [if_pos c8] at H
        have c8b0 := eq_true c8
        have c8b1 := decide_eq_true c8
        clear c8
        by_cases c9 : x4_1 ≤ x5_1
        ·rw [if_pos c9] at H
         have c9b0 := eq_true c9
         have c9b1 := decide_eq_true c9
         clear c9
         by_cases c10 : x5_1 ≤ (a0.size : Int)
         ·rw [if_pos c10] at H
          have c10b0 := eq_true c10
          have c10b1 := decide_eq_true c10
          clear c10
          by_cases c11 : x3_1.length < 8796093022208
          ·rw [if_pos c11] at H
           have LMc11 := aS c11
           clear c11
           obtain ⟨y217, hy_⟩ : ∃ y_ : List ByteArray, y_ = (x3_1 ++ [a0.extract (x4_1 : Int).toNat (x5_1 : Int).toNat]) := ⟨_, rfl⟩
           replace H : (spec_Labels.l0 kj3 a0 y217 (wrap64 (x5_1 + 1)) (wrap64 (x5_1 + 1))) = some r := jD
           have Ny217 := aS hy_
           clear hy_
           have H' := aS H
           clear H
           go_wp2_with (first | ((with_reducible refine gate_builtin (b := .append) (xs := #[.tmp 27, .tmp 32]) rfl ?_); at_builtin; refine Kd.R_append Kd.string (w0 := w) w.heap.size rfl (.tmp 27) (.tmp 32) 108 9 (.string ⟨#[]⟩) 16 rfl Tryd.underlying108 info9 rfl (by decide) (by omega) u3 x3_1 (a0.extract (x4_1 : Int).toNat (x5_1 : Int).toNat) [.string (a0.extract (x4_1 : Int).toNat (x5_1 : Int).toNat)] (fun _ => True) (fun _ => False) rfl rfl ?aP (fun _ hk => hk.elim) ?aF ?aO ?aB ?aS ?aL ?_; (case aP => exact rfl); (case aB => exact (wU HB.out)); (case aF => exact (fun _ _ => trivial)); (case aO => exact (rU HO_3.out)); (case aS => exact (below_size (wU HB.out))); (case aL => have := LMc11.out; omega); intro v218 w12 ho hb hg hat; rw [← Ny217.out] at ho; replace HB := aS (hb); have HO219 := aS (ho); clear HO_3; clear ho hb hg hat))
           go_roundg kj3
           case measure => have := HK1.out; have := HJ3.out; omega
           case rel => exact ⟨(y217), (wrap64 (x5_1 + 1)), (wrap64 (x5_1 + 1)), jB, jB, H', ⟨by have := HK1.out; have := HJ3.out; omega⟩, ⟨by exact rU HO219.out⟩, ⟨by exact wU HB.out⟩⟩
          ·rw [if_neg c11] at H
           exact absurd H (by simp)
         ·rw [if_neg c10] at H
          exact absurd H (by simp)
        ·rw [if_neg c9] at H
         exact absurd H (by simp)
       ·rw [if_neg c8] at H
        exact absurd H (by simp)
      ·rw [if_neg c7] at H
       have c7b0 := beq_eq_false_iff_ne.mpr c7
       have c7b1 := bne_iff_ne.mpr c7
       by_cases c13 : 0 ≤ x5_1
       ·rw [if_pos c13] at H
        have c13b0 := decide_eq_true c13
        clear c13
        by_cases c14 : x5_1 < (a0.size : Int)
        ·rw [if_pos c14] at H
         have c14b0 := decide_eq_true c14
         clear c14
         by_cases c16 : (bt a0 x5_1) = 46
         ·rw [if_pos c16] at H
          have c16b0 := beq_iff_eq.mpr c16
          have c16b1 := bne_eq_false_iff_eq.mpr c16
          clear c16
          by_cases c17 : 0 ≤ x4_1
          ·rw [if_pos c17] at H
           have c17b0 := eq_true c17
           have c17b1 := decide_eq_true c17
           clear c17
           by_cases c18 : x4_1 ≤ x5_1
           ·rw [if_pos c18] at H
            have c18b0 := eq_true c18
            have c18b1 := decide_eq_true c18
            clear c18
            by_cases c19 : x5_1 ≤ (a0.size : Int)
            ·rw [if_pos c19] at H
             have c19b0 := eq_true c19
             have c19b1 := decide_eq_true c19
             clear c19
             by_cases c20 : x3_1.length < 8796093022208
             ·rw [if_pos c20] at H
              have LMc20 := aS c20
              clear c20
              obtain ⟨y220, hy_⟩ : ∃ y_ : List ByteArray, y_ = (x3_1 ++ [a0.extract (x4_1 : Int).toNat (x5_1 : Int).toNat]) := ⟨_, rfl⟩
              replace H : (spec_Labels.l0 kj3 a0 y220 (wrap64 (x5_1 + 1)) (wrap64 (x5_1 + 1))) = some r := jD
              have Ny220 := aS hy_
              clear hy_
              have H' := aS H
              clear H
              have p15 : 0 ≤ (x5_1 : Int) := of_decide_eq_true jC
              have q15 : x5_1 < (a0.size : Int) := of_decide_eq_true jC
              have hx15 := bt_at a0 x5_1
              replace p15 := eq_true p15
              replace q15 := eq_true q15
              go_wp2_with (first | ((with_reducible refine gate_builtin (b := .append) (xs := #[.tmp 27, .tmp 32]) rfl ?_); at_builtin; refine Kd.R_append Kd.string (w0 := w) w.heap.size rfl (.tmp 27) (.tmp 32) 108 9 (.string ⟨#[]⟩) 16 rfl Tryd.underlying108 info9 rfl (by decide) (by omega) u3 x3_1 (a0.extract (x4_1 : Int).toNat (x5_1 : Int).toNat) [.string (a0.extract (x4_1 : Int).toNat (x5_1 : Int).toNat)] (fun _ => True) (fun _ => False) rfl rfl ?aP (fun _ hk => hk.elim) ?aF ?aO ?aB ?aS ?aL ?_; (case aP => exact rfl); (case aB => exact (wU HB.out)); (case aF => exact (fun _ _ => trivial)); (case aO => exact (rU HO_3.out)); (case aS => exact (below_size (wU HB.out))); (case aL => have := LMc20.out; omega); intro v221 w21 ho hb hg hat; rw [← Ny220.out] at ho; replace HB := aS (hb); have HO222 := aS (ho); clear HO_3; clear ho hb hg hat))
              go_roundg kj3
              case measure => have := HK1.out; have := HJ3.out; omega
              case rel => exact ⟨(y220), (wrap64 (x5_1 + 1)), (wrap64 (x5_1 + 1)), jB, jB, H', ⟨by have := HK1.out; have := HJ3.out; omega⟩, ⟨by exact rU HO222.out⟩, ⟨by exact wU HB.out⟩⟩
             ·rw [if_neg c20] at H
              exact absurd H (by simp)
            ·rw [if_neg c19] at H
             exact absurd H (by simp)
           ·rw [if_neg c18] at H
            exact absurd H (by simp)
          ·rw [if_neg c17] at H
           exact absurd H (by simp)
         ·rw [if_neg c16] at H
          have c16b0 := beq_eq_false_iff_ne.mpr c16
          have c16b1 := bne_iff_ne.mpr c16
          have H' := aS H
          clear H
          have p15 : 0 ≤ (x5_1 : Int) := of_decide_eq_true jC
          have q15 : x5_1 < (a0.size : Int) := of_decide_eq_true jC
          have hx15 := bt_at a0 x5_1
          replace p15 := eq_true p15
          replace q15 := eq_true q15
          go_wp2
          go_roundg kj3
          case measure => have := HK1.out; have := HJ3.out; omega
          case rel => exact ⟨(x3_1), (x4_1), (wrap64 (x5_1 + 1)), jB, jB, H', ⟨by have := HK1.out; have := HJ3.out; omega⟩, ⟨by exact rU HO_3.out⟩, ⟨by exact wU HB.out⟩⟩
        ·rw [if_neg c14] at H
         exact absurd H (by simp)
       ·rw [if_neg c13] at H
        exact absurd H (by simp)
     ·replace c6 := Bool.eq_false_iff.mpr c6
      subst c6
      rw [if_neg Bool.false_ne_true] at H
      obtain rfl := Option.some.inj H
      go_wp2
      go_ret
      exact ⟨_, jE, by exact rU HO_3.out, by exact wU HB.out⟩

/-! ### spec_l2Byte: function 159 -/
def spec_l2Byte.f (a0 : Int) : Option (Bool) := (spec_l1In.f (wrap64 (a0)) 97 122).bind fun t223 => (if t223 = true then (some true) else ((spec_l1In.f (wrap64 (a0)) 48 57).bind fun t224 => (if t224 = true then (some true) else (if a0 = 45 then (some true) else (some (a0 == 95))))))
set_option maxHeartbeats 8000000 in
set_option maxRecDepth 100000 in
theorem spec_l2Byte.calls (a0 : Int) (r : Bool) (w : World) (h : spec_l2Byte.f a0 = some r) :
  Calls Tryd.prog 159 #[.int .u8 a0] w fun e w' => e = .returned (.bool r) ∧ Drawn0 w w' := by
 have H : ((spec_l1In.f (wrap64 (a0)) 97 122).bind fun t223 => (if t223 = true then (some true) else ((spec_l1In.f (wrap64 (a0)) 48 57).bind fun t224 => (if t224 = true then (some true) else (if a0 = 45 then (some true) else (some (a0 == 95))))))) = some r := h
 clear h
 obtain ⟨t223, A2, H⟩ := bM H
 try dsimp only at H
 by_cases c3 : t223 = true
 ·subst c3
  rw [if_pos rfl] at H
  obtain rfl := Option.some.inj H
  go_enter Tryd.func159, Tryd.ntmps159
  go_wp2_with (first | ((with_reducible refine gate_callee (f := 86) rfl ?_); refine goesL_ (some 5) rfl rfl Tryd.func86 jK rfl #[.int .i64 (wrap64 (a0)), .int .i64 97, .int .i64 122] rfl jA ?_; (with_reducible refine (spec_l1In.calls (wrap64 (a0)) 97 122 true _ A2.out).mono ?_); rintro e w' ⟨rfl, ⟨nd, rfl⟩⟩; refine ⟨_, rfl, ?_⟩))
  go_ret
  exact ⟨by first | rfl | (simp; done) | (simp [*]; done) | (simp [X.bne_nil, X.beq_nil]; done) | (simp [*, X.bne_nil, X.beq_nil]; done) | (simp [X.bne_nil, X.beq_nil]; done), by repeat (first | exact Drawn0.refl _ | apply Drawn0.step)⟩
 ·replace c3 := Bool.eq_false_iff.mpr c3
  subst c3
  rw [if_neg Bool.false_ne_true] at H
  obtain ⟨t224, A4, H⟩ := bM H
  try dsimp only at H
  by_cases c5 : t224 = true
  ·subst c5
   rw [if_pos rfl] at H
   obtain rfl := Option.some.inj H
   go_enter Tryd.func159, Tryd.ntmps159
   go_wp2_with (first | ((with_reducible refine gate_callee (f := 86) rfl ?_); refine goesL_ (some 5) rfl rfl Tryd.func86 jK rfl #[.int .i64 (wrap64 (a0)), .int .i64 97, .int .i64 122] rfl jA ?_; (with_reducible refine (spec_l1In.calls (wrap64 (a0)) 97 122 false _ A2.out).mono ?_); rintro e w' ⟨rfl, ⟨nd, rfl⟩⟩; refine ⟨_, rfl, ?_⟩) | (go_at_call 86; (with_reducible refine (spec_l1In.calls (wrap64 (a0)) 48 57 true _ A4.out).mono ?_); rintro e w' ⟨rfl, ⟨nd, rfl⟩⟩))
   go_ret
   exact ⟨by first | rfl | (simp; done) | (simp [*]; done) | (simp [X.bne_nil, X.beq_nil]; done) | (simp [*, X.bne_nil, X.beq_nil]; done) | (simp [X.bne_nil, X.beq_nil]; done), by repeat (first | exact Drawn0.refl _ | apply Drawn0.step)⟩
  ·replace c5 := Bool.eq_false_iff.mpr c5
   subst c5
   rw [if_neg Bool.false_ne_true] at H
   by_cases c6 : a0 = 45
   ·rw [if_pos c6] at H
    have c6b0 := beq_iff_eq.mpr c6
    have c6b1 := bne_eq_false_iff_eq.mpr c6
    clear c6
    obtain rfl := Option.some.inj H
    go_enter Tryd.func159, Tryd.ntmps159
    go_wp2_with (first | ((with_reducible refine gate_callee (f := 86) rfl ?_); refine goesL_ (some 5) rfl rfl Tryd.func86 jK rfl #[.int .i64 (wrap64 (a0)), .int .i64 97, .int .i64 122] rfl jA ?_; (with_reducible refine (spec_l1In.calls (wrap64 (a0)) 97 122 false _ A2.out).mono ?_); rintro e w' ⟨rfl, ⟨nd, rfl⟩⟩; refine ⟨_, rfl, ?_⟩) | (go_at_call 86; (with_reducible refine (spec_l1In.calls (wrap64 (a0)) 48 57 false _ A4.out).mono ?_); rintro e w' ⟨rfl, ⟨nd, rfl⟩⟩))
    go_ret
    exact ⟨by first | rfl | (simp; done) | (simp [*]; done) | (simp [X.bne_nil, X.beq_nil]; done) | (simp [*, X.bne_nil, X.beq_nil]; done) | (simp [X.bne_nil, X.beq_nil]; done), by repeat (first | exact Drawn0.refl _ | apply Drawn0.step)⟩
   ·rw [if_neg c6] at H
    have c6b0 := beq_eq_false_iff_ne.mpr c6
    have c6b1 := bne_iff_ne.mpr c6
    obtain rfl := Option.some.inj H
    go_enter Tryd.func159, Tryd.ntmps159
    go_wp2_with (first | ((with_reducible refine gate_callee (f := 86) rfl ?_); refine goesL_ (some 5) rfl rfl Tryd.func86 jK rfl #[.int .i64 (wrap64 (a0)), .int .i64 97, .int .i64 122] rfl jA ?_; (with_reducible refine (spec_l1In.calls (wrap64 (a0)) 97 122 false _ A2.out).mono ?_); rintro e w' ⟨rfl, ⟨nd, rfl⟩⟩; refine ⟨_, rfl, ?_⟩) | (go_at_call 86; (with_reducible refine (spec_l1In.calls (wrap64 (a0)) 48 57 false _ A4.out).mono ?_); rintro e w' ⟨rfl, ⟨nd, rfl⟩⟩))
    go_ret
    exact ⟨by first | rfl | (simp; done) | (simp [*]; done) | (simp [X.bne_nil, X.beq_nil]; done) | (simp [*, X.bne_nil, X.beq_nil]; done) | (simp [X.bne_nil, X.beq_nil]; done), by repeat (first | exact Drawn0.refl _ | apply Drawn0.step)⟩

end Go.Proofs.YtdigilidomimdaaDoor.Pr
