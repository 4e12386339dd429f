-- Written for this claim by a program of this session (wip/tool/pr.py, over the kit's printer).
-- half
import Derived.Test.YtdigilidomimdaaDoorPrx0
import Derived.Test.YtdigilidomimdaaDoorPrx6
import Derived.Test.YtdigilidomimdaaDoorPrx9
import Derived.Test.YtdigilidomimdaaDoorPrx13
namespace Go.Proofs.YtdigilidomimdaaDoor.Pr
open Go.RowKit Go.Proofs.YtdigilidomimdaaDoorW.PrintWords Go.Proofs.YtdigilidomimdaaDoorW.PrintLast Go.Proofs.YtdigilidomimdaaDoorW.PrintMore
attribute [local go_sem] max2_int min2_int max_two min_two max_three min_three max_four min_four   -- for this text's walks alone
set_option linter.unusedVariables false
set_option linter.unusedSimpArgs false

/-! ### spec_GetData: function 26 -/
mutual
def spec_GetData.j0 : Nat → List Int → Int → Int → Int → Bool → ByteArray → Int → Int → Int → ByteArray → ByteArray → Option (ByteArray × Int × Int × Int × ByteArray × ByteArray × Int)
 | 0, _, _, _, _, _, _, _, _, _, _, _ => none
 | k + 1, x0, x1, x2, x3, x28, x632000, x632001, x632002, x632003, x632004, x632005 => if x28 = true then ((spec_l1In.f x2 0 255).bind fun t634 => (if t634 = true then (if x1 < 0 then (some (x632000, x632001, x632002, x632003, x632004, x632005, 1)) else (if x1 > (wrap64 ((x0.length : Int) - x2)) then (some (x632000, x632001, x632002, x632003, x632004, x632005, 1)) else (some (x632000, x632001, x632002, x632003, x632004, x632005, 2)))) else (some (x632000, x632001, x632002, x632003, x632004, x632005, 2)))) else (if x1 < 0 then (spec_GetData.j1 k x0 x1 x2 x3 true x632000 x632001 x632002 x632003 x632004 x632005) else (spec_GetData.j1 k x0 x1 x2 x3 (decide (x1 > (wrap64 ((x0.length : Int) - x2)))) x632000 x632001 x632002 x632003 x632004 x632005))
def spec_GetData.j1 : Nat → List Int → Int → Int → Int → Bool → ByteArray → Int → Int → Int → ByteArray → ByteArray → Option (ByteArray × Int × Int × Int × ByteArray × ByteArray × Int)
 | 0, _, _, _, _, _, _, _, _, _, _, _ => none
 | k + 1, x0, x1, x2, x3, x54, x632000, x632001, x632002, x632003, x632004, x632005 => if x54 = true then (some (x632000, x632001, x632002, x632003, x632004, x632005, 1)) else (if x3 = 1 then ((spec_Get4.f k x0 x1).bind fun bt636 => (if bt636.2 = true then (if x2 = 4 then (some ((⟨#[]⟩ : ByteArray), x3, 0, bt636.1, (⟨#[]⟩ : ByteArray), (⟨#[]⟩ : ByteArray), 0)) else (some (x632000, x632001, x632002, x632003, x632004, x632005, 2))) else (some (x632000, x632001, x632002, x632003, x632004, x632005, 2)))) else (if x3 = 16 then (if x2 < 1 then (spec_GetData.j2 k x0 x1 (wrap64 (x1 + x2)) true x632000 x632001 x632002 x632003 x632004 x632005 (⟨#[]⟩ : ByteArray) x3 0 0 (⟨#[]⟩ : ByteArray) (⟨#[]⟩ : ByteArray)) else (if 0 ≤ x1 then (if x1 < (x0.length : Int) then (spec_GetData.j2 k x0 x1 (wrap64 (x1 + x2)) ((wrap64 (rd x0 x1)) != (wrap64 (x2 - 1))) x632000 x632001 x632002 x632003 x632004 x632005 (⟨#[]⟩ : ByteArray) x3 0 0 (⟨#[]⟩ : ByteArray) (⟨#[]⟩ : ByteArray)) else (none)) else (none))) else ((spec_GetName.f k x0 x1).bind fun bt644 => (if bt644.2.2 = 0 then (if x3 = 6 then ((spec_Get4.f k x0 bt644.2.1).bind fun bt647 => (if bt647.2 = true then (if (wrap64 (bt644.2.1 + 4)) = (wrap64 (x1 + x2)) then (some ((⟨#[]⟩ : ByteArray), x3, 0, bt647.1, bt644.1, (⟨#[]⟩ : ByteArray), 0)) else (some (x632000, x632001, x632002, x632003, x632004, x632005, 2))) else (some (x632000, x632001, x632002, x632003, x632004, x632005, 2)))) else (if bt644.2.1 = (wrap64 (x1 + x2)) then (some ((⟨#[]⟩ : ByteArray), x3, 0, 0, bt644.1, (⟨#[]⟩ : ByteArray), 0)) else (some (x632000, x632001, x632002, x632003, x632004, x632005, 2)))) else (some (x632000, x632001, x632002, x632003, x632004, x632005, bt644.2.2))))))
def spec_GetData.j2 : Nat → List Int → Int → Int → Bool → ByteArray → Int → Int → Int → ByteArray → ByteArray → ByteArray → Int → Int → Int → ByteArray → ByteArray → Option (ByteArray × Int × Int × Int × ByteArray × ByteArray × Int)
 | 0, _, _, _, _, _, _, _, _, _, _, _, _, _, _, _, _ => none
 | k + 1, x0, x1, x12, x124, x632000, x632001, x632002, x632003, x632004, x632005, x636000, x636001, x636002, x636003, x636004, x636005 => if x124 = true then (some (x632000, x632001, x632002, x632003, x632004, x632005, 2)) else (if 0 ≤ (wrap64 (x1 + 1)) then (if (wrap64 (x1 + 1)) ≤ x12 then (if x12 ≤ (x0.length : Int) then ((some ((x0.take (x12 : Int).toNat).drop ((wrap64 (x1 + 1)) : Int).toNat : List Int)).bind fun y639 => ((spec_l5Text.f k (strOfNums y639)).bind fun t643 => (if t643 = true then (some (x636000, x636001, x636002, x636003, x636004, strOfNums y639, 0)) else (some (x632000, x632001, x632002, x632003, x632004, x632005, 2))))) else (none)) else (none)) else (none))
end
def spec_GetData.f (k : Nat) (l0 : List Int) (a1 : Int) (a2 : Int) (a3 : Int) : Option (ByteArray × Int × Int × Int × ByteArray × ByteArray × Int) := (spec_l1In.f a2 0 255).bind fun t632 => (if t632 = true then ((spec_TypeOk.f a3).bind fun t633 => (spec_GetData.j0 k l0 a1 a2 a3 (!t633) (⟨#[]⟩ : ByteArray) 0 0 0 (⟨#[]⟩ : ByteArray) (⟨#[]⟩ : ByteArray))) else (spec_GetData.j0 k l0 a1 a2 a3 true (⟨#[]⟩ : ByteArray) 0 0 0 (⟨#[]⟩ : ByteArray) (⟨#[]⟩ : ByteArray)))
theorem spec_GetData.mono_l : ∀ k, (∀ y0 y1 y2 y3 y4 y5 y6 y7 y8 y9 y10, LeO (spec_GetData.j0 k y0 y1 y2 y3 y4 y5 y6 y7 y8 y9 y10) (spec_GetData.j0 (k + 1) y0 y1 y2 y3 y4 y5 y6 y7 y8 y9 y10)) ∧ (∀ y0 y1 y2 y3 y4 y5 y6 y7 y8 y9 y10, LeO (spec_GetData.j1 k y0 y1 y2 y3 y4 y5 y6 y7 y8 y9 y10) (spec_GetData.j1 (k + 1) y0 y1 y2 y3 y4 y5 y6 y7 y8 y9 y10)) ∧ (∀ y0 y1 y2 y3 y4 y5 y6 y7 y8 y9 y10 y11 y12 y13 y14 y15, LeO (spec_GetData.j2 k y0 y1 y2 y3 y4 y5 y6 y7 y8 y9 y10 y11 y12 y13 y14 y15) (spec_GetData.j2 (k + 1) y0 y1 y2 y3 y4 y5 y6 y7 y8 y9 y10 y11 y12 y13 y14 y15))
 | 0 => ⟨fun _ _ _ _ _ _ _ _ _ _ _ r h => by simp [spec_GetData.j0] at h, fun _ _ _ _ _ _ _ _ _ _ _ r h => by simp [spec_GetData.j1] at h, fun _ _ _ _ _ _ _ _ _ _ _ _ _ _ _ _ r h => by simp [spec_GetData.j2] at h⟩
 | k + 1 => by
  obtain ⟨ih0, ih1, ih2⟩ := spec_GetData.mono_l k
  refine ⟨?_, ?_, ?_⟩
  ·intro y0 y1 y2 y3 y4 y5 y6 y7 y8 y9 y10
   unfold spec_GetData.j0
   repeat' first
   | (with_reducible first | exact ih0 _ _ _ _ _ _ _ _ _ _ _ | exact ih1 _ _ _ _ _ _ _ _ _ _ _ | exact ih2 _ _ _ _ _ _ _ _ _ _ _ _ _ _ _ _ | exact spec_Get4.mono _ _ _ | exact spec_GetName.mono _ _ _ | exact spec_l5Text.mono _ _ | exact LeO.refl _ | exact LeO.none _ | refine LeO.ite ?_ ?_ | refine LeO.bind ?_ (fun _ => ?_))
   | exact ih0 _ _ _ _ _ _ _ _ _ _ _
   | exact ih1 _ _ _ _ _ _ _ _ _ _ _
   | exact ih2 _ _ _ _ _ _ _ _ _ _ _ _ _ _ _ _
   | exact spec_Get4.mono _ _ _
   | exact spec_GetName.mono _ _ _
   | exact spec_l5Text.mono _ _
   | exact LeO.none _
   | refine LeO.ite ?_ ?_
   | refine LeO.bind ?_ (fun _ => ?_)
  ·intro y0 y1 y2 y3 y4 y5 y6 y7 y8 y9 y10
   unfold spec_GetData.j1
   repeat' first
   | (with_reducible first | exact ih0 _ _ _ _ _ _ _ _ _ _ _ | exact ih1 _ _ _ _ _ _ _ _ _ _ _ | exact ih2 _ _ _ _ _ _ _ _ _ _ _ _ _ _ _ _ | exact spec_Get4.mono _ _ _ | exact spec_GetName.mono _ _ _ | exact spec_l5Text.mono _ _ | exact LeO.refl _ | exact LeO.none _ | refine LeO.ite ?_ ?_ | refine LeO.bind ?_ (fun _ => ?_))
   | exact ih0 _ _ _ _ _ _ _ _ _ _ _
   | exact ih1 _ _ _ _ _ _ _ _ _ _ _
   | exact ih2 _ _ _ _ _ _ _ _ _ _ _ _ _ _ _ _
   | exact spec_Get4.mono _ _ _
   | exact spec_GetName.mono _ _ _
   | exact spec_l5Text.mono _ _
   | exact LeO.none _
   | refine LeO.ite ?_ ?_
   | refine LeO.bind ?_ (fun _ => ?_)
  ·intro y0 y1 y2 y3 y4 y5 y6 y7 y8 y9 y10 y11 y12 y13 y14 y15
   unfold spec_GetData.j2
   repeat' first
   | (with_reducible first | exact ih0 _ _ _ _ _ _ _ _ _ _ _ | exact ih1 _ _ _ _ _ _ _ _ _ _ _ | exact ih2 _ _ _ _ _ _ _ _ _ _ _ _ _ _ _ _ | exact spec_Get4.mono _ _ _ | exact spec_GetName.mono _ _ _ | exact spec_l5Text.mono _ _ | exact LeO.refl _ | exact LeO.none _ | refine LeO.ite ?_ ?_ | refine LeO.bind ?_ (fun _ => ?_))
   | exact ih0 _ _ _ _ _ _ _ _ _ _ _
   | exact ih1 _ _ _ _ _ _ _ _ _ _ _
   | exact ih2 _ _ _ _ _ _ _ _ _ _ _ _ _ _ _ _
   | exact spec_Get4.mono _ _ _
   | exact spec_GetName.mono _ _ _
   | exact spec_l5Text.mono _ _
   | exact LeO.none _
   | refine LeO.ite ?_ ?_
   | refine LeO.bind ?_ (fun _ => ?_)
theorem spec_GetData.mono : ∀ a0 a1 a2 a3 k, LeO (spec_GetData.f k a0 a1 a2 a3) (spec_GetData.f (k + 1) a0 a1 a2 a3) := by
 intro a0 a1 a2 a3 k
 obtain ⟨ih0, ih1, ih2⟩ := spec_GetData.mono_l k
 unfold spec_GetData.f
 repeat' first
   | (with_reducible first | exact ih0 _ _ _ _ _ _ _ _ _ _ _ | exact ih1 _ _ _ _ _ _ _ _ _ _ _ | exact ih2 _ _ _ _ _ _ _ _ _ _ _ _ _ _ _ _ | exact spec_Get4.mono _ _ _ | exact spec_GetName.mono _ _ _ | exact spec_l5Text.mono _ _ | exact LeO.refl _ | exact LeO.none _ | refine LeO.ite ?_ ?_ | refine LeO.bind ?_ (fun _ => ?_))
   | exact ih0 _ _ _ _ _ _ _ _ _ _ _
   | exact ih1 _ _ _ _ _ _ _ _ _ _ _
   | exact ih2 _ _ _ _ _ _ _ _ _ _ _ _ _ _ _ _
   | exact spec_Get4.mono _ _ _
   | exact spec_GetName.mono _ _ _
   | exact spec_l5Text.mono _ _
   | exact LeO.none _
   | refine LeO.ite ?_ ?_
   | refine LeO.bind ?_ (fun _ => ?_)
set_option maxHeartbeats 8000000 in
set_option maxRecDepth 100000 in
theorem spec_GetData.calls (k : Nat) (A0 : Option Addr) (c0 : Nat) (l0 : List Int) (a1 : Int) (a2 : Int) (a3 : Int) (r1 : ByteArray) (r2 : Int) (r3 : Int) (r4 : Int) (r5 : ByteArray) (r6 : ByteArray) (r7 : Int) (w : World) (hr0 : Kd.C (Kd.int .u8) w A0 l0.length l0) (hc0 : l0.length ≤ c0) (h : spec_GetData.f k l0 a1 a2 a3 = some (r1, r2, r3, r4, r5, r6, r7)) :
  Calls Tryd.prog 26 #[.slice A0 l0.length c0, .int .i64 a1, .int .i64 a2, .int .i64 a3] w fun e w' => e = .returned (.tuple #[.agg #[.string r1, .int .i64 r2, .int .i64 r3, .int .i64 r4, .string r5, .string r6], .int .i64 r7]) ∧ Below w.heap.size w w' := by
 have hu25 := Tryd.underlying25
 have HR0 := aS hr0
 have HC0 := aS hc0
 clear hr0 hc0
 have HB := aS (Below.refl w.heap.size w)
 have H : ((spec_l1In.f a2 0 255).bind fun t632 => (if t632 = true then ((spec_TypeOk.f a3).bind fun t633 => (spec_GetData.j0 k l0 a1 a2 a3 (!t633) (⟨#[]⟩ : ByteArray) 0 0 0 (⟨#[]⟩ : ByteArray) (⟨#[]⟩ : ByteArray))) else (spec_GetData.j0 k l0 a1 a2 a3 true (⟨#[]⟩ : ByteArray) 0 0 0 (⟨#[]⟩ : ByteArray) (⟨#[]⟩ : ByteArray)))) = some (r1, r2, r3, r4, r5, r6, r7) := h
 clear h
 have HC5 := aS H
 clear H
 go_enter Tryd.func26, Tryd.ntmps26
 go_upto_region 2 with (first | ((with_reducible refine gate_dst (N := 8) rfl ?_); (try (refine gate_guard (by rfl) ?_; dsimp only)); refine box_event ?hg (N := 8) ?hd (cs := #[.string (⟨#[]⟩ : ByteArray), .int .i64 0, .int .i64 0, .int .i64 0, .string (⟨#[]⟩ : ByteArray), .string (⟨#[]⟩ : ByteArray)]) (t := 25) ?hr ?_; (case hd => rfl); (case hg => rfl); (case hr => first | (go_simp; done) | (go_simp; rfl)); intro gb630 hg w6 hbox hb; have BK630 := aS (hbox); have GW630 := aS ((by rw [hg]; exact (below_size (wU HB.out)) : w.heap.size ≤ gb630)); have GE630 := aS ((by rw [hg]; exact (below_size (wU HB.out)) : w.heap.size ≤ gb630)); replace HB := aS (below_step (wU HB.out) hb); clear hb hbox hg) | ((with_reducible refine gate_dst (N := 10) rfl ?_); (try (refine gate_guard (by rfl) ?_; dsimp only)); refine box_event ?hg (N := 10) ?hd (cs := #[.string (⟨#[]⟩ : ByteArray), .int .i64 0, .int .i64 0, .int .i64 0, .string (⟨#[]⟩ : ByteArray), .string (⟨#[]⟩ : ByteArray)]) (t := 25) ?hr ?_; (case hd => rfl); (case hg => rfl); (case hr => first | (go_simp; done) | (go_simp; rfl)); intro gb631 hg w7 hbox hb; have BK631 := aS (hbox); have GW631 := aS ((by rw [hg]; exact (below_size (wS1 HB.out GE630.out)) : w.heap.size ≤ gb631)); have GE631 := aS ((by rw [hg]; exact (below_size (wS1 HB.out GE630.out)) : w.heap.size ≤ gb631)); replace HB := aS (below_step (wS1 HB.out GE630.out) hb); have NB630_631 := aS ((by rw [hg]; exact Nat.ne_of_lt (blk_lt (bU BK630.out)) : gb630 ≠ gb631)); have NB631_630 := aS ((by rw [hg]; exact Nat.ne_of_gt (blk_lt (bU BK630.out)) : gb631 ≠ gb630)); replace BK630 := aS (blk_below (bU BK630.out) hb); clear hb hbox hg; have hnb8 := NB631_630.out; have hnc8 := NB630_631.out; have hcz9 := cells6f BK631.out))
 (try simp only [Act.put, List.setIfInBounds_toArray, List.set_cons_zero, List.set_cons_succ])
 go_cut [28] (fun v28 wc => ∃ (kq : Nat) (x28_4 : Bool), v28 = .bool x28_4 ∧ Aside0 (spec_GetData.j0 kq l0 a1 a2 a3 x28_4 (⟨#[]⟩ : ByteArray) 0 0 0 (⟨#[]⟩ : ByteArray) (⟨#[]⟩ : ByteArray) = some (r1, r2, r3, r4, r5, r6, r7)) ∧ Aside0 (kq ≤ k) ∧ Aside0 (wc.heap[gb630]? = some (.cells #[.string (⟨#[]⟩ : ByteArray), .int .i64 0, .int .i64 0, .int .i64 0, .string (⟨#[]⟩ : ByteArray), .string (⟨#[]⟩ : ByteArray)] 25 (0, 0))) ∧ Aside0 (wc.heap[gb631]? = some (.cells #[.string (⟨#[]⟩ : ByteArray), .int .i64 0, .int .i64 0, .int .i64 0, .string (⟨#[]⟩ : ByteArray), .string (⟨#[]⟩ : ByteArray)] 25 (0, 0))) ∧ Aside0 (Below w.heap.size w wc))
 case first =>
  have H := HC5.out
  clear HC5
  obtain ⟨t632, A10, H⟩ := bM H
  try dsimp only at H
  by_cases c11 : t632 = true
  ·subst c11
   rw [if_pos rfl] at H
   obtain ⟨t633, A12, H⟩ := bM H
   try dsimp only at H
   have H' := aS H
   clear H
   go_wp2_with (first | ((with_reducible refine gate_callee (f := 86) rfl ?_); refine goesL_ (some 22) rfl rfl Tryd.func86 jK rfl #[.int .i64 a2, .int .i64 0, .int .i64 255] rfl jA ?_; (with_reducible refine (spec_l1In.calls a2 0 255 true _ A10.out).mono ?_); rintro e w' ⟨rfl, ⟨nd, rfl⟩⟩; refine ⟨_, rfl, ?_⟩) | (go_at_call 87; (with_reducible refine (spec_TypeOk.calls a3 t633 _ A12.out).mono ?_); rintro e w' ⟨rfl, ⟨nd, rfl⟩⟩) | ((with_reducible show Oper.upon _ { dst := _, op := .load 25 _, type := 25, pos := _, after := _, guard := _ } _ _ _ _); simp (maxDischargeDepth := 20) [go_sem, *]))
   go_meet
   case rel => exact ⟨_, (!t633), jB, H', ⟨by first | omega | exact Nat.le_refl _⟩, ⟨by (iterate 6 ((with_reducible repeat (first | refine blk_drewN ?_ _ | refine blk_drew ?_ | refine blk_alloc ?_ _)); refine blk_far ?_ NB630_631.out _)); exact bU BK630.out⟩, ⟨by (with_reducible repeat (first | refine blk_drewN ?_ _ | refine blk_drew ?_ | refine blk_alloc ?_ _)); refine blk_put_6 (.string (⟨#[]⟩ : ByteArray)) (.int .i64 0) (.int .i64 0) (.int .i64 0) (.string (⟨#[]⟩ : ByteArray)) (.string (⟨#[]⟩ : ByteArray)) ?_; exact bU BK631.out⟩, ⟨by exact wS2 HB.out GE630.out GE631.out⟩⟩
  ·replace c11 := Bool.eq_false_iff.mpr c11
   subst c11
   rw [if_neg Bool.false_ne_true] at H
   have H' := aS H
   clear H
   go_wp2_with (first | ((with_reducible refine gate_callee (f := 86) rfl ?_); refine goesL_ (some 22) rfl rfl Tryd.func86 jK rfl #[.int .i64 a2, .int .i64 0, .int .i64 255] rfl jA ?_; (with_reducible refine (spec_l1In.calls a2 0 255 false _ A10.out).mono ?_); rintro e w' ⟨rfl, ⟨nd, rfl⟩⟩; refine ⟨_, rfl, ?_⟩) | ((with_reducible show Oper.upon _ { dst := _, op := .load 25 _, type := 25, pos := _, after := _, guard := _ } _ _ _ _); simp (maxDischargeDepth := 20) [go_sem, *]))
   go_meet
   case rel => exact ⟨_, (true), jB, H', ⟨by first | omega | exact Nat.le_refl _⟩, ⟨by (iterate 6 ((with_reducible repeat (first | refine blk_drewN ?_ _ | refine blk_drew ?_ | refine blk_alloc ?_ _)); refine blk_far ?_ NB630_631.out _)); exact bU BK630.out⟩, ⟨by (with_reducible repeat (first | refine blk_drewN ?_ _ | refine blk_drew ?_ | refine blk_alloc ?_ _)); refine blk_put_6 (.string (⟨#[]⟩ : ByteArray)) (.int .i64 0) (.int .i64 0) (.int .i64 0) (.string (⟨#[]⟩ : ByteArray)) (.string (⟨#[]⟩ : ByteArray)) ?_; exact bU BK631.out⟩, ⟨by exact wS2 HB.out GE630.out GE631.out⟩⟩
 case rest =>
  clear HC5
  try clear c1
  try clear c2
  try clear p2
  try clear c8
  try clear c11
  try clear hcz9
  obtain ⟨kq, x28_4, rfl, HA, HJ4, BK630, BK631, HB⟩ := hcut
  cases kq with
  | zero => exact absurd HA.out (by simp [spec_GetData.j0])
  | succ kj4 =>
   have H := HA.out
   clear HA
   simp only [spec_GetData.j0] at H
   by_cases c13 : x28_4 = true
   ·subst c13
    rw [if_pos rfl] at H
    obtain ⟨t634, A14, H⟩ := bM H
    try dsimp only at H
    by_cases c15 : t634 = true
    ·subst c15
     rw [if_pos rfl] at H
     by_cases c16 : a1 < 0
     ·rw [if_pos c16] at H
      have c16b0 := decide_eq_true c16
      clear c16
      simp only [Option.some.injEq, Prod.mk.injEq] at H
      obtain ⟨rfl, rfl, rfl, rfl, rfl, rfl, rfl⟩ := H
      go_wp2_with (first | ((with_reducible refine gate_callee (f := 86) rfl ?_); refine goesL_ (some 30) rfl rfl Tryd.func86 jK rfl #[.int .i64 a2, .int .i64 0, .int .i64 255] rfl jA ?_; (with_reducible refine (spec_l1In.calls a2 0 255 true _ A14.out).mono ?_); rintro e w' ⟨rfl, ⟨nd, rfl⟩⟩; refine ⟨_, rfl, ?_⟩; (try (rw [drewN_self wc]; generalize hq_ : World.drewN wc _ = wc; have n0_ : Aside0 (wc.heap[gb630]? = some (.cells #[.string (⟨#[]⟩ : ByteArray), .int .i64 0, .int .i64 0, .int .i64 0, .string (⟨#[]⟩ : ByteArray), .string (⟨#[]⟩ : ByteArray)] 25 (0, 0))) := ⟨by rw [← hq_]; exact (bU BK630.out)⟩; have n1_ : Aside0 (wc.heap[gb631]? = some (.cells #[.string (⟨#[]⟩ : ByteArray), .int .i64 0, .int .i64 0, .int .i64 0, .string (⟨#[]⟩ : ByteArray), .string (⟨#[]⟩ : ByteArray)] 25 (0, 0))) := ⟨by rw [← hq_]; exact (bU BK631.out)⟩; have n2_ : Aside0 (Below w.heap.size w wc) := ⟨by rw [← hq_]; exact (wS2 HB.out GE630.out GE631.out)⟩; clear BK630 BK631 HB hq_; revert n0_ n1_ n2_; intro BK630 BK631 HB)); have hnb17 := NB631_630.out; have hnc17 := NB630_631.out; have hcz18 := cells6f BK631.out; have hcz19 := cells6f BK630.out) | ((with_reducible show Oper.upon _ { dst := _, op := .load 25 _, type := 25, pos := _, after := _, guard := _ } _ _ _ _); simp (maxDischargeDepth := 20) [go_sem, *]))
      refine bodyPost_ret (results_ct rfl _ _ gb630 25 #[.string (⟨#[]⟩ : ByteArray), .int .i64 0, .int .i64 0, .int .i64 0, .string (⟨#[]⟩ : ByteArray), .string (⟨#[]⟩ : ByteArray)] (0, 0) _ rfl (by (with_reducible repeat (first | refine blk_drewN ?_ _ | refine blk_drew ?_ | refine blk_alloc ?_ _)); refine blk_put_6 (.string (⟨#[]⟩ : ByteArray)) (.int .i64 0) (.int .i64 0) (.int .i64 0) (.string (⟨#[]⟩ : ByteArray)) (.string (⟨#[]⟩ : ByteArray)) ?_; exact bU BK630.out) Tryd.underlying25 rfl jK) rfl ?_
      exact ⟨jE, by exact wS2 HB.out GE630.out GE631.out⟩
     ·rw [if_neg c16] at H
      have c16b0 := decide_eq_false c16
      clear c16
      by_cases c20 : a1 > (wrap64 ((l0.length : Int) - a2))
      ·rw [if_pos c20] at H
       have c20b0 := decide_eq_true c20
       clear c20
       simp only [Option.some.injEq, Prod.mk.injEq] at H
       obtain ⟨rfl, rfl, rfl, rfl, rfl, rfl, rfl⟩ := H
       go_wp2_with (first | ((with_reducible refine gate_callee (f := 86) rfl ?_); refine goesL_ (some 30) rfl rfl Tryd.func86 jK rfl #[.int .i64 a2, .int .i64 0, .int .i64 255] rfl jA ?_; (with_reducible refine (spec_l1In.calls a2 0 255 true _ A14.out).mono ?_); rintro e w' ⟨rfl, ⟨nd, rfl⟩⟩; refine ⟨_, rfl, ?_⟩; (try (rw [drewN_self wc]; generalize hq_ : World.drewN wc _ = wc; have n0_ : Aside0 (wc.heap[gb630]? = some (.cells #[.string (⟨#[]⟩ : ByteArray), .int .i64 0, .int .i64 0, .int .i64 0, .string (⟨#[]⟩ : ByteArray), .string (⟨#[]⟩ : ByteArray)] 25 (0, 0))) := ⟨by rw [← hq_]; exact (bU BK630.out)⟩; have n1_ : Aside0 (wc.heap[gb631]? = some (.cells #[.string (⟨#[]⟩ : ByteArray), .int .i64 0, .int .i64 0, .int .i64 0, .string (⟨#[]⟩ : ByteArray), .string (⟨#[]⟩ : ByteArray)] 25 (0, 0))) := ⟨by rw [← hq_]; exact (bU BK631.out)⟩; have n2_ : Aside0 (Below w.heap.size w wc) := ⟨by rw [← hq_]; exact (wS2 HB.out GE630.out GE631.out)⟩; clear BK630 BK631 HB hq_; revert n0_ n1_ n2_; intro BK630 BK631 HB)); have hnb21 := NB631_630.out; have hnc21 := NB630_631.out; have hcz22 := cells6f BK631.out; have hcz23 := cells6f BK630.out) | ((with_reducible show Oper.upon _ { dst := _, op := .load 25 _, type := 25, pos := _, after := _, guard := _ } _ _ _ _); simp (maxDischargeDepth := 20) [go_sem, *]))
       refine bodyPost_ret (results_ct rfl _ _ gb630 25 #[.string (⟨#[]⟩ : ByteArray), .int .i64 0, .int .i64 0, .int .i64 0, .string (⟨#[]⟩ : ByteArray), .string (⟨#[]⟩ : ByteArray)] (0, 0) _ rfl (by (with_reducible repeat (first | refine blk_drewN ?_ _ | refine blk_drew ?_ | refine blk_alloc ?_ _)); refine blk_put_6 (.string (⟨#[]⟩ : ByteArray)) (.int .i64 0) (.int .i64 0) (.int .i64 0) (.string (⟨#[]⟩ : ByteArray)) (.string (⟨#[]⟩ : ByteArray)) ?_; exact bU BK630.out) Tryd.underlying25 rfl jK) rfl ?_
       exact ⟨jE, by exact wS2 HB.out GE630.out GE631.out⟩
      ·rw [if_neg c20] at H
       have c20b0 := decide_eq_false c20
       clear c20
       simp only [Option.some.injEq, Prod.mk.injEq] at H
       obtain ⟨rfl, rfl, rfl, rfl, rfl, rfl, rfl⟩ := H
       go_wp2_with (first | ((with_reducible refine gate_callee (f := 86) rfl ?_); refine goesL_ (some 30) rfl rfl Tryd.func86 jK rfl #[.int .i64 a2, .int .i64 0, .int .i64 255] rfl jA ?_; (with_reducible refine (spec_l1In.calls a2 0 255 true _ A14.out).mono ?_); rintro e w' ⟨rfl, ⟨nd, rfl⟩⟩; refine ⟨_, rfl, ?_⟩; (try (rw [drewN_self wc]; generalize hq_ : World.drewN wc _ = wc; have n0_ : Aside0 (wc.heap[gb630]? = some (.cells #[.string (⟨#[]⟩ : ByteArray), .int .i64 0, .int .i64 0, .int .i64 0, .string (⟨#[]⟩ : ByteArray), .string (⟨#[]⟩ : ByteArray)] 25 (0, 0))) := ⟨by rw [← hq_]; exact (bU BK630.out)⟩; have n1_ : Aside0 (wc.heap[gb631]? = some (.cells #[.string (⟨#[]⟩ : ByteArray), .int .i64 0, .int .i64 0, .int .i64 0, .string (⟨#[]⟩ : ByteArray), .string (⟨#[]⟩ : ByteArray)] 25 (0, 0))) := ⟨by rw [← hq_]; exact (bU BK631.out)⟩; have n2_ : Aside0 (Below w.heap.size w wc) := ⟨by rw [← hq_]; exact (wS2 HB.out GE630.out GE631.out)⟩; clear BK630 BK631 HB hq_; revert n0_ n1_ n2_; intro BK630 BK631 HB)); have hnb24 := NB631_630.out; have hnc24 := NB630_631.out; have hcz25 := cells6f BK631.out; have hcz26 := cells6f BK630.out) | ((with_reducible show Oper.upon _ { dst := _, op := .load 25 _, type := 25, pos := _, after := _, guard := _ } _ _ _ _); simp (maxDischargeDepth := 20) [go_sem, *]))
       refine bodyPost_ret (results_ct rfl _ _ gb630 25 #[.string (⟨#[]⟩ : ByteArray), .int .i64 0, .int .i64 0, .int .i64 0, .string (⟨#[]⟩ : ByteArray), .string (⟨#[]⟩ : ByteArray)] (0, 0) _ rfl (by (with_reducible repeat (first | refine blk_drewN ?_ _ | refine blk_drew ?_ | refine blk_alloc ?_ _)); refine blk_put_6 (.string (⟨#[]⟩ : ByteArray)) (.int .i64 0) (.int .i64 0) (.int .i64 0) (.string (⟨#[]⟩ : ByteArray)) (.string (⟨#[]⟩ : ByteArray)) ?_; exact bU BK630.out) Tryd.underlying25 rfl jK) rfl ?_
       exact ⟨jE, by exact wS2 HB.out GE630.out GE631.out⟩
    ·replace c15 := Bool.eq_false_iff.mpr c15
     subst c15
     rw [if_neg Bool.false_ne_true] at H
     simp only [Option.some.injEq, Prod.mk.injEq] at H
     obtain ⟨rfl, rfl, rfl, rfl, rfl, rfl, rfl⟩ := H
     go_wp2_with (first | ((with_reducible refine gate_callee (f := 86) rfl ?_); refine goesL_ (some 30) rfl rfl Tryd.func86 jK rfl #[.int .i64 a2, .int .i64 0, .int .i64 255] rfl jA ?_; (with_reducible refine (spec_l1In.calls a2 0 255 false _ A14.out).mono ?_); rintro e w' ⟨rfl, ⟨nd, rfl⟩⟩; refine ⟨_, rfl, ?_⟩; (try (rw [drewN_self wc]; generalize hq_ : World.drewN wc _ = wc; have n0_ : Aside0 (wc.heap[gb630]? = some (.cells #[.string (⟨#[]⟩ : ByteArray), .int .i64 0, .int .i64 0, .int .i64 0, .string (⟨#[]⟩ : ByteArray), .string (⟨#[]⟩ : ByteArray)] 25 (0, 0))) := ⟨by rw [← hq_]; exact (bU BK630.out)⟩; have n1_ : Aside0 (wc.heap[gb631]? = some (.cells #[.string (⟨#[]⟩ : ByteArray), .int .i64 0, .int .i64 0, .int .i64 0, .string (⟨#[]⟩ : ByteArray), .string (⟨#[]⟩ : ByteArray)] 25 (0, 0))) := ⟨by rw [← hq_]; exact (bU BK631.out)⟩; have n2_ : Aside0 (Below w.heap.size w wc) := ⟨by rw [← hq_]; exact (wS2 HB.out GE630.out GE631.out)⟩; clear BK630 BK631 HB hq_; revert n0_ n1_ n2_; intro BK630 BK631 HB)); have hnb27 := NB631_630.out; have hnc27 := NB630_631.out; have hcz28 := cells6f BK631.out; have hcz29 := cells6f BK630.out) | ((with_reducible show Oper.upon _ { dst := _, op := .load 25 _, type := 25, pos := _, after := _, guard := _ } _ _ _ _); simp (maxDischargeDepth := 20) [go_sem, *]))
     refine bodyPost_ret (results_ct rfl _ _ gb630 25 #[.string (⟨#[]⟩ : ByteArray), .int .i64 0, .int .i64 0, .int .i64 0, .string (⟨#[]⟩ : ByteArray), .string (⟨#[]⟩ : ByteArray)] (0, 0) _ rfl (by (with_reducible repeat (first | refine blk_drewN ?_ _ | refine blk_drew ?_ | refine blk_alloc ?_ _)); refine blk_put_6 (.string (⟨#[]⟩ : ByteArray)) (.int .i64 0) (.int .i64 0) (.int .i64 0) (.string (⟨#[]⟩ : ByteArray)) (.string (⟨#[]⟩ : ByteArray)) ?_; exact bU BK630.out) Tryd.underlying25 rfl jK) rfl ?_
     exact ⟨jE, by exact wS2 HB.out GE630.out GE631.out⟩
   ·replace c13 := Bool.eq_false_iff.mpr c13
    subst c13
    rw [if_neg Bool.false_ne_true] at H
    have HC30 := aS H
    clear H
    go_upto_region 6 with (fail)
    go_cut [54] (fun v54 wc => ∃ (kq : Nat) (x54_29 : Bool), v54 = .bool x54_29 ∧ Aside0 (spec_GetData.j1 kq l0 a1 a2 a3 x54_29 (⟨#[]⟩ : ByteArray) 0 0 0 (⟨#[]⟩ : ByteArray) (⟨#[]⟩ : ByteArray) = some (r1, r2, r3, r4, r5, r6, r7)) ∧ Aside0 (kq ≤ kj4) ∧ Aside0 (wc.heap[gb630]? = some (.cells #[.string (⟨#[]⟩ : ByteArray), .int .i64 0, .int .i64 0, .int .i64 0, .string (⟨#[]⟩ : ByteArray), .string (⟨#[]⟩ : ByteArray)] 25 (0, 0))) ∧ Aside0 (wc.heap[gb631]? = some (.cells #[.string (⟨#[]⟩ : ByteArray), .int .i64 0, .int .i64 0, .int .i64 0, .string (⟨#[]⟩ : ByteArray), .string (⟨#[]⟩ : ByteArray)] 25 (0, 0))) ∧ Aside0 (Below w.heap.size w wc))
    case first =>
     have H := HC30.out
     clear HC30
     by_cases c31 : a1 < 0
     ·rw [if_pos c31] at H
      have c31b0 := decide_eq_true c31
      clear c31
      (first | rw [c31b0] | (simp only [i64_w, i32_w]; rw [c31b0]) | skip)
      have H' := aS H
      clear H
      go_wp2
      go_meet
      case rel => exact ⟨_, (true), jB, H', ⟨by have := HJ4.out; first | omega | exact Nat.le_refl _⟩, ⟨by exact bU BK630.out⟩, ⟨by exact bU BK631.out⟩, ⟨by exact wS2 HB.out GE630.out GE631.out⟩⟩
     ·rw [if_neg c31] at H
      have c31b0 := decide_eq_false c31
      clear c31
      (first | rw [c31b0] | (simp only [i64_w, i32_w]; rw [c31b0]) | skip)
      have H' := aS H
      clear H
      go_wp2
      go_meet
      case rel => exact ⟨_, (decide (a1 > (wrap64 ((l0.length : Int) - a2)))), jB, H', ⟨by have := HJ4.out; first | omega | exact Nat.le_refl _⟩, ⟨by exact bU BK630.out⟩, ⟨by exact bU BK631.out⟩, ⟨by exact wS2 HB.out GE630.out GE631.out⟩⟩
    case rest =>
     clear HC30
     try clear c1
     try clear c2
     try clear p2
     try clear c3
     try clear p6
     try clear c8
     try clear c11
     try clear c13
     try clear c15
     try clear c16
     try clear c16b0
     try clear c17
     try clear c20
     try clear c20b0
     try clear c21
     try clear c24
     try clear c26
     try clear c27
     try clear c31
     try clear c31b0
     try clear hcz18
     try clear hcz19
     try clear hcz22
     try clear hcz23
     try clear hcz25
     try clear hcz26
     try clear hcz28
     try clear hcz29
     try clear hcz9
     try clear p2
     obtain ⟨kq, x54_29, rfl, HA, HJ29, BK630, BK631, HB⟩ := hcut
     cases kq with
     | zero => exact absurd HA.out (by simp [spec_GetData.j1])
     | succ kj29 =>
      have H := HA.out
      clear HA
      simp only [spec_GetData.j1] at H
      by_cases c32 : x54_29 = true
      ·subst c32
       rw [if_pos rfl] at H
       simp only [Option.some.injEq, Prod.mk.injEq] at H
       obtain ⟨rfl, rfl, rfl, rfl, rfl, rfl, rfl⟩ := H
       have hnb33 := NB631_630.out
       have hnc33 := NB630_631.out
       have hcz34 := cells6f BK631.out
       have hcz35 := cells6f BK630.out
       go_wp2
       refine bodyPost_ret (results_ct rfl _ _ gb630 25 #[.string (⟨#[]⟩ : ByteArray), .int .i64 0, .int .i64 0, .int .i64 0, .string (⟨#[]⟩ : ByteArray), .string (⟨#[]⟩ : ByteArray)] (0, 0) _ rfl (by (with_reducible repeat (first | refine blk_drewN ?_ _ | refine blk_drew ?_ | refine blk_alloc ?_ _)); refine blk_put_6 (.string (⟨#[]⟩ : ByteArray)) (.int .i64 0) (.int .i64 0) (.int .i64 0) (.string (⟨#[]⟩ : ByteArray)) (.string (⟨#[]⟩ : ByteArray)) ?_; exact bU BK630.out) Tryd.underlying25 rfl jK) rfl ?_
       exact ⟨jE, by exact wS2 HB.out GE630.out GE631.out⟩
      ·replace c32 := Bool.eq_false_iff.mpr c32
       subst c32
       rw [if_neg Bool.false_ne_true] at H
       have HC36 := aS H
       clear H
       go_upto_if 94 with (first | ((with_reducible refine gate_dst (N := 11) rfl ?_); (try (refine gate_guard (by rfl) ?_; dsimp only)); refine box_event ?hg (N := 11) ?hd (cs := #[.string (⟨#[]⟩ : ByteArray), .int .i64 0, .int .i64 0, .int .i64 0, .string (⟨#[]⟩ : ByteArray), .string (⟨#[]⟩ : ByteArray)]) (t := 25) ?hr ?_; (case hd => rfl); (case hg => rfl); (case hr => first | (go_simp; done) | (go_simp; rfl)); intro gb635 hg w37 hbox hb; have BK635 := aS (hbox); have GW635 := aS ((by rw [hg]; exact (below_size (wS2 HB.out GE630.out GE631.out)) : w.heap.size ≤ gb635)); have GE635 := aS ((by rw [hg]; exact (below_size (wS2 HB.out GE630.out GE631.out)) : w.heap.size ≤ gb635)); replace HB := aS (below_step (wS2 HB.out GE630.out GE631.out) hb); have NB630_635 := aS ((by rw [hg]; exact Nat.ne_of_lt (blk_lt (bU BK630.out)) : gb630 ≠ gb635)); have NB635_630 := aS ((by rw [hg]; exact Nat.ne_of_gt (blk_lt (bU BK630.out)) : gb635 ≠ gb630)); replace BK630 := aS (blk_below (bU BK630.out) hb); have NB631_635 := aS ((by rw [hg]; exact Nat.ne_of_lt (blk_lt (bU BK631.out)) : gb631 ≠ gb635)); have NB635_631 := aS ((by rw [hg]; exact Nat.ne_of_gt (blk_lt (bU BK631.out)) : gb635 ≠ gb631)); replace BK631 := aS (blk_below (bU BK631.out) hb); clear hb hbox hg; have hnb38 := NB635_630.out; have hnc38 := NB630_635.out; have hnb39 := NB635_631.out; have hnc39 := NB631_635.out; have hcz40 := cells6f BK635.out))
       (try simp only [Act.put, List.setIfInBounds_toArray, List.set_cons_zero, List.set_cons_succ])
       have H := HC36.out
       clear HC36
       by_cases c41 : a3 = 1
       ·rw [if_pos c41] at H
        have c41b0 := beq_iff_eq.mpr c41
        have c41b1 := bne_eq_false_iff_eq.mpr c41
        clear c41
        (first | rw [c41b0] | (simp only [i64_w, i32_w]; rw [c41b0]) | skip)
        obtain ⟨⟨t636, t637⟩, A42, H⟩ := bM H
        try dsimp only at H
        by_cases c43 : t637 = true
        ·subst c43
         rw [if_pos rfl] at H
         by_cases c44 : a2 = 4
         ·rw [if_pos c44] at H
          have c44b0 := beq_iff_eq.mpr c44
          have c44b1 := bne_eq_false_iff_eq.mpr c44
          clear c44
          simp only [Option.some.injEq, Prod.mk.injEq] at H
          obtain ⟨rfl, rfl, rfl, rfl, rfl, rfl, rfl⟩ := H
          go_wp2_with (first | ((with_reducible refine gate_callee (f := 84) rfl ?_); refine goesL_ (some 99) rfl rfl Tryd.func84 jK rfl #[.slice A0 l0.length c0, .int .i64 a1] rfl jA ?_; (with_reducible refine (spec_Get4.calls kj29 _ _ l0 a1 t636 true _ ?side1 ?side2 A42.out).mono ?_); (case side1 => exact Kd.C_below HR0.out (wS3 HB.out GE630.out GE631.out GE635.out)); (case side2 => exact HC0.out); rintro e w' ⟨rfl, ⟨nd, rfl⟩⟩; refine ⟨_, rfl, ?_⟩; have hnb45 := NB635_630.out; have hnc45 := NB630_635.out; have hnb46 := NB635_631.out; have hnc46 := NB631_635.out; have hcz47 := cells6f BK635.out; have hnb48 := NB630_631.out; have hnc48 := NB631_630.out; have hcz49 := cells6f BK630.out) | ((with_reducible show Oper.upon _ { dst := _, op := .load 25 _, type := 25, pos := _, after := _, guard := _ } _ _ _ _); simp (maxDischargeDepth := 20) [go_sem, *]))
          refine bodyPost_ret (results_ct rfl _ _ gb630 25 #[.string (⟨#[]⟩ : ByteArray), .int .i64 a3, .int .i64 0, .int .i64 t636, .string (⟨#[]⟩ : ByteArray), .string (⟨#[]⟩ : ByteArray)] (0, 0) _ rfl (by (with_reducible repeat (first | refine blk_drewN ?_ _ | refine blk_drew ?_ | refine blk_alloc ?_ _)); refine blk_put_6 (.string (⟨#[]⟩ : ByteArray)) (.int .i64 0) (.int .i64 0) (.int .i64 0) (.string (⟨#[]⟩ : ByteArray)) (.string (⟨#[]⟩ : ByteArray)) ?_; (iterate 7 ((with_reducible repeat (first | refine blk_drewN ?_ _ | refine blk_drew ?_ | refine blk_alloc ?_ _)); refine blk_far ?_ NB630_635.out _)); exact bU BK630.out) Tryd.underlying25 rfl jK) rfl ?_
          exact ⟨jE, by exact wS3 HB.out GE630.out GE631.out GE635.out⟩
         ·rw [if_neg c44] at H
          have c44b0 := beq_eq_false_iff_ne.mpr c44
          have c44b1 := bne_iff_ne.mpr c44
          simp only [Option.some.injEq, Prod.mk.injEq] at H
          obtain ⟨rfl, rfl, rfl, rfl, rfl, rfl, rfl⟩ := H
          go_wp2_with (first | ((with_reducible refine gate_callee (f := 84) rfl ?_); refine goesL_ (some 99) rfl rfl Tryd.func84 jK rfl #[.slice A0 l0.length c0, .int .i64 a1] rfl jA ?_; (with_reducible refine (spec_Get4.calls kj29 _ _ l0 a1 t636 true _ ?side1 ?side2 A42.out).mono ?_); (case side1 => exact Kd.C_below HR0.out (wS3 HB.out GE630.out GE631.out GE635.out)); (case side2 => exact HC0.out); rintro e w' ⟨rfl, ⟨nd, rfl⟩⟩; refine ⟨_, rfl, ?_⟩; have hnb50 := NB635_630.out; have hnc50 := NB630_635.out; have hnb51 := NB635_631.out; have hnc51 := NB631_635.out; have hcz52 := cells6f BK635.out; have hnb53 := NB631_630.out; have hnc53 := NB630_631.out; have hcz54 := cells6f BK631.out; have hcz55 := cells6f BK630.out) | ((with_reducible show Oper.upon _ { dst := _, op := .load 25 _, type := 25, pos := _, after := _, guard := _ } _ _ _ _); simp (maxDischargeDepth := 20) [go_sem, *]))
          refine bodyPost_ret (results_ct rfl _ _ gb630 25 #[.string (⟨#[]⟩ : ByteArray), .int .i64 0, .int .i64 0, .int .i64 0, .string (⟨#[]⟩ : ByteArray), .string (⟨#[]⟩ : ByteArray)] (0, 0) _ rfl (by (with_reducible repeat (first | refine blk_drewN ?_ _ | refine blk_drew ?_ | refine blk_alloc ?_ _)); refine blk_put_6 (.string (⟨#[]⟩ : ByteArray)) (.int .i64 0) (.int .i64 0) (.int .i64 0) (.string (⟨#[]⟩ : ByteArray)) (.string (⟨#[]⟩ : ByteArray)) ?_; (iterate 7 ((with_reducible repeat (first | refine blk_drewN ?_ _ | refine blk_drew ?_ | refine blk_alloc ?_ _)); refine blk_far ?_ NB630_635.out _)); exact bU BK630.out) Tryd.underlying25 rfl jK) rfl ?_
          exact ⟨jE, by exact wS3 HB.out GE630.out GE631.out GE635.out⟩
        ·replace c43 := Bool.eq_false_iff.mpr c43
         subst c43
         rw [if_neg Bool.false_ne_true] at H
         simp only [Option.some.injEq, Prod.mk.injEq] at H
         obtain ⟨rfl, rfl, rfl, rfl, rfl, rfl, rfl⟩ := H
         go_wp2_with (first | ((with_reducible refine gate_callee (f := 84) rfl ?_); refine goesL_ (some 99) rfl rfl Tryd.func84 jK rfl #[.slice A0 l0.length c0, .int .i64 a1] rfl jA ?_; (with_reducible refine (spec_Get4.calls kj29 _ _ l0 a1 t636 false _ ?side1 ?side2 A42.out).mono ?_); (case side1 => exact Kd.C_below HR0.out (wS3 HB.out GE630.out GE631.out GE635.out)); (case side2 => exact HC0.out); rintro e w' ⟨rfl, ⟨nd, rfl⟩⟩; refine ⟨_, rfl, ?_⟩; have hnb56 := NB635_630.out; have hnc56 := NB630_635.out; have hnb57 := NB635_631.out; have hnc57 := NB631_635.out; have hcz58 := cells6f BK635.out; have hnb59 := NB631_630.out; have hnc59 := NB630_631.out; have hcz60 := cells6f BK631.out; have hcz61 := cells6f BK630.out) | ((with_reducible show Oper.upon _ { dst := _, op := .load 25 _, type := 25, pos := _, after := _, guard := _ } _ _ _ _); simp (maxDischargeDepth := 20) [go_sem, *]))
         refine bodyPost_ret (results_ct rfl _ _ gb630 25 #[.string (⟨#[]⟩ : ByteArray), .int .i64 0, .int .i64 0, .int .i64 0, .string (⟨#[]⟩ : ByteArray), .string (⟨#[]⟩ : ByteArray)] (0, 0) _ rfl (by (with_reducible repeat (first | refine blk_drewN ?_ _ | refine blk_drew ?_ | refine blk_alloc ?_ _)); refine blk_put_6 (.string (⟨#[]⟩ : ByteArray)) (.int .i64 0) (.int .i64 0) (.int .i64 0) (.string (⟨#[]⟩ : ByteArray)) (.string (⟨#[]⟩ : ByteArray)) ?_; (iterate 7 ((with_reducible repeat (first | refine blk_drewN ?_ _ | refine blk_drew ?_ | refine blk_alloc ?_ _)); refine blk_far ?_ NB630_635.out _)); exact bU BK630.out) Tryd.underlying25 rfl jK) rfl ?_
         exact ⟨jE, by exact wS3 HB.out GE630.out GE631.out GE635.out⟩
       ·rw [if_neg c41] at H
        have c41b0 := beq_eq_false_iff_ne.mpr c41
        have c41b1 := bne_iff_ne.mpr c41
        (first | rw [c41b0] | (simp only [i64_w, i32_w]; rw [c41b0]) | skip)
        by_cases c62 : a3 = 16
        ·rw [if_pos c62] at H
         have c62b0 := beq_iff_eq.mpr c62
         have c62b1 := bne_eq_false_iff_eq.mpr c62
         clear c62
         have HC63 := aS H
         clear H
         go_upto_region 29 with (fail)
         go_cut [124] (fun v124 wc => ∃ (kq : Nat) (x124_62 : Bool), v124 = .bool x124_62 ∧ Aside0 (spec_GetData.j2 kq l0 a1 (wrap64 (a1 + a2)) x124_62 (⟨#[]⟩ : ByteArray) 0 0 0 (⟨#[]⟩ : ByteArray) (⟨#[]⟩ : ByteArray) (⟨#[]⟩ : ByteArray) a3 0 0 (⟨#[]⟩ : ByteArray) (⟨#[]⟩ : ByteArray) = some (r1, r2, r3, r4, r5, r6, r7)) ∧ Aside0 (kq ≤ kj29) ∧ Aside0 (wc.heap[gb630]? = some (.cells #[.string (⟨#[]⟩ : ByteArray), .int .i64 0, .int .i64 0, .int .i64 0, .string (⟨#[]⟩ : ByteArray), .string (⟨#[]⟩ : ByteArray)] 25 (0, 0))) ∧ Aside0 (wc.heap[gb631]? = some (.cells #[.string (⟨#[]⟩ : ByteArray), .int .i64 0, .int .i64 0, .int .i64 0, .string (⟨#[]⟩ : ByteArray), .string (⟨#[]⟩ : ByteArray)] 25 (0, 0))) ∧ Aside0 (wc.heap[gb635]? = some (.cells #[.string (⟨#[]⟩ : ByteArray), .int .i64 a3, .int .i64 0, .int .i64 0, .string (⟨#[]⟩ : ByteArray), .string (⟨#[]⟩ : ByteArray)] 25 (0, 0))) ∧ Aside0 (Below w.heap.size w wc))
         case first =>
          have H := HC63.out
          clear HC63
          by_cases c64 : a2 < 1
          ·rw [if_pos c64] at H
           have c64b0 := decide_eq_true c64
           clear c64
           (first | rw [c64b0] | (simp only [i64_w, i32_w]; rw [c64b0]) | skip)
           have H' := aS H
           clear H
           go_wp2
           go_meet
           case rel => exact ⟨_, (true), jB, H', ⟨by have := HJ4.out; have := HJ29.out; first | omega | exact Nat.le_refl _⟩, ⟨by (iterate 6 ((with_reducible repeat (first | refine blk_drewN ?_ _ | refine blk_drew ?_ | refine blk_alloc ?_ _)); refine blk_far ?_ NB630_635.out _)); exact bU BK630.out⟩, ⟨by (iterate 6 ((with_reducible repeat (first | refine blk_drewN ?_ _ | refine blk_drew ?_ | refine blk_alloc ?_ _)); refine blk_far ?_ NB631_635.out _)); exact bU BK631.out⟩, ⟨by (with_reducible repeat (first | refine blk_drewN ?_ _ | refine blk_drew ?_ | refine blk_alloc ?_ _)); refine blk_put_6 (.string (⟨#[]⟩ : ByteArray)) (.int .i64 0) (.int .i64 0) (.int .i64 0) (.string (⟨#[]⟩ : ByteArray)) (.string (⟨#[]⟩ : ByteArray)) ?_; exact bU BK635.out⟩, ⟨by exact wS3 HB.out GE630.out GE631.out GE635.out⟩⟩
          ·rw [if_neg c64] at H
           have c64b0 := decide_eq_false c64
           clear c64
           (first | rw [c64b0] | (simp only [i64_w, i32_w]; rw [c64b0]) | skip)
           by_cases c65 : 0 ≤ a1
           ·rw [if_pos c65] at H
            have c65b0 := decide_eq_true c65
            clear c65
            by_cases c66 : a1 < (l0.length : Int)
            ·rw [if_pos c66] at H
             have c66b0 := decide_eq_true c66
             clear c66
             have H' := aS H
             clear H
             have p638 : 0 ≤ (a1 : Int) := of_decide_eq_true jC
             have q638 : a1 < (l0.length : Int) := of_decide_eq_true jC
             obtain ⟨ad638, e638, hx638_0⟩ := Kd.at_int HR0.out a1 p638 q638
             cases e638
             have hn638_0 : ad638.block ≠ gb635 := Nat.ne_of_lt (Nat.lt_of_lt_of_le (by have := World.block_lt_of_cell? _ _ hx638_0; first | rwa [add_block] at this | exact this) GW635.out)
             have hn638_1 : ad638.block ≠ gb635 := Nat.ne_of_lt (Nat.lt_of_lt_of_le (by have := World.block_lt_of_cell? _ _ hx638_0; first | rwa [add_block] at this | exact this) GW635.out)
             have hn638_2 : ad638.block ≠ gb635 := Nat.ne_of_lt (Nat.lt_of_lt_of_le (by have := World.block_lt_of_cell? _ _ hx638_0; first | rwa [add_block] at this | exact this) GW635.out)
             have hn638_3 : ad638.block ≠ gb635 := Nat.ne_of_lt (Nat.lt_of_lt_of_le (by have := World.block_lt_of_cell? _ _ hx638_0; first | rwa [add_block] at this | exact this) GW635.out)
             have hn638_4 : ad638.block ≠ gb635 := Nat.ne_of_lt (Nat.lt_of_lt_of_le (by have := World.block_lt_of_cell? _ _ hx638_0; first | rwa [add_block] at this | exact this) GW635.out)
             have hn638_5 : ad638.block ≠ gb635 := Nat.ne_of_lt (Nat.lt_of_lt_of_le (by have := World.block_lt_of_cell? _ _ hx638_0; first | rwa [add_block] at this | exact this) GW635.out)
             try replace hx638_0 := (HB.out.cell (World.block_lt_of_cell? w _ hx638_0)).trans hx638_0
             replace hx638_0 := (cell_far (p := ⟨gb635, 0, none⟩) (by first | (rw [add_block]; exact hn638_0) | (show (Addr.add _ _).block ≠ _; rw [add_block]; exact hn638_0) | exact hn638_0) (.string (⟨#[]⟩ : ByteArray))).trans hx638_0
             replace hx638_0 := (cell_far (p := ⟨gb635, 1, none⟩) (by first | (rw [add_block]; exact hn638_1) | (show (Addr.add _ _).block ≠ _; rw [add_block]; exact hn638_1) | exact hn638_1) (.int .i64 a3)).trans hx638_0
             replace hx638_0 := (cell_far (p := ⟨gb635, 2, none⟩) (by first | (rw [add_block]; exact hn638_2) | (show (Addr.add _ _).block ≠ _; rw [add_block]; exact hn638_2) | exact hn638_2) (.int .i64 0)).trans hx638_0
             replace hx638_0 := (cell_far (p := ⟨gb635, 3, none⟩) (by first | (rw [add_block]; exact hn638_3) | (show (Addr.add _ _).block ≠ _; rw [add_block]; exact hn638_3) | exact hn638_3) (.int .i64 0)).trans hx638_0
             replace hx638_0 := (cell_far (p := ⟨gb635, 4, none⟩) (by first | (rw [add_block]; exact hn638_4) | (show (Addr.add _ _).block ≠ _; rw [add_block]; exact hn638_4) | exact hn638_4) (.string (⟨#[]⟩ : ByteArray))).trans hx638_0
             replace hx638_0 := (cell_far (p := ⟨gb635, 5, none⟩) (by first | (rw [add_block]; exact hn638_5) | (show (Addr.add _ _).block ≠ _; rw [add_block]; exact hn638_5) | exact hn638_5) (.string (⟨#[]⟩ : ByteArray))).trans hx638_0
             clear hn638_0
             clear hn638_1
             clear hn638_2
             clear hn638_3
             clear hn638_4
             clear hn638_5
             replace p638 := eq_true p638
             replace q638 := eq_true q638
             go_wp2
             go_meet
             case rel => exact ⟨_, (((wrap64 (rd l0 a1)) != (wrap64 (a2 - 1)))), jB, H', ⟨by have := HJ4.out; have := HJ29.out; first | omega | exact Nat.le_refl _⟩, ⟨by (iterate 6 ((with_reducible repeat (first | refine blk_drewN ?_ _ | refine blk_drew ?_ | refine blk_alloc ?_ _)); refine blk_far ?_ NB630_635.out _)); exact bU BK630.out⟩, ⟨by (iterate 6 ((with_reducible repeat (first | refine blk_drewN ?_ _ | refine blk_drew ?_ | refine blk_alloc ?_ _)); refine blk_far ?_ NB631_635.out _)); exact bU BK631.out⟩, ⟨by (with_reducible repeat (first | refine blk_drewN ?_ _ | refine blk_drew ?_ | refine blk_alloc ?_ _)); refine blk_put_6 (.string (⟨#[]⟩ : ByteArray)) (.int .i64 0) (.int .i64 0) (.int .i64 0) (.string (⟨#[]⟩ : ByteArray)) (.string (⟨#[]⟩ : ByteArray)) ?_; exact bU BK635.out⟩, ⟨by exact wS3 HB.out GE630.out GE631.out GE635.out⟩⟩
            ·rw [if_neg c66] at H
             exact absurd H (by simp)
           ·rw [if_neg c65] at H
            exact absurd H (by simp)
         case rest =>
          clear HC63
          try clear c1
          try clear c2
          try clear p2
          try clear c3
          try clear c4
          try clear c5
          try clear c6
          try clear p6
          try clear q6
          try clear hx6
          try clear c8
          try clear c11
          try clear c13
          try clear c15
          try clear c16
          try clear c16b0
          try clear c17
          try clear c20
          try clear c20b0
          try clear c21
          try clear c24
          try clear c26
          try clear c27
          try clear c31
          try clear c31b0
          try clear c32
          try clear c33
          try clear c38
          try clear c39
          try clear c41
          try clear c41b0
          try clear c41b1
          try clear c43
          try clear c44
          try clear c44b0
          try clear c44b1
          try clear c45
          try clear c46
          try clear c48
          try clear c50
          try clear c51
          try clear c53
          try clear c56
          try clear c57
          try clear c59
          try clear c62
          try clear c62b0
          try clear c62b1
          try clear p63
          try clear q63
          try clear hx63
          try clear c64
          try clear c64b0
          try clear p64
          try clear c65
          try clear c65b0
          try clear c66
          try clear c66b0
          try clear hcz18
          try clear hcz19
          try clear hcz22
          try clear hcz23
          try clear hcz25
          try clear hcz26
          try clear hcz28
          try clear hcz29
          try clear hcz34
          try clear hcz35
          try clear hcz40
          try clear hcz47
          try clear hcz49
          try clear hcz52
          try clear hcz54
          try clear hcz55
          try clear hcz58
          try clear hcz60
          try clear hcz61
          try clear hcz9
          try clear hx638_0
          try clear p2
          try clear p6
          try clear p638
          try clear q638
          obtain ⟨kq, x124_62, rfl, HA, HJ62, BK630, BK631, BK635, HB⟩ := hcut
          cases kq with
          | zero => exact absurd HA.out (by simp [spec_GetData.j2])
          | succ kj62 =>
           have H := HA.out
           clear HA
           simp only [spec_GetData.j2] at H
           by_cases c67 : x124_62 = true
           ·subst c67
            rw [if_pos rfl] at H
            simp only [Option.some.injEq, Prod.mk.injEq] at H
            obtain ⟨rfl, rfl, rfl, rfl, rfl, rfl, rfl⟩ := H
            have hnb68 := NB631_630.out
            have hnc68 := NB630_631.out
            have hnb69 := NB631_635.out
            have hnc69 := NB635_631.out
            have hcz70 := cells6f BK631.out
            have hnb71 := NB630_635.out
            have hnc71 := NB635_630.out
            have hcz72 := cells6f BK630.out
            go_wp2
            refine bodyPost_ret (results_ct rfl _ _ gb630 25 #[.string (⟨#[]⟩ : ByteArray), .int .i64 0, .int .i64 0, .int .i64 0, .string (⟨#[]⟩ : ByteArray), .string (⟨#[]⟩ : ByteArray)] (0, 0) _ rfl (by (with_reducible repeat (first | refine blk_drewN ?_ _ | refine blk_drew ?_ | refine blk_alloc ?_ _)); refine blk_put_6 (.string (⟨#[]⟩ : ByteArray)) (.int .i64 0) (.int .i64 0) (.int .i64 0) (.string (⟨#[]⟩ : ByteArray)) (.string (⟨#[]⟩ : ByteArray)) ?_; exact bU BK630.out) Tryd.underlying25 rfl jK) rfl ?_
            exact ⟨jE, by exact wS3 HB.out GE630.out GE631.out GE635.out⟩
           ·replace c67 := Bool.eq_false_iff.mpr c67
            subst c67
            rw [if_neg Bool.false_ne_true] at H
            obtain ⟨ji73, hji73⟩ : ∃ j_ : Int, (wrap64 (a1 + 1)) = j_ := ⟨_, rfl⟩
            replace H : (if 0 ≤ (ji73) then (if (ji73) ≤ (wrap64 (a1 + a2)) then (if (wrap64 (a1 + a2)) ≤ (l0.length : Int) then ((some ((l0.take ((wrap64 (a1 + a2)) : Int).toNat).drop ((ji73) : Int).toNat : List Int)).bind fun y639 => ((spec_l5Text.f kj62 (strOfNums y639)).bind fun t643 => (if t643 = true then (some ((⟨#[]⟩ : ByteArray), a3, 0, 0, (⟨#[]⟩ : ByteArray), strOfNums y639, 0)) else (some ((⟨#[]⟩ : ByteArray), 0, 0, 0, (⟨#[]⟩ : ByteArray), (⟨#[]⟩ : ByteArray), 2))))) else (none)) else (none)) else (none)) = some (r1, r2, r3, r4, r5, r6, r7) := by first | (rw [hji73] at H; exact H) | (simp only [hji73] at H ⊢; exact H)
            have hji73w : (IntKind.i64.wrap (a1 + 1)) = ji73 := (i64_w _).trans hji73
            by_cases c74 : 0 ≤ (ji73)
            ·rw [if_pos c74] at H
             have c74b0 := eq_true c74
             have c74b1 := decide_eq_true c74
             clear c74
             by_cases c75 : (ji73) ≤ (wrap64 (a1 + a2))
             ·rw [if_pos c75] at H
              have c75b0 := eq_true c75
              have c75b1 := decide_eq_true c75
              by_cases c76 : (wrap64 (a1 + a2)) ≤ (l0.length : Int)
              ·rw [if_pos c76] at H
               have c76b0 := eq_true c76
               have c76b1 := decide_eq_true c76
               obtain ⟨y639, hy_⟩ : ∃ y_ : List Int, y_ = ((l0.take ((wrap64 (a1 + a2)) : Int).toNat).drop ((ji73) : Int).toNat) := ⟨_, rfl⟩
               replace H : ((spec_l5Text.f kj62 (strOfNums y639)).bind fun t643 => (if t643 = true then (some ((⟨#[]⟩ : ByteArray), a3, 0, 0, (⟨#[]⟩ : ByteArray), strOfNums y639, 0)) else (some ((⟨#[]⟩ : ByteArray), 0, 0, 0, (⟨#[]⟩ : ByteArray), (⟨#[]⟩ : ByteArray), 2)))) = some (r1, r2, r3, r4, r5, r6, r7) := jD
               have Ny639 := aS hy_
               clear hy_
               obtain ⟨t643, A77, H⟩ := bM H
               try dsimp only at H
               by_cases c78 : t643 = true
               ·subst c78
                rw [if_pos rfl] at H
                simp only [Option.some.injEq, Prod.mk.injEq] at H
                obtain ⟨rfl, rfl, rfl, rfl, rfl, rfl, rfl⟩ := H
                have q79 : ((wrap64 (a1 + a2)) : Int) ≤ ((l0.length : Int) : Int) := of_decide_eq_true jC
                obtain ⟨i079, hi079, _, hsz79, _⟩ := info_parts info5
                have hroom79 : l0.length ≤ c0 := HC0.out
                have hC79 : Kd.C (Kd.int .u8) _ A0 l0.length l0 := HR0.out
                have ql79 : ((ji73) : Int) ≤ ((wrap64 (a1 + a2)) : Int) := of_decide_eq_true jC
                have q079 : (0 : Int) ≤ ((ji73) : Int) := of_decide_eq_true jC
                have hcut79 := cut_mid (P := Tryd.prog) 22 5 .i64 .i64 Tryd.underlying22 hi079 1 hsz79 A0 l0.length c0 (ji73) (wrap64 (a1 + a2)) q079 ql79 q79 hroom79
                have hr79 := Kd.C_mid (lo := ((ji73) : Int).toNat) (hi := ((wrap64 (a1 + a2)) : Int).toNat) (c := c0) hC79 (by omega) (by omega) hroom79
                obtain ⟨A79, hA79⟩ : ∃ A1, A1 = (if c0 = ((ji73) : Int).toNat then A0 else (A0 : Option Addr).map (·.add (((ji73) : Int).toNat * 1))) := ⟨_, rfl⟩
                obtain ⟨c79, hc79⟩ : ∃ c1, c1 = c0 - ((ji73) : Int).toNat := ⟨_, rfl⟩
                have hy79 : y639.length = ((wrap64 (a1 + a2)) : Int).toNat - ((ji73) : Int).toNat := (by rw [Ny639.out, List.length_drop, List.length_take] <;> omega)
                rw [show ((l0).take ((wrap64 (a1 + a2)) : Int).toNat).drop ((ji73) : Int).toNat = y639 from Ny639.out.symm] at hr79
                replace hr79 : Kd.C (Kd.int .u8) _ A79 y639.length y639 := (by rw [hA79]; exact hr79)
                rw [← hy79, ← hA79, ← hc79] at hcut79
                have HR642 := aS hr79
                have HC642 := aS (show y639.length ≤ c79 from by rw [hy79, hc79]; exact Nat.sub_le_sub_right (Nat.le_trans (by omega) hroom79) _)
                clear hr79 hC79 hroom79 hi079 hsz79 hc79
                have KY79 := aS hy79
                have KA79 := aS hA79
                clear hy79 hA79
                replace q79 := eq_true q79
                have hcv80 := Kd.C_string (P := Tryd.prog) (A := A79) (c := c79) Tryd.underlying22 Tryd.underlying5 Tryd.underlying9 (Kd.C_below HR642.out HB.out)
                have hnb81 := NB635_630.out
                have hnc81 := NB630_635.out
                have hnb82 := NB635_631.out
                have hnc82 := NB631_635.out
                have hcz83 := cells6f BK635.out
                go_wp2_with (first | ((with_reducible refine gate_callee (f := 88) rfl ?_); refine goesL_ (some 135) rfl rfl Tryd.func88 jK rfl #[.string (strOfNums y639)] rfl jA ?_; (with_reducible refine (spec_l5Text.calls kj62 (strOfNums y639) true _ A77.out).mono ?_); rintro e w' ⟨rfl, ⟨nd, rfl⟩⟩; refine ⟨_, rfl, ?_⟩; have hnb84 := NB630_631.out; have hnc84 := NB631_630.out; have hcz85 := cells6f BK630.out) | ((with_reducible show Oper.upon _ { dst := _, op := .load 25 _, type := 25, pos := _, after := _, guard := _ } _ _ _ _); simp (maxDischargeDepth := 20) [go_sem, *]))
                refine bodyPost_ret (results_ct rfl _ _ gb630 25 #[.string (⟨#[]⟩ : ByteArray), .int .i64 a3, .int .i64 0, .int .i64 0, .string (⟨#[]⟩ : ByteArray), .string (strOfNums y639)] (0, 0) _ rfl (by (with_reducible repeat (first | refine blk_drewN ?_ _ | refine blk_drew ?_ | refine blk_alloc ?_ _)); refine blk_put_6 (.string (⟨#[]⟩ : ByteArray)) (.int .i64 0) (.int .i64 0) (.int .i64 0) (.string (⟨#[]⟩ : ByteArray)) (.string (⟨#[]⟩ : ByteArray)) ?_; (with_reducible repeat (first | refine blk_drewN ?_ _ | refine blk_drew ?_ | refine blk_alloc ?_ _)); refine blk_far ?_ NB630_635.out _; exact bU BK630.out) Tryd.underlying25 rfl jK) rfl ?_
                exact ⟨by first | rfl | (simp [errW_none, errW_some] <;> rfl) | (simp only [← hji73]; first | rfl | (simp [errW_none, errW_some] <;> rfl)) | (simp [*, errW_none, errW_some] <;> rfl), by exact wS3 HB.out GE630.out GE631.out GE635.out⟩
               ·replace c78 := Bool.eq_false_iff.mpr c78
                subst c78
                rw [if_neg Bool.false_ne_true] at H
                simp only [Option.some.injEq, Prod.mk.injEq] at H
                obtain ⟨rfl, rfl, rfl, rfl, rfl, rfl, rfl⟩ := H
                have q86 : ((wrap64 (a1 + a2)) : Int) ≤ ((l0.length : Int) : Int) := of_decide_eq_true jC
                obtain ⟨i086, hi086, _, hsz86, _⟩ := info_parts info5
                have hroom86 : l0.length ≤ c0 := HC0.out
                have hC86 : Kd.C (Kd.int .u8) _ A0 l0.length l0 := HR0.out
                have ql86 : ((ji73) : Int) ≤ ((wrap64 (a1 + a2)) : Int) := of_decide_eq_true jC
                have q086 : (0 : Int) ≤ ((ji73) : Int) := of_decide_eq_true jC
                have hcut86 := cut_mid (P := Tryd.prog) 22 5 .i64 .i64 Tryd.underlying22 hi086 1 hsz86 A0 l0.length c0 (ji73) (wrap64 (a1 + a2)) q086 ql86 q86 hroom86
                have hr86 := Kd.C_mid (lo := ((ji73) : Int).toNat) (hi := ((wrap64 (a1 + a2)) : Int).toNat) (c := c0) hC86 (by omega) (by omega) hroom86
                obtain ⟨A86, hA86⟩ : ∃ A1, A1 = (if c0 = ((ji73) : Int).toNat then A0 else (A0 : Option Addr).map (·.add (((ji73) : Int).toNat * 1))) := ⟨_, rfl⟩
                obtain ⟨c86, hc86⟩ : ∃ c1, c1 = c0 - ((ji73) : Int).toNat := ⟨_, rfl⟩
                have hy86 : y639.length = ((wrap64 (a1 + a2)) : Int).toNat - ((ji73) : Int).toNat := (by rw [Ny639.out, List.length_drop, List.length_take] <;> omega)
                rw [show ((l0).take ((wrap64 (a1 + a2)) : Int).toNat).drop ((ji73) : Int).toNat = y639 from Ny639.out.symm] at hr86
                replace hr86 : Kd.C (Kd.int .u8) _ A86 y639.length y639 := (by rw [hA86]; exact hr86)
                rw [← hy86, ← hA86, ← hc86] at hcut86
                have HR642 := aS hr86
                have HC642 := aS (show y639.length ≤ c86 from by rw [hy86, hc86]; exact Nat.sub_le_sub_right (Nat.le_trans (by omega) hroom86) _)
                clear hr86 hC86 hroom86 hi086 hsz86 hc86
                have KY86 := aS hy86
                have KA86 := aS hA86
                clear hy86 hA86
                replace q86 := eq_true q86
                have hcv87 := Kd.C_string (P := Tryd.prog) (A := A86) (c := c86) Tryd.underlying22 Tryd.underlying5 Tryd.underlying9 (Kd.C_below HR642.out HB.out)
                have hnb88 := NB635_630.out
                have hnc88 := NB630_635.out
                have hnb89 := NB635_631.out
                have hnc89 := NB631_635.out
                have hcz90 := cells6f BK635.out
                go_wp2_with (first | ((with_reducible refine gate_callee (f := 88) rfl ?_); refine goesL_ (some 135) rfl rfl Tryd.func88 jK rfl #[.string (strOfNums y639)] rfl jA ?_; (with_reducible refine (spec_l5Text.calls kj62 (strOfNums y639) false _ A77.out).mono ?_); rintro e w' ⟨rfl, ⟨nd, rfl⟩⟩; refine ⟨_, rfl, ?_⟩; have hnb91 := NB631_630.out; have hnc91 := NB630_631.out; have hcz92 := cells6f BK631.out; have hcz93 := cells6f BK630.out) | ((with_reducible show Oper.upon _ { dst := _, op := .load 25 _, type := 25, pos := _, after := _, guard := _ } _ _ _ _); simp (maxDischargeDepth := 20) [go_sem, *]))
                refine bodyPost_ret (results_ct rfl _ _ gb630 25 #[.string (⟨#[]⟩ : ByteArray), .int .i64 0, .int .i64 0, .int .i64 0, .string (⟨#[]⟩ : ByteArray), .string (⟨#[]⟩ : ByteArray)] (0, 0) _ rfl (by (with_reducible repeat (first | refine blk_drewN ?_ _ | refine blk_drew ?_ | refine blk_alloc ?_ _)); refine blk_put_6 (.string (⟨#[]⟩ : ByteArray)) (.int .i64 0) (.int .i64 0) (.int .i64 0) (.string (⟨#[]⟩ : ByteArray)) (.string (⟨#[]⟩ : ByteArray)) ?_; (with_reducible repeat (first | refine blk_drewN ?_ _ | refine blk_drew ?_ | refine blk_alloc ?_ _)); refine blk_far ?_ NB630_635.out _; exact bU BK630.out) Tryd.underlying25 rfl jK) rfl ?_
                exact ⟨by first | rfl | (simp [errW_none, errW_some] <;> rfl) | (simp only [← hji73]; first | rfl | (simp [errW_none, errW_some] <;> rfl)) | (simp [*, errW_none, errW_some] <;> rfl), by exact wS3 HB.out GE630.out GE631.out GE635.out⟩
              ·rw [if_neg c76] at H
               exact absurd H (by simp)
             ·rw [if_neg c75] at H
              exact absurd H (by simp)
            ·rw [if_neg c74] at H
             exact absurd H (by simp)
        ·rw [if_neg c62] at H
         have c62b0 := beq_eq_false_iff_ne.mpr c62
         have c62b1 := bne_iff_ne.mpr c62
         obtain ⟨⟨t644, t645, t646⟩, A94, H⟩ := bM H
         try dsimp only at H
         have HC95 := aS H
         clear H
         go_upto_if 70 with (first | ((with_reducible refine gate_callee (f := 82) rfl ?_); refine goesL_ (some 65) rfl rfl Tryd.func82 jK rfl #[.slice A0 l0.length c0, .int .i64 a1] rfl jA ?_; (with_reducible refine (spec_GetName.calls kj29 _ _ l0 a1 t644 t645 t646 _ ?side1 ?side2 A94.out).mono ?_); (case side1 => exact Kd.C_below HR0.out (wS3 HB.out GE630.out GE631.out GE635.out)); (case side2 => exact HC0.out); rintro e w96 ⟨rfl, hb⟩; refine ⟨_, rfl, ?_⟩; replace BK630 := aS (blk_below (g := gb630) (o := .cells #[.string (⟨#[]⟩ : ByteArray), .int .i64 0, .int .i64 0, .int .i64 0, .string (⟨#[]⟩ : ByteArray), .string (⟨#[]⟩ : ByteArray)] 25 (0, 0)) (by (iterate 6 ((with_reducible repeat (first | refine blk_drewN ?_ _ | refine blk_drew ?_ | refine blk_alloc ?_ _)); refine blk_far ?_ NB630_635.out _)); exact bU BK630.out) hb); replace BK631 := aS (blk_below (g := gb631) (o := .cells #[.string (⟨#[]⟩ : ByteArray), .int .i64 0, .int .i64 0, .int .i64 0, .string (⟨#[]⟩ : ByteArray), .string (⟨#[]⟩ : ByteArray)] 25 (0, 0)) (by (iterate 6 ((with_reducible repeat (first | refine blk_drewN ?_ _ | refine blk_drew ?_ | refine blk_alloc ?_ _)); refine blk_far ?_ NB631_635.out _)); exact bU BK631.out) hb); replace BK635 := aS (blk_below (g := gb635) (o := .cells #[.string (⟨#[]⟩ : ByteArray), .int .i64 a3, .int .i64 0, .int .i64 0, .string (⟨#[]⟩ : ByteArray), .string (⟨#[]⟩ : ByteArray)] 25 (0, 0)) (by (with_reducible repeat (first | refine blk_drewN ?_ _ | refine blk_drew ?_ | refine blk_alloc ?_ _)); refine blk_put_6 (.string (⟨#[]⟩ : ByteArray)) (.int .i64 0) (.int .i64 0) (.int .i64 0) (.string (⟨#[]⟩ : ByteArray)) (.string (⟨#[]⟩ : ByteArray)) ?_; exact bU BK635.out) hb); replace HB := aS (below_step (wS3 HB.out GE630.out GE631.out GE635.out) hb); clear hb))
         (try simp only [Act.put, List.setIfInBounds_toArray, List.set_cons_zero, List.set_cons_succ])
         have H := HC95.out
         clear HC95
         by_cases c97 : t646 = 0
         ·rw [if_pos c97] at H
          have c97b0 := beq_iff_eq.mpr c97
          have c97b1 := bne_eq_false_iff_eq.mpr c97
          clear c97
          (first | rw [c97b0] | (simp only [i64_w, i32_w]; rw [c97b0]) | skip)
          by_cases c98 : a3 = 6
          ·rw [if_pos c98] at H
           have c98b0 := beq_iff_eq.mpr c98
           have c98b1 := bne_eq_false_iff_eq.mpr c98
           clear c98
           obtain ⟨⟨t647, t648⟩, A99, H⟩ := bM H
           try dsimp only at H
           by_cases c100 : t648 = true
           ·subst c100
            rw [if_pos rfl] at H
            by_cases c101 : (wrap64 (t645 + 4)) = (wrap64 (a1 + a2))
            ·rw [if_pos c101] at H
             have c101b0 := beq_iff_eq.mpr c101
             have c101b1 := bne_eq_false_iff_eq.mpr c101
             clear c101
             simp only [Option.some.injEq, Prod.mk.injEq] at H
             obtain ⟨rfl, rfl, rfl, rfl, rfl, rfl, rfl⟩ := H
             have hnb102 := NB635_630.out
             have hnc102 := NB630_635.out
             have hnb103 := NB635_631.out
             have hnc103 := NB631_635.out
             have hcz104 := cells6f BK635.out
             go_wp2_with (first | ((with_reducible refine gate_callee (f := 84) rfl ?_); refine goesL_ (some 80) rfl rfl Tryd.func84 jK rfl #[.slice A0 l0.length c0, .int .i64 t645] rfl jA ?_; (with_reducible refine (spec_Get4.calls kj29 _ _ l0 t645 t647 true _ ?side1 ?side2 A99.out).mono ?_); (case side1 => exact Kd.C_below HR0.out (wS3 HB.out GE630.out GE631.out GE635.out)); (case side2 => exact HC0.out); rintro e w' ⟨rfl, ⟨nd, rfl⟩⟩; refine ⟨_, rfl, ?_⟩; have hnb105 := NB630_631.out; have hnc105 := NB631_630.out; have hcz106 := cells6f BK630.out) | ((with_reducible show Oper.upon _ { dst := _, op := .load 25 _, type := 25, pos := _, after := _, guard := _ } _ _ _ _); simp (maxDischargeDepth := 20) [go_sem, *]))
             refine bodyPost_ret (results_ct rfl _ _ gb630 25 #[.string (⟨#[]⟩ : ByteArray), .int .i64 a3, .int .i64 0, .int .i64 t647, .string t644, .string (⟨#[]⟩ : ByteArray)] (0, 0) _ rfl (by (with_reducible repeat (first | refine blk_drewN ?_ _ | refine blk_drew ?_ | refine blk_alloc ?_ _)); refine blk_put_6 (.string (⟨#[]⟩ : ByteArray)) (.int .i64 0) (.int .i64 0) (.int .i64 0) (.string (⟨#[]⟩ : ByteArray)) (.string (⟨#[]⟩ : ByteArray)) ?_; (with_reducible repeat (first | refine blk_drewN ?_ _ | refine blk_drew ?_ | refine blk_alloc ?_ _)); refine blk_far ?_ NB630_635.out _; (with_reducible repeat (first | refine blk_drewN ?_ _ | refine blk_drew ?_ | refine blk_alloc ?_ _)); refine blk_far ?_ NB630_635.out _; exact bU BK630.out) Tryd.underlying25 rfl jK) rfl ?_
             exact ⟨jE, by exact wS3 HB.out GE630.out GE631.out GE635.out⟩
            ·rw [if_neg c101] at H
             have c101b0 := beq_eq_false_iff_ne.mpr c101
             have c101b1 := bne_iff_ne.mpr c101
             simp only [Option.some.injEq, Prod.mk.injEq] at H
             obtain ⟨rfl, rfl, rfl, rfl, rfl, rfl, rfl⟩ := H
             have hnb107 := NB635_630.out
             have hnc107 := NB630_635.out
             have hnb108 := NB635_631.out
             have hnc108 := NB631_635.out
             have hcz109 := cells6f BK635.out
             go_wp2_with (first | ((with_reducible refine gate_callee (f := 84) rfl ?_); refine goesL_ (some 80) rfl rfl Tryd.func84 jK rfl #[.slice A0 l0.length c0, .int .i64 t645] rfl jA ?_; (with_reducible refine (spec_Get4.calls kj29 _ _ l0 t645 t647 true _ ?side1 ?side2 A99.out).mono ?_); (case side1 => exact Kd.C_below HR0.out (wS3 HB.out GE630.out GE631.out GE635.out)); (case side2 => exact HC0.out); rintro e w' ⟨rfl, ⟨nd, rfl⟩⟩; refine ⟨_, rfl, ?_⟩; have hnb110 := NB631_630.out; have hnc110 := NB630_631.out; have hcz111 := cells6f BK631.out; have hcz112 := cells6f BK630.out) | ((with_reducible show Oper.upon _ { dst := _, op := .load 25 _, type := 25, pos := _, after := _, guard := _ } _ _ _ _); simp (maxDischargeDepth := 20) [go_sem, *]))
             refine bodyPost_ret (results_ct rfl _ _ gb630 25 #[.string (⟨#[]⟩ : ByteArray), .int .i64 0, .int .i64 0, .int .i64 0, .string (⟨#[]⟩ : ByteArray), .string (⟨#[]⟩ : ByteArray)] (0, 0) _ rfl (by (with_reducible repeat (first | refine blk_drewN ?_ _ | refine blk_drew ?_ | refine blk_alloc ?_ _)); refine blk_put_6 (.string (⟨#[]⟩ : ByteArray)) (.int .i64 0) (.int .i64 0) (.int .i64 0) (.string (⟨#[]⟩ : ByteArray)) (.string (⟨#[]⟩ : ByteArray)) ?_; (with_reducible repeat (first | refine blk_drewN ?_ _ | refine blk_drew ?_ | refine blk_alloc ?_ _)); refine blk_far ?_ NB630_635.out _; (with_reducible repeat (first | refine blk_drewN ?_ _ | refine blk_drew ?_ | refine blk_alloc ?_ _)); refine blk_far ?_ NB630_635.out _; exact bU BK630.out) Tryd.underlying25 rfl jK) rfl ?_
             exact ⟨jE, by exact wS3 HB.out GE630.out GE631.out GE635.out⟩
           ·replace c100 := Bool.eq_false_iff.mpr c100
            subst c100
            rw [if_neg Bool.false_ne_true] at H
            simp only [Option.some.injEq, Prod.mk.injEq] at H
            obtain ⟨rfl, rfl, rfl, rfl, rfl, rfl, rfl⟩ := H
            have hnb113 := NB635_630.out
            have hnc113 := NB630_635.out
            have hnb114 := NB635_631.out
            have hnc114 := NB631_635.out
            have hcz115 := cells6f BK635.out
            go_wp2_with (first | ((with_reducible refine gate_callee (f := 84) rfl ?_); refine goesL_ (some 80) rfl rfl Tryd.func84 jK rfl #[.slice A0 l0.length c0, .int .i64 t645] rfl jA ?_; (with_reducible refine (spec_Get4.calls kj29 _ _ l0 t645 t647 false _ ?side1 ?side2 A99.out).mono ?_); (case side1 => exact Kd.C_below HR0.out (wS3 HB.out GE630.out GE631.out GE635.out)); (case side2 => exact HC0.out); rintro e w' ⟨rfl, ⟨nd, rfl⟩⟩; refine ⟨_, rfl, ?_⟩; have hnb116 := NB631_630.out; have hnc116 := NB630_631.out; have hcz117 := cells6f BK631.out; have hcz118 := cells6f BK630.out) | ((with_reducible show Oper.upon _ { dst := _, op := .load 25 _, type := 25, pos := _, after := _, guard := _ } _ _ _ _); simp (maxDischargeDepth := 20) [go_sem, *]))
            refine bodyPost_ret (results_ct rfl _ _ gb630 25 #[.string (⟨#[]⟩ : ByteArray), .int .i64 0, .int .i64 0, .int .i64 0, .string (⟨#[]⟩ : ByteArray), .string (⟨#[]⟩ : ByteArray)] (0, 0) _ rfl (by (with_reducible repeat (first | refine blk_drewN ?_ _ | refine blk_drew ?_ | refine blk_alloc ?_ _)); refine blk_put_6 (.string (⟨#[]⟩ : ByteArray)) (.int .i64 0) (.int .i64 0) (.int .i64 0) (.string (⟨#[]⟩ : ByteArray)) (.string (⟨#[]⟩ : ByteArray)) ?_; (with_reducible repeat (first | refine blk_drewN ?_ _ | refine blk_drew ?_ | refine blk_alloc ?_ _)); refine blk_far ?_ NB630_635.out _; exact bU BK630.out) Tryd.underlying25 rfl jK) rfl ?_
            exact ⟨jE, by exact wS3 HB.out GE630.out GE631.out GE635.out⟩
          ·rw [if_neg c98] at H
           have c98b0 := beq_eq_false_iff_ne.mpr c98
           have c98b1 := bne_iff_ne.mpr c98
           by_cases c119 : t645 = (wrap64 (a1 + a2))
           ·rw [if_pos c119] at H
            have c119b0 := beq_iff_eq.mpr c119
            have c119b1 := bne_eq_false_iff_eq.mpr c119
            clear c119
            simp only [Option.some.injEq, Prod.mk.injEq] at H
            obtain ⟨rfl, rfl, rfl, rfl, rfl, rfl, rfl⟩ := H
            have hnb120 := NB635_630.out
            have hnc120 := NB630_635.out
            have hnb121 := NB635_631.out
            have hnc121 := NB631_635.out
            have hcz122 := cells6f BK635.out
            have hnb123 := NB630_631.out
            have hnc123 := NB631_630.out
            have hcz124 := cells6f BK630.out
            go_wp2
            refine bodyPost_ret (results_ct rfl _ _ gb630 25 #[.string (⟨#[]⟩ : ByteArray), .int .i64 a3, .int .i64 0, .int .i64 0, .string t644, .string (⟨#[]⟩ : ByteArray)] (0, 0) _ rfl (by (with_reducible repeat (first | refine blk_drewN ?_ _ | refine blk_drew ?_ | refine blk_alloc ?_ _)); refine blk_put_6 (.string (⟨#[]⟩ : ByteArray)) (.int .i64 0) (.int .i64 0) (.int .i64 0) (.string (⟨#[]⟩ : ByteArray)) (.string (⟨#[]⟩ : ByteArray)) ?_; (with_reducible repeat (first | refine blk_drewN ?_ _ | refine blk_drew ?_ | refine blk_alloc ?_ _)); refine blk_far ?_ NB630_635.out _; exact bU BK630.out) Tryd.underlying25 rfl jK) rfl ?_
            exact ⟨jE, by exact wS3 HB.out GE630.out GE631.out GE635.out⟩
           ·rw [if_neg c119] at H
            have c119b0 := beq_eq_false_iff_ne.mpr c119
            have c119b1 := bne_iff_ne.mpr c119
            simp only [Option.some.injEq, Prod.mk.injEq] at H
            obtain ⟨rfl, rfl, rfl, rfl, rfl, rfl, rfl⟩ := H
            have hnb125 := NB635_630.out
            have hnc125 := NB630_635.out
            have hnb126 := NB635_631.out
            have hnc126 := NB631_635.out
            have hcz127 := cells6f BK635.out
            have hnb128 := NB631_630.out
            have hnc128 := NB630_631.out
            have hcz129 := cells6f BK631.out
            have hcz130 := cells6f BK630.out
            go_wp2
            refine bodyPost_ret (results_ct rfl _ _ gb630 25 #[.string (⟨#[]⟩ : ByteArray), .int .i64 0, .int .i64 0, .int .i64 0, .string (⟨#[]⟩ : ByteArray), .string (⟨#[]⟩ : ByteArray)] (0, 0) _ rfl (by (with_reducible repeat (first | refine blk_drewN ?_ _ | refine blk_drew ?_ | refine blk_alloc ?_ _)); refine blk_put_6 (.string (⟨#[]⟩ : ByteArray)) (.int .i64 0) (.int .i64 0) (.int .i64 0) (.string (⟨#[]⟩ : ByteArray)) (.string (⟨#[]⟩ : ByteArray)) ?_; (with_reducible repeat (first | refine blk_drewN ?_ _ | refine blk_drew ?_ | refine blk_alloc ?_ _)); refine blk_far ?_ NB630_635.out _; exact bU BK630.out) Tryd.underlying25 rfl jK) rfl ?_
            exact ⟨jE, by exact wS3 HB.out GE630.out GE631.out GE635.out⟩
         ·rw [if_neg c97] at H
          have c97b0 := beq_eq_false_iff_ne.mpr c97
          have c97b1 := bne_iff_ne.mpr c97
          (first | rw [c97b0] | (simp only [i64_w, i32_w]; rw [c97b0]) | skip)
          simp only [Option.some.injEq, Prod.mk.injEq] at H
          obtain ⟨rfl, rfl, rfl, rfl, rfl, rfl, rfl⟩ := H
          have hnb131 := NB631_630.out
          have hnc131 := NB630_631.out
          have hnb132 := NB631_635.out
          have hnc132 := NB635_631.out
          have hcz133 := cells6f BK631.out
          have hnb134 := NB630_635.out
          have hnc134 := NB635_630.out
          have hcz135 := cells6f BK630.out
          go_wp2
          refine bodyPost_ret (results_ct rfl _ _ gb630 25 #[.string (⟨#[]⟩ : ByteArray), .int .i64 0, .int .i64 0, .int .i64 0, .string (⟨#[]⟩ : ByteArray), .string (⟨#[]⟩ : ByteArray)] (0, 0) _ rfl (by (with_reducible repeat (first | refine blk_drewN ?_ _ | refine blk_drew ?_ | refine blk_alloc ?_ _)); refine blk_put_6 (.string (⟨#[]⟩ : ByteArray)) (.int .i64 0) (.int .i64 0) (.int .i64 0) (.string (⟨#[]⟩ : ByteArray)) (.string (⟨#[]⟩ : ByteArray)) ?_; exact bU BK630.out) Tryd.underlying25 rfl jK) rfl ?_
          exact ⟨jE, by exact wS3 HB.out GE630.out GE631.out GE635.out⟩

/-! ### spec_Get2: function 83 -/
def spec_Get2.f (l0 : List Int) (a1 : Int) : Option (Int × Bool) := if a1 < 0 then (some (0, false)) else (if a1 > (wrap64 ((l0.length : Int) - 2)) then (some (0, false)) else (if 0 ≤ a1 then (if a1 < (l0.length : Int) then (if 0 ≤ (wrap64 (a1 + 1)) then (if (wrap64 (a1 + 1)) < (l0.length : Int) then (some (Go.bits .or .i64 (wrap64 ((wrap64 (rd l0 a1)) * 256)) (wrap64 (rd l0 (wrap64 (a1 + 1)))), true)) else (none)) else (none)) else (none)) else (none)))
set_option maxHeartbeats 8000000 in
set_option maxRecDepth 100000 in
theorem spec_Get2.calls (A0 : Option Addr) (c0 : Nat) (l0 : List Int) (a1 : Int) (r1 : Int) (r2 : Bool) (w : World) (hr0 : Kd.C (Kd.int .u8) w A0 l0.length l0) (hc0 : l0.length ≤ c0) (h : spec_Get2.f l0 a1 = some (r1, r2)) :
  Calls Tryd.prog 83 #[.slice A0 l0.length c0, .int .i64 a1] w fun e w' => e = .returned (.tuple #[.int .i64 r1, .bool r2]) ∧ Drawn0 w w' := by
 have HR0 := aS hr0
 have HC0 := aS hc0
 clear hr0 hc0
 have H : (if a1 < 0 then (some (0, false)) else (if a1 > (wrap64 ((l0.length : Int) - 2)) then (some (0, false)) else (if 0 ≤ a1 then (if a1 < (l0.length : Int) then (if 0 ≤ (wrap64 (a1 + 1)) then (if (wrap64 (a1 + 1)) < (l0.length : Int) then (some (Go.bits .or .i64 (wrap64 ((wrap64 (rd l0 a1)) * 256)) (wrap64 (rd l0 (wrap64 (a1 + 1)))), true)) else (none)) else (none)) else (none)) else (none)))) = some (r1, r2) := h
 clear h
 by_cases c3 : a1 < 0
 ·rw [if_pos c3] at H
  have c3b0 := decide_eq_true c3
  clear c3
  simp only [Option.some.injEq, Prod.mk.injEq] at H
  obtain ⟨rfl, rfl⟩ := H
  go_enter Tryd.func83, Tryd.ntmps83
  go_wp2
  repeat (go_quiet (fail); try go_wp2)
  go_ret2
  exact ⟨by first | rfl | (simp; done) | (simp [*]; done) | (simp [X.bne_nil, X.beq_nil]; done) | (simp [*, X.bne_nil, X.beq_nil]; done) | (simp [X.bne_nil, X.beq_nil]; done), by repeat (first | exact Drawn0.refl _ | apply Drawn0.step)⟩
 ·rw [if_neg c3] at H
  have c3b0 := decide_eq_false c3
  clear c3
  by_cases c4 : a1 > (wrap64 ((l0.length : Int) - 2))
  ·rw [if_pos c4] at H
   have c4b0 := decide_eq_true c4
   clear c4
   simp only [Option.some.injEq, Prod.mk.injEq] at H
   obtain ⟨rfl, rfl⟩ := H
   go_enter Tryd.func83, Tryd.ntmps83
   go_wp2
   repeat (go_quiet (fail); try go_wp2)
   go_ret2
   exact ⟨by first | rfl | (simp; done) | (simp [*]; done) | (simp [X.bne_nil, X.beq_nil]; done) | (simp [*, X.bne_nil, X.beq_nil]; done) | (simp [X.bne_nil, X.beq_nil]; done), by repeat (first | exact Drawn0.refl _ | apply Drawn0.step)⟩
  ·rw [if_neg c4] at H
   have c4b0 := decide_eq_false c4
   clear c4
   by_cases c5 : 0 ≤ a1
   ·rw [if_pos c5] at H
    have c5b0 := decide_eq_true c5
    clear c5
    by_cases c6 : a1 < (l0.length : Int)
    ·rw [if_pos c6] at H
     have c6b0 := decide_eq_true c6
     clear c6
     obtain ⟨ji7, hji7⟩ : ∃ j_ : Int, (wrap64 (a1 + 1)) = j_ := ⟨_, rfl⟩
     replace H : (if 0 ≤ (ji7) then (if (ji7) < (l0.length : Int) then (some (Go.bits .or .i64 (wrap64 ((wrap64 (rd l0 a1)) * 256)) (wrap64 (rd l0 (ji7))), true)) else (none)) else (none)) = some (r1, r2) := by first | (rw [hji7] at H; exact H) | (simp only [hji7] at H ⊢; exact H)
     have hji7w : (IntKind.i64.wrap (a1 + 1)) = ji7 := (i64_w _).trans hji7
     by_cases c8 : 0 ≤ (ji7)
     ·rw [if_pos c8] at H
      have c8b0 := decide_eq_true c8
      clear c8
      by_cases c9 : (ji7) < (l0.length : Int)
      ·rw [if_pos c9] at H
       have c9b0 := decide_eq_true c9
       clear c9
       obtain ⟨ji10, hji10⟩ : ∃ j_ : Int, (Go.bits .or .i64 (wrap64 ((wrap64 (rd l0 a1)) * 256)) (wrap64 (rd l0 (ji7)))) = j_ := ⟨_, rfl⟩
       replace H : (some (ji10, true)) = some (r1, r2) := by first | (rw [hji10] at H; exact H) | (simp only [hji10] at H ⊢; exact H)
       simp only [Option.some.injEq, Prod.mk.injEq] at H
       obtain ⟨rfl, rfl⟩ := H
       have p649 : 0 ≤ (a1 : Int) := of_decide_eq_true jC
       have q649 : a1 < (l0.length : Int) := of_decide_eq_true jC
       obtain ⟨ad649, e649, hx649_0⟩ := Kd.at_int HR0.out a1 p649 q649
       cases e649
       replace p649 := eq_true p649
       replace q649 := eq_true q649
       have p650 : 0 ≤ ((ji7) : Int) := of_decide_eq_true jC
       have q650 : (ji7) < (l0.length : Int) := of_decide_eq_true jC
       obtain ⟨ad650, e650, hx650_0⟩ := Kd.at_int HR0.out (ji7) p650 q650
       obtain rfl : ad649 = ad650 := (by injection e650)
       replace p650 := eq_true p650
       replace q650 := eq_true q650
       go_enter Tryd.func83, Tryd.ntmps83
       go_wp2
       repeat (go_quiet (fail); try go_wp2)
       go_ret2
       exact ⟨by first | rfl | (simp; done) | (simp only [← hji7, ← hji10] <;> (first | rfl | simp)) | (simp [*]; done) | (simp [X.bne_nil, X.beq_nil]; done), by repeat (first | exact Drawn0.refl _ | apply Drawn0.step)⟩
      ·rw [if_neg c9] at H
       exact absurd H (by simp)
     ·rw [if_neg c8] at H
      exact absurd H (by simp)
    ·rw [if_neg c6] at H
     exact absurd H (by simp)
   ·rw [if_neg c5] at H
    exact absurd H (by simp)

end Go.Proofs.YtdigilidomimdaaDoor.Pr
