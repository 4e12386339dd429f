-- Written for this claim by a program of this session (wip/tool/pr.py, over the kit's printer).
-- half
import Derived.Test.YtdigilidomimdaaDoorPrx0
import Derived.Test.YtdigilidomimdaaDoorPrx3
import Derived.Test.YtdigilidomimdaaDoorPrx4
namespace Go.Proofs.YtdigilidomimdaaDoor.Pr
open Go.RowKit Go.Proofs.YtdigilidomimdaaDoorW.PrintWords Go.Proofs.YtdigilidomimdaaDoorW.PrintLast Go.Proofs.YtdigilidomimdaaDoorW.PrintMore
attribute [local go_sem] max2_int min2_int max_two min_two max_three min_three max_four min_four   -- for this text's walks alone
set_option linter.unusedVariables false
set_option linter.unusedSimpArgs false

/-! ### spec_DrawLessRecord: function 44 -/
def spec_DrawLessRecord.f (k : Nat) (l0 : List Int) : Option (ByteArray × Int × Int × Int × ByteArray × ByteArray × ByteArray × Int × Int × Int × ByteArray × ByteArray) := (spec_l1New.f k l0).bind fun bt198 => ((spec_l5Draw.f k bt198.1 bt198.2.1 bt198.2.2).bind fun bt202 => ((spec_l5Draw.f k bt198.1 bt202.2.2.2.2.2.2.1 bt202.2.2.2.2.2.2.2).bind fun bt211 => ((spec_l1Once.f bt198.1 bt211.2.2.2.2.2.2.1 bt211.2.2.2.2.2.2.2 2).bind fun bt220 => (if bt220.1 = true then ((spec_l1Once.f bt198.1 bt220.2.1 bt220.2.2 2).bind fun bt223 => (if bt223.1 = true then (some (bt202.1, bt202.2.1, bt202.2.2.1, bt202.2.2.2.1, bt202.2.2.2.2.1, bt202.2.2.2.2.2.1, bt202.1, bt202.2.1, bt211.2.2.1, bt202.2.2.2.1, bt202.2.2.2.2.1, bt211.2.2.2.2.2.1)) else (some (bt202.1, bt202.2.1, bt202.2.2.1, bt202.2.2.2.1, bt202.2.2.2.2.1, bt202.2.2.2.2.2.1, bt202.1, bt202.2.1, bt211.2.2.1, bt211.2.2.2.1, bt211.2.2.2.2.1, bt211.2.2.2.2.2.1)))) else (some (bt202.1, bt202.2.1, bt202.2.2.1, bt202.2.2.2.1, bt202.2.2.2.2.1, bt202.2.2.2.2.2.1, bt211.1, bt211.2.1, bt211.2.2.1, bt211.2.2.2.1, bt211.2.2.2.2.1, bt211.2.2.2.2.2.1))))))
theorem spec_DrawLessRecord.mono : ∀ a0 k, LeO (spec_DrawLessRecord.f k a0) (spec_DrawLessRecord.f (k + 1) a0) := by
 intro a0 k
 unfold spec_DrawLessRecord.f
 repeat' first
   | (with_reducible first | exact spec_l1New.mono _ _ | exact spec_l5Draw.mono _ _ _ _ | exact LeO.refl _ | exact LeO.none _ | refine LeO.ite ?_ ?_ | refine LeO.bind ?_ (fun _ => ?_))
   | refine LeO.ite ?_ ?_
   | refine LeO.bind ?_ (fun _ => ?_)
set_option maxHeartbeats 8000000 in
set_option maxRecDepth 100000 in
theorem spec_DrawLessRecord.calls (k : Nat) (A0 : Option Addr) (c0 : Nat) (l0 : List Int) (r1 : ByteArray) (r2 : Int) (r3 : Int) (r4 : Int) (r5 : ByteArray) (r6 : ByteArray) (r7 : ByteArray) (r8 : Int) (r9 : Int) (r10 : Int) (r11 : ByteArray) (r12 : ByteArray) (w : World) (hr0 : Kd.C (Kd.int .u8) w A0 l0.length l0) (hc0 : l0.length ≤ c0) (h : spec_DrawLessRecord.f k l0 = some (r1, r2, r3, r4, r5, r6, r7, r8, r9, r10, r11, r12)) :
  Calls Tryd.prog 44 #[.slice A0 l0.length c0] w fun e w' => e = .returned (.tuple #[.agg #[.string r1, .int .i64 r2, .int .i64 r3, .int .i64 r4, .string r5, .string r6], .agg #[.string r7, .int .i64 r8, .int .i64 r9, .int .i64 r10, .string r11, .string r12]]) ∧ Below w.heap.size w w' := by
 have hu25 := Tryd.underlying25
 have HR0 := aS hr0
 have HC0 := aS hc0
 clear hr0 hc0
 have HB := aS (Below.refl w.heap.size w)
 have H : ((spec_l1New.f k l0).bind fun bt198 => ((spec_l5Draw.f k bt198.1 bt198.2.1 bt198.2.2).bind fun bt202 => ((spec_l5Draw.f k bt198.1 bt202.2.2.2.2.2.2.1 bt202.2.2.2.2.2.2.2).bind fun bt211 => ((spec_l1Once.f bt198.1 bt211.2.2.2.2.2.2.1 bt211.2.2.2.2.2.2.2 2).bind fun bt220 => (if bt220.1 = true then ((spec_l1Once.f bt198.1 bt220.2.1 bt220.2.2 2).bind fun bt223 => (if bt223.1 = true then (some (bt202.1, bt202.2.1, bt202.2.2.1, bt202.2.2.2.1, bt202.2.2.2.2.1, bt202.2.2.2.2.2.1, bt202.1, bt202.2.1, bt211.2.2.1, bt202.2.2.2.1, bt202.2.2.2.2.1, bt211.2.2.2.2.2.1)) else (some (bt202.1, bt202.2.1, bt202.2.2.1, bt202.2.2.2.1, bt202.2.2.2.2.1, bt202.2.2.2.2.2.1, bt202.1, bt202.2.1, bt211.2.2.1, bt211.2.2.2.1, bt211.2.2.2.2.1, bt211.2.2.2.2.2.1)))) else (some (bt202.1, bt202.2.1, bt202.2.2.1, bt202.2.2.2.1, bt202.2.2.2.2.1, bt202.2.2.2.2.2.1, bt211.1, bt211.2.1, bt211.2.2.1, bt211.2.2.2.1, bt211.2.2.2.2.1, bt211.2.2.2.2.2.1))))))) = some (r1, r2, r3, r4, r5, r6, r7, r8, r9, r10, r11, r12) := h
 clear h
 obtain ⟨⟨t198, t199, t200⟩, A2, H⟩ := bM H
 try dsimp only at H
 obtain ⟨⟨t202, t203, t204, t205, t206, t207, t208, t209⟩, A3, H⟩ := bM H
 try dsimp only at H
 obtain ⟨⟨t211, t212, t213, t214, t215, t216, t217, t218⟩, A4, H⟩ := bM H
 try dsimp only at H
 obtain ⟨⟨t220, t221, t222⟩, A5, H⟩ := bM H
 try dsimp only at H
 by_cases c6 : t220 = true
 ·subst c6
  rw [if_pos rfl] at H
  obtain ⟨⟨t223, t224, t225⟩, A7, H⟩ := bM H
  try dsimp only at H
  by_cases c8 : t223 = true
  ·subst c8
   rw [if_pos rfl] at H
   simp only [Option.some.injEq, Prod.mk.injEq] at H
   obtain ⟨rfl, rfl, rfl, rfl, rfl, rfl, rfl, rfl, rfl, rfl, rfl, rfl⟩ := H
   go_enter Tryd.func44, Tryd.ntmps44
   try go_wp2_with (first | ((with_reducible refine gate_dst (N := 2) rfl ?_); refine xB 2 #[.string (⟨#[]⟩ : ByteArray), .int .i64 0, .int .i64 0, .int .i64 0, .string (⟨#[]⟩ : ByteArray), .string (⟨#[]⟩ : ByteArray)] 25 ?_; intro gb196 hg w9 hbox hb; have BK196 := aS (hbox); have GW196 := gW hg (wU HB.out); have GE196 := gW hg (wU HB.out); replace HB := aS (below_step (wU HB.out) hb); clear hb hbox hg) | ((with_reducible refine gate_dst (N := 3) rfl ?_); refine xB 3 #[.string (⟨#[]⟩ : ByteArray), .int .i64 0, .int .i64 0, .int .i64 0, .string (⟨#[]⟩ : ByteArray), .string (⟨#[]⟩ : ByteArray)] 25 ?_; intro gb197 hg w10 hbox hb; have BK197 := aS (hbox); have GW197 := gW hg (wS1 HB.out GE196.out); have GE197 := gW hg (wS1 HB.out GE196.out); replace HB := aS (below_step (wS1 HB.out GE196.out) hb); have NB196_197 := nB hg BK196; have NB197_196 := nS NB196_197; replace BK196 := bB BK196 hb; clear hb hbox hg) | ((with_reducible refine gate_callee (f := 56) rfl ?_); refine gL (some 8) Tryd.func56 #[.slice A0 l0.length c0] ?_; (with_reducible refine (spec_l1New.calls k _ _ l0 t198 t199 t200 w _ ?side1 ?side2 ?side3 A2.out).mono ?_); (case side1 => exact wS2 HB.out GE196.out GE197.out); (case side2 => exact HR0.out); (case side3 => exact HC0.out); rintro e w11 ⟨g201, rfl, hi, hb, hb2⟩; refine ⟨_, rfl, ?_⟩; replace HB := aS (hb); have HI201 := aS (hi); have NB201_196 := aS (IsS111.ne_blk hi (blk_below (bU BK196.out) hb2) (by decide)); have NB196_201 := aS (Ne.symm (IsS111.ne_blk hi (blk_below (bU BK196.out) hb2) (by decide))); replace BK196 := aS (blk_below (bU BK196.out) hb2); have NB201_197 := aS (IsS111.ne_blk hi (blk_below (bU BK197.out) hb2) (by decide)); have NB197_201 := aS (Ne.symm (IsS111.ne_blk hi (blk_below (bU BK197.out) hb2) (by decide))); replace BK197 := aS (blk_below (bU BK197.out) hb2); clear hi hb hb2) | ((with_reducible refine gate_callee (f := 79) rfl ?_); refine gL (some 10) Tryd.func79 #[.pointer (some ⟨g201, 0, none⟩)] ?_; (with_reducible refine (spec_l5Draw.calls k g201 t198 t199 t200 t202 t203 t204 t205 t206 t207 t208 t209 w _ ?side1 ?side2 A3.out).mono ?_); (case side1 => exact IsS111.iS2 HI201.out NB201_196.out NB201_197.out); (case side2 => exact wS3 HB.out (IsS111.ge HI201.out) GE196.out GE197.out); rintro e w12 ⟨rfl, hi, hb, hk⟩; refine ⟨_, rfl, ?_⟩; replace BK196 := aS (KeepBut.blk hk (g' := gb196) (o := .cells #[.string (⟨#[]⟩ : ByteArray), .int .i64 0, .int .i64 0, .int .i64 0, .string (⟨#[]⟩ : ByteArray), .string (⟨#[]⟩ : ByteArray)] 25 (0, 0)) (bU BK196.out) NB196_201.out (by simp)); replace BK197 := aS (KeepBut.blk hk (g' := gb197) (o := .cells #[.string (⟨#[]⟩ : ByteArray), .int .i64 0, .int .i64 0, .int .i64 0, .string (⟨#[]⟩ : ByteArray), .string (⟨#[]⟩ : ByteArray)] 25 (0, 0)) (bU BK197.out) NB197_201.out (by simp)); replace HB := aS (hb); replace HI201 := aS (hi); clear hi hb hk) | ((with_reducible refine gate_dst (N := 5) rfl ?_); refine xB 5 #[.string (⟨#[]⟩ : ByteArray), .int .i64 0, .int .i64 0, .int .i64 0, .string (⟨#[]⟩ : ByteArray), .string (⟨#[]⟩ : ByteArray)] 25 ?_; intro gb210 hg w13 hbox hb; have BK210 := aS (hbox); have GW210 := gW hg (wS3 HB.out (IsS111.ge HI201.out) GE196.out GE197.out); have GE210 := gW hg (wS3 HB.out (IsS111.ge HI201.out) GE196.out GE197.out); replace HB := aS (below_step (by exact wS3 HB.out (IsS111.ge HI201.out) GE196.out GE197.out) hb); have NB196_210 := nB hg BK196; have NB210_196 := nS NB196_210; replace BK196 := bB BK196 hb; have NB197_210 := nB hg BK197; have NB210_197 := nS NB197_210; replace BK197 := bB BK197 hb; have NB201_210 := aS ((by rw [hg]; exact Nat.ne_of_lt (IsS111.lt (show IsS111 w _ g201 t198 t208 t209 from by exact IsS111.iS2 HI201.out NB201_196.out NB201_197.out)) : g201 ≠ gb210)); have NB210_201 := aS ((by rw [hg]; exact Nat.ne_of_gt (IsS111.lt (show IsS111 w _ g201 t198 t208 t209 from by exact IsS111.iS2 HI201.out NB201_196.out NB201_197.out)) : gb210 ≠ g201)); replace HI201 := aS (IsS111.below (IsS111.iS2 HI201.out NB201_196.out NB201_197.out) hb); clear hb hbox hg; have hnb14 := NB210_196.out; have hnc14 := NB196_210.out; have hnb15 := NB210_197.out; have hnc15 := NB197_210.out; have hnb16 := NB210_201.out; have hnc16 := NB201_210.out; have hcz17 := cells6f BK210.out) | ((with_reducible refine gate_callee (f := 79) rfl ?_); refine gL (some 12) Tryd.func79 #[.pointer (some ⟨g201, 0, none⟩)] ?_; (with_reducible refine (spec_l5Draw.calls k g201 t198 t208 t209 t211 t212 t213 t214 t215 t216 t217 t218 w _ ?side1 ?side2 A4.out).mono ?_); (case side1 => exact IsS111.iS3 HI201.out NB201_196.out NB201_197.out NB201_210.out); (case side2 => exact wS4 HB.out (IsS111.ge HI201.out) GE196.out GE197.out GE210.out); rintro e w18 ⟨rfl, hi, hb, hk⟩; refine ⟨_, rfl, ?_⟩; replace BK196 := aS (KeepBut.blk hk (g' := gb196) (o := .cells #[.string (⟨#[]⟩ : ByteArray), .int .i64 0, .int .i64 0, .int .i64 0, .string (⟨#[]⟩ : ByteArray), .string (⟨#[]⟩ : ByteArray)] 25 (0, 0)) (by exact bF1 BK196.out NB196_210.out) NB196_201.out (by simp)); replace BK197 := aS (KeepBut.blk hk (g' := gb197) (o := .cells #[.string (⟨#[]⟩ : ByteArray), .int .i64 0, .int .i64 0, .int .i64 0, .string (⟨#[]⟩ : ByteArray), .string (⟨#[]⟩ : ByteArray)] 25 (0, 0)) (by exact bF1 BK197.out NB197_210.out) NB197_201.out (by simp)); replace BK210 := aS (KeepBut.blk hk (g' := gb210) (o := .cells #[.string t202, .int .i64 t203, .int .i64 t204, .int .i64 t205, .string t206, .string t207] 25 (0, 0)) (by (with_reducible repeat (first | refine blk_drewN ?_ _ | refine blk_drew ?_ | refine blk_alloc ?_ _)); refine blk_put_6 (.string (⟨#[]⟩ : ByteArray)) (.int .i64 0) (.int .i64 0) (.int .i64 0) (.string (⟨#[]⟩ : ByteArray)) (.string (⟨#[]⟩ : ByteArray)) ?_; exact bU BK210.out) NB210_201.out (by simp)); replace HB := aS (hb); replace HI201 := aS (hi); clear hi hb hk) | ((with_reducible refine gate_dst (N := 6) rfl ?_); refine xB 6 #[.string (⟨#[]⟩ : ByteArray), .int .i64 0, .int .i64 0, .int .i64 0, .string (⟨#[]⟩ : ByteArray), .string (⟨#[]⟩ : ByteArray)] 25 ?_; intro gb219 hg w19 hbox hb; have BK219 := aS (hbox); have GW219 := gW hg (wS4 HB.out (IsS111.ge HI201.out) GE196.out GE197.out GE210.out); have GE219 := gW hg (wS4 HB.out (IsS111.ge HI201.out) GE196.out GE197.out GE210.out); replace HB := aS (below_step (by exact wS4 HB.out (IsS111.ge HI201.out) GE196.out GE197.out GE210.out) hb); have NB196_219 := nB hg BK196; have NB219_196 := nS NB196_219; replace BK196 := bB BK196 hb; have NB197_219 := nB hg BK197; have NB219_197 := nS NB197_219; replace BK197 := bB BK197 hb; have NB210_219 := nB hg BK210; have NB219_210 := nS NB210_219; replace BK210 := bB BK210 hb; have NB201_219 := aS ((by rw [hg]; exact Nat.ne_of_lt (IsS111.lt (show IsS111 w _ g201 t198 t217 t218 from by exact IsS111.iS3 HI201.out NB201_196.out NB201_197.out NB201_210.out)) : g201 ≠ gb219)); have NB219_201 := aS ((by rw [hg]; exact Nat.ne_of_gt (IsS111.lt (show IsS111 w _ g201 t198 t217 t218 from by exact IsS111.iS3 HI201.out NB201_196.out NB201_197.out NB201_210.out)) : gb219 ≠ g201)); replace HI201 := aS (IsS111.below (IsS111.iS3 HI201.out NB201_196.out NB201_197.out NB201_210.out) hb); clear hb hbox hg; have hnb20 := NB219_196.out; have hnc20 := NB196_219.out; have hnb21 := NB219_197.out; have hnc21 := NB197_219.out; have hnb22 := NB219_210.out; have hnc22 := NB210_219.out; have hnb23 := NB219_201.out; have hnc23 := NB201_219.out; have hcz24 := cells6f BK219.out) | ((with_reducible refine gate_callee (f := 76) rfl ?_); refine gL (some 14) Tryd.func76 #[.pointer (some ⟨g201, 0, none⟩), .int .i64 2] ?_; (with_reducible refine (spec_l1Once.calls g201 t198 t217 t218 2 true t221 t222 w _ ?side1 ?side2 A5.out).mono ?_); (case side1 => exact IsS111.iS4 HI201.out NB201_196.out NB201_197.out NB201_210.out NB201_219.out); (case side2 => exact wS5 HB.out (IsS111.ge HI201.out) GE196.out GE197.out GE210.out GE219.out); rintro e w25 ⟨rfl, hi, hb, hk⟩; refine ⟨_, rfl, ?_⟩; replace BK196 := aS (KeepBut.blk hk (g' := gb196) (o := .cells #[.string (⟨#[]⟩ : ByteArray), .int .i64 0, .int .i64 0, .int .i64 0, .string (⟨#[]⟩ : ByteArray), .string (⟨#[]⟩ : ByteArray)] 25 (0, 0)) (by exact bF1 BK196.out NB196_219.out) NB196_201.out (by simp)); replace BK197 := aS (KeepBut.blk hk (g' := gb197) (o := .cells #[.string (⟨#[]⟩ : ByteArray), .int .i64 0, .int .i64 0, .int .i64 0, .string (⟨#[]⟩ : ByteArray), .string (⟨#[]⟩ : ByteArray)] 25 (0, 0)) (by exact bF1 BK197.out NB197_219.out) NB197_201.out (by simp)); replace BK210 := aS (KeepBut.blk hk (g' := gb210) (o := .cells #[.string t202, .int .i64 t203, .int .i64 t204, .int .i64 t205, .string t206, .string t207] 25 (0, 0)) (by exact bF1 BK210.out NB210_219.out) NB210_201.out (by simp)); replace BK219 := aS (KeepBut.blk hk (g' := gb219) (o := .cells #[.string t211, .int .i64 t212, .int .i64 t213, .int .i64 t214, .string t215, .string t216] 25 (0, 0)) (by (with_reducible repeat (first | refine blk_drewN ?_ _ | refine blk_drew ?_ | refine blk_alloc ?_ _)); refine blk_put_6 (.string (⟨#[]⟩ : ByteArray)) (.int .i64 0) (.int .i64 0) (.int .i64 0) (.string (⟨#[]⟩ : ByteArray)) (.string (⟨#[]⟩ : ByteArray)) ?_; exact bU BK219.out) NB219_201.out (by simp)); replace HB := aS (hb); replace HI201 := aS (hi); clear hi hb hk; have hcz26 := cells6f BK210.out; have hcz27 := cells6f BK219.out) | ((with_reducible refine gate_callee (f := 76) rfl ?_); refine gL (some 22) Tryd.func76 #[.pointer (some ⟨g201, 0, none⟩), .int .i64 2] ?_; (with_reducible refine (spec_l1Once.calls g201 t198 t221 t222 2 true t224 t225 w _ ?side1 ?side2 A7.out).mono ?_); (case side1 => exact IsS111.iS4 HI201.out NB201_196.out NB201_197.out NB201_210.out NB201_219.out); (case side2 => exact wS5 HB.out (IsS111.ge HI201.out) GE196.out GE197.out GE210.out GE219.out); rintro e w28 ⟨rfl, hi, hb, hk⟩; refine ⟨_, rfl, ?_⟩; replace BK196 := aS (KeepBut.blk hk (g' := gb196) (o := .cells #[.string (⟨#[]⟩ : ByteArray), .int .i64 0, .int .i64 0, .int .i64 0, .string (⟨#[]⟩ : ByteArray), .string (⟨#[]⟩ : ByteArray)] 25 (0, 0)) (by (with_reducible repeat (first | refine blk_drewN ?_ _ | refine blk_drew ?_ | refine blk_alloc ?_ _)); refine blk_far ?_ NB196_219.out _; (with_reducible repeat (first | refine blk_drewN ?_ _ | refine blk_drew ?_ | refine blk_alloc ?_ _)); refine blk_far ?_ NB196_219.out _; exact bU BK196.out) NB196_201.out (by simp)); replace BK197 := aS (KeepBut.blk hk (g' := gb197) (o := .cells #[.string (⟨#[]⟩ : ByteArray), .int .i64 0, .int .i64 0, .int .i64 0, .string (⟨#[]⟩ : ByteArray), .string (⟨#[]⟩ : ByteArray)] 25 (0, 0)) (by (with_reducible repeat (first | refine blk_drewN ?_ _ | refine blk_drew ?_ | refine blk_alloc ?_ _)); refine blk_far ?_ NB197_219.out _; (with_reducible repeat (first | refine blk_drewN ?_ _ | refine blk_drew ?_ | refine blk_alloc ?_ _)); refine blk_far ?_ NB197_219.out _; exact bU BK197.out) NB197_201.out (by simp)); replace BK210 := aS (KeepBut.blk hk (g' := gb210) (o := .cells #[.string t202, .int .i64 t203, .int .i64 t204, .int .i64 t205, .string t206, .string t207] 25 (0, 0)) (by (with_reducible repeat (first | refine blk_drewN ?_ _ | refine blk_drew ?_ | refine blk_alloc ?_ _)); refine blk_far ?_ NB210_219.out _; (with_reducible repeat (first | refine blk_drewN ?_ _ | refine blk_drew ?_ | refine blk_alloc ?_ _)); refine blk_far ?_ NB210_219.out _; exact bU BK210.out) NB210_201.out (by simp)); replace BK219 := aS (KeepBut.blk hk (g' := gb219) (o := .cells #[.string t202, .int .i64 t203, .int .i64 t213, .int .i64 t214, .string t215, .string t216] 25 (0, 0)) (by (with_reducible repeat (first | refine blk_drewN ?_ _ | refine blk_drew ?_ | refine blk_alloc ?_ _)); refine blk_put (cs := #[.string t202, .int .i64 t212, .int .i64 t213, .int .i64 t214, .string t215, .string t216]) ?_ 1 _ rfl; (with_reducible repeat (first | refine blk_drewN ?_ _ | refine blk_drew ?_ | refine blk_alloc ?_ _)); refine blk_put (cs := #[.string t211, .int .i64 t212, .int .i64 t213, .int .i64 t214, .string t215, .string t216]) ?_ 0 _ rfl; exact bU BK219.out) NB219_201.out (by simp)); replace HB := aS (hb); replace HI201 := aS (hi); clear hi hb hk; have hcz29 := cells6f BK210.out; have hcz30 := cells6f BK219.out))
   generalize hW_ : ((w28.setCell ⟨gb219, 3, none⟩ (.int .i64 t205)).setCell ⟨gb219, 4, none⟩ (.string t206)) = w31
   replace BK196 : Aside0 (w31.heap[gb196]? = some (.cells #[.string (⟨#[]⟩ : ByteArray), .int .i64 0, .int .i64 0, .int .i64 0, .string (⟨#[]⟩ : ByteArray), .string (⟨#[]⟩ : ByteArray)] 25 (0, 0))) := hW_ ▸ ⟨by (with_reducible repeat (first | refine blk_drewN ?_ _ | refine blk_drew ?_ | refine blk_alloc ?_ _)); refine blk_far ?_ NB196_219.out _; (with_reducible repeat (first | refine blk_drewN ?_ _ | refine blk_drew ?_ | refine blk_alloc ?_ _)); refine blk_far ?_ NB196_219.out _; exact bU BK196.out⟩
   replace BK197 : Aside0 (w31.heap[gb197]? = some (.cells #[.string (⟨#[]⟩ : ByteArray), .int .i64 0, .int .i64 0, .int .i64 0, .string (⟨#[]⟩ : ByteArray), .string (⟨#[]⟩ : ByteArray)] 25 (0, 0))) := hW_ ▸ ⟨by (with_reducible repeat (first | refine blk_drewN ?_ _ | refine blk_drew ?_ | refine blk_alloc ?_ _)); refine blk_far ?_ NB197_219.out _; (with_reducible repeat (first | refine blk_drewN ?_ _ | refine blk_drew ?_ | refine blk_alloc ?_ _)); refine blk_far ?_ NB197_219.out _; exact bU BK197.out⟩
   replace BK210 : Aside0 (w31.heap[gb210]? = some (.cells #[.string t202, .int .i64 t203, .int .i64 t204, .int .i64 t205, .string t206, .string t207] 25 (0, 0))) := hW_ ▸ ⟨by (with_reducible repeat (first | refine blk_drewN ?_ _ | refine blk_drew ?_ | refine blk_alloc ?_ _)); refine blk_far ?_ NB210_219.out _; (with_reducible repeat (first | refine blk_drewN ?_ _ | refine blk_drew ?_ | refine blk_alloc ?_ _)); refine blk_far ?_ NB210_219.out _; exact bU BK210.out⟩
   replace BK219 : Aside0 (w31.heap[gb219]? = some (.cells #[.string t202, .int .i64 t203, .int .i64 t213, .int .i64 t205, .string t206, .string t216] 25 (0, 0))) := hW_ ▸ ⟨by (with_reducible repeat (first | refine blk_drewN ?_ _ | refine blk_drew ?_ | refine blk_alloc ?_ _)); refine blk_put (cs := #[.string t202, .int .i64 t203, .int .i64 t213, .int .i64 t205, .string t215, .string t216]) ?_ 4 _ rfl; (with_reducible repeat (first | refine blk_drewN ?_ _ | refine blk_drew ?_ | refine blk_alloc ?_ _)); refine blk_put (cs := #[.string t202, .int .i64 t203, .int .i64 t213, .int .i64 t214, .string t215, .string t216]) ?_ 3 _ rfl; exact bU BK219.out⟩
   replace HB : Aside0 (Below w.heap.size w w31) := hW_ ▸ ⟨by exact wS5 HB.out (IsS111.ge HI201.out) GE196.out GE197.out GE210.out GE219.out⟩
   replace HI201 : Aside0 (IsS111 w w31 g201 t198 t224 t225) := hW_ ▸ ⟨by exact IsS111.iS4 HI201.out NB201_196.out NB201_197.out NB201_210.out NB201_219.out⟩
   clear hW_
   replace BK196 := aS (blk_drew BK196.out)
   replace BK197 := aS (blk_drew BK197.out)
   replace BK210 := aS (blk_drew BK210.out)
   replace BK219 := aS (blk_drew BK219.out)
   replace HI201 := aS (IsS111.drew HI201.out)
   replace HB := aS (below_drew1 HB.out)
   refine start_ (n := 4) (S := fun w' => w'.cell? ⟨gb210, 0, none⟩ = some (.string t202) ∧ w'.cell? ⟨gb210, 1, none⟩ = some (.int .i64 t203) ∧ w'.cell? ⟨gb210, 2, none⟩ = some (.int .i64 t204) ∧ w'.cell? ⟨gb210, 3, none⟩ = some (.int .i64 t205) ∧ w'.cell? ⟨gb210, 4, none⟩ = some (.string t206) ∧ w'.cell? ⟨gb210, 5, none⟩ = some (.string t207) ∧ w'.cell? ⟨gb219, 0, none⟩ = some (.string t202) ∧ w'.cell? ⟨gb219, 1, none⟩ = some (.int .i64 t203) ∧ w'.cell? ⟨gb219, 2, none⟩ = some (.int .i64 t213) ∧ w'.cell? ⟨gb219, 3, none⟩ = some (.int .i64 t205) ∧ w'.cell? ⟨gb219, 4, none⟩ = some (.string t206) ∧ w'.cell? ⟨gb219, 5, none⟩ = some (.string t216)) (ds := []) #[false, false, false, false] jK rfl rfl (b6 BK210.out (c6 BK219.out)) (fun hHeld => ?_)
   generalize w31.drew = w32 at BK196 BK197 BK210 BK219 HI201 HB hHeld ⊢
   refine tB hHeld 0 (some 29) (tf 1 3) ?_
   refine tB hHeld 1 (some 30) (tf 2 2) ?_
   refine one_ (i := 2) (N := none) (tf 3 1) rfl rfl jK (by decide) (fun K hK => ?_)
   have hs33 : w32.cell? ⟨gb196, 0, none⟩ = some (.string (⟨#[]⟩ : ByteArray)) := (blk_cell BK196.out 0).trans rfl
   have hfs33 := blk_frozen BK196.out 0
   have hns33_1 := NB197_196.out
   have hns33_2 := NB210_196.out
   have hns33_3 := NB219_196.out
   have hms33_1 := NB196_197.out
   have hms33_2 := NB196_210.out
   have hms33_3 := NB196_219.out
   have hs34 : w32.cell? ⟨gb196, 1, none⟩ = some (.int .i64 0) := (blk_cell BK196.out 1).trans rfl
   have hfs34 := blk_frozen BK196.out 1
   have hns34_1 := NB197_196.out
   have hns34_2 := NB210_196.out
   have hns34_3 := NB219_196.out
   have hms34_1 := NB196_197.out
   have hms34_2 := NB196_210.out
   have hms34_3 := NB196_219.out
   have hs35 : w32.cell? ⟨gb196, 2, none⟩ = some (.int .i64 0) := (blk_cell BK196.out 2).trans rfl
   have hfs35 := blk_frozen BK196.out 2
   have hns35_1 := NB197_196.out
   have hns35_2 := NB210_196.out
   have hns35_3 := NB219_196.out
   have hms35_1 := NB196_197.out
   have hms35_2 := NB196_210.out
   have hms35_3 := NB196_219.out
   have hs36 : w32.cell? ⟨gb196, 3, none⟩ = some (.int .i64 0) := (blk_cell BK196.out 3).trans rfl
   have hfs36 := blk_frozen BK196.out 3
   have hns36_1 := NB197_196.out
   have hns36_2 := NB210_196.out
   have hns36_3 := NB219_196.out
   have hms36_1 := NB196_197.out
   have hms36_2 := NB196_210.out
   have hms36_3 := NB196_219.out
   have hs37 : w32.cell? ⟨gb196, 4, none⟩ = some (.string (⟨#[]⟩ : ByteArray)) := (blk_cell BK196.out 4).trans rfl
   have hfs37 := blk_frozen BK196.out 4
   have hns37_1 := NB197_196.out
   have hns37_2 := NB210_196.out
   have hns37_3 := NB219_196.out
   have hms37_1 := NB196_197.out
   have hms37_2 := NB196_210.out
   have hms37_3 := NB196_219.out
   have hs38 : w32.cell? ⟨gb196, 5, none⟩ = some (.string (⟨#[]⟩ : ByteArray)) := (blk_cell BK196.out 5).trans rfl
   have hfs38 := blk_frozen BK196.out 5
   have hns38_1 := NB197_196.out
   have hns38_2 := NB210_196.out
   have hns38_3 := NB219_196.out
   have hms38_1 := NB196_197.out
   have hms38_2 := NB196_210.out
   have hms38_3 := NB196_219.out
   with_reducible refine skip_ (w1 := ?_) ?_ ?_ ?_ ?_
   rotate_left
   ·rfl
   ·rfl
   ·go_simp
    rfl
   refine hK.out _ _ ⟨(cS1 hHeld.1 NB210_196.out), (cS1 hHeld.2.1 NB210_196.out), (cS1 hHeld.2.2.1 NB210_196.out), (cS1 hHeld.2.2.2.1 NB210_196.out), (cS1 hHeld.2.2.2.2.1 NB210_196.out), (cS1 hHeld.2.2.2.2.2.1 NB210_196.out), (cS1 hHeld.2.2.2.2.2.2.1 NB219_196.out), (cS1 hHeld.2.2.2.2.2.2.2.1 NB219_196.out), (cS1 hHeld.2.2.2.2.2.2.2.2.1 NB219_196.out), (cS1 hHeld.2.2.2.2.2.2.2.2.2.1 NB219_196.out), (cS1 hHeld.2.2.2.2.2.2.2.2.2.2.1 NB219_196.out), (cS1 hHeld.2.2.2.2.2.2.2.2.2.2.2 NB219_196.out)⟩ (fun hHeld => ?_)
   clear hK K
   refine one_ (i := 3) (N := none) (tf 4 0) rfl rfl jK (by decide) (fun K hK => ?_)
   have hs39 : w32.cell? ⟨gb197, 0, none⟩ = some (.string (⟨#[]⟩ : ByteArray)) := (blk_cell BK197.out 0).trans rfl
   have hfs39 := blk_frozen BK197.out 0
   have hns39_0 := NB196_197.out
   have hns39_2 := NB210_197.out
   have hns39_3 := NB219_197.out
   have hms39_0 := NB197_196.out
   have hms39_2 := NB197_210.out
   have hms39_3 := NB197_219.out
   have hs40 : w32.cell? ⟨gb197, 1, none⟩ = some (.int .i64 0) := (blk_cell BK197.out 1).trans rfl
   have hfs40 := blk_frozen BK197.out 1
   have hns40_0 := NB196_197.out
   have hns40_2 := NB210_197.out
   have hns40_3 := NB219_197.out
   have hms40_0 := NB197_196.out
   have hms40_2 := NB197_210.out
   have hms40_3 := NB197_219.out
   have hs41 : w32.cell? ⟨gb197, 2, none⟩ = some (.int .i64 0) := (blk_cell BK197.out 2).trans rfl
   have hfs41 := blk_frozen BK197.out 2
   have hns41_0 := NB196_197.out
   have hns41_2 := NB210_197.out
   have hns41_3 := NB219_197.out
   have hms41_0 := NB197_196.out
   have hms41_2 := NB197_210.out
   have hms41_3 := NB197_219.out
   have hs42 : w32.cell? ⟨gb197, 3, none⟩ = some (.int .i64 0) := (blk_cell BK197.out 3).trans rfl
   have hfs42 := blk_frozen BK197.out 3
   have hns42_0 := NB196_197.out
   have hns42_2 := NB210_197.out
   have hns42_3 := NB219_197.out
   have hms42_0 := NB197_196.out
   have hms42_2 := NB197_210.out
   have hms42_3 := NB197_219.out
   have hs43 : w32.cell? ⟨gb197, 4, none⟩ = some (.string (⟨#[]⟩ : ByteArray)) := (blk_cell BK197.out 4).trans rfl
   have hfs43 := blk_frozen BK197.out 4
   have hns43_0 := NB196_197.out
   have hns43_2 := NB210_197.out
   have hns43_3 := NB219_197.out
   have hms43_0 := NB197_196.out
   have hms43_2 := NB197_210.out
   have hms43_3 := NB197_219.out
   have hs44 : w32.cell? ⟨gb197, 5, none⟩ = some (.string (⟨#[]⟩ : ByteArray)) := (blk_cell BK197.out 5).trans rfl
   have hfs44 := blk_frozen BK197.out 5
   have hns44_0 := NB196_197.out
   have hns44_2 := NB210_197.out
   have hns44_3 := NB219_197.out
   have hms44_0 := NB197_196.out
   have hms44_2 := NB197_210.out
   have hms44_3 := NB197_219.out
   with_reducible refine skip_ (w1 := ?_) ?_ ?_ ?_ ?_
   rotate_left
   ·rfl
   ·rfl
   ·go_simp
    rfl
   refine hK.out _ _ ⟨(cS1 hHeld.1 NB210_197.out), (cS1 hHeld.2.1 NB210_197.out), (cS1 hHeld.2.2.1 NB210_197.out), (cS1 hHeld.2.2.2.1 NB210_197.out), (cS1 hHeld.2.2.2.2.1 NB210_197.out), (cS1 hHeld.2.2.2.2.2.1 NB210_197.out), (cS1 hHeld.2.2.2.2.2.2.1 NB219_197.out), (cS1 hHeld.2.2.2.2.2.2.2.1 NB219_197.out), (cS1 hHeld.2.2.2.2.2.2.2.2.1 NB219_197.out), (cS1 hHeld.2.2.2.2.2.2.2.2.2.1 NB219_197.out), (cS1 hHeld.2.2.2.2.2.2.2.2.2.2.1 NB219_197.out), (cS1 hHeld.2.2.2.2.2.2.2.2.2.2.2 NB219_197.out)⟩ (fun hHeld => ?_)
   clear hK K
   refine done_ jK ?_
   try go_wp2
   refine bodyPost_ret (results_cc rfl _ _ gb196 gb197 25 25 #[.string t202, .int .i64 t203, .int .i64 t204, .int .i64 t205, .string t206, .string t207] #[.string t202, .int .i64 t203, .int .i64 t213, .int .i64 t205, .string t206, .string t216] (0, 0) (0, 0) _ _ rfl (by (iterate 6 ((with_reducible repeat (first | refine blk_drewN ?_ _ | refine blk_drew ?_ | refine blk_alloc ?_ _)); refine blk_far ?_ NB196_197.out _)); (with_reducible repeat (first | refine blk_drewN ?_ _ | refine blk_drew ?_ | refine blk_alloc ?_ _)); refine blk_put_6 (.string (⟨#[]⟩ : ByteArray)) (.int .i64 0) (.int .i64 0) (.int .i64 0) (.string (⟨#[]⟩ : ByteArray)) (.string (⟨#[]⟩ : ByteArray)) ?_; exact bU BK196.out) Tryd.underlying25 rfl jK rfl (by (with_reducible repeat (first | refine blk_drewN ?_ _ | refine blk_drew ?_ | refine blk_alloc ?_ _)); refine blk_put_6 (.string (⟨#[]⟩ : ByteArray)) (.int .i64 0) (.int .i64 0) (.int .i64 0) (.string (⟨#[]⟩ : ByteArray)) (.string (⟨#[]⟩ : ByteArray)) ?_; exact bF1 BK197.out NB197_196.out) Tryd.underlying25 rfl jK) rfl ?_
   exact ⟨jE, by exact wS5 HB.out (IsS111.ge HI201.out) GE196.out GE197.out GE210.out GE219.out⟩
  ·replace c8 := Bool.eq_false_iff.mpr c8
   subst c8
   rw [if_neg Bool.false_ne_true] at H
   simp only [Option.some.injEq, Prod.mk.injEq] at H
   obtain ⟨rfl, rfl, rfl, rfl, rfl, rfl, rfl, rfl, rfl, rfl, rfl, rfl⟩ := H
   go_enter Tryd.func44, Tryd.ntmps44
   try go_wp2_with (first | ((with_reducible refine gate_dst (N := 2) rfl ?_); refine xB 2 #[.string (⟨#[]⟩ : ByteArray), .int .i64 0, .int .i64 0, .int .i64 0, .string (⟨#[]⟩ : ByteArray), .string (⟨#[]⟩ : ByteArray)] 25 ?_; intro gb196 hg w45 hbox hb; have BK196 := aS (hbox); have GW196 := gW hg (wU HB.out); have GE196 := gW hg (wU HB.out); replace HB := aS (below_step (wU HB.out) hb); clear hb hbox hg) | ((with_reducible refine gate_dst (N := 3) rfl ?_); refine xB 3 #[.string (⟨#[]⟩ : ByteArray), .int .i64 0, .int .i64 0, .int .i64 0, .string (⟨#[]⟩ : ByteArray), .string (⟨#[]⟩ : ByteArray)] 25 ?_; intro gb197 hg w46 hbox hb; have BK197 := aS (hbox); have GW197 := gW hg (wS1 HB.out GE196.out); have GE197 := gW hg (wS1 HB.out GE196.out); replace HB := aS (below_step (wS1 HB.out GE196.out) hb); have NB196_197 := nB hg BK196; have NB197_196 := nS NB196_197; replace BK196 := bB BK196 hb; clear hb hbox hg) | ((with_reducible refine gate_callee (f := 56) rfl ?_); refine gL (some 8) Tryd.func56 #[.slice A0 l0.length c0] ?_; (with_reducible refine (spec_l1New.calls k _ _ l0 t198 t199 t200 w _ ?side1 ?side2 ?side3 A2.out).mono ?_); (case side1 => exact wS2 HB.out GE196.out GE197.out); (case side2 => exact HR0.out); (case side3 => exact HC0.out); rintro e w47 ⟨g201, rfl, hi, hb, hb2⟩; refine ⟨_, rfl, ?_⟩; replace HB := aS (hb); have HI201 := aS (hi); have NB201_196 := aS (IsS111.ne_blk hi (blk_below (bU BK196.out) hb2) (by decide)); have NB196_201 := aS (Ne.symm (IsS111.ne_blk hi (blk_below (bU BK196.out) hb2) (by decide))); replace BK196 := aS (blk_below (bU BK196.out) hb2); have NB201_197 := aS (IsS111.ne_blk hi (blk_below (bU BK197.out) hb2) (by decide)); have NB197_201 := aS (Ne.symm (IsS111.ne_blk hi (blk_below (bU BK197.out) hb2) (by decide))); replace BK197 := aS (blk_below (bU BK197.out) hb2); clear hi hb hb2) | ((with_reducible refine gate_callee (f := 79) rfl ?_); refine gL (some 10) Tryd.func79 #[.pointer (some ⟨g201, 0, none⟩)] ?_; (with_reducible refine (spec_l5Draw.calls k g201 t198 t199 t200 t202 t203 t204 t205 t206 t207 t208 t209 w _ ?side1 ?side2 A3.out).mono ?_); (case side1 => exact IsS111.iS2 HI201.out NB201_196.out NB201_197.out); (case side2 => exact wS3 HB.out (IsS111.ge HI201.out) GE196.out GE197.out); rintro e w48 ⟨rfl, hi, hb, hk⟩; refine ⟨_, rfl, ?_⟩; replace BK196 := aS (KeepBut.blk hk (g' := gb196) (o := .cells #[.string (⟨#[]⟩ : ByteArray), .int .i64 0, .int .i64 0, .int .i64 0, .string (⟨#[]⟩ : ByteArray), .string (⟨#[]⟩ : ByteArray)] 25 (0, 0)) (bU BK196.out) NB196_201.out (by simp)); replace BK197 := aS (KeepBut.blk hk (g' := gb197) (o := .cells #[.string (⟨#[]⟩ : ByteArray), .int .i64 0, .int .i64 0, .int .i64 0, .string (⟨#[]⟩ : ByteArray), .string (⟨#[]⟩ : ByteArray)] 25 (0, 0)) (bU BK197.out) NB197_201.out (by simp)); replace HB := aS (hb); replace HI201 := aS (hi); clear hi hb hk) | ((with_reducible refine gate_dst (N := 5) rfl ?_); refine xB 5 #[.string (⟨#[]⟩ : ByteArray), .int .i64 0, .int .i64 0, .int .i64 0, .string (⟨#[]⟩ : ByteArray), .string (⟨#[]⟩ : ByteArray)] 25 ?_; intro gb210 hg w49 hbox hb; have BK210 := aS (hbox); have GW210 := gW hg (wS3 HB.out (IsS111.ge HI201.out) GE196.out GE197.out); have GE210 := gW hg (wS3 HB.out (IsS111.ge HI201.out) GE196.out GE197.out); replace HB := aS (below_step (by exact wS3 HB.out (IsS111.ge HI201.out) GE196.out GE197.out) hb); have NB196_210 := nB hg BK196; have NB210_196 := nS NB196_210; replace BK196 := bB BK196 hb; have NB197_210 := nB hg BK197; have NB210_197 := nS NB197_210; replace BK197 := bB BK197 hb; have NB201_210 := aS ((by rw [hg]; exact Nat.ne_of_lt (IsS111.lt (show IsS111 w _ g201 t198 t208 t209 from by exact IsS111.iS2 HI201.out NB201_196.out NB201_197.out)) : g201 ≠ gb210)); have NB210_201 := aS ((by rw [hg]; exact Nat.ne_of_gt (IsS111.lt (show IsS111 w _ g201 t198 t208 t209 from by exact IsS111.iS2 HI201.out NB201_196.out NB201_197.out)) : gb210 ≠ g201)); replace HI201 := aS (IsS111.below (IsS111.iS2 HI201.out NB201_196.out NB201_197.out) hb); clear hb hbox hg; have hnb50 := NB210_196.out; have hnc50 := NB196_210.out; have hnb51 := NB210_197.out; have hnc51 := NB197_210.out; have hnb52 := NB210_201.out; have hnc52 := NB201_210.out; have hcz53 := cells6f BK210.out) | ((with_reducible refine gate_callee (f := 79) rfl ?_); refine gL (some 12) Tryd.func79 #[.pointer (some ⟨g201, 0, none⟩)] ?_; (with_reducible refine (spec_l5Draw.calls k g201 t198 t208 t209 t211 t212 t213 t214 t215 t216 t217 t218 w _ ?side1 ?side2 A4.out).mono ?_); (case side1 => exact IsS111.iS3 HI201.out NB201_196.out NB201_197.out NB201_210.out); (case side2 => exact wS4 HB.out (IsS111.ge HI201.out) GE196.out GE197.out GE210.out); rintro e w54 ⟨rfl, hi, hb, hk⟩; refine ⟨_, rfl, ?_⟩; replace BK196 := aS (KeepBut.blk hk (g' := gb196) (o := .cells #[.string (⟨#[]⟩ : ByteArray), .int .i64 0, .int .i64 0, .int .i64 0, .string (⟨#[]⟩ : ByteArray), .string (⟨#[]⟩ : ByteArray)] 25 (0, 0)) (by exact bF1 BK196.out NB196_210.out) NB196_201.out (by simp)); replace BK197 := aS (KeepBut.blk hk (g' := gb197) (o := .cells #[.string (⟨#[]⟩ : ByteArray), .int .i64 0, .int .i64 0, .int .i64 0, .string (⟨#[]⟩ : ByteArray), .string (⟨#[]⟩ : ByteArray)] 25 (0, 0)) (by exact bF1 BK197.out NB197_210.out) NB197_201.out (by simp)); replace BK210 := aS (KeepBut.blk hk (g' := gb210) (o := .cells #[.string t202, .int .i64 t203, .int .i64 t204, .int .i64 t205, .string t206, .string t207] 25 (0, 0)) (by (with_reducible repeat (first | refine blk_drewN ?_ _ | refine blk_drew ?_ | refine blk_alloc ?_ _)); refine blk_put_6 (.string (⟨#[]⟩ : ByteArray)) (.int .i64 0) (.int .i64 0) (.int .i64 0) (.string (⟨#[]⟩ : ByteArray)) (.string (⟨#[]⟩ : ByteArray)) ?_; exact bU BK210.out) NB210_201.out (by simp)); replace HB := aS (hb); replace HI201 := aS (hi); clear hi hb hk) | ((with_reducible refine gate_dst (N := 6) rfl ?_); refine xB 6 #[.string (⟨#[]⟩ : ByteArray), .int .i64 0, .int .i64 0, .int .i64 0, .string (⟨#[]⟩ : ByteArray), .string (⟨#[]⟩ : ByteArray)] 25 ?_; intro gb219 hg w55 hbox hb; have BK219 := aS (hbox); have GW219 := gW hg (wS4 HB.out (IsS111.ge HI201.out) GE196.out GE197.out GE210.out); have GE219 := gW hg (wS4 HB.out (IsS111.ge HI201.out) GE196.out GE197.out GE210.out); replace HB := aS (below_step (by exact wS4 HB.out (IsS111.ge HI201.out) GE196.out GE197.out GE210.out) hb); have NB196_219 := nB hg BK196; have NB219_196 := nS NB196_219; replace BK196 := bB BK196 hb; have NB197_219 := nB hg BK197; have NB219_197 := nS NB197_219; replace BK197 := bB BK197 hb; have NB210_219 := nB hg BK210; have NB219_210 := nS NB210_219; replace BK210 := bB BK210 hb; have NB201_219 := aS ((by rw [hg]; exact Nat.ne_of_lt (IsS111.lt (show IsS111 w _ g201 t198 t217 t218 from by exact IsS111.iS3 HI201.out NB201_196.out NB201_197.out NB201_210.out)) : g201 ≠ gb219)); have NB219_201 := aS ((by rw [hg]; exact Nat.ne_of_gt (IsS111.lt (show IsS111 w _ g201 t198 t217 t218 from by exact IsS111.iS3 HI201.out NB201_196.out NB201_197.out NB201_210.out)) : gb219 ≠ g201)); replace HI201 := aS (IsS111.below (IsS111.iS3 HI201.out NB201_196.out NB201_197.out NB201_210.out) hb); clear hb hbox hg; have hnb56 := NB219_196.out; have hnc56 := NB196_219.out; have hnb57 := NB219_197.out; have hnc57 := NB197_219.out; have hnb58 := NB219_210.out; have hnc58 := NB210_219.out; have hnb59 := NB219_201.out; have hnc59 := NB201_219.out; have hcz60 := cells6f BK219.out) | ((with_reducible refine gate_callee (f := 76) rfl ?_); refine gL (some 14) Tryd.func76 #[.pointer (some ⟨g201, 0, none⟩), .int .i64 2] ?_; (with_reducible refine (spec_l1Once.calls g201 t198 t217 t218 2 true t221 t222 w _ ?side1 ?side2 A5.out).mono ?_); (case side1 => exact IsS111.iS4 HI201.out NB201_196.out NB201_197.out NB201_210.out NB201_219.out); (case side2 => exact wS5 HB.out (IsS111.ge HI201.out) GE196.out GE197.out GE210.out GE219.out); rintro e w61 ⟨rfl, hi, hb, hk⟩; refine ⟨_, rfl, ?_⟩; replace BK196 := aS (KeepBut.blk hk (g' := gb196) (o := .cells #[.string (⟨#[]⟩ : ByteArray), .int .i64 0, .int .i64 0, .int .i64 0, .string (⟨#[]⟩ : ByteArray), .string (⟨#[]⟩ : ByteArray)] 25 (0, 0)) (by exact bF1 BK196.out NB196_219.out) NB196_201.out (by simp)); replace BK197 := aS (KeepBut.blk hk (g' := gb197) (o := .cells #[.string (⟨#[]⟩ : ByteArray), .int .i64 0, .int .i64 0, .int .i64 0, .string (⟨#[]⟩ : ByteArray), .string (⟨#[]⟩ : ByteArray)] 25 (0, 0)) (by exact bF1 BK197.out NB197_219.out) NB197_201.out (by simp)); replace BK210 := aS (KeepBut.blk hk (g' := gb210) (o := .cells #[.string t202, .int .i64 t203, .int .i64 t204, .int .i64 t205, .string t206, .string t207] 25 (0, 0)) (by exact bF1 BK210.out NB210_219.out) NB210_201.out (by simp)); replace BK219 := aS (KeepBut.blk hk (g' := gb219) (o := .cells #[.string t211, .int .i64 t212, .int .i64 t213, .int .i64 t214, .string t215, .string t216] 25 (0, 0)) (by (with_reducible repeat (first | refine blk_drewN ?_ _ | refine blk_drew ?_ | refine blk_alloc ?_ _)); refine blk_put_6 (.string (⟨#[]⟩ : ByteArray)) (.int .i64 0) (.int .i64 0) (.int .i64 0) (.string (⟨#[]⟩ : ByteArray)) (.string (⟨#[]⟩ : ByteArray)) ?_; exact bU BK219.out) NB219_201.out (by simp)); replace HB := aS (hb); replace HI201 := aS (hi); clear hi hb hk; have hcz62 := cells6f BK210.out; have hcz63 := cells6f BK219.out) | ((with_reducible refine gate_callee (f := 76) rfl ?_); refine gL (some 22) Tryd.func76 #[.pointer (some ⟨g201, 0, none⟩), .int .i64 2] ?_; (with_reducible refine (spec_l1Once.calls g201 t198 t221 t222 2 false t224 t225 w _ ?side1 ?side2 A7.out).mono ?_); (case side1 => exact IsS111.iS4 HI201.out NB201_196.out NB201_197.out NB201_210.out NB201_219.out); (case side2 => exact wS5 HB.out (IsS111.ge HI201.out) GE196.out GE197.out GE210.out GE219.out); rintro e w64 ⟨rfl, hi, hb, hk⟩; refine ⟨_, rfl, ?_⟩; replace BK196 := aS (KeepBut.blk hk (g' := gb196) (o := .cells #[.string (⟨#[]⟩ : ByteArray), .int .i64 0, .int .i64 0, .int .i64 0, .string (⟨#[]⟩ : ByteArray), .string (⟨#[]⟩ : ByteArray)] 25 (0, 0)) (by (with_reducible repeat (first | refine blk_drewN ?_ _ | refine blk_drew ?_ | refine blk_alloc ?_ _)); refine blk_far ?_ NB196_219.out _; (with_reducible repeat (first | refine blk_drewN ?_ _ | refine blk_drew ?_ | refine blk_alloc ?_ _)); refine blk_far ?_ NB196_219.out _; exact bU BK196.out) NB196_201.out (by simp)); replace BK197 := aS (KeepBut.blk hk (g' := gb197) (o := .cells #[.string (⟨#[]⟩ : ByteArray), .int .i64 0, .int .i64 0, .int .i64 0, .string (⟨#[]⟩ : ByteArray), .string (⟨#[]⟩ : ByteArray)] 25 (0, 0)) (by (with_reducible repeat (first | refine blk_drewN ?_ _ | refine blk_drew ?_ | refine blk_alloc ?_ _)); refine blk_far ?_ NB197_219.out _; (with_reducible repeat (first | refine blk_drewN ?_ _ | refine blk_drew ?_ | refine blk_alloc ?_ _)); refine blk_far ?_ NB197_219.out _; exact bU BK197.out) NB197_201.out (by simp)); replace BK210 := aS (KeepBut.blk hk (g' := gb210) (o := .cells #[.string t202, .int .i64 t203, .int .i64 t204, .int .i64 t205, .string t206, .string t207] 25 (0, 0)) (by (with_reducible repeat (first | refine blk_drewN ?_ _ | refine blk_drew ?_ | refine blk_alloc ?_ _)); refine blk_far ?_ NB210_219.out _; (with_reducible repeat (first | refine blk_drewN ?_ _ | refine blk_drew ?_ | refine blk_alloc ?_ _)); refine blk_far ?_ NB210_219.out _; exact bU BK210.out) NB210_201.out (by simp)); replace BK219 := aS (KeepBut.blk hk (g' := gb219) (o := .cells #[.string t202, .int .i64 t203, .int .i64 t213, .int .i64 t214, .string t215, .string t216] 25 (0, 0)) (by (with_reducible repeat (first | refine blk_drewN ?_ _ | refine blk_drew ?_ | refine blk_alloc ?_ _)); refine blk_put (cs := #[.string t202, .int .i64 t212, .int .i64 t213, .int .i64 t214, .string t215, .string t216]) ?_ 1 _ rfl; (with_reducible repeat (first | refine blk_drewN ?_ _ | refine blk_drew ?_ | refine blk_alloc ?_ _)); refine blk_put (cs := #[.string t211, .int .i64 t212, .int .i64 t213, .int .i64 t214, .string t215, .string t216]) ?_ 0 _ rfl; exact bU BK219.out) NB219_201.out (by simp)); replace HB := aS (hb); replace HI201 := aS (hi); clear hi hb hk))
   replace BK196 := aS (blk_drew BK196.out)
   replace BK197 := aS (blk_drew BK197.out)
   replace BK210 := aS (blk_drew BK210.out)
   replace BK219 := aS (blk_drew BK219.out)
   replace HI201 := aS (IsS111.drew HI201.out)
   replace HB := aS (below_drew1 HB.out)
   refine start_ (n := 4) (S := fun w' => w'.cell? ⟨gb210, 0, none⟩ = some (.string t202) ∧ w'.cell? ⟨gb210, 1, none⟩ = some (.int .i64 t203) ∧ w'.cell? ⟨gb210, 2, none⟩ = some (.int .i64 t204) ∧ w'.cell? ⟨gb210, 3, none⟩ = some (.int .i64 t205) ∧ w'.cell? ⟨gb210, 4, none⟩ = some (.string t206) ∧ w'.cell? ⟨gb210, 5, none⟩ = some (.string t207) ∧ w'.cell? ⟨gb219, 0, none⟩ = some (.string t202) ∧ w'.cell? ⟨gb219, 1, none⟩ = some (.int .i64 t203) ∧ w'.cell? ⟨gb219, 2, none⟩ = some (.int .i64 t213) ∧ w'.cell? ⟨gb219, 3, none⟩ = some (.int .i64 t214) ∧ w'.cell? ⟨gb219, 4, none⟩ = some (.string t215) ∧ w'.cell? ⟨gb219, 5, none⟩ = some (.string t216)) (ds := []) #[false, false, false, false] jK rfl rfl (b6 BK210.out (c6 BK219.out)) (fun hHeld => ?_)
   generalize w64.drew = w65 at BK196 BK197 BK210 BK219 HI201 HB hHeld ⊢
   refine tB hHeld 0 (some 29) (tf 1 3) ?_
   refine tB hHeld 1 (some 30) (tf 2 2) ?_
   refine one_ (i := 2) (N := none) (tf 3 1) rfl rfl jK (by decide) (fun K hK => ?_)
   have hs66 : w65.cell? ⟨gb196, 0, none⟩ = some (.string (⟨#[]⟩ : ByteArray)) := (blk_cell BK196.out 0).trans rfl
   have hfs66 := blk_frozen BK196.out 0
   have hns66_1 := NB197_196.out
   have hns66_2 := NB210_196.out
   have hns66_3 := NB219_196.out
   have hms66_1 := NB196_197.out
   have hms66_2 := NB196_210.out
   have hms66_3 := NB196_219.out
   have hs67 : w65.cell? ⟨gb196, 1, none⟩ = some (.int .i64 0) := (blk_cell BK196.out 1).trans rfl
   have hfs67 := blk_frozen BK196.out 1
   have hns67_1 := NB197_196.out
   have hns67_2 := NB210_196.out
   have hns67_3 := NB219_196.out
   have hms67_1 := NB196_197.out
   have hms67_2 := NB196_210.out
   have hms67_3 := NB196_219.out
   have hs68 : w65.cell? ⟨gb196, 2, none⟩ = some (.int .i64 0) := (blk_cell BK196.out 2).trans rfl
   have hfs68 := blk_frozen BK196.out 2
   have hns68_1 := NB197_196.out
   have hns68_2 := NB210_196.out
   have hns68_3 := NB219_196.out
   have hms68_1 := NB196_197.out
   have hms68_2 := NB196_210.out
   have hms68_3 := NB196_219.out
   have hs69 : w65.cell? ⟨gb196, 3, none⟩ = some (.int .i64 0) := (blk_cell BK196.out 3).trans rfl
   have hfs69 := blk_frozen BK196.out 3
   have hns69_1 := NB197_196.out
   have hns69_2 := NB210_196.out
   have hns69_3 := NB219_196.out
   have hms69_1 := NB196_197.out
   have hms69_2 := NB196_210.out
   have hms69_3 := NB196_219.out
   have hs70 : w65.cell? ⟨gb196, 4, none⟩ = some (.string (⟨#[]⟩ : ByteArray)) := (blk_cell BK196.out 4).trans rfl
   have hfs70 := blk_frozen BK196.out 4
   have hns70_1 := NB197_196.out
   have hns70_2 := NB210_196.out
   have hns70_3 := NB219_196.out
   have hms70_1 := NB196_197.out
   have hms70_2 := NB196_210.out
   have hms70_3 := NB196_219.out
   have hs71 : w65.cell? ⟨gb196, 5, none⟩ = some (.string (⟨#[]⟩ : ByteArray)) := (blk_cell BK196.out 5).trans rfl
   have hfs71 := blk_frozen BK196.out 5
   have hns71_1 := NB197_196.out
   have hns71_2 := NB210_196.out
   have hns71_3 := NB219_196.out
   have hms71_1 := NB196_197.out
   have hms71_2 := NB196_210.out
   have hms71_3 := NB196_219.out
   with_reducible refine skip_ (w1 := ?_) ?_ ?_ ?_ ?_
   rotate_left
   ·rfl
   ·rfl
   ·go_simp
    rfl
   refine hK.out _ _ ⟨(cS1 hHeld.1 NB210_196.out), (cS1 hHeld.2.1 NB210_196.out), (cS1 hHeld.2.2.1 NB210_196.out), (cS1 hHeld.2.2.2.1 NB210_196.out), (cS1 hHeld.2.2.2.2.1 NB210_196.out), (cS1 hHeld.2.2.2.2.2.1 NB210_196.out), (cS1 hHeld.2.2.2.2.2.2.1 NB219_196.out), (cS1 hHeld.2.2.2.2.2.2.2.1 NB219_196.out), (cS1 hHeld.2.2.2.2.2.2.2.2.1 NB219_196.out), (cS1 hHeld.2.2.2.2.2.2.2.2.2.1 NB219_196.out), (cS1 hHeld.2.2.2.2.2.2.2.2.2.2.1 NB219_196.out), (cS1 hHeld.2.2.2.2.2.2.2.2.2.2.2 NB219_196.out)⟩ (fun hHeld => ?_)
   clear hK K
   refine one_ (i := 3) (N := none) (tf 4 0) rfl rfl jK (by decide) (fun K hK => ?_)
   have hs72 : w65.cell? ⟨gb197, 0, none⟩ = some (.string (⟨#[]⟩ : ByteArray)) := (blk_cell BK197.out 0).trans rfl
   have hfs72 := blk_frozen BK197.out 0
   have hns72_0 := NB196_197.out
   have hns72_2 := NB210_197.out
   have hns72_3 := NB219_197.out
   have hms72_0 := NB197_196.out
   have hms72_2 := NB197_210.out
   have hms72_3 := NB197_219.out
   have hs73 : w65.cell? ⟨gb197, 1, none⟩ = some (.int .i64 0) := (blk_cell BK197.out 1).trans rfl
   have hfs73 := blk_frozen BK197.out 1
   have hns73_0 := NB196_197.out
   have hns73_2 := NB210_197.out
   have hns73_3 := NB219_197.out
   have hms73_0 := NB197_196.out
   have hms73_2 := NB197_210.out
   have hms73_3 := NB197_219.out
   have hs74 : w65.cell? ⟨gb197, 2, none⟩ = some (.int .i64 0) := (blk_cell BK197.out 2).trans rfl
   have hfs74 := blk_frozen BK197.out 2
   have hns74_0 := NB196_197.out
   have hns74_2 := NB210_197.out
   have hns74_3 := NB219_197.out
   have hms74_0 := NB197_196.out
   have hms74_2 := NB197_210.out
   have hms74_3 := NB197_219.out
   have hs75 : w65.cell? ⟨gb197, 3, none⟩ = some (.int .i64 0) := (blk_cell BK197.out 3).trans rfl
   have hfs75 := blk_frozen BK197.out 3
   have hns75_0 := NB196_197.out
   have hns75_2 := NB210_197.out
   have hns75_3 := NB219_197.out
   have hms75_0 := NB197_196.out
   have hms75_2 := NB197_210.out
   have hms75_3 := NB197_219.out
   have hs76 : w65.cell? ⟨gb197, 4, none⟩ = some (.string (⟨#[]⟩ : ByteArray)) := (blk_cell BK197.out 4).trans rfl
   have hfs76 := blk_frozen BK197.out 4
   have hns76_0 := NB196_197.out
   have hns76_2 := NB210_197.out
   have hns76_3 := NB219_197.out
   have hms76_0 := NB197_196.out
   have hms76_2 := NB197_210.out
   have hms76_3 := NB197_219.out
   have hs77 : w65.cell? ⟨gb197, 5, none⟩ = some (.string (⟨#[]⟩ : ByteArray)) := (blk_cell BK197.out 5).trans rfl
   have hfs77 := blk_frozen BK197.out 5
   have hns77_0 := NB196_197.out
   have hns77_2 := NB210_197.out
   have hns77_3 := NB219_197.out
   have hms77_0 := NB197_196.out
   have hms77_2 := NB197_210.out
   have hms77_3 := NB197_219.out
   with_reducible refine skip_ (w1 := ?_) ?_ ?_ ?_ ?_
   rotate_left
   ·rfl
   ·rfl
   ·go_simp
    rfl
   refine hK.out _ _ ⟨(cS1 hHeld.1 NB210_197.out), (cS1 hHeld.2.1 NB210_197.out), (cS1 hHeld.2.2.1 NB210_197.out), (cS1 hHeld.2.2.2.1 NB210_197.out), (cS1 hHeld.2.2.2.2.1 NB210_197.out), (cS1 hHeld.2.2.2.2.2.1 NB210_197.out), (cS1 hHeld.2.2.2.2.2.2.1 NB219_197.out), (cS1 hHeld.2.2.2.2.2.2.2.1 NB219_197.out), (cS1 hHeld.2.2.2.2.2.2.2.2.1 NB219_197.out), (cS1 hHeld.2.2.2.2.2.2.2.2.2.1 NB219_197.out), (cS1 hHeld.2.2.2.2.2.2.2.2.2.2.1 NB219_197.out), (cS1 hHeld.2.2.2.2.2.2.2.2.2.2.2 NB219_197.out)⟩ (fun hHeld => ?_)
   clear hK K
   refine done_ jK ?_
   try go_wp2
   refine bodyPost_ret (results_cc rfl _ _ gb196 gb197 25 25 #[.string t202, .int .i64 t203, .int .i64 t204, .int .i64 t205, .string t206, .string t207] #[.string t202, .int .i64 t203, .int .i64 t213, .int .i64 t214, .string t215, .string t216] (0, 0) (0, 0) _ _ rfl (by (iterate 6 ((with_reducible repeat (first | refine blk_drewN ?_ _ | refine blk_drew ?_ | refine blk_alloc ?_ _)); refine blk_far ?_ NB196_197.out _)); (with_reducible repeat (first | refine blk_drewN ?_ _ | refine blk_drew ?_ | refine blk_alloc ?_ _)); refine blk_put_6 (.string (⟨#[]⟩ : ByteArray)) (.int .i64 0) (.int .i64 0) (.int .i64 0) (.string (⟨#[]⟩ : ByteArray)) (.string (⟨#[]⟩ : ByteArray)) ?_; exact bU BK196.out) Tryd.underlying25 rfl jK rfl (by (with_reducible repeat (first | refine blk_drewN ?_ _ | refine blk_drew ?_ | refine blk_alloc ?_ _)); refine blk_put_6 (.string (⟨#[]⟩ : ByteArray)) (.int .i64 0) (.int .i64 0) (.int .i64 0) (.string (⟨#[]⟩ : ByteArray)) (.string (⟨#[]⟩ : ByteArray)) ?_; exact bF1 BK197.out NB197_196.out) Tryd.underlying25 rfl jK) rfl ?_
   exact ⟨jE, by exact wS5 HB.out (IsS111.ge HI201.out) GE196.out GE197.out GE210.out GE219.out⟩
 ·replace c6 := Bool.eq_false_iff.mpr c6
  subst c6
  rw [if_neg Bool.false_ne_true] at H
  simp only [Option.some.injEq, Prod.mk.injEq] at H
  obtain ⟨rfl, rfl, rfl, rfl, rfl, rfl, rfl, rfl, rfl, rfl, rfl, rfl⟩ := H
  go_enter Tryd.func44, Tryd.ntmps44
  try go_wp2_with (first | ((with_reducible refine gate_dst (N := 2) rfl ?_); refine xB 2 #[.string (⟨#[]⟩ : ByteArray), .int .i64 0, .int .i64 0, .int .i64 0, .string (⟨#[]⟩ : ByteArray), .string (⟨#[]⟩ : ByteArray)] 25 ?_; intro gb196 hg w78 hbox hb; have BK196 := aS (hbox); have GW196 := gW hg (wU HB.out); have GE196 := gW hg (wU HB.out); replace HB := aS (below_step (wU HB.out) hb); clear hb hbox hg) | ((with_reducible refine gate_dst (N := 3) rfl ?_); refine xB 3 #[.string (⟨#[]⟩ : ByteArray), .int .i64 0, .int .i64 0, .int .i64 0, .string (⟨#[]⟩ : ByteArray), .string (⟨#[]⟩ : ByteArray)] 25 ?_; intro gb197 hg w79 hbox hb; have BK197 := aS (hbox); have GW197 := gW hg (wS1 HB.out GE196.out); have GE197 := gW hg (wS1 HB.out GE196.out); replace HB := aS (below_step (wS1 HB.out GE196.out) hb); have NB196_197 := nB hg BK196; have NB197_196 := nS NB196_197; replace BK196 := bB BK196 hb; clear hb hbox hg) | ((with_reducible refine gate_callee (f := 56) rfl ?_); refine gL (some 8) Tryd.func56 #[.slice A0 l0.length c0] ?_; (with_reducible refine (spec_l1New.calls k _ _ l0 t198 t199 t200 w _ ?side1 ?side2 ?side3 A2.out).mono ?_); (case side1 => exact wS2 HB.out GE196.out GE197.out); (case side2 => exact HR0.out); (case side3 => exact HC0.out); rintro e w80 ⟨g201, rfl, hi, hb, hb2⟩; refine ⟨_, rfl, ?_⟩; replace HB := aS (hb); have HI201 := aS (hi); have NB201_196 := aS (IsS111.ne_blk hi (blk_below (bU BK196.out) hb2) (by decide)); have NB196_201 := aS (Ne.symm (IsS111.ne_blk hi (blk_below (bU BK196.out) hb2) (by decide))); replace BK196 := aS (blk_below (bU BK196.out) hb2); have NB201_197 := aS (IsS111.ne_blk hi (blk_below (bU BK197.out) hb2) (by decide)); have NB197_201 := aS (Ne.symm (IsS111.ne_blk hi (blk_below (bU BK197.out) hb2) (by decide))); replace BK197 := aS (blk_below (bU BK197.out) hb2); clear hi hb hb2) | ((with_reducible refine gate_callee (f := 79) rfl ?_); refine gL (some 10) Tryd.func79 #[.pointer (some ⟨g201, 0, none⟩)] ?_; (with_reducible refine (spec_l5Draw.calls k g201 t198 t199 t200 t202 t203 t204 t205 t206 t207 t208 t209 w _ ?side1 ?side2 A3.out).mono ?_); (case side1 => exact IsS111.iS2 HI201.out NB201_196.out NB201_197.out); (case side2 => exact wS3 HB.out (IsS111.ge HI201.out) GE196.out GE197.out); rintro e w81 ⟨rfl, hi, hb, hk⟩; refine ⟨_, rfl, ?_⟩; replace BK196 := aS (KeepBut.blk hk (g' := gb196) (o := .cells #[.string (⟨#[]⟩ : ByteArray), .int .i64 0, .int .i64 0, .int .i64 0, .string (⟨#[]⟩ : ByteArray), .string (⟨#[]⟩ : ByteArray)] 25 (0, 0)) (bU BK196.out) NB196_201.out (by simp)); replace BK197 := aS (KeepBut.blk hk (g' := gb197) (o := .cells #[.string (⟨#[]⟩ : ByteArray), .int .i64 0, .int .i64 0, .int .i64 0, .string (⟨#[]⟩ : ByteArray), .string (⟨#[]⟩ : ByteArray)] 25 (0, 0)) (bU BK197.out) NB197_201.out (by simp)); replace HB := aS (hb); replace HI201 := aS (hi); clear hi hb hk) | ((with_reducible refine gate_dst (N := 5) rfl ?_); refine xB 5 #[.string (⟨#[]⟩ : ByteArray), .int .i64 0, .int .i64 0, .int .i64 0, .string (⟨#[]⟩ : ByteArray), .string (⟨#[]⟩ : ByteArray)] 25 ?_; intro gb210 hg w82 hbox hb; have BK210 := aS (hbox); have GW210 := gW hg (wS3 HB.out (IsS111.ge HI201.out) GE196.out GE197.out); have GE210 := gW hg (wS3 HB.out (IsS111.ge HI201.out) GE196.out GE197.out); replace HB := aS (below_step (by exact wS3 HB.out (IsS111.ge HI201.out) GE196.out GE197.out) hb); have NB196_210 := nB hg BK196; have NB210_196 := nS NB196_210; replace BK196 := bB BK196 hb; have NB197_210 := nB hg BK197; have NB210_197 := nS NB197_210; replace BK197 := bB BK197 hb; have NB201_210 := aS ((by rw [hg]; exact Nat.ne_of_lt (IsS111.lt (show IsS111 w _ g201 t198 t208 t209 from by exact IsS111.iS2 HI201.out NB201_196.out NB201_197.out)) : g201 ≠ gb210)); have NB210_201 := aS ((by rw [hg]; exact Nat.ne_of_gt (IsS111.lt (show IsS111 w _ g201 t198 t208 t209 from by exact IsS111.iS2 HI201.out NB201_196.out NB201_197.out)) : gb210 ≠ g201)); replace HI201 := aS (IsS111.below (IsS111.iS2 HI201.out NB201_196.out NB201_197.out) hb); clear hb hbox hg; have hnb83 := NB210_196.out; have hnc83 := NB196_210.out; have hnb84 := NB210_197.out; have hnc84 := NB197_210.out; have hnb85 := NB210_201.out; have hnc85 := NB201_210.out; have hcz86 := cells6f BK210.out) | ((with_reducible refine gate_callee (f := 79) rfl ?_); refine gL (some 12) Tryd.func79 #[.pointer (some ⟨g201, 0, none⟩)] ?_; (with_reducible refine (spec_l5Draw.calls k g201 t198 t208 t209 t211 t212 t213 t214 t215 t216 t217 t218 w _ ?side1 ?side2 A4.out).mono ?_); (case side1 => exact IsS111.iS3 HI201.out NB201_196.out NB201_197.out NB201_210.out); (case side2 => exact wS4 HB.out (IsS111.ge HI201.out) GE196.out GE197.out GE210.out); rintro e w87 ⟨rfl, hi, hb, hk⟩; refine ⟨_, rfl, ?_⟩; replace BK196 := aS (KeepBut.blk hk (g' := gb196) (o := .cells #[.string (⟨#[]⟩ : ByteArray), .int .i64 0, .int .i64 0, .int .i64 0, .string (⟨#[]⟩ : ByteArray), .string (⟨#[]⟩ : ByteArray)] 25 (0, 0)) (by exact bF1 BK196.out NB196_210.out) NB196_201.out (by simp)); replace BK197 := aS (KeepBut.blk hk (g' := gb197) (o := .cells #[.string (⟨#[]⟩ : ByteArray), .int .i64 0, .int .i64 0, .int .i64 0, .string (⟨#[]⟩ : ByteArray), .string (⟨#[]⟩ : ByteArray)] 25 (0, 0)) (by exact bF1 BK197.out NB197_210.out) NB197_201.out (by simp)); replace BK210 := aS (KeepBut.blk hk (g' := gb210) (o := .cells #[.string t202, .int .i64 t203, .int .i64 t204, .int .i64 t205, .string t206, .string t207] 25 (0, 0)) (by (with_reducible repeat (first | refine blk_drewN ?_ _ | refine blk_drew ?_ | refine blk_alloc ?_ _)); refine blk_put_6 (.string (⟨#[]⟩ : ByteArray)) (.int .i64 0) (.int .i64 0) (.int .i64 0) (.string (⟨#[]⟩ : ByteArray)) (.string (⟨#[]⟩ : ByteArray)) ?_; exact bU BK210.out) NB210_201.out (by simp)); replace HB := aS (hb); replace HI201 := aS (hi); clear hi hb hk) | ((with_reducible refine gate_dst (N := 6) rfl ?_); refine xB 6 #[.string (⟨#[]⟩ : ByteArray), .int .i64 0, .int .i64 0, .int .i64 0, .string (⟨#[]⟩ : ByteArray), .string (⟨#[]⟩ : ByteArray)] 25 ?_; intro gb219 hg w88 hbox hb; have BK219 := aS (hbox); have GW219 := gW hg (wS4 HB.out (IsS111.ge HI201.out) GE196.out GE197.out GE210.out); have GE219 := gW hg (wS4 HB.out (IsS111.ge HI201.out) GE196.out GE197.out GE210.out); replace HB := aS (below_step (by exact wS4 HB.out (IsS111.ge HI201.out) GE196.out GE197.out GE210.out) hb); have NB196_219 := nB hg BK196; have NB219_196 := nS NB196_219; replace BK196 := bB BK196 hb; have NB197_219 := nB hg BK197; have NB219_197 := nS NB197_219; replace BK197 := bB BK197 hb; have NB210_219 := nB hg BK210; have NB219_210 := nS NB210_219; replace BK210 := bB BK210 hb; have NB201_219 := aS ((by rw [hg]; exact Nat.ne_of_lt (IsS111.lt (show IsS111 w _ g201 t198 t217 t218 from by exact IsS111.iS3 HI201.out NB201_196.out NB201_197.out NB201_210.out)) : g201 ≠ gb219)); have NB219_201 := aS ((by rw [hg]; exact Nat.ne_of_gt (IsS111.lt (show IsS111 w _ g201 t198 t217 t218 from by exact IsS111.iS3 HI201.out NB201_196.out NB201_197.out NB201_210.out)) : gb219 ≠ g201)); replace HI201 := aS (IsS111.below (IsS111.iS3 HI201.out NB201_196.out NB201_197.out NB201_210.out) hb); clear hb hbox hg; have hnb89 := NB219_196.out; have hnc89 := NB196_219.out; have hnb90 := NB219_197.out; have hnc90 := NB197_219.out; have hnb91 := NB219_210.out; have hnc91 := NB210_219.out; have hnb92 := NB219_201.out; have hnc92 := NB201_219.out; have hcz93 := cells6f BK219.out) | ((with_reducible refine gate_callee (f := 76) rfl ?_); refine gL (some 14) Tryd.func76 #[.pointer (some ⟨g201, 0, none⟩), .int .i64 2] ?_; (with_reducible refine (spec_l1Once.calls g201 t198 t217 t218 2 false t221 t222 w _ ?side1 ?side2 A5.out).mono ?_); (case side1 => exact IsS111.iS4 HI201.out NB201_196.out NB201_197.out NB201_210.out NB201_219.out); (case side2 => exact wS5 HB.out (IsS111.ge HI201.out) GE196.out GE197.out GE210.out GE219.out); rintro e w94 ⟨rfl, hi, hb, hk⟩; refine ⟨_, rfl, ?_⟩; replace BK196 := aS (KeepBut.blk hk (g' := gb196) (o := .cells #[.string (⟨#[]⟩ : ByteArray), .int .i64 0, .int .i64 0, .int .i64 0, .string (⟨#[]⟩ : ByteArray), .string (⟨#[]⟩ : ByteArray)] 25 (0, 0)) (by exact bF1 BK196.out NB196_219.out) NB196_201.out (by simp)); replace BK197 := aS (KeepBut.blk hk (g' := gb197) (o := .cells #[.string (⟨#[]⟩ : ByteArray), .int .i64 0, .int .i64 0, .int .i64 0, .string (⟨#[]⟩ : ByteArray), .string (⟨#[]⟩ : ByteArray)] 25 (0, 0)) (by exact bF1 BK197.out NB197_219.out) NB197_201.out (by simp)); replace BK210 := aS (KeepBut.blk hk (g' := gb210) (o := .cells #[.string t202, .int .i64 t203, .int .i64 t204, .int .i64 t205, .string t206, .string t207] 25 (0, 0)) (by exact bF1 BK210.out NB210_219.out) NB210_201.out (by simp)); replace BK219 := aS (KeepBut.blk hk (g' := gb219) (o := .cells #[.string t211, .int .i64 t212, .int .i64 t213, .int .i64 t214, .string t215, .string t216] 25 (0, 0)) (by (with_reducible repeat (first | refine blk_drewN ?_ _ | refine blk_drew ?_ | refine blk_alloc ?_ _)); refine blk_put_6 (.string (⟨#[]⟩ : ByteArray)) (.int .i64 0) (.int .i64 0) (.int .i64 0) (.string (⟨#[]⟩ : ByteArray)) (.string (⟨#[]⟩ : ByteArray)) ?_; exact bU BK219.out) NB219_201.out (by simp)); replace HB := aS (hb); replace HI201 := aS (hi); clear hi hb hk))
  replace BK196 := aS (blk_drew BK196.out)
  replace BK197 := aS (blk_drew BK197.out)
  replace BK210 := aS (blk_drew BK210.out)
  replace BK219 := aS (blk_drew BK219.out)
  replace HI201 := aS (IsS111.drew HI201.out)
  replace HB := aS (below_drew1 HB.out)
  refine start_ (n := 4) (S := fun w' => w'.cell? ⟨gb210, 0, none⟩ = some (.string t202) ∧ w'.cell? ⟨gb210, 1, none⟩ = some (.int .i64 t203) ∧ w'.cell? ⟨gb210, 2, none⟩ = some (.int .i64 t204) ∧ w'.cell? ⟨gb210, 3, none⟩ = some (.int .i64 t205) ∧ w'.cell? ⟨gb210, 4, none⟩ = some (.string t206) ∧ w'.cell? ⟨gb210, 5, none⟩ = some (.string t207) ∧ w'.cell? ⟨gb219, 0, none⟩ = some (.string t211) ∧ w'.cell? ⟨gb219, 1, none⟩ = some (.int .i64 t212) ∧ w'.cell? ⟨gb219, 2, none⟩ = some (.int .i64 t213) ∧ w'.cell? ⟨gb219, 3, none⟩ = some (.int .i64 t214) ∧ w'.cell? ⟨gb219, 4, none⟩ = some (.string t215) ∧ w'.cell? ⟨gb219, 5, none⟩ = some (.string t216)) (ds := []) #[false, false, false, false] jK rfl rfl (b6 BK210.out (c6 BK219.out)) (fun hHeld => ?_)
  generalize w94.drew = w95 at BK196 BK197 BK210 BK219 HI201 HB hHeld ⊢
  refine tB hHeld 0 (some 29) (tf 1 3) ?_
  refine tB hHeld 1 (some 30) (tf 2 2) ?_
  refine one_ (i := 2) (N := none) (tf 3 1) rfl rfl jK (by decide) (fun K hK => ?_)
  have hs96 : w95.cell? ⟨gb196, 0, none⟩ = some (.string (⟨#[]⟩ : ByteArray)) := (blk_cell BK196.out 0).trans rfl
  have hfs96 := blk_frozen BK196.out 0
  have hns96_1 := NB197_196.out
  have hns96_2 := NB210_196.out
  have hns96_3 := NB219_196.out
  have hms96_1 := NB196_197.out
  have hms96_2 := NB196_210.out
  have hms96_3 := NB196_219.out
  have hs97 : w95.cell? ⟨gb196, 1, none⟩ = some (.int .i64 0) := (blk_cell BK196.out 1).trans rfl
  have hfs97 := blk_frozen BK196.out 1
  have hns97_1 := NB197_196.out
  have hns97_2 := NB210_196.out
  have hns97_3 := NB219_196.out
  have hms97_1 := NB196_197.out
  have hms97_2 := NB196_210.out
  have hms97_3 := NB196_219.out
  have hs98 : w95.cell? ⟨gb196, 2, none⟩ = some (.int .i64 0) := (blk_cell BK196.out 2).trans rfl
  have hfs98 := blk_frozen BK196.out 2
  have hns98_1 := NB197_196.out
  have hns98_2 := NB210_196.out
  have hns98_3 := NB219_196.out
  have hms98_1 := NB196_197.out
  have hms98_2 := NB196_210.out
  have hms98_3 := NB196_219.out
  have hs99 : w95.cell? ⟨gb196, 3, none⟩ = some (.int .i64 0) := (blk_cell BK196.out 3).trans rfl
  have hfs99 := blk_frozen BK196.out 3
  have hns99_1 := NB197_196.out
  have hns99_2 := NB210_196.out
  have hns99_3 := NB219_196.out
  have hms99_1 := NB196_197.out
  have hms99_2 := NB196_210.out
  have hms99_3 := NB196_219.out
  have hs100 : w95.cell? ⟨gb196, 4, none⟩ = some (.string (⟨#[]⟩ : ByteArray)) := (blk_cell BK196.out 4).trans rfl
  have hfs100 := blk_frozen BK196.out 4
  have hns100_1 := NB197_196.out
  have hns100_2 := NB210_196.out
  have hns100_3 := NB219_196.out
  have hms100_1 := NB196_197.out
  have hms100_2 := NB196_210.out
  have hms100_3 := NB196_219.out
  have hs101 : w95.cell? ⟨gb196, 5, none⟩ = some (.string (⟨#[]⟩ : ByteArray)) := (blk_cell BK196.out 5).trans rfl
  have hfs101 := blk_frozen BK196.out 5
  have hns101_1 := NB197_196.out
  have hns101_2 := NB210_196.out
  have hns101_3 := NB219_196.out
  have hms101_1 := NB196_197.out
  have hms101_2 := NB196_210.out
  have hms101_3 := NB196_219.out
  with_reducible refine skip_ (w1 := ?_) ?_ ?_ ?_ ?_
  rotate_left
  ·rfl
  ·rfl
  ·go_simp
   rfl
  refine hK.out _ _ ⟨(cS1 hHeld.1 NB210_196.out), (cS1 hHeld.2.1 NB210_196.out), (cS1 hHeld.2.2.1 NB210_196.out), (cS1 hHeld.2.2.2.1 NB210_196.out), (cS1 hHeld.2.2.2.2.1 NB210_196.out), (cS1 hHeld.2.2.2.2.2.1 NB210_196.out), (cS1 hHeld.2.2.2.2.2.2.1 NB219_196.out), (cS1 hHeld.2.2.2.2.2.2.2.1 NB219_196.out), (cS1 hHeld.2.2.2.2.2.2.2.2.1 NB219_196.out), (cS1 hHeld.2.2.2.2.2.2.2.2.2.1 NB219_196.out), (cS1 hHeld.2.2.2.2.2.2.2.2.2.2.1 NB219_196.out), (cS1 hHeld.2.2.2.2.2.2.2.2.2.2.2 NB219_196.out)⟩ (fun hHeld => ?_)
  clear hK K
  refine one_ (i := 3) (N := none) (tf 4 0) rfl rfl jK (by decide) (fun K hK => ?_)
  have hs102 : w95.cell? ⟨gb197, 0, none⟩ = some (.string (⟨#[]⟩ : ByteArray)) := (blk_cell BK197.out 0).trans rfl
  have hfs102 := blk_frozen BK197.out 0
  have hns102_0 := NB196_197.out
  have hns102_2 := NB210_197.out
  have hns102_3 := NB219_197.out
  have hms102_0 := NB197_196.out
  have hms102_2 := NB197_210.out
  have hms102_3 := NB197_219.out
  have hs103 : w95.cell? ⟨gb197, 1, none⟩ = some (.int .i64 0) := (blk_cell BK197.out 1).trans rfl
  have hfs103 := blk_frozen BK197.out 1
  have hns103_0 := NB196_197.out
  have hns103_2 := NB210_197.out
  have hns103_3 := NB219_197.out
  have hms103_0 := NB197_196.out
  have hms103_2 := NB197_210.out
  have hms103_3 := NB197_219.out
  have hs104 : w95.cell? ⟨gb197, 2, none⟩ = some (.int .i64 0) := (blk_cell BK197.out 2).trans rfl
  have hfs104 := blk_frozen BK197.out 2
  have hns104_0 := NB196_197.out
  have hns104_2 := NB210_197.out
  have hns104_3 := NB219_197.out
  have hms104_0 := NB197_196.out
  have hms104_2 := NB197_210.out
  have hms104_3 := NB197_219.out
  have hs105 : w95.cell? ⟨gb197, 3, none⟩ = some (.int .i64 0) := (blk_cell BK197.out 3).trans rfl
  have hfs105 := blk_frozen BK197.out 3
  have hns105_0 := NB196_197.out
  have hns105_2 := NB210_197.out
  have hns105_3 := NB219_197.out
  have hms105_0 := NB197_196.out
  have hms105_2 := NB197_210.out
  have hms105_3 := NB197_219.out
  have hs106 : w95.cell? ⟨gb197, 4, none⟩ = some (.string (⟨#[]⟩ : ByteArray)) := (blk_cell BK197.out 4).trans rfl
  have hfs106 := blk_frozen BK197.out 4
  have hns106_0 := NB196_197.out
  have hns106_2 := NB210_197.out
  have hns106_3 := NB219_197.out
  have hms106_0 := NB197_196.out
  have hms106_2 := NB197_210.out
  have hms106_3 := NB197_219.out
  have hs107 : w95.cell? ⟨gb197, 5, none⟩ = some (.string (⟨#[]⟩ : ByteArray)) := (blk_cell BK197.out 5).trans rfl
  have hfs107 := blk_frozen BK197.out 5
  have hns107_0 := NB196_197.out
  have hns107_2 := NB210_197.out
  have hns107_3 := NB219_197.out
  have hms107_0 := NB197_196.out
  have hms107_2 := NB197_210.out
  have hms107_3 := NB197_219.out
  with_reducible refine skip_ (w1 := ?_) ?_ ?_ ?_ ?_
  rotate_left
  ·rfl
  ·rfl
  ·go_simp
   rfl
  refine hK.out _ _ ⟨(cS1 hHeld.1 NB210_197.out), (cS1 hHeld.2.1 NB210_197.out), (cS1 hHeld.2.2.1 NB210_197.out), (cS1 hHeld.2.2.2.1 NB210_197.out), (cS1 hHeld.2.2.2.2.1 NB210_197.out), (cS1 hHeld.2.2.2.2.2.1 NB210_197.out), (cS1 hHeld.2.2.2.2.2.2.1 NB219_197.out), (cS1 hHeld.2.2.2.2.2.2.2.1 NB219_197.out), (cS1 hHeld.2.2.2.2.2.2.2.2.1 NB219_197.out), (cS1 hHeld.2.2.2.2.2.2.2.2.2.1 NB219_197.out), (cS1 hHeld.2.2.2.2.2.2.2.2.2.2.1 NB219_197.out), (cS1 hHeld.2.2.2.2.2.2.2.2.2.2.2 NB219_197.out)⟩ (fun hHeld => ?_)
  clear hK K
  refine done_ jK ?_
  try go_wp2
  refine bodyPost_ret (results_cc rfl _ _ gb196 gb197 25 25 #[.string t202, .int .i64 t203, .int .i64 t204, .int .i64 t205, .string t206, .string t207] #[.string t211, .int .i64 t212, .int .i64 t213, .int .i64 t214, .string t215, .string t216] (0, 0) (0, 0) _ _ rfl (by (iterate 6 ((with_reducible repeat (first | refine blk_drewN ?_ _ | refine blk_drew ?_ | refine blk_alloc ?_ _)); refine blk_far ?_ NB196_197.out _)); (with_reducible repeat (first | refine blk_drewN ?_ _ | refine blk_drew ?_ | refine blk_alloc ?_ _)); refine blk_put_6 (.string (⟨#[]⟩ : ByteArray)) (.int .i64 0) (.int .i64 0) (.int .i64 0) (.string (⟨#[]⟩ : ByteArray)) (.string (⟨#[]⟩ : ByteArray)) ?_; exact bU BK196.out) Tryd.underlying25 rfl jK rfl (by (with_reducible repeat (first | refine blk_drewN ?_ _ | refine blk_drew ?_ | refine blk_alloc ?_ _)); refine blk_put_6 (.string (⟨#[]⟩ : ByteArray)) (.int .i64 0) (.int .i64 0) (.int .i64 0) (.string (⟨#[]⟩ : ByteArray)) (.string (⟨#[]⟩ : ByteArray)) ?_; exact bF1 BK197.out NB197_196.out) Tryd.underlying25 rfl jK) rfl ?_
  exact ⟨jE, by exact wS5 HB.out (IsS111.ge HI201.out) GE196.out GE197.out GE210.out GE219.out⟩

/-! ### spec_l5List: function 75 -/
def spec_l5List.l0 : Nat → List (S25) → Int → List Int → Int → Int → Option ((List (S25)) × Int × Int)
 | 0, _, _, _, _, _ => none
 | k + 1, x5, x6, x1000, x1001, x1002 => if x6 > 0 then ((spec_l5Draw.f k x1000 x1001 x1002).bind fun bt232 => (if x5.length < 1954687338268 then (spec_l5List.l0 k (x5 ++ [(⟨bt232.1, bt232.2.1, bt232.2.2.1, bt232.2.2.2.1, bt232.2.2.2.2.1, bt232.2.2.2.2.2.1⟩ : S25)]) (wrap64 (x6 - 1)) x1000 bt232.2.2.2.2.2.2.1 bt232.2.2.2.2.2.2.2) else (none))) else (some (x5, x1001, x1002))
def spec_l5List.f (k : Nat) (s0_0 : List Int) (s0_1 : Int) (s0_2 : Int) (a1 : Int) : Option ((List (S25)) × Int × Int) := (spec_l1Below.f s0_0 s0_1 s0_2 (wrap64 (a1 + 1))).bind fun bt229 => (spec_l5List.l0 k (([] : List (S25))) bt229.1 s0_0 bt229.2.1 bt229.2.2)
theorem spec_l5List.mono_l : ∀ k, (∀ y0 y1 y2 y3 y4, LeO (spec_l5List.l0 k y0 y1 y2 y3 y4) (spec_l5List.l0 (k + 1) y0 y1 y2 y3 y4))
 | 0 => fun _ _ _ _ _ r h => by simp [spec_l5List.l0] at h
 | k + 1 => by
  have ih0 := spec_l5List.mono_l k
  ·intro y0 y1 y2 y3 y4
   unfold spec_l5List.l0
   repeat' first
   | (with_reducible first | exact ih0 _ _ _ _ _ | exact spec_l5Draw.mono _ _ _ _ | exact LeO.refl _ | exact LeO.none _ | refine LeO.ite ?_ ?_ | refine LeO.bind ?_ (fun _ => ?_))
   | refine LeO.ite ?_ ?_
   | refine LeO.bind ?_ (fun _ => ?_)
theorem spec_l5List.mono : ∀ a0 a1 a2 a3 k, LeO (spec_l5List.f k a0 a1 a2 a3) (spec_l5List.f (k + 1) a0 a1 a2 a3) := by
 intro a0 a1 a2 a3 k
 have ih0 := spec_l5List.mono_l k
 unfold spec_l5List.f
 repeat' first
   | (with_reducible first | exact ih0 _ _ _ _ _ | exact spec_l5Draw.mono _ _ _ _ | exact LeO.refl _ | exact LeO.none _ | refine LeO.ite ?_ ?_ | refine LeO.bind ?_ (fun _ => ?_))
   | refine LeO.ite ?_ ?_
   | refine LeO.bind ?_ (fun _ => ?_)
set_option maxHeartbeats 8000000 in
set_option maxRecDepth 100000 in
theorem spec_l5List.calls (k : Nat) (g : Nat) (s0_0 : List Int) (s0_1 : Int) (s0_2 : Int) (a1 : Int) (r1 : List (S25)) (r2 : Int) (r3 : Int) (w0 w : World) (hI : IsS111 w0 w g s0_0 s0_1 s0_2) (hB : Below w0.heap.size w0 w) (h : spec_l5List.f k s0_0 s0_1 s0_2 a1 = some (r1, r2, r3)) :
  Calls Tryd.prog 75 #[.pointer (some ⟨g, 0, none⟩), .int .i64 a1] w fun e w' => ∃ v0_ : Value, e = .returned (v0_) ∧ Kd.R k25 25 w' w.heap.size (fun _ => True) v0_ r1 ∧ IsS111 w0 w' g s0_0 r2 r3 ∧ Below w0.heap.size w0 w' ∧ KeepBut w w' g none := by
 have HI0 := aS hI
 have HK := aS (KeepBut.refl w g none)
 have HL := aS hB.size
 clear hI
 have HW0 := aS hB.size
 have HB := aS hB
 clear hB
 have H : ((spec_l1Below.f s0_0 s0_1 s0_2 (wrap64 (a1 + 1))).bind fun bt229 => (spec_l5List.l0 k (([] : List (S25))) bt229.1 s0_0 bt229.2.1 bt229.2.2)) = some (r1, r2, r3) := h
 clear h
 obtain ⟨y226, hy_⟩ : ∃ y_ : List (S25), y_ = (([] : List (S25))) := ⟨_, rfl⟩
 replace H : ((spec_l1Below.f s0_0 s0_1 s0_2 (wrap64 (a1 + 1))).bind fun bt229 => (spec_l5List.l0 k y226 bt229.1 s0_0 bt229.2.1 bt229.2.2)) = some (r1, r2, r3) := jD
 have Ny226 := aS hy_
 clear hy_
 obtain ⟨⟨t229, t230, t231⟩, A3, H⟩ := bM H
 try dsimp only at H
 have H' := aS H
 clear H
 go_enter Tryd.func75, Tryd.ntmps75
 go_wp2_with (first | ((with_reducible refine gate_dst (N := 7) rfl ?_); refine Kd.R_lit k25 _ 25 ?hg (N := 7) ?hd (xs := ([] : List (S25))) (inner := []) (ok := fun _ => True) (okp := fun _ => True) ?hr ?hp (fun _ hk => hk) trivial (Below.refl _ _) (Nat.le_refl _) (by simp) ?_; (case hd => rfl); (case hg => rfl); (case hr => first | (go_simp; done) | (go_simp; rfl)); (case hp => exact (Reps.none _ _)); intro v227 w4 ho5 hb hg_ hnew_; clear hg_ hnew_; (first | rw [← Ny226.out] at ho5 | (simp only [Int.reduceToNat] at ho5; rw [← Ny226.out] at ho5)); have HO228 := aS (Kd.R_lower ho5 (keep_size (w := w) (g := g) (row := none) (kS0 HK.out))); replace HK := aS (KeepBut.trans (kS0 HK.out) (KeepBut.of_below hb g none) (.inl rfl)); replace HB := aS (below_step (by exact wS1 HB.out (IsS111.ge HI0.out)) hb); replace HI0 := aS (IsS111.below (IsS111.iS0 HI0.out) hb); clear hb ho5) | ((with_reducible refine gate_callee (f := 78) rfl ?_); refine gL (some 11) Tryd.func78 #[.pointer (some ⟨g, 0, none⟩), .int .i64 (wrap64 (a1 + 1))] ?_; (with_reducible refine (spec_l1Below.calls g s0_0 s0_1 s0_2 (wrap64 (a1 + 1)) t229 t230 t231 w0 _ ?side1 ?side2 A3.out).mono ?_); (case side1 => exact IsS111.iS0 HI0.out); (case side2 => exact wS1 HB.out (IsS111.ge HI0.out)); rintro e w6 ⟨rfl, hi, hb, hk⟩; refine ⟨_, rfl, ?_⟩; replace HO228 := aS (Kd.R_mono (Kd.R_keep (IsS111.apart (show IsS111 w0 _ g s0_0 s0_1 s0_2 from by exact IsS111.iS0 HI0.out) (rU HO228.out) (by decide)) hk (fun _ h => h.2)) (fun _ h => h.1)); replace HK := aS (KeepBut.trans (kS0 HK.out) hk (.inl rfl)); replace HB := aS (hb); replace HI0 := aS (hi); clear hi hb hk))
 go_loopg [5, 6] k (fun kq v5 v6 w' => ∃ (x5_1 : List (S25)) (x6_1 : Int) (x1001_1 : Int) (x1002_1 : Int), v6 = .int .i64 x6_1 ∧ Aside0 (spec_l5List.l0 kq x5_1 x6_1 s0_0 x1001_1 x1002_1 = some (r1, r2, r3)) ∧ Aside0 (kq ≤ k) ∧ Aside0 (Kd.R k25 25 w' w.heap.size (fun _ => True) v5 x5_1) ∧ Aside0 (IsS111 w0 w' g s0_0 x1001_1 x1002_1) ∧ Aside0 (KeepBut w w' g none) ∧ Aside0 (Below w0.heap.size w0 w'))
 case atStart => exact ⟨(y226), (t229), (t230), (t231), jB, H', ⟨Nat.le_refl _⟩, ⟨by exact rU HO228.out⟩, ⟨by exact IsS111.iS0 HI0.out⟩, ⟨by exact kS0 HK.out⟩, ⟨by exact wS1 HB.out (IsS111.ge HI0.out)⟩⟩
 case round =>
  clear H'
  try clear p2
  try clear p6
  obtain ⟨x5_1, x6_1, x1001_1, x1002_1, rfl, HA, HK1, HO_5, HI0, HK, HB⟩ := hrel
  cases gk with
  | zero => exact absurd HA.out (by simp [spec_l5List.l0])
  | succ k1 =>
   have H := HA.out
   clear HA
   simp only [spec_l5List.l0] at H
   by_cases c7 : x6_1 > 0
   ·rw [if_pos c7] at H
    have c7b0 := decide_eq_true c7
    clear c7
    obtain ⟨⟨t232, t233, t234, t235, t236, t237, t238, t239⟩, A8, H⟩ := bM H
    try dsimp only at H
    by_cases c9 : x5_1.length < 1954687338268
    ·rw [if_pos c9] at H
     have LMc9 := aS c9
     clear c9
     obtain ⟨y240, hy_⟩ : ∃ y_ : List (S25), y_ = (x5_1 ++ [(⟨t232, t233, t234, t235, t236, t237⟩ : S25)]) := ⟨_, rfl⟩
     replace H : (spec_l5List.l0 k1 y240 (wrap64 (x6_1 - 1)) s0_0 t238 t239) = some (r1, r2, r3) := jD
     have Ny240 := aS hy_
     clear hy_
     have H' := aS H
     clear H
     go_wp2_with (first | ((with_reducible refine gate_callee (f := 79) rfl ?_); refine gL (some 18) Tryd.func79 #[.pointer (some ⟨g, 0, none⟩)] ?_; (with_reducible refine (spec_l5Draw.calls k1 g s0_0 x1001_1 x1002_1 t232 t233 t234 t235 t236 t237 t238 t239 w0 _ ?side1 ?side2 A8.out).mono ?_); (case side1 => exact IsS111.iS0 HI0.out); (case side2 => exact wS1 HB.out (IsS111.ge HI0.out)); rintro e w10 ⟨rfl, hi, hb, hk⟩; refine ⟨_, rfl, ?_⟩; replace HO_5 := aS (Kd.R_mono (Kd.R_keep (IsS111.apart (show IsS111 w0 _ g s0_0 x1001_1 x1002_1 from by exact IsS111.iS0 HI0.out) (rU HO_5.out) (by decide)) hk (fun _ h => h.2)) (fun _ h => h.1)); replace HK := aS (KeepBut.trans (kS0 HK.out) hk (.inl rfl)); replace HB := aS (hb); replace HI0 := aS (hi); clear hi hb hk) | ((with_reducible refine gate_builtin (b := .append) (xs := #[.tmp 16, .tmp 19]) rfl ?_); at_builtin; refine Kd.R_append k25 w.heap.size rfl (.tmp 16) (.tmp 19) 36 25 (.agg #[(.string ⟨#[]⟩), (.int .i64 0), (.int .i64 0), (.int .i64 0), (.string ⟨#[]⟩), (.string ⟨#[]⟩)]) 72 rfl Tryd.underlying36 info25 rfl (by decide) (by omega) u5 x5_1 (⟨t232, t233, t234, t235, t236, t237⟩ : S25) [.string t232, .int .i64 t233, .int .i64 t234, .int .i64 t235, .string t236, .string t237] (fun _ => True) (fun _ => False) rfl rfl ?aP (fun _ hk => hk.elim) ?aF ?aO (Below.refl _ _) ?aS ?aL ?_; (case aP => exact k25_mkM _ _ _ (⟨t232, t233, t234, t235, t236, t237⟩ : S25)); (case aF => exact (fun _ _ => trivial)); (case aO => exact (rU HO_5.out)); (case aS => exact (keep_size (w := w) (g := g) (row := none) (kS0 HK.out))); (case aL => have := LMc9.out; omega); intro v241 w11 ho hb hg hat; rw [← Ny240.out] at ho; replace HB := aS (below_weaken (by exact wS1 HB.out (IsS111.ge HI0.out)) HL.out hb); replace HI0 := aS (IsS111.grown (IsS111.iS0 HI0.out) hg (IsS111.own_ne HI0.out HO_5.out (by decide))); replace HK := aS (KeepBut.trans (kS0 HK.out) (KeepBut.of_grown hg g) (Kd.R_base2 HO_5.out)); have HO242 := aS (ho); clear HO_5; clear ho hb hg hat))
     go_roundg k1
     case measure => have := HK1.out; omega
     case rel => exact ⟨(y240), (wrap64 (x6_1 - 1)), (t238), (t239), jB, H', ⟨by have := HK1.out; omega⟩, ⟨by exact rU HO242.out⟩, ⟨by exact IsS111.iS0 HI0.out⟩, ⟨by exact kS0 HK.out⟩, ⟨by exact wS1 HB.out (IsS111.ge HI0.out)⟩⟩
    ·rw [if_neg c9] at H
     exact absurd H (by simp)
   ·rw [if_neg c7] at H
    have c7b0 := decide_eq_false c7
    clear c7
    simp only [Option.some.injEq, Prod.mk.injEq] at H
    obtain ⟨rfl, rfl, rfl⟩ := H
    go_wp2
    go_ret
    exact ⟨_, jE, by exact rU HO_5.out, by exact IsS111.iS0 HI0.out, by exact wS1 HB.out (IsS111.ge HI0.out), by exact kS0 HK.out⟩

/-! ### spec_DrawSortRecords: function 45 -/
def spec_DrawSortRecords.f (k : Nat) (l0 : List Int) : Option ((List (S25))) := (spec_l1New.f k l0).bind fun bt243 => ((spec_l5List.f k bt243.1 bt243.2.1 bt243.2.2 5).bind fun bt247 => (if (bt247.1.length : Int) > 0 then ((spec_l1Once.f bt243.1 bt247.2.1 bt247.2.2 3).bind fun bt252 => (if bt252.1 = true then (if 0 < (bt247.1.length : Int) then (if bt247.1.length < 1954687338268 then (some (bt247.1 ++ [(⟨(rd_T25 bt247.1 0).f0, (rd_T25 bt247.1 0).f1, (rd_T25 bt247.1 0).f2, (rd_T25 bt247.1 0).f3, (rd_T25 bt247.1 0).f4, (rd_T25 bt247.1 0).f5⟩ : S25)])) else (none)) else (none)) else (some bt247.1))) else (some bt247.1)))
theorem spec_DrawSortRecords.mono : ∀ a0 k, LeO (spec_DrawSortRecords.f k a0) (spec_DrawSortRecords.f (k + 1) a0) := by
 intro a0 k
 unfold spec_DrawSortRecords.f
 repeat' first
   | (with_reducible first | exact spec_l1New.mono _ _ | exact spec_l5List.mono _ _ _ _ _ | exact LeO.refl _ | exact LeO.none _ | refine LeO.ite ?_ ?_ | refine LeO.bind ?_ (fun _ => ?_))
   | refine LeO.ite ?_ ?_
   | refine LeO.bind ?_ (fun _ => ?_)
set_option maxHeartbeats 8000000 in
set_option maxRecDepth 100000 in
theorem spec_DrawSortRecords.calls (k : Nat) (A0 : Option Addr) (c0 : Nat) (l0 : List Int) (r : List (S25)) (w : World) (hr0 : Kd.C (Kd.int .u8) w A0 l0.length l0) (hc0 : l0.length ≤ c0) (h : spec_DrawSortRecords.f k l0 = some r) :
  Calls Tryd.prog 45 #[.slice A0 l0.length c0] w fun e w' => ∃ v0_ : Value, e = .returned (v0_) ∧ Kd.R k25 25 w' w.heap.size (fun _ => True) v0_ r ∧ Below w.heap.size w w' := by
 have hu25 := Tryd.underlying25
 have HR0 := aS hr0
 have HC0 := aS hc0
 clear hr0 hc0
 have HB := aS (Below.refl w.heap.size w)
 have H : ((spec_l1New.f k l0).bind fun bt243 => ((spec_l5List.f k bt243.1 bt243.2.1 bt243.2.2 5).bind fun bt247 => (if (bt247.1.length : Int) > 0 then ((spec_l1Once.f bt243.1 bt247.2.1 bt247.2.2 3).bind fun bt252 => (if bt252.1 = true then (if 0 < (bt247.1.length : Int) then (if bt247.1.length < 1954687338268 then (some (bt247.1 ++ [(⟨(rd_T25 bt247.1 0).f0, (rd_T25 bt247.1 0).f1, (rd_T25 bt247.1 0).f2, (rd_T25 bt247.1 0).f3, (rd_T25 bt247.1 0).f4, (rd_T25 bt247.1 0).f5⟩ : S25)])) else (none)) else (none)) else (some bt247.1))) else (some bt247.1)))) = some r := h
 clear h
 obtain ⟨⟨t243, t244, t245⟩, A2, H⟩ := bM H
 try dsimp only at H
 obtain ⟨⟨t247, t250, t251⟩, A3, H⟩ := bM H
 try dsimp only at H
 by_cases c4 : (t247.length : Int) > 0
 ·rw [if_pos c4] at H
  have c4b0 := decide_eq_true c4
  have c4b1 : decide (0 < t247.length) = true := decide_eq_true (by omega)
  clear c4
  obtain ⟨⟨t252, t253, t254⟩, A5, H⟩ := bM H
  try dsimp only at H
  have HC6 := aS H
  clear H
  go_enter Tryd.func45, Tryd.ntmps45
  go_upto_if 15 with (first | ((with_reducible refine gate_callee (f := 56) rfl ?_); refine gL (some 6) Tryd.func56 #[.slice A0 l0.length c0] ?_; (with_reducible refine (spec_l1New.calls k _ _ l0 t243 t244 t245 w _ ?side1 ?side2 ?side3 A2.out).mono ?_); (case side1 => exact wU HB.out); (case side2 => exact HR0.out); (case side3 => exact HC0.out); rintro e w7 ⟨g246, rfl, hi, hb, hb2⟩; refine ⟨_, rfl, ?_⟩; replace HB := aS (hb); have HI246 := aS (hi); clear hi hb hb2) | ((with_reducible refine gate_callee (f := 75) rfl ?_); refine gL (some 8) Tryd.func75 #[.pointer (some ⟨g246, 0, none⟩), .int .i64 5] ?_; (with_reducible refine (spec_l5List.calls k g246 t243 t244 t245 5 t247 t250 t251 w _ ?side1 ?side2 A3.out).mono ?_); (case side1 => exact IsS111.iS0 HI246.out); (case side2 => exact wS1 HB.out (IsS111.ge HI246.out)); rintro e w8 ⟨v248, rfl, ho0, hi, hb, hk⟩; refine ⟨_, rfl, ?_⟩; have HO249 := aS (Kd.R_lower ho0 (below_size (by exact wS1 HB.out (IsS111.ge HI246.out)))); replace HB := aS (hb); replace HI246 := aS (hi); clear hi hb hk; (try clear ho0); obtain ⟨Ao9, co9, eo9⟩ := Kd.R_slice HO249.out; subst eo9) | (go_at_call 76; (with_reducible refine (spec_l1Once.calls g246 t243 t250 t251 3 t252 t253 t254 w _ ?side1 ?side2 A5.out).mono ?_); (case side1 => exact IsS111.iS0 HI246.out); (case side2 => exact wS1 HB.out (IsS111.ge HI246.out)); rintro e w10 ⟨rfl, hi, hb, hk⟩; replace HO249 := aS (Kd.R_mono (Kd.R_keep (IsS111.apart (show IsS111 w _ g246 t243 t250 t251 from by exact IsS111.iS0 HI246.out) (rU HO249.out) (by decide)) hk (fun _ h => h.2)) (fun _ h => h.1)); replace HB := aS (hb); replace HI246 := aS (hi); clear hi hb hk))
  (try simp only [Act.put, List.setIfInBounds_toArray, List.set_cons_zero, List.set_cons_succ])
  have H := HC6.out
  clear HC6
  by_cases c11 : t252 = true
  ·subst c11
   rw [if_pos rfl] at H
   by_cases c12 : 0 < (t247.length : Int)
   ·rw [if_pos c12] at H
    have c12b0 := decide_eq_true c12
    have c12b1 : decide (0 < t247.length) = true := decide_eq_true (by omega)
    clear c12
    (first | rw [c12b0] | (simp only [i64_w, i32_w]; rw [c12b0]) | skip)
    by_cases c13 : t247.length < 1954687338268
    ·rw [if_pos c13] at H
     have LMc13 := aS c13
     clear c13
     obtain ⟨y256, hy_⟩ : ∃ y_ : List (S25), y_ = (t247 ++ [(⟨(rd_T25 t247 0).f0, (rd_T25 t247 0).f1, (rd_T25 t247 0).f2, (rd_T25 t247 0).f3, (rd_T25 t247 0).f4, (rd_T25 t247 0).f5⟩ : S25)]) := ⟨_, rfl⟩
     replace H : (some y256) = some r := jD
     have Ny256 := aS hy_
     clear hy_
     obtain rfl := Option.some.inj H
     have p255 : 0 ≤ (0 : Int) := (by omega)
     have q255 : 0 < (t247.length : Int) := of_decide_eq_true jC
     obtain ⟨ad255, e255, hx255_0, hx255_1, hx255_2, hx255_3, hx255_4, hx255_5⟩ := at_T25 (Kd.R_reads' HO249.out).2.2 0 p255 q255
     cases e255
     have qi255 : (0 < t247.length) = True := eq_true (by omega)
     (try rw [show ((0 : Int)).toNat = 0 from rfl] at hx255_0)
     (try rw [show 0 * 6 = 0 from rfl] at hx255_0)
     (try rw [Addr.add_zero'] at hx255_0)
     (try rw [show ((0 : Int)).toNat = 0 from rfl] at hx255_1)
     (try rw [show 0 * 6 = 0 from rfl] at hx255_1)
     (try rw [Addr.add_zero'] at hx255_1)
     (try rw [show ((0 : Int)).toNat = 0 from rfl] at hx255_2)
     (try rw [show 0 * 6 = 0 from rfl] at hx255_2)
     (try rw [Addr.add_zero'] at hx255_2)
     (try rw [show ((0 : Int)).toNat = 0 from rfl] at hx255_3)
     (try rw [show 0 * 6 = 0 from rfl] at hx255_3)
     (try rw [Addr.add_zero'] at hx255_3)
     (try rw [show ((0 : Int)).toNat = 0 from rfl] at hx255_4)
     (try rw [show 0 * 6 = 0 from rfl] at hx255_4)
     (try rw [Addr.add_zero'] at hx255_4)
     (try rw [show ((0 : Int)).toNat = 0 from rfl] at hx255_5)
     (try rw [show 0 * 6 = 0 from rfl] at hx255_5)
     (try rw [Addr.add_zero'] at hx255_5)
     replace p255 := eq_true p255
     replace q255 := eq_true q255
     go_wp2_with (first | ((with_reducible refine gate_builtin (b := .append) (xs := #[.tmp 16, .tmp 20]) rfl ?_); at_builtin; refine Kd.R_append k25 (w0 := w) w.heap.size rfl (.tmp 16) (.tmp 20) 36 25 (.agg #[(.string ⟨#[]⟩), (.int .i64 0), (.int .i64 0), (.int .i64 0), (.string ⟨#[]⟩), (.string ⟨#[]⟩)]) 72 rfl Tryd.underlying36 info25 rfl (by decide) (by omega) (.slice (some ad255) t247.length co9) t247 (⟨(rd_T25 t247 0).f0, (rd_T25 t247 0).f1, (rd_T25 t247 0).f2, (rd_T25 t247 0).f3, (rd_T25 t247 0).f4, (rd_T25 t247 0).f5⟩ : S25) [.string ((rd_T25 t247 0).f0), .int .i64 ((rd_T25 t247 0).f1), .int .i64 ((rd_T25 t247 0).f2), .int .i64 ((rd_T25 t247 0).f3), .string ((rd_T25 t247 0).f4), .string ((rd_T25 t247 0).f5)] (fun _ => True) (fun _ => False) rfl rfl ?aP (fun _ hk => hk.elim) ?aF ?aO ?aB ?aS ?aL ?_; (case aP => exact k25_mkM _ _ _ (⟨(rd_T25 t247 0).f0, (rd_T25 t247 0).f1, (rd_T25 t247 0).f2, (rd_T25 t247 0).f3, (rd_T25 t247 0).f4, (rd_T25 t247 0).f5⟩ : S25)); (case aB => exact (by exact wS1 HB.out (IsS111.ge HI246.out))); (case aF => exact (fun _ _ => trivial)); (case aO => exact (rU HO249.out)); (case aS => exact (below_size (by exact wS1 HB.out (IsS111.ge HI246.out)))); (case aL => have := LMc13.out; omega); intro v257 w14 ho hb hg hat; rw [← Ny256.out] at ho; replace HI246 := aS (IsS111.grown (IsS111.iS0 HI246.out) hg (IsS111.own_ne HI246.out HO249.out (by decide))); replace HB := aS (hb); have HO258 := aS (ho); clear HO249; clear ho hb hg hat))
     go_ret
     exact ⟨_, jE, by exact rU HO258.out, by exact wS1 HB.out (IsS111.ge HI246.out)⟩
    ·rw [if_neg c13] at H
     exact absurd H (by simp)
   ·rw [if_neg c12] at H
    exact absurd H (by simp)
  ·replace c11 := Bool.eq_false_iff.mpr c11
   subst c11
   rw [if_neg Bool.false_ne_true] at H
   obtain rfl := Option.some.inj H
   go_wp2
   go_ret
   exact ⟨_, jE, by exact rU HO249.out, by exact wS1 HB.out (IsS111.ge HI246.out)⟩
 ·rw [if_neg c4] at H
  have c4b0 := decide_eq_false c4
  have c4b1 : decide (0 < t247.length) = false := decide_eq_false (by omega)
  clear c4
  obtain rfl := Option.some.inj H
  go_enter Tryd.func45, Tryd.ntmps45
  go_wp2_with (first | ((with_reducible refine gate_callee (f := 56) rfl ?_); refine gL (some 6) Tryd.func56 #[.slice A0 l0.length c0] ?_; (with_reducible refine (spec_l1New.calls k _ _ l0 t243 t244 t245 w _ ?side1 ?side2 ?side3 A2.out).mono ?_); (case side1 => exact wU HB.out); (case side2 => exact HR0.out); (case side3 => exact HC0.out); rintro e w15 ⟨g246, rfl, hi, hb, hb2⟩; refine ⟨_, rfl, ?_⟩; replace HB := aS (hb); have HI246 := aS (hi); clear hi hb hb2) | ((with_reducible refine gate_callee (f := 75) rfl ?_); refine gL (some 8) Tryd.func75 #[.pointer (some ⟨g246, 0, none⟩), .int .i64 5] ?_; (with_reducible refine (spec_l5List.calls k g246 t243 t244 t245 5 t247 t250 t251 w _ ?side1 ?side2 A3.out).mono ?_); (case side1 => exact IsS111.iS0 HI246.out); (case side2 => exact wS1 HB.out (IsS111.ge HI246.out)); rintro e w16 ⟨v248, rfl, ho0, hi, hb, hk⟩; refine ⟨_, rfl, ?_⟩; have HO249 := aS (Kd.R_lower ho0 (below_size (by exact wS1 HB.out (IsS111.ge HI246.out)))); replace HB := aS (hb); replace HI246 := aS (hi); clear hi hb hk; (try clear ho0); obtain ⟨Ao17, co17, eo17⟩ := Kd.R_slice HO249.out; subst eo17))
  go_ret
  exact ⟨_, jE, by exact rU HO249.out, by exact wS1 HB.out (IsS111.ge HI246.out)⟩

/-! ### spec_l3Any: function 112 -/
def spec_l3Any.f (s0_0 : List Int) (s0_1 : Int) (s0_2 : Int) : Option (ByteArray × Int × Int) := (spec_l1Once.f s0_0 s0_1 s0_2 5).bind fun bt259 => (if bt259.1 = true then ((spec_l1Str.f s0_0 bt259.2.1 bt259.2.2 (([(⟨#[46]⟩ : ByteArray), (⟨#[97, 46]⟩ : ByteArray), (⟨#[65, 46, 99, 111, 109]⟩ : ByteArray), (⟨#[97, 46, 46, 98]⟩ : ByteArray), (⟨#[97, 46, 98, 46, 99, 46, 100, 46, 101, 46, 102]⟩ : ByteArray), (⟨#[97, 46, 98, 46, 99, 46, 100, 46, 101, 46, 102, 46, 103]⟩ : ByteArray), (⟨#[116, 119, 101, 108, 118, 101, 98, 121, 116, 101, 115, 48, 46, 116, 119, 101, 108, 118, 101, 98, 121, 116, 101, 115, 48, 46, 116, 119, 101, 108, 118, 101, 98, 121, 116, 101, 115, 48, 46, 116, 119, 101, 108, 118, 101, 98, 121, 116, 101, 115, 48]⟩ : ByteArray), (⟨#[116, 104, 105, 114, 116, 101, 101, 110, 98, 121, 116, 101, 115, 46, 97]⟩ : ByteArray)] : List ByteArray))).bind fun bt265 => (some (bt265.1, bt265.2.1, bt265.2.2))) else ((spec_l3Name.f s0_0 bt259.2.1 bt259.2.2).bind fun bt268 => (some (bt268.1, bt268.2.1, bt268.2.2))))
set_option maxHeartbeats 8000000 in
set_option maxRecDepth 100000 in
theorem spec_l3Any.calls (g : Nat) (s0_0 : List Int) (s0_1 : Int) (s0_2 : Int) (r1 : ByteArray) (r2 : Int) (r3 : Int) (w0 w : World) (hI : IsS111 w0 w g s0_0 s0_1 s0_2) (hB : Below w0.heap.size w0 w) (h : spec_l3Any.f s0_0 s0_1 s0_2 = some (r1, r2, r3)) :
  Calls Tryd.prog 112 #[.pointer (some ⟨g, 0, none⟩)] w fun e w' => e = .returned (.string r1) ∧ IsS111 w0 w' g s0_0 r2 r3 ∧ Below w0.heap.size w0 w' ∧ KeepBut w w' g none := by
 have HI0 := aS hI
 have HK := aS (KeepBut.refl w g none)
 have HL := aS hB.size
 clear hI
 have HW0 := aS hB.size
 have HB := aS hB
 clear hB
 have H : ((spec_l1Once.f s0_0 s0_1 s0_2 5).bind fun bt259 => (if bt259.1 = true then ((spec_l1Str.f s0_0 bt259.2.1 bt259.2.2 (([(⟨#[46]⟩ : ByteArray), (⟨#[97, 46]⟩ : ByteArray), (⟨#[65, 46, 99, 111, 109]⟩ : ByteArray), (⟨#[97, 46, 46, 98]⟩ : ByteArray), (⟨#[97, 46, 98, 46, 99, 46, 100, 46, 101, 46, 102]⟩ : ByteArray), (⟨#[97, 46, 98, 46, 99, 46, 100, 46, 101, 46, 102, 46, 103]⟩ : ByteArray), (⟨#[116, 119, 101, 108, 118, 101, 98, 121, 116, 101, 115, 48, 46, 116, 119, 101, 108, 118, 101, 98, 121, 116, 101, 115, 48, 46, 116, 119, 101, 108, 118, 101, 98, 121, 116, 101, 115, 48, 46, 116, 119, 101, 108, 118, 101, 98, 121, 116, 101, 115, 48]⟩ : ByteArray), (⟨#[116, 104, 105, 114, 116, 101, 101, 110, 98, 121, 116, 101, 115, 46, 97]⟩ : ByteArray)] : List ByteArray))).bind fun bt265 => (some (bt265.1, bt265.2.1, bt265.2.2))) else ((spec_l3Name.f s0_0 bt259.2.1 bt259.2.2).bind fun bt268 => (some (bt268.1, bt268.2.1, bt268.2.2))))) = some (r1, r2, r3) := h
 clear h
 obtain ⟨⟨t259, t260, t261⟩, A2, H⟩ := bM H
 try dsimp only at H
 by_cases c3 : t259 = true
 ·subst c3
  rw [if_pos rfl] at H
  obtain ⟨y262, hy_⟩ : ∃ y_ : List ByteArray, y_ = (([(⟨#[46]⟩ : ByteArray), (⟨#[97, 46]⟩ : ByteArray), (⟨#[65, 46, 99, 111, 109]⟩ : ByteArray), (⟨#[97, 46, 46, 98]⟩ : ByteArray), (⟨#[97, 46, 98, 46, 99, 46, 100, 46, 101, 46, 102]⟩ : ByteArray), (⟨#[97, 46, 98, 46, 99, 46, 100, 46, 101, 46, 102, 46, 103]⟩ : ByteArray), (⟨#[116, 119, 101, 108, 118, 101, 98, 121, 116, 101, 115, 48, 46, 116, 119, 101, 108, 118, 101, 98, 121, 116, 101, 115, 48, 46, 116, 119, 101, 108, 118, 101, 98, 121, 116, 101, 115, 48, 46, 116, 119, 101, 108, 118, 101, 98, 121, 116, 101, 115, 48]⟩ : ByteArray), (⟨#[116, 104, 105, 114, 116, 101, 101, 110, 98, 121, 116, 101, 115, 46, 97]⟩ : ByteArray)] : List ByteArray)) := ⟨_, rfl⟩
  replace H : ((spec_l1Str.f s0_0 t260 t261 y262).bind fun bt265 => (some (bt265.1, bt265.2.1, bt265.2.2))) = some (r1, r2, r3) := jD
  have Ny262 := aS hy_
  clear hy_
  obtain ⟨⟨t265, t266, t267⟩, A4, H⟩ := bM H
  try dsimp only at H
  simp only [Option.some.injEq, Prod.mk.injEq] at H
  obtain ⟨rfl, rfl, rfl⟩ := H
  go_enter Tryd.func112, Tryd.ntmps112
  go_wp2_with (first | ((with_reducible refine gate_callee (f := 76) rfl ?_); refine gL (some 4) Tryd.func76 #[.pointer (some ⟨g, 0, none⟩), .int .i64 5] ?_; (with_reducible refine (spec_l1Once.calls g s0_0 s0_1 s0_2 5 true t260 t261 w0 _ ?side1 ?side2 A2.out).mono ?_); (case side1 => exact IsS111.iS0 HI0.out); (case side2 => exact wS1 HB.out (IsS111.ge HI0.out)); rintro e w5 ⟨rfl, hi, hb, hk⟩; refine ⟨_, rfl, ?_⟩; replace HK := aS (KeepBut.trans (kS0 HK.out) hk (.inl rfl)); replace HB := aS (hb); replace HI0 := aS (hi); clear hi hb hk) | ((with_reducible refine gate_dst (N := 6) rfl ?_); refine Kd.R_lit Kd.string _ 9 ?hg (N := 6) ?hd (xs := ([(⟨#[46]⟩ : ByteArray), (⟨#[97, 46]⟩ : ByteArray), (⟨#[65, 46, 99, 111, 109]⟩ : ByteArray), (⟨#[97, 46, 46, 98]⟩ : ByteArray), (⟨#[97, 46, 98, 46, 99, 46, 100, 46, 101, 46, 102]⟩ : ByteArray), (⟨#[97, 46, 98, 46, 99, 46, 100, 46, 101, 46, 102, 46, 103]⟩ : ByteArray), (⟨#[116, 119, 101, 108, 118, 101, 98, 121, 116, 101, 115, 48, 46, 116, 119, 101, 108, 118, 101, 98, 121, 116, 101, 115, 48, 46, 116, 119, 101, 108, 118, 101, 98, 121, 116, 101, 115, 48, 46, 116, 119, 101, 108, 118, 101, 98, 121, 116, 101, 115, 48]⟩ : ByteArray), (⟨#[116, 104, 105, 114, 116, 101, 101, 110, 98, 121, 116, 101, 115, 46, 97]⟩ : ByteArray)] : List ByteArray)) (inner := [.string (⟨#[46]⟩ : ByteArray), .string (⟨#[97, 46]⟩ : ByteArray), .string (⟨#[65, 46, 99, 111, 109]⟩ : ByteArray), .string (⟨#[97, 46, 46, 98]⟩ : ByteArray), .string (⟨#[97, 46, 98, 46, 99, 46, 100, 46, 101, 46, 102]⟩ : ByteArray), .string (⟨#[97, 46, 98, 46, 99, 46, 100, 46, 101, 46, 102, 46, 103]⟩ : ByteArray), .string (⟨#[116, 119, 101, 108, 118, 101, 98, 121, 116, 101, 115, 48, 46, 116, 119, 101, 108, 118, 101, 98, 121, 116, 101, 115, 48, 46, 116, 119, 101, 108, 118, 101, 98, 121, 116, 101, 115, 48, 46, 116, 119, 101, 108, 118, 101, 98, 121, 116, 101, 115, 48]⟩ : ByteArray), .string (⟨#[116, 104, 105, 114, 116, 101, 101, 110, 98, 121, 116, 101, 115, 46, 97]⟩ : ByteArray)]) (ok := fun _ => True) (okp := fun _ => True) ?hr ?hp (fun _ hk => hk) trivial (Below.refl _ _) (Nat.le_refl _) (by simp) ?_; (case hd => rfl); (case hg => rfl); (case hr => first | (go_simp; done) | (go_simp; rfl)); (case hp => exact (Reps.one (show Kd.M Kd.string _ _ _ (⟨#[46]⟩ : ByteArray) [.string (⟨#[46]⟩ : ByteArray)] from rfl) (Reps.one (show Kd.M Kd.string _ _ _ (⟨#[97, 46]⟩ : ByteArray) [.string (⟨#[97, 46]⟩ : ByteArray)] from rfl) (Reps.one (show Kd.M Kd.string _ _ _ (⟨#[65, 46, 99, 111, 109]⟩ : ByteArray) [.string (⟨#[65, 46, 99, 111, 109]⟩ : ByteArray)] from rfl) (Reps.one (show Kd.M Kd.string _ _ _ (⟨#[97, 46, 46, 98]⟩ : ByteArray) [.string (⟨#[97, 46, 46, 98]⟩ : ByteArray)] from rfl) (Reps.one (show Kd.M Kd.string _ _ _ (⟨#[97, 46, 98, 46, 99, 46, 100, 46, 101, 46, 102]⟩ : ByteArray) [.string (⟨#[97, 46, 98, 46, 99, 46, 100, 46, 101, 46, 102]⟩ : ByteArray)] from rfl) (Reps.one (show Kd.M Kd.string _ _ _ (⟨#[97, 46, 98, 46, 99, 46, 100, 46, 101, 46, 102, 46, 103]⟩ : ByteArray) [.string (⟨#[97, 46, 98, 46, 99, 46, 100, 46, 101, 46, 102, 46, 103]⟩ : ByteArray)] from rfl) (Reps.one (show Kd.M Kd.string _ _ _ (⟨#[116, 119, 101, 108, 118, 101, 98, 121, 116, 101, 115, 48, 46, 116, 119, 101, 108, 118, 101, 98, 121, 116, 101, 115, 48, 46, 116, 119, 101, 108, 118, 101, 98, 121, 116, 101, 115, 48, 46, 116, 119, 101, 108, 118, 101, 98, 121, 116, 101, 115, 48]⟩ : ByteArray) [.string (⟨#[116, 119, 101, 108, 118, 101, 98, 121, 116, 101, 115, 48, 46, 116, 119, 101, 108, 118, 101, 98, 121, 116, 101, 115, 48, 46, 116, 119, 101, 108, 118, 101, 98, 121, 116, 101, 115, 48, 46, 116, 119, 101, 108, 118, 101, 98, 121, 116, 101, 115, 48]⟩ : ByteArray)] from rfl) (Reps.one (show Kd.M Kd.string _ _ _ (⟨#[116, 104, 105, 114, 116, 101, 101, 110, 98, 121, 116, 101, 115, 46, 97]⟩ : ByteArray) [.string (⟨#[116, 104, 105, 114, 116, 101, 101, 110, 98, 121, 116, 101, 115, 46, 97]⟩ : ByteArray)] from rfl) (Reps.none _ _)))))))))); intro v263 w6 ho7 hb hg_ hnew_; clear hg_ hnew_; (first | rw [← Ny262.out] at ho7 | (simp only [Int.reduceToNat] at ho7; rw [← Ny262.out] at ho7)); have HO264 := aS (Kd.R_lower ho7 (keep_size (w := w) (g := g) (row := none) (kS0 HK.out))); replace HK := aS (KeepBut.trans (kS0 HK.out) (KeepBut.of_below hb g none) (.inl rfl)); replace HB := aS (below_step (by exact wS1 HB.out (IsS111.ge HI0.out)) hb); replace HI0 := aS (IsS111.below (IsS111.iS0 HI0.out) hb); clear hb ho7; obtain ⟨Ao8, co8, eo8⟩ := Kd.R_slice HO264.out; subst eo8) | ((with_reducible refine gate_callee (f := 113) rfl ?_); refine gL (some 7) Tryd.func113 #[.pointer (some ⟨g, 0, none⟩), .slice Ao8 y262.length co8] ?_; (with_reducible refine (spec_l1Str.calls g s0_0 t260 t261 _ _ y262 t265 t266 t267 w0 _ ?side1 ?side2 ?side3 ?side4 ?side5 A4.out).mono ?_); (case side1 => exact IsS111.iS0 HI0.out); (case side2 => exact wS1 HB.out (IsS111.ge HI0.out)); (case side3 => exact cU ((Kd.R_reads' HO264.out).2.2)); (case side4 => exact (Kd.R_reads' HO264.out).2.1); (case side5 => exact far_slice (IsS111.own_ne HI0.out HO264.out (by decide))); rintro e w9 ⟨rfl, hi, hb, hk⟩; refine ⟨_, rfl, ?_⟩; replace HO264 := aS (Kd.R_mono (Kd.R_keep (IsS111.apart (show IsS111 w0 _ g s0_0 t260 t261 from by exact IsS111.iS0 HI0.out) (rU HO264.out) (by decide)) hk (fun _ h => h.2)) (fun _ h => h.1)); replace HK := aS (KeepBut.trans (kS0 HK.out) hk (.inl rfl)); replace HB := aS (hb); replace HI0 := aS (hi); clear hi hb hk))
  go_ret
  exact ⟨jE, by exact IsS111.iS0 HI0.out, by exact wS1 HB.out (IsS111.ge HI0.out), by exact kS0 HK.out⟩
 ·replace c3 := Bool.eq_false_iff.mpr c3
  subst c3
  rw [if_neg Bool.false_ne_true] at H
  obtain ⟨⟨t268, t269, t270⟩, A10, H⟩ := bM H
  try dsimp only at H
  simp only [Option.some.injEq, Prod.mk.injEq] at H
  obtain ⟨rfl, rfl, rfl⟩ := H
  go_enter Tryd.func112, Tryd.ntmps112
  go_wp2_with (first | ((with_reducible refine gate_callee (f := 76) rfl ?_); refine gL (some 4) Tryd.func76 #[.pointer (some ⟨g, 0, none⟩), .int .i64 5] ?_; (with_reducible refine (spec_l1Once.calls g s0_0 s0_1 s0_2 5 false t260 t261 w0 _ ?side1 ?side2 A2.out).mono ?_); (case side1 => exact IsS111.iS0 HI0.out); (case side2 => exact wS1 HB.out (IsS111.ge HI0.out)); rintro e w11 ⟨rfl, hi, hb, hk⟩; refine ⟨_, rfl, ?_⟩; replace HK := aS (KeepBut.trans (kS0 HK.out) hk (.inl rfl)); replace HB := aS (hb); replace HI0 := aS (hi); clear hi hb hk) | ((with_reducible refine gate_callee (f := 85) rfl ?_); refine gL (some 9) Tryd.func85 #[.pointer (some ⟨g, 0, none⟩)] ?_; (with_reducible refine (spec_l3Name.calls g s0_0 t260 t261 t268 t269 t270 w0 _ ?side1 ?side2 A10.out).mono ?_); (case side1 => exact IsS111.iS0 HI0.out); (case side2 => exact wS1 HB.out (IsS111.ge HI0.out)); rintro e w12 ⟨rfl, hi, hb, hk⟩; refine ⟨_, rfl, ?_⟩; replace HK := aS (KeepBut.trans (kS0 HK.out) hk (.inl rfl)); replace HB := aS (hb); replace HI0 := aS (hi); clear hi hb hk))
  go_ret
  exact ⟨jE, by exact IsS111.iS0 HI0.out, by exact wS1 HB.out (IsS111.ge HI0.out), by exact kS0 HK.out⟩

end Go.Proofs.YtdigilidomimdaaDoor.Pr
