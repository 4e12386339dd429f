-- Written for this claim by a program of this session (wip/tool/pr.py, over the kit's printer).
-- half
import Derived.Test.YtdigilidomimdaaDoorPrx0
import Derived.Test.YtdigilidomimdaaDoorPrx3
import Derived.Test.YtdigilidomimdaaDoorPrx4
import Derived.Test.YtdigilidomimdaaDoorPrx5
namespace Go.Proofs.YtdigilidomimdaaDoor.Pr
open Go.RowKit Go.Proofs.YtdigilidomimdaaDoorW.PrintWords Go.Proofs.YtdigilidomimdaaDoorW.PrintLast Go.Proofs.YtdigilidomimdaaDoorW.PrintMore
attribute [local go_sem] max2_int min2_int max_two min_two max_three min_three max_four min_four   -- for this text's walks alone
set_option linter.unusedVariables false
set_option linter.unusedSimpArgs false

/-! ### spec_l5Any: function 58 -/
def spec_l5Any.f (k : Nat) (s0_0 : List Int) (s0_1 : Int) (s0_2 : Int) : Option (ByteArray × Int × Int × Int × ByteArray × ByteArray × Int × Int) := (spec_l5Draw.f k s0_0 s0_1 s0_2).bind fun bt272 => ((spec_l1Below.f s0_0 bt272.2.2.2.2.2.2.1 bt272.2.2.2.2.2.2.2 12).bind fun bt281 => (if bt281.1 = 0 then ((spec_l3Any.f s0_0 bt281.2.1 bt281.2.2).bind fun bt284 => (some (bt284.1, bt272.2.1, bt272.2.2.1, bt272.2.2.2.1, bt272.2.2.2.2.1, bt272.2.2.2.2.2.1, bt284.2.1, bt284.2.2))) else (if bt281.1 = 1 then ((spec_l1Int.f s0_0 bt281.2.1 bt281.2.2 (([0, 3, 15, 1, 2, 6] : List Int))).bind fun bt290 => (some (bt272.1, bt290.1, bt272.2.2.1, bt272.2.2.2.1, bt272.2.2.2.2.1, bt272.2.2.2.2.2.1, bt290.2.1, bt290.2.2))) else (if bt281.1 = 2 then ((spec_l1Int.f s0_0 bt281.2.1 bt281.2.2 (([(-1), 100000, 100001] : List Int))).bind fun bt296 => (some (bt272.1, bt272.2.1, bt296.1, bt272.2.2.2.1, bt272.2.2.2.2.1, bt272.2.2.2.2.2.1, bt296.2.1, bt296.2.2))) else (if bt281.1 = 3 then ((spec_l1Int.f s0_0 bt281.2.1 bt281.2.2 (([(-1), 2147483647, 2147483648, 100001, 0] : List Int))).bind fun bt302 => (some (bt272.1, bt272.2.1, bt272.2.2.1, bt302.1, bt272.2.2.2.2.1, bt272.2.2.2.2.2.1, bt302.2.1, bt302.2.2))) else (if bt281.1 = 4 then ((spec_l3Any.f s0_0 bt281.2.1 bt281.2.2).bind fun bt305 => (some (bt272.1, bt272.2.1, bt272.2.2.1, bt272.2.2.2.1, bt305.1, bt272.2.2.2.2.2.1, bt305.2.1, bt305.2.2))) else (if bt281.1 = 5 then ((spec_l1Str.f s0_0 bt281.2.1 bt281.2.2 (([(⟨#[32]⟩ : ByteArray), (⟨#[127]⟩ : ByteArray), (⟨#[116, 104, 105, 114, 116, 101, 101, 110, 98, 121, 116, 101, 115]⟩ : ByteArray), (⟨#[120]⟩ : ByteArray)] : List ByteArray))).bind fun bt311 => (some (bt272.1, bt272.2.1, bt272.2.2.1, bt272.2.2.2.1, bt272.2.2.2.2.1, bt311.1, bt311.2.1, bt311.2.2))) else (some (bt272.1, bt272.2.1, bt272.2.2.1, bt272.2.2.2.1, bt272.2.2.2.2.1, bt272.2.2.2.2.2.1, bt281.2.1, bt281.2.2)))))))))
theorem spec_l5Any.mono : ∀ a0 a1 a2 k, LeO (spec_l5Any.f k a0 a1 a2) (spec_l5Any.f (k + 1) a0 a1 a2) := by
 intro a0 a1 a2 k
 unfold spec_l5Any.f
 repeat' first
   | (with_reducible first | exact spec_l5Draw.mono _ _ _ _ | exact LeO.refl _ | exact LeO.none _ | refine LeO.ite ?_ ?_ | refine LeO.bind ?_ (fun _ => ?_))
   | refine LeO.ite ?_ ?_
   | refine LeO.bind ?_ (fun _ => ?_)
set_option maxHeartbeats 8000000 in
set_option maxRecDepth 100000 in
theorem spec_l5Any.calls (k : Nat) (g : Nat) (s0_0 : List Int) (s0_1 : Int) (s0_2 : Int) (r1 : ByteArray) (r2 : Int) (r3 : Int) (r4 : Int) (r5 : ByteArray) (r6 : ByteArray) (r7 : Int) (r8 : Int) (w0 w : World) (hI : IsS111 w0 w g s0_0 s0_1 s0_2) (hB : Below w0.heap.size w0 w) (h : spec_l5Any.f k s0_0 s0_1 s0_2 = some (r1, r2, r3, r4, r5, r6, r7, r8)) :
  Calls Tryd.prog 58 #[.pointer (some ⟨g, 0, none⟩)] w fun e w' => e = .returned (.agg #[.string r1, .int .i64 r2, .int .i64 r3, .int .i64 r4, .string r5, .string r6]) ∧ IsS111 w0 w' g s0_0 r7 r8 ∧ Below w0.heap.size w0 w' ∧ KeepBut w w' g none := by
 have hu25 := Tryd.underlying25
 have HI0 := aS hI
 have HK := aS (KeepBut.refl w g none)
 have HL := aS hB.size
 clear hI
 have HW0 := aS hB.size
 have HB := aS hB
 clear hB
 have H : ((spec_l5Draw.f k s0_0 s0_1 s0_2).bind fun bt272 => ((spec_l1Below.f s0_0 bt272.2.2.2.2.2.2.1 bt272.2.2.2.2.2.2.2 12).bind fun bt281 => (if bt281.1 = 0 then ((spec_l3Any.f s0_0 bt281.2.1 bt281.2.2).bind fun bt284 => (some (bt284.1, bt272.2.1, bt272.2.2.1, bt272.2.2.2.1, bt272.2.2.2.2.1, bt272.2.2.2.2.2.1, bt284.2.1, bt284.2.2))) else (if bt281.1 = 1 then ((spec_l1Int.f s0_0 bt281.2.1 bt281.2.2 (([0, 3, 15, 1, 2, 6] : List Int))).bind fun bt290 => (some (bt272.1, bt290.1, bt272.2.2.1, bt272.2.2.2.1, bt272.2.2.2.2.1, bt272.2.2.2.2.2.1, bt290.2.1, bt290.2.2))) else (if bt281.1 = 2 then ((spec_l1Int.f s0_0 bt281.2.1 bt281.2.2 (([(-1), 100000, 100001] : List Int))).bind fun bt296 => (some (bt272.1, bt272.2.1, bt296.1, bt272.2.2.2.1, bt272.2.2.2.2.1, bt272.2.2.2.2.2.1, bt296.2.1, bt296.2.2))) else (if bt281.1 = 3 then ((spec_l1Int.f s0_0 bt281.2.1 bt281.2.2 (([(-1), 2147483647, 2147483648, 100001, 0] : List Int))).bind fun bt302 => (some (bt272.1, bt272.2.1, bt272.2.2.1, bt302.1, bt272.2.2.2.2.1, bt272.2.2.2.2.2.1, bt302.2.1, bt302.2.2))) else (if bt281.1 = 4 then ((spec_l3Any.f s0_0 bt281.2.1 bt281.2.2).bind fun bt305 => (some (bt272.1, bt272.2.1, bt272.2.2.1, bt272.2.2.2.1, bt305.1, bt272.2.2.2.2.2.1, bt305.2.1, bt305.2.2))) else (if bt281.1 = 5 then ((spec_l1Str.f s0_0 bt281.2.1 bt281.2.2 (([(⟨#[32]⟩ : ByteArray), (⟨#[127]⟩ : ByteArray), (⟨#[116, 104, 105, 114, 116, 101, 101, 110, 98, 121, 116, 101, 115]⟩ : ByteArray), (⟨#[120]⟩ : ByteArray)] : List ByteArray))).bind fun bt311 => (some (bt272.1, bt272.2.1, bt272.2.2.1, bt272.2.2.2.1, bt272.2.2.2.2.1, bt311.1, bt311.2.1, bt311.2.2))) else (some (bt272.1, bt272.2.1, bt272.2.2.1, bt272.2.2.2.1, bt272.2.2.2.2.1, bt272.2.2.2.2.2.1, bt281.2.1, bt281.2.2)))))))))) = some (r1, r2, r3, r4, r5, r6, r7, r8) := h
 clear h
 obtain ⟨⟨t272, t273, t274, t275, t276, t277, t278, t279⟩, A2, H⟩ := bM H
 try dsimp only at H
 obtain ⟨⟨t281, t282, t283⟩, A3, H⟩ := bM H
 try dsimp only at H
 have HC4 := aS H
 clear H
 go_enter Tryd.func58, Tryd.ntmps58
 go_upto_if 8 with (first | ((with_reducible refine gate_dst (N := 2) rfl ?_); refine xB 2 #[.string (⟨#[]⟩ : ByteArray), .int .i64 0, .int .i64 0, .int .i64 0, .string (⟨#[]⟩ : ByteArray), .string (⟨#[]⟩ : ByteArray)] 25 ?_; intro gb271 hg w5 hbox hb; replace HB := aS (below_step (by exact wS1 HB.out (IsS111.ge HI0.out)) hb); have BK271 := aS (hbox); have GW271 := aS ((by rw [hg]; exact (keep_size (w := w) (g := g) (row := none) (kS0 HK.out)) : w.heap.size ≤ gb271)); have GE271 := aS ((Nat.le_trans HW0.out (by rw [hg]; exact (keep_size (w := w) (g := g) (row := none) (kS0 HK.out)) : w.heap.size ≤ gb271) : w0.heap.size ≤ gb271)); replace HK := aS (KeepBut.trans (kS0 HK.out) (KeepBut.of_below hb g none) (.inl rfl)); have NB0_271 := aS ((by rw [hg]; exact Nat.ne_of_lt (IsS111.lt (show IsS111 w0 _ g s0_0 s0_1 s0_2 from by exact IsS111.iS0 HI0.out)) : g ≠ gb271)); have NB271_0 := aS ((by rw [hg]; exact Nat.ne_of_gt (IsS111.lt (show IsS111 w0 _ g s0_0 s0_1 s0_2 from by exact IsS111.iS0 HI0.out)) : gb271 ≠ g)); replace HI0 := aS (IsS111.below (IsS111.iS0 HI0.out) hb); clear hb hbox hg) | ((with_reducible refine gate_callee (f := 79) rfl ?_); refine gL (some 5) Tryd.func79 #[.pointer (some ⟨g, 0, none⟩)] ?_; (with_reducible refine (spec_l5Draw.calls k g s0_0 s0_1 s0_2 t272 t273 t274 t275 t276 t277 t278 t279 w0 _ ?side1 ?side2 A2.out).mono ?_); (case side1 => exact IsS111.iS1 HI0.out NB0_271.out); (case side2 => exact wS2 HB.out (IsS111.ge HI0.out) GE271.out); rintro e w6 ⟨rfl, hi, hb, hk⟩; refine ⟨_, rfl, ?_⟩; replace BK271 := aS (KeepBut.blk hk (g' := gb271) (o := .cells #[.string (⟨#[]⟩ : ByteArray), .int .i64 0, .int .i64 0, .int .i64 0, .string (⟨#[]⟩ : ByteArray), .string (⟨#[]⟩ : ByteArray)] 25 (0, 0)) (bU BK271.out) NB271_0.out (by simp)); replace HK := aS (KeepBut.trans (kS1 HK.out GW271.out) hk (.inl rfl)); replace HB := aS (hb); replace HI0 := aS (hi); clear hi hb hk) | ((with_reducible refine gate_dst (N := 3) rfl ?_); refine xB 3 #[.string (⟨#[]⟩ : ByteArray), .int .i64 0, .int .i64 0, .int .i64 0, .string (⟨#[]⟩ : ByteArray), .string (⟨#[]⟩ : ByteArray)] 25 ?_; intro gb280 hg w7 hbox hb; replace HB := aS (below_step (by exact wS2 HB.out (IsS111.ge HI0.out) GE271.out) hb); have BK280 := aS (hbox); have GW280 := aS ((by rw [hg]; exact (keep_size (w := w) (g := g) (row := none) (kS1 HK.out GW271.out)) : w.heap.size ≤ gb280)); have GE280 := aS ((Nat.le_trans HW0.out (by rw [hg]; exact (keep_size (w := w) (g := g) (row := none) (kS1 HK.out GW271.out)) : w.heap.size ≤ gb280) : w0.heap.size ≤ gb280)); replace HK := aS (KeepBut.trans (kS1 HK.out GW271.out) (KeepBut.of_below hb g none) (.inl rfl)); have NB271_280 := nB hg BK271; have NB280_271 := nS NB271_280; replace BK271 := bB BK271 hb; have NB0_280 := aS ((by rw [hg]; exact Nat.ne_of_lt (IsS111.lt (show IsS111 w0 _ g s0_0 t278 t279 from by exact IsS111.iS1 HI0.out NB0_271.out)) : g ≠ gb280)); have NB280_0 := aS ((by rw [hg]; exact Nat.ne_of_gt (IsS111.lt (show IsS111 w0 _ g s0_0 t278 t279 from by exact IsS111.iS1 HI0.out NB0_271.out)) : gb280 ≠ g)); replace HI0 := aS (IsS111.below (IsS111.iS1 HI0.out NB0_271.out) hb); clear hb hbox hg; have hnb8 := NB280_271.out; have hnc8 := NB271_280.out; have hnb9 := NB280_0.out; have hnc9 := NB0_280.out; have hcz10 := cells6f BK280.out) | ((with_reducible refine gate_callee (f := 78) rfl ?_); refine gL (some 7) Tryd.func78 #[.pointer (some ⟨g, 0, none⟩), .int .i64 12] ?_; (with_reducible refine (spec_l1Below.calls g s0_0 t278 t279 12 t281 t282 t283 w0 _ ?side1 ?side2 A3.out).mono ?_); (case side1 => exact IsS111.iS2 HI0.out NB0_271.out NB0_280.out); (case side2 => exact wS3 HB.out (IsS111.ge HI0.out) GE271.out GE280.out); rintro e w11 ⟨rfl, hi, hb, hk⟩; refine ⟨_, rfl, ?_⟩; replace BK271 := aS (KeepBut.blk hk (g' := gb271) (o := .cells #[.string (⟨#[]⟩ : ByteArray), .int .i64 0, .int .i64 0, .int .i64 0, .string (⟨#[]⟩ : ByteArray), .string (⟨#[]⟩ : ByteArray)] 25 (0, 0)) (by exact bF1 BK271.out NB271_280.out) NB271_0.out (by simp)); replace BK280 := aS (KeepBut.blk hk (g' := gb280) (o := .cells #[.string t272, .int .i64 t273, .int .i64 t274, .int .i64 t275, .string t276, .string t277] 25 (0, 0)) (by (with_reducible repeat (first | refine blk_drewN ?_ _ | refine blk_drew ?_ | refine blk_alloc ?_ _)); refine blk_put_6 (.string (⟨#[]⟩ : ByteArray)) (.int .i64 0) (.int .i64 0) (.int .i64 0) (.string (⟨#[]⟩ : ByteArray)) (.string (⟨#[]⟩ : ByteArray)) ?_; exact bU BK280.out) NB280_0.out (by simp)); replace HK := aS (KeepBut.trans (kS2 HK.out GW271.out GW280.out) hk (.inl rfl)); replace HB := aS (hb); replace HI0 := aS (hi); clear hi hb hk))
 (try simp only [Act.put, List.setIfInBounds_toArray, List.set_cons_zero, List.set_cons_succ])
 have H := HC4.out
 clear HC4
 by_cases c12 : t281 = 0
 ·rw [if_pos c12] at H
  have c12b0 := beq_iff_eq.mpr c12
  have c12b1 := bne_eq_false_iff_eq.mpr c12
  clear c12
  (first | rw [c12b0] | (simp only [i64_w, i32_w]; rw [c12b0]) | skip)
  obtain ⟨⟨t284, t285, t286⟩, A13, H⟩ := bM H
  try dsimp only at H
  simp only [Option.some.injEq, Prod.mk.injEq] at H
  obtain ⟨rfl, rfl, rfl, rfl, rfl, rfl, rfl, rfl⟩ := H
  go_wp2_with (first | ((with_reducible refine gate_callee (f := 112) rfl ?_); refine gL (some 11) Tryd.func112 #[.pointer (some ⟨g, 0, none⟩)] ?_; (with_reducible refine (spec_l3Any.calls g s0_0 t282 t283 t284 t285 t286 w0 _ ?side1 ?side2 A13.out).mono ?_); (case side1 => exact IsS111.iS2 HI0.out NB0_271.out NB0_280.out); (case side2 => exact wS3 HB.out (IsS111.ge HI0.out) GE271.out GE280.out); rintro e w14 ⟨rfl, hi, hb, hk⟩; refine ⟨_, rfl, ?_⟩; replace BK271 := aS (KeepBut.blk hk (g' := gb271) (o := .cells #[.string (⟨#[]⟩ : ByteArray), .int .i64 0, .int .i64 0, .int .i64 0, .string (⟨#[]⟩ : ByteArray), .string (⟨#[]⟩ : ByteArray)] 25 (0, 0)) (bU BK271.out) NB271_0.out (by simp)); replace BK280 := aS (KeepBut.blk hk (g' := gb280) (o := .cells #[.string t272, .int .i64 t273, .int .i64 t274, .int .i64 t275, .string t276, .string t277] 25 (0, 0)) (bU BK280.out) NB280_0.out (by simp)); replace HK := aS (KeepBut.trans (kS2 HK.out GW271.out GW280.out) hk (.inl rfl)); replace HB := aS (hb); replace HI0 := aS (hi); clear hi hb hk; have hnb15 := NB280_271.out; have hnc15 := NB271_280.out; have hnb16 := NB280_0.out; have hnc16 := NB0_280.out; have hcz17 := cells6f BK280.out; have hnb18 := NB271_0.out; have hnc18 := NB0_271.out; have hcz19 := cells6f BK271.out))
  refine bodyPost_ret (results_cell_row rfl _ _ gb271 25 #[.string t284, .int .i64 t273, .int .i64 t274, .int .i64 t275, .string t276, .string t277] (0, 0) _ rfl (by (with_reducible repeat (first | refine blk_drewN ?_ _ | refine blk_drew ?_ | refine blk_alloc ?_ _)); refine blk_put_6 (.string (⟨#[]⟩ : ByteArray)) (.int .i64 0) (.int .i64 0) (.int .i64 0) (.string (⟨#[]⟩ : ByteArray)) (.string (⟨#[]⟩ : ByteArray)) ?_; (with_reducible repeat (first | refine blk_drewN ?_ _ | refine blk_drew ?_ | refine blk_alloc ?_ _)); refine blk_far ?_ NB271_280.out _; exact bU BK271.out) Tryd.underlying25 rfl jK) rfl ?_
  exact ⟨jE, by exact IsS111.iS2 HI0.out NB0_271.out NB0_280.out, by exact wS3 HB.out (IsS111.ge HI0.out) GE271.out GE280.out, by exact kS2 HK.out GW271.out GW280.out⟩
 ·rw [if_neg c12] at H
  have c12b0 := beq_eq_false_iff_ne.mpr c12
  have c12b1 := bne_iff_ne.mpr c12
  (first | rw [c12b0] | (simp only [i64_w, i32_w]; rw [c12b0]) | skip)
  by_cases c20 : t281 = 1
  ·rw [if_pos c20] at H
   have c20b0 := beq_iff_eq.mpr c20
   have c20b1 := bne_eq_false_iff_eq.mpr c20
   clear c20
   obtain ⟨y287, hy_⟩ : ∃ y_ : List Int, y_ = (([0, 3, 15, 1, 2, 6] : List Int)) := ⟨_, rfl⟩
   rw [← hy_] at H
   have Ny287 := aS hy_
   clear hy_
   obtain ⟨⟨t290, t291, t292⟩, A21, H⟩ := bM H
   try dsimp only at H
   simp only [Option.some.injEq, Prod.mk.injEq] at H
   obtain ⟨rfl, rfl, rfl, rfl, rfl, rfl, rfl, rfl⟩ := H
   go_wp2_with (first | ((with_reducible refine gate_dst (N := 16) rfl ?_); refine Kd.R_lit (Kd.int .i64) _ 3 ?hg (N := 16) ?hd (xs := ([0, 3, 15, 1, 2, 6] : List Int)) (inner := [.int .i64 0, .int .i64 3, .int .i64 15, .int .i64 1, .int .i64 2, .int .i64 6]) (ok := fun _ => True) (okp := fun _ => True) ?hr ?hp (fun _ hk => hk) trivial (Below.refl _ _) (Nat.le_refl _) (by simp) ?_; (case hd => rfl); (case hg => rfl); (case hr => first | (go_simp; done) | (go_simp; rfl)); (case hp => exact (Reps.one (show Kd.M (Kd.int .i64) _ _ _ 0 [.int .i64 0] from rfl) (Reps.one (show Kd.M (Kd.int .i64) _ _ _ 3 [.int .i64 3] from rfl) (Reps.one (show Kd.M (Kd.int .i64) _ _ _ 15 [.int .i64 15] from rfl) (Reps.one (show Kd.M (Kd.int .i64) _ _ _ 1 [.int .i64 1] from rfl) (Reps.one (show Kd.M (Kd.int .i64) _ _ _ 2 [.int .i64 2] from rfl) (Reps.one (show Kd.M (Kd.int .i64) _ _ _ 6 [.int .i64 6] from rfl) (Reps.none _ _)))))))); intro v288 w22 ho23 hb hg_ hnew_; clear hg_ hnew_; (first | rw [← Ny287.out] at ho23 | (simp only [Int.reduceToNat] at ho23; rw [← Ny287.out] at ho23)); have HO289 := aS (Kd.R_lower ho23 (keep_size (w := w) (g := g) (row := none) (kS2 HK.out GW271.out GW280.out))); replace BK271 := bB BK271 hb; replace BK280 := bB BK280 hb; replace HK := aS (KeepBut.trans (kS2 HK.out GW271.out GW280.out) (KeepBut.of_below hb g none) (.inl rfl)); replace HB := aS (below_step (by exact wS3 HB.out (IsS111.ge HI0.out) GE271.out GE280.out) hb); replace HI0 := aS (IsS111.below (IsS111.iS2 HI0.out NB0_271.out NB0_280.out) hb); clear hb ho23; obtain ⟨Ao24, co24, eo24⟩ := Kd.R_slice HO289.out; subst eo24) | ((with_reducible refine gate_callee (f := 81) rfl ?_); refine gL (some 17) Tryd.func81 #[.pointer (some ⟨g, 0, none⟩), .slice Ao24 y287.length co24] ?_; (with_reducible refine (spec_l1Int.calls g s0_0 t282 t283 _ _ y287 t290 t291 t292 w0 _ ?side1 ?side2 ?side3 ?side4 ?side5 A21.out).mono ?_); (case side1 => exact IsS111.iS2 HI0.out NB0_271.out NB0_280.out); (case side2 => exact wS3 HB.out (IsS111.ge HI0.out) GE271.out GE280.out); (case side3 => exact cU ((Kd.R_reads' HO289.out).2.2)); (case side4 => exact (Kd.R_reads' HO289.out).2.1); (case side5 => exact far_slice (IsS111.own_ne HI0.out HO289.out (by decide))); rintro e w25 ⟨rfl, hi, hb, hk⟩; refine ⟨_, rfl, ?_⟩; replace BK271 := aS (KeepBut.blk hk (g' := gb271) (o := .cells #[.string (⟨#[]⟩ : ByteArray), .int .i64 0, .int .i64 0, .int .i64 0, .string (⟨#[]⟩ : ByteArray), .string (⟨#[]⟩ : ByteArray)] 25 (0, 0)) (bU BK271.out) NB271_0.out (by simp)); replace BK280 := aS (KeepBut.blk hk (g' := gb280) (o := .cells #[.string t272, .int .i64 t273, .int .i64 t274, .int .i64 t275, .string t276, .string t277] 25 (0, 0)) (bU BK280.out) NB280_0.out (by simp)); replace HO289 := aS (Kd.R_mono (Kd.R_keep (IsS111.apart (show IsS111 w0 _ g s0_0 t282 t283 from by exact IsS111.iS2 HI0.out NB0_271.out NB0_280.out) (rU HO289.out) (by decide)) hk (fun _ h => h.2)) (fun _ h => h.1)); replace HK := aS (KeepBut.trans (kS2 HK.out GW271.out GW280.out) hk (.inl rfl)); replace HB := aS (hb); replace HI0 := aS (hi); clear hi hb hk; have hnb26 := NB280_271.out; have hnc26 := NB271_280.out; have hnb27 := NB280_0.out; have hnc27 := NB0_280.out; have hcz28 := cells6f BK280.out; have hnb29 := NB271_0.out; have hnc29 := NB0_271.out; have hcz30 := cells6f BK271.out))
   refine bodyPost_ret (results_cell_row rfl _ _ gb271 25 #[.string t272, .int .i64 t290, .int .i64 t274, .int .i64 t275, .string t276, .string t277] (0, 0) _ rfl (by (with_reducible repeat (first | refine blk_drewN ?_ _ | refine blk_drew ?_ | refine blk_alloc ?_ _)); refine blk_put_6 (.string (⟨#[]⟩ : ByteArray)) (.int .i64 0) (.int .i64 0) (.int .i64 0) (.string (⟨#[]⟩ : ByteArray)) (.string (⟨#[]⟩ : ByteArray)) ?_; (with_reducible repeat (first | refine blk_drewN ?_ _ | refine blk_drew ?_ | refine blk_alloc ?_ _)); refine blk_far ?_ NB271_280.out _; exact bU BK271.out) Tryd.underlying25 rfl jK) rfl ?_
   exact ⟨jE, by exact IsS111.iS2 HI0.out NB0_271.out NB0_280.out, by exact wS3 HB.out (IsS111.ge HI0.out) GE271.out GE280.out, by exact kS2 HK.out GW271.out GW280.out⟩
  ·rw [if_neg c20] at H
   have c20b0 := beq_eq_false_iff_ne.mpr c20
   have c20b1 := bne_iff_ne.mpr c20
   by_cases c31 : t281 = 2
   ·rw [if_pos c31] at H
    have c31b0 := beq_iff_eq.mpr c31
    have c31b1 := bne_eq_false_iff_eq.mpr c31
    clear c31
    obtain ⟨y293, hy_⟩ : ∃ y_ : List Int, y_ = (([(-1), 100000, 100001] : List Int)) := ⟨_, rfl⟩
    rw [← hy_] at H
    have Ny293 := aS hy_
    clear hy_
    obtain ⟨⟨t296, t297, t298⟩, A32, H⟩ := bM H
    try dsimp only at H
    simp only [Option.some.injEq, Prod.mk.injEq] at H
    obtain ⟨rfl, rfl, rfl, rfl, rfl, rfl, rfl, rfl⟩ := H
    go_wp2_with (first | ((with_reducible refine gate_dst (N := 22) rfl ?_); refine Kd.R_lit (Kd.int .i64) _ 3 ?hg (N := 22) ?hd (xs := ([(-1), 100000, 100001] : List Int)) (inner := [.int .i64 (-1), .int .i64 100000, .int .i64 100001]) (ok := fun _ => True) (okp := fun _ => True) ?hr ?hp (fun _ hk => hk) trivial (Below.refl _ _) (Nat.le_refl _) (by simp) ?_; (case hd => rfl); (case hg => rfl); (case hr => first | (go_simp; done) | (go_simp; rfl)); (case hp => exact (Reps.one (show Kd.M (Kd.int .i64) _ _ _ (-1) [.int .i64 (-1)] from rfl) (Reps.one (show Kd.M (Kd.int .i64) _ _ _ 100000 [.int .i64 100000] from rfl) (Reps.one (show Kd.M (Kd.int .i64) _ _ _ 100001 [.int .i64 100001] from rfl) (Reps.none _ _))))); intro v294 w33 ho34 hb hg_ hnew_; clear hg_ hnew_; (first | rw [← Ny293.out] at ho34 | (simp only [Int.reduceToNat] at ho34; rw [← Ny293.out] at ho34)); have HO295 := aS (Kd.R_lower ho34 (keep_size (w := w) (g := g) (row := none) (kS2 HK.out GW271.out GW280.out))); replace BK271 := bB BK271 hb; replace BK280 := bB BK280 hb; replace HK := aS (KeepBut.trans (kS2 HK.out GW271.out GW280.out) (KeepBut.of_below hb g none) (.inl rfl)); replace HB := aS (below_step (by exact wS3 HB.out (IsS111.ge HI0.out) GE271.out GE280.out) hb); replace HI0 := aS (IsS111.below (IsS111.iS2 HI0.out NB0_271.out NB0_280.out) hb); clear hb ho34; obtain ⟨Ao35, co35, eo35⟩ := Kd.R_slice HO295.out; subst eo35) | ((with_reducible refine gate_callee (f := 81) rfl ?_); refine gL (some 23) Tryd.func81 #[.pointer (some ⟨g, 0, none⟩), .slice Ao35 y293.length co35] ?_; (with_reducible refine (spec_l1Int.calls g s0_0 t282 t283 _ _ y293 t296 t297 t298 w0 _ ?side1 ?side2 ?side3 ?side4 ?side5 A32.out).mono ?_); (case side1 => exact IsS111.iS2 HI0.out NB0_271.out NB0_280.out); (case side2 => exact wS3 HB.out (IsS111.ge HI0.out) GE271.out GE280.out); (case side3 => exact cU ((Kd.R_reads' HO295.out).2.2)); (case side4 => exact (Kd.R_reads' HO295.out).2.1); (case side5 => exact far_slice (IsS111.own_ne HI0.out HO295.out (by decide))); rintro e w36 ⟨rfl, hi, hb, hk⟩; refine ⟨_, rfl, ?_⟩; replace BK271 := aS (KeepBut.blk hk (g' := gb271) (o := .cells #[.string (⟨#[]⟩ : ByteArray), .int .i64 0, .int .i64 0, .int .i64 0, .string (⟨#[]⟩ : ByteArray), .string (⟨#[]⟩ : ByteArray)] 25 (0, 0)) (bU BK271.out) NB271_0.out (by simp)); replace BK280 := aS (KeepBut.blk hk (g' := gb280) (o := .cells #[.string t272, .int .i64 t273, .int .i64 t274, .int .i64 t275, .string t276, .string t277] 25 (0, 0)) (bU BK280.out) NB280_0.out (by simp)); replace HO295 := aS (Kd.R_mono (Kd.R_keep (IsS111.apart (show IsS111 w0 _ g s0_0 t282 t283 from by exact IsS111.iS2 HI0.out NB0_271.out NB0_280.out) (rU HO295.out) (by decide)) hk (fun _ h => h.2)) (fun _ h => h.1)); replace HK := aS (KeepBut.trans (kS2 HK.out GW271.out GW280.out) hk (.inl rfl)); replace HB := aS (hb); replace HI0 := aS (hi); clear hi hb hk; have hnb37 := NB280_271.out; have hnc37 := NB271_280.out; have hnb38 := NB280_0.out; have hnc38 := NB0_280.out; have hcz39 := cells6f BK280.out; have hnb40 := NB271_0.out; have hnc40 := NB0_271.out; have hcz41 := cells6f BK271.out))
    refine bodyPost_ret (results_cell_row rfl _ _ gb271 25 #[.string t272, .int .i64 t273, .int .i64 t296, .int .i64 t275, .string t276, .string t277] (0, 0) _ rfl (by (with_reducible repeat (first | refine blk_drewN ?_ _ | refine blk_drew ?_ | refine blk_alloc ?_ _)); refine blk_put_6 (.string (⟨#[]⟩ : ByteArray)) (.int .i64 0) (.int .i64 0) (.int .i64 0) (.string (⟨#[]⟩ : ByteArray)) (.string (⟨#[]⟩ : ByteArray)) ?_; (with_reducible repeat (first | refine blk_drewN ?_ _ | refine blk_drew ?_ | refine blk_alloc ?_ _)); refine blk_far ?_ NB271_280.out _; exact bU BK271.out) Tryd.underlying25 rfl jK) rfl ?_
    exact ⟨jE, by exact IsS111.iS2 HI0.out NB0_271.out NB0_280.out, by exact wS3 HB.out (IsS111.ge HI0.out) GE271.out GE280.out, by exact kS2 HK.out GW271.out GW280.out⟩
   ·rw [if_neg c31] at H
    have c31b0 := beq_eq_false_iff_ne.mpr c31
    have c31b1 := bne_iff_ne.mpr c31
    by_cases c42 : t281 = 3
    ·rw [if_pos c42] at H
     have c42b0 := beq_iff_eq.mpr c42
     have c42b1 := bne_eq_false_iff_eq.mpr c42
     clear c42
     obtain ⟨y299, hy_⟩ : ∃ y_ : List Int, y_ = (([(-1), 2147483647, 2147483648, 100001, 0] : List Int)) := ⟨_, rfl⟩
     rw [← hy_] at H
     have Ny299 := aS hy_
     clear hy_
     obtain ⟨⟨t302, t303, t304⟩, A43, H⟩ := bM H
     try dsimp only at H
     simp only [Option.some.injEq, Prod.mk.injEq] at H
     obtain ⟨rfl, rfl, rfl, rfl, rfl, rfl, rfl, rfl⟩ := H
     go_wp2_with (first | ((with_reducible refine gate_dst (N := 28) rfl ?_); refine Kd.R_lit (Kd.int .i64) _ 3 ?hg (N := 28) ?hd (xs := ([(-1), 2147483647, 2147483648, 100001, 0] : List Int)) (inner := [.int .i64 (-1), .int .i64 2147483647, .int .i64 2147483648, .int .i64 100001, .int .i64 0]) (ok := fun _ => True) (okp := fun _ => True) ?hr ?hp (fun _ hk => hk) trivial (Below.refl _ _) (Nat.le_refl _) (by simp) ?_; (case hd => rfl); (case hg => rfl); (case hr => first | (go_simp; done) | (go_simp; rfl)); (case hp => exact (Reps.one (show Kd.M (Kd.int .i64) _ _ _ (-1) [.int .i64 (-1)] from rfl) (Reps.one (show Kd.M (Kd.int .i64) _ _ _ 2147483647 [.int .i64 2147483647] from rfl) (Reps.one (show Kd.M (Kd.int .i64) _ _ _ 2147483648 [.int .i64 2147483648] from rfl) (Reps.one (show Kd.M (Kd.int .i64) _ _ _ 100001 [.int .i64 100001] from rfl) (Reps.one (show Kd.M (Kd.int .i64) _ _ _ 0 [.int .i64 0] from rfl) (Reps.none _ _))))))); intro v300 w44 ho45 hb hg_ hnew_; clear hg_ hnew_; (first | rw [← Ny299.out] at ho45 | (simp only [Int.reduceToNat] at ho45; rw [← Ny299.out] at ho45)); have HO301 := aS (Kd.R_lower ho45 (keep_size (w := w) (g := g) (row := none) (kS2 HK.out GW271.out GW280.out))); replace BK271 := bB BK271 hb; replace BK280 := bB BK280 hb; replace HK := aS (KeepBut.trans (kS2 HK.out GW271.out GW280.out) (KeepBut.of_below hb g none) (.inl rfl)); replace HB := aS (below_step (by exact wS3 HB.out (IsS111.ge HI0.out) GE271.out GE280.out) hb); replace HI0 := aS (IsS111.below (IsS111.iS2 HI0.out NB0_271.out NB0_280.out) hb); clear hb ho45; obtain ⟨Ao46, co46, eo46⟩ := Kd.R_slice HO301.out; subst eo46) | ((with_reducible refine gate_callee (f := 81) rfl ?_); refine gL (some 29) Tryd.func81 #[.pointer (some ⟨g, 0, none⟩), .slice Ao46 y299.length co46] ?_; (with_reducible refine (spec_l1Int.calls g s0_0 t282 t283 _ _ y299 t302 t303 t304 w0 _ ?side1 ?side2 ?side3 ?side4 ?side5 A43.out).mono ?_); (case side1 => exact IsS111.iS2 HI0.out NB0_271.out NB0_280.out); (case side2 => exact wS3 HB.out (IsS111.ge HI0.out) GE271.out GE280.out); (case side3 => exact cU ((Kd.R_reads' HO301.out).2.2)); (case side4 => exact (Kd.R_reads' HO301.out).2.1); (case side5 => exact far_slice (IsS111.own_ne HI0.out HO301.out (by decide))); rintro e w47 ⟨rfl, hi, hb, hk⟩; refine ⟨_, rfl, ?_⟩; replace BK271 := aS (KeepBut.blk hk (g' := gb271) (o := .cells #[.string (⟨#[]⟩ : ByteArray), .int .i64 0, .int .i64 0, .int .i64 0, .string (⟨#[]⟩ : ByteArray), .string (⟨#[]⟩ : ByteArray)] 25 (0, 0)) (bU BK271.out) NB271_0.out (by simp)); replace BK280 := aS (KeepBut.blk hk (g' := gb280) (o := .cells #[.string t272, .int .i64 t273, .int .i64 t274, .int .i64 t275, .string t276, .string t277] 25 (0, 0)) (bU BK280.out) NB280_0.out (by simp)); replace HO301 := aS (Kd.R_mono (Kd.R_keep (IsS111.apart (show IsS111 w0 _ g s0_0 t282 t283 from by exact IsS111.iS2 HI0.out NB0_271.out NB0_280.out) (rU HO301.out) (by decide)) hk (fun _ h => h.2)) (fun _ h => h.1)); replace HK := aS (KeepBut.trans (kS2 HK.out GW271.out GW280.out) hk (.inl rfl)); replace HB := aS (hb); replace HI0 := aS (hi); clear hi hb hk; have hnb48 := NB280_271.out; have hnc48 := NB271_280.out; have hnb49 := NB280_0.out; have hnc49 := NB0_280.out; have hcz50 := cells6f BK280.out; have hnb51 := NB271_0.out; have hnc51 := NB0_271.out; have hcz52 := cells6f BK271.out))
     refine bodyPost_ret (results_cell_row rfl _ _ gb271 25 #[.string t272, .int .i64 t273, .int .i64 t274, .int .i64 t302, .string t276, .string t277] (0, 0) _ rfl (by (with_reducible repeat (first | refine blk_drewN ?_ _ | refine blk_drew ?_ | refine blk_alloc ?_ _)); refine blk_put_6 (.string (⟨#[]⟩ : ByteArray)) (.int .i64 0) (.int .i64 0) (.int .i64 0) (.string (⟨#[]⟩ : ByteArray)) (.string (⟨#[]⟩ : ByteArray)) ?_; (with_reducible repeat (first | refine blk_drewN ?_ _ | refine blk_drew ?_ | refine blk_alloc ?_ _)); refine blk_far ?_ NB271_280.out _; exact bU BK271.out) Tryd.underlying25 rfl jK) rfl ?_
     exact ⟨jE, by exact IsS111.iS2 HI0.out NB0_271.out NB0_280.out, by exact wS3 HB.out (IsS111.ge HI0.out) GE271.out GE280.out, by exact kS2 HK.out GW271.out GW280.out⟩
    ·rw [if_neg c42] at H
     have c42b0 := beq_eq_false_iff_ne.mpr c42
     have c42b1 := bne_iff_ne.mpr c42
     by_cases c53 : t281 = 4
     ·rw [if_pos c53] at H
      have c53b0 := beq_iff_eq.mpr c53
      have c53b1 := bne_eq_false_iff_eq.mpr c53
      clear c53
      obtain ⟨⟨t305, t306, t307⟩, A54, H⟩ := bM H
      try dsimp only at H
      simp only [Option.some.injEq, Prod.mk.injEq] at H
      obtain ⟨rfl, rfl, rfl, rfl, rfl, rfl, rfl, rfl⟩ := H
      go_wp2_with (first | ((with_reducible refine gate_callee (f := 112) rfl ?_); refine gL (some 34) Tryd.func112 #[.pointer (some ⟨g, 0, none⟩)] ?_; (with_reducible refine (spec_l3Any.calls g s0_0 t282 t283 t305 t306 t307 w0 _ ?side1 ?side2 A54.out).mono ?_); (case side1 => exact IsS111.iS2 HI0.out NB0_271.out NB0_280.out); (case side2 => exact wS3 HB.out (IsS111.ge HI0.out) GE271.out GE280.out); rintro e w55 ⟨rfl, hi, hb, hk⟩; refine ⟨_, rfl, ?_⟩; replace BK271 := aS (KeepBut.blk hk (g' := gb271) (o := .cells #[.string (⟨#[]⟩ : ByteArray), .int .i64 0, .int .i64 0, .int .i64 0, .string (⟨#[]⟩ : ByteArray), .string (⟨#[]⟩ : ByteArray)] 25 (0, 0)) (bU BK271.out) NB271_0.out (by simp)); replace BK280 := aS (KeepBut.blk hk (g' := gb280) (o := .cells #[.string t272, .int .i64 t273, .int .i64 t274, .int .i64 t275, .string t276, .string t277] 25 (0, 0)) (bU BK280.out) NB280_0.out (by simp)); replace HK := aS (KeepBut.trans (kS2 HK.out GW271.out GW280.out) hk (.inl rfl)); replace HB := aS (hb); replace HI0 := aS (hi); clear hi hb hk; have hnb56 := NB280_271.out; have hnc56 := NB271_280.out; have hnb57 := NB280_0.out; have hnc57 := NB0_280.out; have hcz58 := cells6f BK280.out; have hnb59 := NB271_0.out; have hnc59 := NB0_271.out; have hcz60 := cells6f BK271.out))
      refine bodyPost_ret (results_cell_row rfl _ _ gb271 25 #[.string t272, .int .i64 t273, .int .i64 t274, .int .i64 t275, .string t305, .string t277] (0, 0) _ rfl (by (with_reducible repeat (first | refine blk_drewN ?_ _ | refine blk_drew ?_ | refine blk_alloc ?_ _)); refine blk_put_6 (.string (⟨#[]⟩ : ByteArray)) (.int .i64 0) (.int .i64 0) (.int .i64 0) (.string (⟨#[]⟩ : ByteArray)) (.string (⟨#[]⟩ : ByteArray)) ?_; (with_reducible repeat (first | refine blk_drewN ?_ _ | refine blk_drew ?_ | refine blk_alloc ?_ _)); refine blk_far ?_ NB271_280.out _; exact bU BK271.out) Tryd.underlying25 rfl jK) rfl ?_
      exact ⟨jE, by exact IsS111.iS2 HI0.out NB0_271.out NB0_280.out, by exact wS3 HB.out (IsS111.ge HI0.out) GE271.out GE280.out, by exact kS2 HK.out GW271.out GW280.out⟩
     ·rw [if_neg c53] at H
      have c53b0 := beq_eq_false_iff_ne.mpr c53
      have c53b1 := bne_iff_ne.mpr c53
      by_cases c61 : t281 = 5
      ·rw [if_pos c61] at H
       have c61b0 := beq_iff_eq.mpr c61
       have c61b1 := bne_eq_false_iff_eq.mpr c61
       clear c61
       obtain ⟨y308, hy_⟩ : ∃ y_ : List ByteArray, y_ = (([(⟨#[32]⟩ : ByteArray), (⟨#[127]⟩ : ByteArray), (⟨#[116, 104, 105, 114, 116, 101, 101, 110, 98, 121, 116, 101, 115]⟩ : ByteArray), (⟨#[120]⟩ : ByteArray)] : List ByteArray)) := ⟨_, rfl⟩
       replace H : ((spec_l1Str.f s0_0 t282 t283 y308).bind fun bt311 => (some (t272, t273, t274, t275, t276, bt311.1, bt311.2.1, bt311.2.2))) = some (r1, r2, r3, r4, r5, r6, r7, r8) := jD
       have Ny308 := aS hy_
       clear hy_
       obtain ⟨⟨t311, t312, t313⟩, A62, H⟩ := bM H
       try dsimp only at H
       simp only [Option.some.injEq, Prod.mk.injEq] at H
       obtain ⟨rfl, rfl, rfl, rfl, rfl, rfl, rfl, rfl⟩ := H
       go_wp2_with (first | ((with_reducible refine gate_dst (N := 39) rfl ?_); refine Kd.R_lit Kd.string _ 9 ?hg (N := 39) ?hd (xs := ([(⟨#[32]⟩ : ByteArray), (⟨#[127]⟩ : ByteArray), (⟨#[116, 104, 105, 114, 116, 101, 101, 110, 98, 121, 116, 101, 115]⟩ : ByteArray), (⟨#[120]⟩ : ByteArray)] : List ByteArray)) (inner := [.string (⟨#[32]⟩ : ByteArray), .string (⟨#[127]⟩ : ByteArray), .string (⟨#[116, 104, 105, 114, 116, 101, 101, 110, 98, 121, 116, 101, 115]⟩ : ByteArray), .string (⟨#[120]⟩ : ByteArray)]) (ok := fun _ => True) (okp := fun _ => True) ?hr ?hp (fun _ hk => hk) trivial (Below.refl _ _) (Nat.le_refl _) (by simp) ?_; (case hd => rfl); (case hg => rfl); (case hr => first | (go_simp; done) | (go_simp; rfl)); (case hp => exact (Reps.one (show Kd.M Kd.string _ _ _ (⟨#[32]⟩ : ByteArray) [.string (⟨#[32]⟩ : ByteArray)] from rfl) (Reps.one (show Kd.M Kd.string _ _ _ (⟨#[127]⟩ : ByteArray) [.string (⟨#[127]⟩ : ByteArray)] from rfl) (Reps.one (show Kd.M Kd.string _ _ _ (⟨#[116, 104, 105, 114, 116, 101, 101, 110, 98, 121, 116, 101, 115]⟩ : ByteArray) [.string (⟨#[116, 104, 105, 114, 116, 101, 101, 110, 98, 121, 116, 101, 115]⟩ : ByteArray)] from rfl) (Reps.one (show Kd.M Kd.string _ _ _ (⟨#[120]⟩ : ByteArray) [.string (⟨#[120]⟩ : ByteArray)] from rfl) (Reps.none _ _)))))); intro v309 w63 ho64 hb hg_ hnew_; clear hg_ hnew_; (first | rw [← Ny308.out] at ho64 | (simp only [Int.reduceToNat] at ho64; rw [← Ny308.out] at ho64)); have HO310 := aS (Kd.R_lower ho64 (keep_size (w := w) (g := g) (row := none) (kS2 HK.out GW271.out GW280.out))); replace BK271 := bB BK271 hb; replace BK280 := bB BK280 hb; replace HK := aS (KeepBut.trans (kS2 HK.out GW271.out GW280.out) (KeepBut.of_below hb g none) (.inl rfl)); replace HB := aS (below_step (by exact wS3 HB.out (IsS111.ge HI0.out) GE271.out GE280.out) hb); replace HI0 := aS (IsS111.below (IsS111.iS2 HI0.out NB0_271.out NB0_280.out) hb); clear hb ho64; obtain ⟨Ao65, co65, eo65⟩ := Kd.R_slice HO310.out; subst eo65) | ((with_reducible refine gate_callee (f := 113) rfl ?_); refine gL (some 40) Tryd.func113 #[.pointer (some ⟨g, 0, none⟩), .slice Ao65 y308.length co65] ?_; (with_reducible refine (spec_l1Str.calls g s0_0 t282 t283 _ _ y308 t311 t312 t313 w0 _ ?side1 ?side2 ?side3 ?side4 ?side5 A62.out).mono ?_); (case side1 => exact IsS111.iS2 HI0.out NB0_271.out NB0_280.out); (case side2 => exact wS3 HB.out (IsS111.ge HI0.out) GE271.out GE280.out); (case side3 => exact cU ((Kd.R_reads' HO310.out).2.2)); (case side4 => exact (Kd.R_reads' HO310.out).2.1); (case side5 => exact far_slice (IsS111.own_ne HI0.out HO310.out (by decide))); rintro e w66 ⟨rfl, hi, hb, hk⟩; refine ⟨_, rfl, ?_⟩; replace BK271 := aS (KeepBut.blk hk (g' := gb271) (o := .cells #[.string (⟨#[]⟩ : ByteArray), .int .i64 0, .int .i64 0, .int .i64 0, .string (⟨#[]⟩ : ByteArray), .string (⟨#[]⟩ : ByteArray)] 25 (0, 0)) (bU BK271.out) NB271_0.out (by simp)); replace BK280 := aS (KeepBut.blk hk (g' := gb280) (o := .cells #[.string t272, .int .i64 t273, .int .i64 t274, .int .i64 t275, .string t276, .string t277] 25 (0, 0)) (bU BK280.out) NB280_0.out (by simp)); replace HO310 := aS (Kd.R_mono (Kd.R_keep (IsS111.apart (show IsS111 w0 _ g s0_0 t282 t283 from by exact IsS111.iS2 HI0.out NB0_271.out NB0_280.out) (rU HO310.out) (by decide)) hk (fun _ h => h.2)) (fun _ h => h.1)); replace HK := aS (KeepBut.trans (kS2 HK.out GW271.out GW280.out) hk (.inl rfl)); replace HB := aS (hb); replace HI0 := aS (hi); clear hi hb hk; have hnb67 := NB280_271.out; have hnc67 := NB271_280.out; have hnb68 := NB280_0.out; have hnc68 := NB0_280.out; have hcz69 := cells6f BK280.out; have hnb70 := NB271_0.out; have hnc70 := NB0_271.out; have hcz71 := cells6f BK271.out))
       refine bodyPost_ret (results_cell_row rfl _ _ gb271 25 #[.string t272, .int .i64 t273, .int .i64 t274, .int .i64 t275, .string t276, .string t311] (0, 0) _ rfl (by (with_reducible repeat (first | refine blk_drewN ?_ _ | refine blk_drew ?_ | refine blk_alloc ?_ _)); refine blk_put_6 (.string (⟨#[]⟩ : ByteArray)) (.int .i64 0) (.int .i64 0) (.int .i64 0) (.string (⟨#[]⟩ : ByteArray)) (.string (⟨#[]⟩ : ByteArray)) ?_; (with_reducible repeat (first | refine blk_drewN ?_ _ | refine blk_drew ?_ | refine blk_alloc ?_ _)); refine blk_far ?_ NB271_280.out _; exact bU BK271.out) Tryd.underlying25 rfl jK) rfl ?_
       exact ⟨jE, by exact IsS111.iS2 HI0.out NB0_271.out NB0_280.out, by exact wS3 HB.out (IsS111.ge HI0.out) GE271.out GE280.out, by exact kS2 HK.out GW271.out GW280.out⟩
      ·rw [if_neg c61] at H
       have c61b0 := beq_eq_false_iff_ne.mpr c61
       have c61b1 := bne_iff_ne.mpr c61
       simp only [Option.some.injEq, Prod.mk.injEq] at H
       obtain ⟨rfl, rfl, rfl, rfl, rfl, rfl, rfl, rfl⟩ := H
       have hnb72 := NB280_271.out
       have hnc72 := NB271_280.out
       have hnb73 := NB280_0.out
       have hnc73 := NB0_280.out
       have hcz74 := cells6f BK280.out
       have hnb75 := NB271_0.out
       have hnc75 := NB0_271.out
       have hcz76 := cells6f BK271.out
       go_wp2
       refine bodyPost_ret (results_cell_row rfl _ _ gb271 25 #[.string t272, .int .i64 t273, .int .i64 t274, .int .i64 t275, .string t276, .string t277] (0, 0) _ rfl (by (with_reducible repeat (first | refine blk_drewN ?_ _ | refine blk_drew ?_ | refine blk_alloc ?_ _)); refine blk_put_6 (.string (⟨#[]⟩ : ByteArray)) (.int .i64 0) (.int .i64 0) (.int .i64 0) (.string (⟨#[]⟩ : ByteArray)) (.string (⟨#[]⟩ : ByteArray)) ?_; exact bU BK271.out) Tryd.underlying25 rfl jK) rfl ?_
       exact ⟨jE, by exact IsS111.iS2 HI0.out NB0_271.out NB0_280.out, by exact wS3 HB.out (IsS111.ge HI0.out) GE271.out GE280.out, by exact kS2 HK.out GW271.out GW280.out⟩

/-! ### spec_DrawRecordText: function 46 -/
def spec_DrawRecordText.f (k : Nat) (l0 : List Int) : Option (ByteArray × Int × Int × Int × ByteArray × ByteArray) := (spec_l1New.f k l0).bind fun bt315 => ((spec_l5Any.f k bt315.1 bt315.2.1 bt315.2.2).bind fun bt319 => (some (bt319.1, bt319.2.1, bt319.2.2.1, bt319.2.2.2.1, bt319.2.2.2.2.1, bt319.2.2.2.2.2.1)))
theorem spec_DrawRecordText.mono : ∀ a0 k, LeO (spec_DrawRecordText.f k a0) (spec_DrawRecordText.f (k + 1) a0) := by
 intro a0 k
 unfold spec_DrawRecordText.f
 repeat' first
   | (with_reducible first | exact spec_l1New.mono _ _ | exact spec_l5Any.mono _ _ _ _ | exact LeO.refl _ | exact LeO.none _ | refine LeO.ite ?_ ?_ | refine LeO.bind ?_ (fun _ => ?_))
   | refine LeO.ite ?_ ?_
   | refine LeO.bind ?_ (fun _ => ?_)
set_option maxHeartbeats 8000000 in
set_option maxRecDepth 100000 in
theorem spec_DrawRecordText.calls (k : Nat) (A0 : Option Addr) (c0 : Nat) (l0 : List Int) (r1 : ByteArray) (r2 : Int) (r3 : Int) (r4 : Int) (r5 : ByteArray) (r6 : ByteArray) (w : World) (hr0 : Kd.C (Kd.int .u8) w A0 l0.length l0) (hc0 : l0.length ≤ c0) (h : spec_DrawRecordText.f k l0 = some (r1, r2, r3, r4, r5, r6)) :
  Calls Tryd.prog 46 #[.slice A0 l0.length c0] w fun e w' => e = .returned (.agg #[.string r1, .int .i64 r2, .int .i64 r3, .int .i64 r4, .string r5, .string r6]) ∧ Below w.heap.size w w' := by
 have hu25 := Tryd.underlying25
 have HR0 := aS hr0
 have HC0 := aS hc0
 clear hr0 hc0
 have HB := aS (Below.refl w.heap.size w)
 have H : ((spec_l1New.f k l0).bind fun bt315 => ((spec_l5Any.f k bt315.1 bt315.2.1 bt315.2.2).bind fun bt319 => (some (bt319.1, bt319.2.1, bt319.2.2.1, bt319.2.2.2.1, bt319.2.2.2.2.1, bt319.2.2.2.2.2.1)))) = some (r1, r2, r3, r4, r5, r6) := h
 clear h
 obtain ⟨⟨t315, t316, t317⟩, A2, H⟩ := bM H
 try dsimp only at H
 obtain ⟨⟨t319, t320, t321, t322, t323, t324, t325, t326⟩, A3, H⟩ := bM H
 try dsimp only at H
 simp only [Option.some.injEq, Prod.mk.injEq] at H
 obtain ⟨rfl, rfl, rfl, rfl, rfl, rfl⟩ := H
 go_enter Tryd.func46, Tryd.ntmps46
 go_wp2_with (first | ((with_reducible refine gate_dst (N := 2) rfl ?_); refine xB 2 #[.string (⟨#[]⟩ : ByteArray), .int .i64 0, .int .i64 0, .int .i64 0, .string (⟨#[]⟩ : ByteArray), .string (⟨#[]⟩ : ByteArray)] 25 ?_; intro gb314 hg w4 hbox hb; have BK314 := aS (hbox); have GW314 := gW hg (wU HB.out); have GE314 := gW hg (wU HB.out); replace HB := aS (below_step (wU HB.out) hb); clear hb hbox hg) | ((with_reducible refine gate_callee (f := 56) rfl ?_); refine gL (some 5) Tryd.func56 #[.slice A0 l0.length c0] ?_; (with_reducible refine (spec_l1New.calls k _ _ l0 t315 t316 t317 w _ ?side1 ?side2 ?side3 A2.out).mono ?_); (case side1 => exact wS1 HB.out GE314.out); (case side2 => exact HR0.out); (case side3 => exact HC0.out); rintro e w5 ⟨g318, rfl, hi, hb, hb2⟩; refine ⟨_, rfl, ?_⟩; replace HB := aS (hb); have HI318 := aS (hi); have NB318_314 := aS (IsS111.ne_blk hi (blk_below (bU BK314.out) hb2) (by decide)); have NB314_318 := aS (Ne.symm (IsS111.ne_blk hi (blk_below (bU BK314.out) hb2) (by decide))); replace BK314 := aS (blk_below (bU BK314.out) hb2); clear hi hb hb2) | ((with_reducible refine gate_callee (f := 58) rfl ?_); refine gL (some 7) Tryd.func58 #[.pointer (some ⟨g318, 0, none⟩)] ?_; (with_reducible refine (spec_l5Any.calls k g318 t315 t316 t317 t319 t320 t321 t322 t323 t324 t325 t326 w _ ?side1 ?side2 A3.out).mono ?_); (case side1 => exact IsS111.iS1 HI318.out NB318_314.out); (case side2 => exact wS2 HB.out (IsS111.ge HI318.out) GE314.out); rintro e w6 ⟨rfl, hi, hb, hk⟩; refine ⟨_, rfl, ?_⟩; replace BK314 := aS (KeepBut.blk hk (g' := gb314) (o := .cells #[.string (⟨#[]⟩ : ByteArray), .int .i64 0, .int .i64 0, .int .i64 0, .string (⟨#[]⟩ : ByteArray), .string (⟨#[]⟩ : ByteArray)] 25 (0, 0)) (bU BK314.out) NB314_318.out (by simp)); replace HB := aS (hb); replace HI318 := aS (hi); clear hi hb hk; have hnb7 := NB314_318.out; have hnc7 := NB318_314.out; have hcz8 := cells6f BK314.out))
 refine bodyPost_ret (results_cell_row rfl _ _ gb314 25 #[.string t319, .int .i64 t320, .int .i64 t321, .int .i64 t322, .string t323, .string t324] (0, 0) _ rfl (by (with_reducible repeat (first | refine blk_drewN ?_ _ | refine blk_drew ?_ | refine blk_alloc ?_ _)); refine blk_put_6 (.string (⟨#[]⟩ : ByteArray)) (.int .i64 0) (.int .i64 0) (.int .i64 0) (.string (⟨#[]⟩ : ByteArray)) (.string (⟨#[]⟩ : ByteArray)) ?_; exact bU BK314.out) Tryd.underlying25 rfl jK) rfl ?_
 exact ⟨jE, by exact wS2 HB.out (IsS111.ge HI318.out) GE314.out⟩

/-! ### spec_DrawSameRecords: function 47 -/
def spec_DrawSameRecords.f (k : Nat) (l0 : List Int) : Option ((List (S25)) × (List (S25))) := (spec_l1New.f k l0).bind fun bt327 => ((spec_l5List.f k bt327.1 bt327.2.1 bt327.2.2 3).bind fun bt331 => ((spec_l1Once.f bt327.1 bt331.2.1 bt331.2.2 2).bind fun bt336 => (if bt336.1 = true then ((some (([] : List (S25)) : List (S25))).bind fun y339 => (if y339.length + bt331.1.length < 1954687338268 then (some (bt331.1, (y339 ++ bt331.1))) else (none))) else ((spec_l5List.f k bt327.1 bt336.2.1 bt336.2.2 3).bind fun bt345 => (some (bt331.1, bt345.1))))))
theorem spec_DrawSameRecords.mono : ∀ a0 k, LeO (spec_DrawSameRecords.f k a0) (spec_DrawSameRecords.f (k + 1) a0) := by
 intro a0 k
 unfold spec_DrawSameRecords.f
 repeat' first
   | (with_reducible first | exact spec_l1New.mono _ _ | exact spec_l5List.mono _ _ _ _ _ | exact LeO.refl _ | exact LeO.none _ | refine LeO.ite ?_ ?_ | refine LeO.bind ?_ (fun _ => ?_))
   | refine LeO.ite ?_ ?_
   | refine LeO.bind ?_ (fun _ => ?_)
set_option maxHeartbeats 8000000 in
set_option maxRecDepth 100000 in
theorem spec_DrawSameRecords.calls (k : Nat) (A0 : Option Addr) (c0 : Nat) (l0 : List Int) (r1 : List (S25)) (r2 : List (S25)) (w : World) (hr0 : Kd.C (Kd.int .u8) w A0 l0.length l0) (hc0 : l0.length ≤ c0) (h : spec_DrawSameRecords.f k l0 = some (r1, r2)) :
  Calls Tryd.prog 47 #[.slice A0 l0.length c0] w fun e w' => ∃ v0_ v1_ : Value, e = .returned (.tuple #[v0_, v1_]) ∧ Kd.R k25 25 w' w.heap.size (fun k_ => some k_ ≠ (v1_ : Value).ownBlock) v0_ r1 ∧ Kd.R k25 25 w' w.heap.size (fun k_ => some k_ ≠ (v0_ : Value).ownBlock) v1_ r2 ∧ Below w.heap.size w w' := by
 have HR0 := aS hr0
 have HC0 := aS hc0
 clear hr0 hc0
 have HB := aS (Below.refl w.heap.size w)
 have H : ((spec_l1New.f k l0).bind fun bt327 => ((spec_l5List.f k bt327.1 bt327.2.1 bt327.2.2 3).bind fun bt331 => ((spec_l1Once.f bt327.1 bt331.2.1 bt331.2.2 2).bind fun bt336 => (if bt336.1 = true then ((some (([] : List (S25)) : List (S25))).bind fun y339 => (if y339.length + bt331.1.length < 1954687338268 then (some (bt331.1, (y339 ++ bt331.1))) else (none))) else ((spec_l5List.f k bt327.1 bt336.2.1 bt336.2.2 3).bind fun bt345 => (some (bt331.1, bt345.1))))))) = some (r1, r2) := h
 clear h
 obtain ⟨⟨t327, t328, t329⟩, A2, H⟩ := bM H
 try dsimp only at H
 obtain ⟨⟨t331, t334, t335⟩, A3, H⟩ := bM H
 try dsimp only at H
 obtain ⟨⟨t336, t337, t338⟩, A4, H⟩ := bM H
 try dsimp only at H
 have HC5 := aS H
 clear H
 go_enter Tryd.func47, Tryd.ntmps47
 go_upto_if 11 with (first | ((with_reducible refine gate_callee (f := 56) rfl ?_); refine gL (some 7) Tryd.func56 #[.slice A0 l0.length c0] ?_; (with_reducible refine (spec_l1New.calls k _ _ l0 t327 t328 t329 w _ ?side1 ?side2 ?side3 A2.out).mono ?_); (case side1 => exact wU HB.out); (case side2 => exact HR0.out); (case side3 => exact HC0.out); rintro e w6 ⟨g330, rfl, hi, hb, hb2⟩; refine ⟨_, rfl, ?_⟩; replace HB := aS (hb); have HI330 := aS (hi); clear hi hb hb2) | ((with_reducible refine gate_callee (f := 75) rfl ?_); refine gL (some 9) Tryd.func75 #[.pointer (some ⟨g330, 0, none⟩), .int .i64 3] ?_; (with_reducible refine (spec_l5List.calls k g330 t327 t328 t329 3 t331 t334 t335 w _ ?side1 ?side2 A3.out).mono ?_); (case side1 => exact IsS111.iS0 HI330.out); (case side2 => exact wS1 HB.out (IsS111.ge HI330.out)); rintro e w7 ⟨v332, rfl, ho0, hi, hb, hk⟩; refine ⟨_, rfl, ?_⟩; have HO333 := aS (Kd.R_lower ho0 (below_size (by exact wS1 HB.out (IsS111.ge HI330.out)))); replace HB := aS (hb); replace HI330 := aS (hi); clear hi hb hk; (try clear ho0)) | ((with_reducible refine gate_callee (f := 76) rfl ?_); refine gL (some 11) Tryd.func76 #[.pointer (some ⟨g330, 0, none⟩), .int .i64 2] ?_; (with_reducible refine (spec_l1Once.calls g330 t327 t334 t335 2 t336 t337 t338 w _ ?side1 ?side2 A4.out).mono ?_); (case side1 => exact IsS111.iS0 HI330.out); (case side2 => exact wS1 HB.out (IsS111.ge HI330.out)); rintro e w8 ⟨rfl, hi, hb, hk⟩; refine ⟨_, rfl, ?_⟩; replace HO333 := aS (Kd.R_mono (Kd.R_keep (IsS111.apart (show IsS111 w _ g330 t327 t334 t335 from by exact IsS111.iS0 HI330.out) (rU HO333.out) (by decide)) hk (fun _ h => h.2)) (fun _ h => h.1)); replace HB := aS (hb); replace HI330 := aS (hi); clear hi hb hk))
 (try simp only [Act.put, List.setIfInBounds_toArray, List.set_cons_zero, List.set_cons_succ])
 have H := HC5.out
 clear HC5
 by_cases c9 : t336 = true
 ·subst c9
  rw [if_pos rfl] at H
  obtain ⟨y339, hy_⟩ : ∃ y_ : List (S25), y_ = (([] : List (S25))) := ⟨_, rfl⟩
  replace H : (if y339.length + t331.length < 1954687338268 then (some (t331, (y339 ++ t331))) else (none)) = some (r1, r2) := jD
  have Ny339 := aS hy_
  clear hy_
  by_cases c10 : y339.length + t331.length < 1954687338268
  ·rw [if_pos c10] at H
   have LMc10 := aS c10
   clear c10
   obtain ⟨y342, hy_⟩ : ∃ y_ : List (S25), y_ = (y339 ++ t331) := ⟨_, rfl⟩
   replace H : (some (t331, y342)) = some (r1, r2) := jD
   have Ny342 := aS hy_
   clear hy_
   simp only [Option.some.injEq, Prod.mk.injEq] at H
   obtain ⟨rfl, rfl⟩ := H
   go_wp2_with (first | ((with_reducible refine gate_dst (N := 13) rfl ?_); refine Kd.R_lit k25 _ 25 ?hg (N := 13) ?hd (xs := ([] : List (S25))) (inner := []) (ok := fun _ => True) (okp := fun _ => True) ?hr ?hp (fun _ hk => hk) trivial (Below.refl _ _) (Nat.le_refl _) (by simp) ?_; (case hd => rfl); (case hg => rfl); (case hr => first | (go_simp; done) | (go_simp; rfl)); (case hp => exact (Reps.none _ _)); intro v340 w11 ho12 hb hg_ hnew_; clear hg_ hnew_; (first | rw [← Ny339.out] at ho12 | (simp only [Int.reduceToNat] at ho12; rw [← Ny339.out] at ho12)); have HO341 := aS (Kd.R_lower (Kd.R_new' ho12 (Kd.R_lt (rU HO333.out))) (below_size (by exact wS1 HB.out (IsS111.ge HI330.out)))); replace HO333 := aS (Kd.R_elder' (rU HO333.out) (Kd.R_base ho12) hb); replace HB := aS (below_step (by exact wS1 HB.out (IsS111.ge HI330.out)) hb); replace HI330 := aS (IsS111.below (IsS111.iS0 HI330.out) hb); clear hb ho12; obtain ⟨Ao14, co14, eo14⟩ := Kd.R_slice HO333.out; subst eo14) | ((with_reducible refine gate_builtin (b := .append) (xs := #[.tmp 13, .tmp 14]) rfl ?_); at_builtin; refine Kd.R_append_rows k25 (w0 := w) w.heap.size rfl (.tmp 13) (.tmp 14) 36 25 (.agg #[(.string ⟨#[]⟩), (.int .i64 0), (.int .i64 0), (.int .i64 0), (.string ⟨#[]⟩), (.string ⟨#[]⟩)]) 72 rfl Tryd.underlying36 info25 rfl (by decide) (by omega) v340 y339 t331 _ _ _ (fun k_ => some k_ ≠ (.slice Ao14 t331.length co14 : Value).ownBlock) (fun _ => False) rfl rfl ?aO ?aR (fun _ _ h => h) (fun _ h => h.elim) ?aF ?aB ?aS ?aL ?_; (case aR => exact cU ((Kd.R_reads' HO333.out).2.2)); (case aB => exact (by exact wS1 HB.out (IsS111.ge HI330.out))); (case aF => exact (fun k_ hk => Kd.fresh' (Kd.R_lt (rU HO333.out)) k_ hk)); (case aO => exact (by (with_reducible repeat (first | apply Kd.R_alloc | apply Kd.R_drewN | apply Kd.R_drew)); exact Kd.R_mono HO341.out (fun _ hk => hk.2))); (case aS => exact (below_size (by exact wS1 HB.out (IsS111.ge HI330.out)))); (case aL => have := LMc10.out; omega); intro v343 w13 ho hb hg hat; rw [← Ny342.out] at ho; replace HI330 := aS (IsS111.grown (IsS111.iS0 HI330.out) hg (IsS111.own_ne HI330.out HO341.out (by decide))); replace HO333 := aS (Kd.R_after (ok := (fun _ => True)) (rU HO333.out) hg hat); replace HB := aS (hb); have HO344 := aS (ho); clear HO341; clear ho hb hg hat))
   go_ret2
   exact ⟨_, _, jE, by (with_reducible repeat (first | apply Kd.R_alloc | apply Kd.R_drewN | apply Kd.R_drew)); exact Kd.R_mono HO333.out (fun _ hk => hk.2), by exact rU HO344.out, by exact wS1 HB.out (IsS111.ge HI330.out)⟩
  ·rw [if_neg c10] at H
   exact absurd H (by simp)
 ·replace c9 := Bool.eq_false_iff.mpr c9
  subst c9
  rw [if_neg Bool.false_ne_true] at H
  obtain ⟨⟨t345, t348, t349⟩, A15, H⟩ := bM H
  try dsimp only at H
  simp only [Option.some.injEq, Prod.mk.injEq] at H
  obtain ⟨rfl, rfl⟩ := H
  go_wp2_with (first | ((with_reducible refine gate_callee (f := 75) rfl ?_); refine gL (some 18) Tryd.func75 #[.pointer (some ⟨g330, 0, none⟩), .int .i64 3] ?_; (with_reducible refine (spec_l5List.calls k g330 t327 t337 t338 3 t345 t348 t349 w _ ?side1 ?side2 A15.out).mono ?_); (case side1 => exact IsS111.iS0 HI330.out); (case side2 => exact wS1 HB.out (IsS111.ge HI330.out)); rintro e w16 ⟨v346, rfl, ho0, hi, hb, hk⟩; refine ⟨_, rfl, ?_⟩; have HO347 := aS (Kd.R_lower (Kd.R_new' ho0 (Kd.R_lt (rU HO333.out))) (below_size (by exact wS1 HB.out (IsS111.ge HI330.out)))); replace HO333 := aS (Kd.R_mono (Kd.R_told (Kd.R_oldK (IsS111.apart (show IsS111 w _ g330 t327 t337 t338 from by exact IsS111.iS0 HI330.out) (rU HO333.out) (by decide)) hk) (Kd.R_base ho0)) (fun _ h_ => h_.1)); replace HB := aS (hb); replace HI330 := aS (hi); clear hi hb hk; (try clear ho0)))
  go_ret2
  exact ⟨_, _, jE, by (with_reducible repeat (first | apply Kd.R_alloc | apply Kd.R_drewN | apply Kd.R_drew)); exact Kd.R_mono HO333.out (fun _ hk => hk.2), by (with_reducible repeat (first | apply Kd.R_alloc | apply Kd.R_drewN | apply Kd.R_drew)); exact Kd.R_mono HO347.out (fun _ hk => hk.2), by exact wS1 HB.out (IsS111.ge HI330.out)⟩

/-! ### slices_Clone_impl_Record: function 105 -/
def slices_Clone_impl_Record.f (l0 : List (S25)) : Option ((List (S25))) := (some (([] : List (S25)) : List (S25))).bind fun y350 => (if y350.length + l0.length < 1954687338268 then (some (y350 ++ l0)) else (none))
set_option maxHeartbeats 8000000 in
set_option maxRecDepth 100000 in
theorem slices_Clone_impl_Record.calls (A0 : Option Addr) (c0 : Nat) (l0 : List (S25)) (r : List (S25)) (w : World) (hr0 : Kd.C k25 w A0 l0.length l0) (hc0 : l0.length ≤ c0) (h : slices_Clone_impl_Record.f l0 = some r) :
  Calls Tryd.prog 105 #[.slice A0 l0.length c0] w fun e w' => ∃ v0_ : Value, e = .returned (v0_) ∧ Kd.R k25 25 w' w.heap.size (fun _ => True) v0_ r ∧ Below w.heap.size w w' := by
 obtain rfl | ⟨adn_, rfl⟩ : A0 = none ∨ ∃ ad, A0 = some ad := by cases A0 <;> simp
 ·obtain rfl : l0 = [] := X.C_none_nil hr0
  simp [slices_Clone_impl_Record.f] at h
  subst h
  have hnil_ : ∀ (w : World) (a : Option Addr) (n c n' c' : Nat), (binOp .eql 36 (.slice a n c) (.slice none n' c')).run Tryd.prog w = .ok (.bool a.isNone) w := fun w a n c n' c' => Lib.run_eql_slice_nil w _ _ a n c n' c' Tryd.underlying36
  go_enter Tryd.func105, Tryd.ntmps105
  go_wp2
  go_ret
  exact ⟨_, rfl, Kd.R_nil _ _ _ _ _, Below.refl _ _⟩
 have hnil_ : ∀ (w : World) (a : Option Addr) (n c n' c' : Nat), (binOp .eql 36 (.slice a n c) (.slice none n' c')).run Tryd.prog w = .ok (.bool a.isNone) w := fun w a n c n' c' => Lib.run_eql_slice_nil w _ _ a n c n' c' Tryd.underlying36
 have HR0 := aS hr0
 have HC0 := aS hc0
 clear hr0 hc0
 have HB := aS (Below.refl w.heap.size w)
 have H : ((some (([] : List (S25)) : List (S25))).bind fun y350 => (if y350.length + l0.length < 1954687338268 then (some (y350 ++ l0)) else (none))) = some r := h
 clear h
 obtain ⟨y350, hy_⟩ : ∃ y_ : List (S25), y_ = (([] : List (S25))) := ⟨_, rfl⟩
 replace H : (if y350.length + l0.length < 1954687338268 then (some (y350 ++ l0)) else (none)) = some r := jD
 have Ny350 := aS hy_
 clear hy_
 by_cases c2 : y350.length + l0.length < 1954687338268
 ·rw [if_pos c2] at H
  have LMc2 := aS c2
  clear c2
  obtain ⟨y353, hy_⟩ : ∃ y_ : List (S25), y_ = (y350 ++ l0) := ⟨_, rfl⟩
  replace H : (some y353) = some r := jD
  have Ny353 := aS hy_
  clear hy_
  obtain rfl := Option.some.inj H
  go_enter Tryd.func105, Tryd.ntmps105
  go_wp2_with (first | ((with_reducible refine gate_dst (N := 5) rfl ?_); refine Kd.R_lit k25 _ 25 ?hg (N := 5) ?hd (xs := ([] : List (S25))) (inner := []) (ok := fun _ => True) (okp := fun _ => True) ?hr ?hp (fun _ hk => hk) trivial (Below.refl _ _) (Nat.le_refl _) (by simp) ?_; (case hd => rfl); (case hg => rfl); (case hr => first | (go_simp; done) | (go_simp; rfl)); (case hp => exact (Reps.none _ _)); intro v351 w3 ho4 hb hg_ hnew_; clear hg_ hnew_; (first | rw [← Ny350.out] at ho4 | (simp only [Int.reduceToNat] at ho4; rw [← Ny350.out] at ho4)); have HO352 := aS (Kd.R_lower ho4 (below_size (wU HB.out))); replace HB := aS (below_step (wU HB.out) hb); clear hb ho4) | ((with_reducible refine gate_builtin (b := .append) (xs := #[.tmp 5, .tmp 6]) rfl ?_); at_builtin; refine Kd.R_append_rows k25 (w0 := w) w.heap.size rfl (.tmp 5) (.tmp 6) 36 25 (.agg #[(.string ⟨#[]⟩), (.int .i64 0), (.int .i64 0), (.int .i64 0), (.string ⟨#[]⟩), (.string ⟨#[]⟩)]) 72 rfl Tryd.underlying36 info25 rfl (by decide) (by omega) v351 y350 l0 _ _ _ (fun _ => True) (fun _ => False) rfl rfl ?aO ?aR (fun _ _ h => h) (fun _ h => h.elim) ?aF ?aB ?aS ?aL ?_; (case aR => exact cU ((Kd.C_below HR0.out HB.out))); (case aB => exact (wU HB.out)); (case aF => exact (fun _ _ => trivial)); (case aO => exact (rU HO352.out)); (case aS => exact (below_size (wU HB.out))); (case aL => have := LMc2.out; omega); intro v354 w5 ho hb hg hat; rw [← Ny353.out] at ho; replace HB := aS (hb); have HO355 := aS (ho); clear HO352; clear ho hb hg hat))
  go_ret
  exact ⟨_, jE, by exact rU HO355.out, by exact wU HB.out⟩
 ·rw [if_neg c2] at H
  exact absurd H (by simp)

/-! ### cmp_Or_int: function 137 -/
def cmp_Or_int.l0 : Nat → Int → List Int → Int → Int → Option (Int)
 | 0, _, _, _, _ => none
 | k + 1, x3, x6, x7, x8 => if x8 < x7 then (if 0 ≤ x8 then (if x8 < (x6.length : Int) then (if (rd x6 x8) = x3 then (cmp_Or_int.l0 k x3 x6 x7 (wrap64 (x8 + 1))) else (some (rd x6 x8))) else (none)) else (none)) else (some x3)
def cmp_Or_int.f (k : Nat) (l0 : List Int) : Option (Int) := cmp_Or_int.l0 k 0 l0 (l0.length : Int) 0
theorem cmp_Or_int.mono_l : ∀ k, (∀ y0 y1 y2 y3, LeO (cmp_Or_int.l0 k y0 y1 y2 y3) (cmp_Or_int.l0 (k + 1) y0 y1 y2 y3))
 | 0 => fun _ _ _ _ r h => by simp [cmp_Or_int.l0] at h
 | k + 1 => by
  have ih0 := cmp_Or_int.mono_l k
  ·intro y0 y1 y2 y3
   unfold cmp_Or_int.l0
   repeat' first
   | (with_reducible first | exact ih0 _ _ _ _ | exact LeO.refl _ | exact LeO.none _ | refine LeO.ite ?_ ?_ | refine LeO.bind ?_ (fun _ => ?_))
   | refine LeO.ite ?_ ?_
   | refine LeO.bind ?_ (fun _ => ?_)
theorem cmp_Or_int.mono : ∀ a0 k, LeO (cmp_Or_int.f k a0) (cmp_Or_int.f (k + 1) a0) := by
 intro a0 k
 have ih0 := cmp_Or_int.mono_l k
 unfold cmp_Or_int.f
 repeat' first
   | (with_reducible first | exact ih0 _ _ _ _ | exact LeO.refl _ | exact LeO.none _ | refine LeO.ite ?_ ?_ | refine LeO.bind ?_ (fun _ => ?_))
   | refine LeO.ite ?_ ?_
   | refine LeO.bind ?_ (fun _ => ?_)
set_option maxHeartbeats 8000000 in
set_option maxRecDepth 100000 in
theorem cmp_Or_int.calls (k : Nat) (A0 : Option Addr) (c0 : Nat) (l0 : List Int) (r : Int) (w : World) (hr0 : Kd.C (Kd.int .i64) w A0 l0.length l0) (hc0 : l0.length ≤ c0) (h : cmp_Or_int.f k l0 = some r) :
  Calls Tryd.prog 137 #[.slice A0 l0.length c0] w fun e w' => e = .returned (.int .i64 r) ∧ Drawn0 w w' := by
 have HR0 := aS hr0
 have HC0 := aS hc0
 clear hr0 hc0
 have H : (cmp_Or_int.l0 k 0 l0 (l0.length : Int) 0) = some r := h
 clear h
 have H' := aS H
 clear H
 go_enter Tryd.func137, Tryd.ntmps137
 go_wp2
 go_loopg [8] k (fun kq v8 w' => ∃ (x8_1 : Int), v8 = .int .i64 x8_1 ∧ Aside0 (cmp_Or_int.l0 kq 0 l0 (l0.length : Int) x8_1 = some r) ∧ Aside0 (kq ≤ k) ∧ Drawn0 w w')
 case atStart => exact ⟨(0), jB, H', ⟨Nat.le_refl _⟩, by repeat (first | exact Drawn0.refl _ | apply Drawn0.step)⟩
 case round =>
  clear H'
  try clear c1
  obtain ⟨x8_1, rfl, HA, HK1, ⟨m1, rfl⟩⟩ := hrel
  cases gk with
  | zero => exact absurd HA.out (by simp [cmp_Or_int.l0])
  | succ k1 =>
   have H := HA.out
   clear HA
   simp only [cmp_Or_int.l0] at H
   by_cases c2 : x8_1 < (l0.length : Int)
   ·rw [if_pos c2] at H
    have c2b0 := decide_eq_true c2
    clear c2
    by_cases c3 : 0 ≤ x8_1
    ·rw [if_pos c3] at H
     have c3b0 := decide_eq_true c3
     clear c3
     by_cases c4 : x8_1 < (l0.length : Int)
     ·rw [if_pos c4] at H
      have c4b0 := decide_eq_true c4
      clear c4
      by_cases c5 : (rd l0 x8_1) = 0
      ·rw [if_pos c5] at H
       have c5b0 := beq_iff_eq.mpr c5
       have c5b1 := bne_eq_false_iff_eq.mpr c5
       clear c5
       have H' := aS H
       clear H
       have p356 : 0 ≤ (x8_1 : Int) := of_decide_eq_true jC
       have q356 : x8_1 < (l0.length : Int) := of_decide_eq_true jC
       obtain ⟨ad356, e356, hx356_0⟩ := Kd.at_int HR0.out x8_1 p356 q356
       cases e356
       replace p356 := eq_true p356
       replace q356 := eq_true q356
       go_wp2
       go_roundg k1
       case measure => have := HK1.out; omega
       case rel => exact ⟨(wrap64 (x8_1 + 1)), jB, H', ⟨by have := HK1.out; omega⟩, by repeat (first | exact Drawn0.refl _ | apply Drawn0.step)⟩
      ·rw [if_neg c5] at H
       have c5b0 := beq_eq_false_iff_ne.mpr c5
       have c5b1 := bne_iff_ne.mpr c5
       obtain rfl := Option.some.inj H
       have p356 : 0 ≤ (x8_1 : Int) := of_decide_eq_true jC
       have q356 : x8_1 < (l0.length : Int) := of_decide_eq_true jC
       obtain ⟨ad356, e356, hx356_0⟩ := Kd.at_int HR0.out x8_1 p356 q356
       cases e356
       replace p356 := eq_true p356
       replace q356 := eq_true q356
       go_wp2
       go_ret
       exact ⟨by first | rfl | (simp; done) | (simp [*]; done) | (simp [X.bne_nil, X.beq_nil]; done) | (simp [*, X.bne_nil, X.beq_nil]; done) | (simp [X.bne_nil, X.beq_nil]; done), by repeat (first | exact Drawn0.refl _ | apply Drawn0.step)⟩
     ·rw [if_neg c4] at H
      exact absurd H (by simp)
    ·rw [if_neg c3] at H
     exact absurd H (by simp)
   ·rw [if_neg c2] at H
    have c2b0 := decide_eq_false c2
    clear c2
    obtain rfl := Option.some.inj H
    go_wp2
    go_ret
    exact ⟨by first | rfl | (simp; done) | (simp [*]; done) | (simp [X.bne_nil, X.beq_nil]; done) | (simp [*, X.bne_nil, X.beq_nil]; done) | (simp [X.bne_nil, X.beq_nil]; done), by repeat (first | exact Drawn0.refl _ | apply Drawn0.step)⟩

/-! ### slices_Reverse_string: function 164 -/
def slices_Reverse_string.l0 : Nat → List ByteArray → Int → Int → Option (List ByteArray)
 | 0, _, _, _ => none
 | k + 1, x0, x2, x3 => if x2 < x3 then (if 0 ≤ x3 then (if x3 < (x0.length : Int) then (if 0 ≤ x2 then (if x2 < (x0.length : Int) then (slices_Reverse_string.l0 k ((x0.set (x2 : Int).toNat (rdOf ByteArray.empty x0 x3)).set (x3 : Int).toNat (rdOf ByteArray.empty x0 x2)) (wrap64 (x2 + 1)) (wrap64 (x3 - 1))) else (none)) else (none)) else (none)) else (none)) else (some x0)
def slices_Reverse_string.f (k : Nat) (l0 : List ByteArray) : Option (List ByteArray) := slices_Reverse_string.l0 k l0 0 (wrap64 ((l0.length : Int) - 1))
theorem slices_Reverse_string.mono_l : ∀ k, (∀ y0 y1 y2, LeO (slices_Reverse_string.l0 k y0 y1 y2) (slices_Reverse_string.l0 (k + 1) y0 y1 y2))
 | 0 => fun _ _ _ r h => by simp [slices_Reverse_string.l0] at h
 | k + 1 => by
  have ih0 := slices_Reverse_string.mono_l k
  ·intro y0 y1 y2
   unfold slices_Reverse_string.l0
   repeat' first
   | (with_reducible first | exact ih0 _ _ _ | exact LeO.refl _ | exact LeO.none _ | refine LeO.ite ?_ ?_ | refine LeO.bind ?_ (fun _ => ?_))
   | refine LeO.ite ?_ ?_
   | refine LeO.bind ?_ (fun _ => ?_)
theorem slices_Reverse_string.mono : ∀ a0 k, LeO (slices_Reverse_string.f k a0) (slices_Reverse_string.f (k + 1) a0) := by
 intro a0 k
 have ih0 := slices_Reverse_string.mono_l k
 unfold slices_Reverse_string.f
 repeat' first
   | (with_reducible first | exact ih0 _ _ _ | exact LeO.refl _ | exact LeO.none _ | refine LeO.ite ?_ ?_ | refine LeO.bind ?_ (fun _ => ?_))
   | refine LeO.ite ?_ ?_
   | refine LeO.bind ?_ (fun _ => ?_)
def slices_Reverse_string.T3 : Bool × List (List Nat × List Nat) := (true, [([], []), ([], []), ([], []), ([], []), ([], []), ([], []), ([4, 5], [4, 5]), ([6], [6]), ([], []), ([], []), ([8, 9], [8, 9]), ([10], [10]), ([0, 1, 0, 1, 4, 5, 6, 7, 11], [0, 1]), ([12, 7, 0, 1, 4, 5, 6, 7, 11], [7, 12]), ([2, 3, 0, 1, 2, 3, 4, 5, 6, 7, 8, 9, 10, 11, 12, 13], [2, 3]), ([14, 11, 13, 0, 1, 2, 3, 4, 5, 6, 7, 8, 9, 10, 11, 12, 13], [11, 14])])
def slices_Reverse_string.B3 : List Nat := [0, 0, 0, 0, 0, 0, 48, 112, 0, 0, 768, 1792, 4083, 8179, 16383, 32767]
theorem slices_Reverse_string.tab3 : rtab .any (opsOf Tryd.f164 3) = slices_Reverse_string.T3 := by kernel_rfl
theorem slices_Reverse_string.bits3 : waitsOk slices_Reverse_string.T3.2 slices_Reverse_string.B3 = true := by kernel_rfl
set_option maxHeartbeats 8000000 in
set_option maxRecDepth 100000 in
theorem slices_Reverse_string.calls (k : Nat) (P0_ : Nat → Prop) (u9000_ : Value) (l0 : List ByteArray) (r : List ByteArray) (w0 w : World) (hB : Below w0.heap.size w0 w) (ho0 : Kd.R Kd.string 9 w w0.heap.size P0_ u9000_ l0) (h : slices_Reverse_string.f k l0 = some r) :
  Calls Tryd.prog 164 #[u9000_] w fun e w' => e = .returned (.tuple #[]) ∧ Kd.R Kd.string 9 w' w0.heap.size (fun k_ => (P0_ k_ ∨ w.heap.size ≤ k_)) u9000_ r ∧ Below w0.heap.size w0 w' ∧ Kept w w' (fun k_ => P0_ k_) := by
 have HO0 := aS (show Kd.R Kd.string 9 w w0.heap.size (fun k_ => (P0_ k_ ∨ w.heap.size ≤ k_)) u9000_ l0 from Kd.R_mono ho0 (fun k_ hk => (.inl hk)))
 have HK := aS (Kept.refl w (fun k_ => P0_ k_))
 have HW0 := aS hB.size
 have HB := aS hB
 clear hB
 have H : (slices_Reverse_string.l0 k l0 0 (wrap64 ((l0.length : Int) - 1))) = some r := h
 clear h
 have H' := aS H
 clear H
 obtain ⟨Ao2, co2, eo2⟩ := Kd.R_slice HO0.out
 subst eo2
 go_enter Tryd.func164, Tryd.ntmps164
 go_wp2
 go_loopg [2, 3] k (fun kq v2 v3 w' => ∃ (x0_1 : List ByteArray) (x2_1 : Int) (x3_1 : Int), v2 = .int .i64 x2_1 ∧ v3 = .int .i64 x3_1 ∧ Aside0 (slices_Reverse_string.l0 kq x0_1 x2_1 x3_1 = some r) ∧ Aside0 (kq ≤ k) ∧ Aside0 (Kd.R Kd.string 9 w' w0.heap.size (fun k_ => (P0_ k_ ∨ w.heap.size ≤ k_)) (.slice Ao2 l0.length co2) x0_1) ∧ Aside0 (Kept w w' (fun k_ => P0_ k_)) ∧ Aside0 (Below w0.heap.size w0 w'))
 case atStart => exact ⟨(l0), (0), (wrap64 ((l0.length : Int) - 1)), jB, jB, H', ⟨Nat.le_refl _⟩, ⟨by exact rU HO0.out⟩, ⟨by repeat (first | (with_reducible first | exact HK.out | apply Kept.alloc | apply Kept.drewN | apply Kept.drew) | exact HK.out)⟩, ⟨by exact wU HB.out⟩⟩
 case round =>
  clear H'
  try clear c1
  try clear p2
  obtain ⟨x0_1, x2_1, x3_1, rfl, rfl, HA, HK1, HO_0, HK, HB⟩ := hrel
  have hl0_1 := (Kd.R_reads' HO_0.out).1
  rw [hl0_1] at HO_0
  (try simp only [hl0_1])
  cases gk with
  | zero => exact absurd HA.out (by simp [slices_Reverse_string.l0])
  | succ k1 =>
   have H := HA.out
   clear HA
   simp only [slices_Reverse_string.l0] at H
   by_cases c3 : x2_1 < x3_1
   ·rw [if_pos c3] at H
    have c3b0 := decide_eq_true c3
    clear c3
    by_cases c4 : 0 ≤ x3_1
    ·rw [if_pos c4] at H
     have c4b0 := decide_eq_true c4
     clear c4
     by_cases c5 : x3_1 < (x0_1.length : Int)
     ·rw [if_pos c5] at H
      have c5b0 := decide_eq_true c5
      clear c5
      by_cases c6 : 0 ≤ x2_1
      ·rw [if_pos c6] at H
       have c6b0 := decide_eq_true c6
       clear c6
       by_cases c7 : x2_1 < (x0_1.length : Int)
       ·rw [if_pos c7] at H
        have c7b0 := decide_eq_true c7
        clear c7
        obtain ⟨y359, hy_⟩ : ∃ y_ : List ByteArray, y_ = (x0_1.set (x2_1 : Int).toNat (rdOf ByteArray.empty x0_1 x3_1)) := ⟨_, rfl⟩
        replace H : (slices_Reverse_string.l0 k1 (y359.set (x3_1 : Int).toNat (rdOf ByteArray.empty x0_1 x2_1)) (wrap64 (x2_1 + 1)) (wrap64 (x3_1 - 1))) = some r := jD
        have Ny359 := aS hy_
        clear hy_
        obtain ⟨y360, hy_⟩ : ∃ y_ : List ByteArray, y_ = (y359.set (x3_1 : Int).toNat (rdOf ByteArray.empty x0_1 x2_1)) := ⟨_, rfl⟩
        replace H : (slices_Reverse_string.l0 k1 y360 (wrap64 (x2_1 + 1)) (wrap64 (x3_1 - 1))) = some r := jD
        have Ny360 := aS hy_
        clear hy_
        have H' := aS H
        clear H
        try go_wp2
        replace HO_0 := aS (Kd.R_drew HO_0.out)
        replace HK := aS (Kept.drew HK.out)
        replace HB := aS (below_drew1 HB.out)
        have p357 : 0 ≤ (x3_1 : Int) := of_decide_eq_true jC
        have q357 : x3_1 < (x0_1.length : Int) := of_decide_eq_true jC
        obtain ⟨ad357, e357, hx357_0⟩ := Kd.at_string (Kd.R_reads' HO_0.out).2.2 x3_1 p357 q357
        cases e357
        replace p357 := eq_true p357
        replace q357 := eq_true q357
        have p358 : 0 ≤ (x2_1 : Int) := of_decide_eq_true jC
        have q358 : x2_1 < (x0_1.length : Int) := of_decide_eq_true jC
        obtain ⟨ad358, e358, hx358_0⟩ := Kd.at_string (Kd.R_reads' HO_0.out).2.2 x2_1 p358 q358
        obtain rfl : ad357 = ad358 := (by injection e358)
        replace p358 := eq_true p358
        replace q358 := eq_true q358
        have p8 : 0 ≤ (x2_1 : Int) := of_decide_eq_true jC
        have q8 : (x2_1 : Int) < ((x0_1.length : Int) : Int) := of_decide_eq_true jC
        obtain ⟨go8, co8, eo8, gb8, gl8, cl8, HG8⟩ := Kd.R_form HO_0.out (by omega)
        (first | cases eo8 | (injection eo8 with ea_ en_ ec_; (first | subst ea_ | (injection ea_ with ea_; subst ea_)); subst ec_; clear en_))
        have GB8 := aS gb8
        have GG8 := aS HG8
        clear gb8 gl8 HG8
        have HMgo8 := aS (show (P0_ go8 ∨ w.heap.size ≤ go8) from (HO_0.out.1 _ rfl))
        (first | simp only [add_plain] at hx357_0 | skip)
        (first | simp only [add_plain] at hx358_0 | skip)
        obtain ⟨hx8_0, hf8_0⟩ := Kd.R_celln (⟨#[]⟩ : ByteArray) HO_0.out (x2_1 : Int) p8 q8
        replace p8 := eq_true p8
        replace q8 := eq_true q8
        have HP11 := Kd.R_putn HO_0.out (x2_1 : Int) (rdOf ByteArray.empty x0_1 x3_1)
        rw [← Ny359.out] at HP11
        have HQ11 := aS HP11
        clear HP11
        have p9 : 0 ≤ (x3_1 : Int) := of_decide_eq_true jC
        have q9 : (x3_1 : Int) < ((x0_1.length : Int) : Int) := of_decide_eq_true jC
        obtain ⟨hx9_0, hf9_0⟩ := Kd.R_celln (⟨#[]⟩ : ByteArray) HQ11.out (x3_1 : Int) p9 q9
        replace p9 := eq_true p9
        replace q9 := eq_true q9
        have HP12 := Kd.R_putn HQ11.out (x3_1 : Int) (rdOf ByteArray.empty x0_1 x2_1)
        rw [← Ny360.out] at HP12
        have HQ12 := aS HP12
        clear HP12
        refine start_ (n := 16) (S := fun w' => w'.cell? ⟨go8, (x3_1).toNat, none⟩ = some (.string (rdOf ByteArray.empty x0_1 x3_1)) ∧ w'.cell? ⟨go8, (x2_1).toNat, none⟩ = some (.string (rdOf ByteArray.empty x0_1 x2_1))) (ds := [13, 15]) #[false, false, false, false, false, false, false, false, false, false, false, false, false, false, false, false] jK rfl rfl ⟨hx357_0, hx358_0⟩ (fun hHeld => ?_); refine with_tabW slices_Reverse_string.tab3 slices_Reverse_string.bits3 (fun HT_ HW_ => ?_)
        generalize wr.drew = w10 at HO_0 HK HB GG8 HQ11 HQ12 hf8_0 hf9_0 hx357_0 hx358_0 hx8_0 hx9_0 hHeld ⊢
        refine pA HT_ 0 (some 14) (tf 1 15) ?_
        refine pA HT_ 1 (some 15) (tf 2 14) ?_
        refine pA HT_ 2 (some 16) (tf 3 13) ?_
        refine pA HT_ 3 (some 17) (tf 4 12) ?_
        refine pA HT_ 4 (some 18) (tf 5 11) ?_
        refine pA HT_ 5 (some 19) (tf 6 10) ?_
        refine pA HT_ 6 (some 20) (tf 7 9) ?_
        refine pA HT_ 8 (some 22) #[true, true, true, true, true, true, true, false, true, false, false, false, false, false, false, false] ?_
        refine pA HT_ 9 (some 23) #[true, true, true, true, true, true, true, false, true, true, false, false, false, false, false, false] ?_
        refine pA HT_ 10 (some 24) #[true, true, true, true, true, true, true, false, true, true, true, false, false, false, false, false] ?_
        refine tA HT_ HW_ hHeld 7 (some 21) (tf 11 5) ?_
        refine tA HT_ HW_ hHeld 11 (some 25) (tf 12 4) ?_
        refine pA HT_ 12 (some 26) (tf 13 3) ?_
        refine last_ (i := 13) (N := none) (tf 14 2) rfl rfl (one_of HT_.out jK) (by decide) (fun K hK => ?_)
        with_reducible refine skip_ (w1 := ?_) ?_ ?_ ?_ ?_
        rotate_left
        ·rfl
        ·rfl
        ·go_simp
         rfl
        refine hK.out _ _ ?_
        clear hK K
        refine pA HT_ 14 (some 27) (tf 15 1) ?_
        refine last_ (i := 15) (N := none) (tf 16 0) rfl rfl (one_of HT_.out jK) (by decide) (fun K hK => ?_)
        with_reducible refine skip_ (w1 := ?_) ?_ ?_ ?_ ?_
        rotate_left
        ·rfl
        ·rfl
        ·go_simp
         rfl
        refine hK.out _ _ ?_
        clear hK K
        refine done_ (done_of HT_.out jK) ?_
        try go_wp2
        (try simp only [← hl0_1])
        go_roundg k1
        case measure => have := HK1.out; omega
        case rel => exact ⟨(y360), (wrap64 (x2_1 + 1)), (wrap64 (x3_1 - 1)), jB, jB, H', ⟨by have := HK1.out; omega⟩, ⟨by (try simp only [hl0_1]); (with_reducible repeat (first | apply Kd.R_alloc | apply Kd.R_drewN | apply Kd.R_drew)); exact HQ12.out⟩, ⟨by repeat (first | (with_reducible first | exact HK.out | apply Kept.alloc | apply Kept.drewN | apply Kept.drew | refine Kept.setCell ?_ HMgo8.out _ | refine Kept.setCell ?_ HMgo8.out _) | exact HK.out)⟩, ⟨by exact wS2 HB.out GB8.out GB8.out⟩⟩
       ·rw [if_neg c7] at H
        exact absurd H (by simp)
      ·rw [if_neg c6] at H
       exact absurd H (by simp)
     ·rw [if_neg c5] at H
      exact absurd H (by simp)
    ·rw [if_neg c4] at H
     exact absurd H (by simp)
   ·rw [if_neg c3] at H
    have c3b0 := decide_eq_false c3
    clear c3
    obtain rfl := Option.some.inj H
    go_wp2
    first | go_end0 | ((try simp only [Exit.inBlock, Exit.then]); refine bodyPost_ret (results_none rfl _ _ _) rfl ?_)
    exact ⟨jE, (by first | exact (rU HO_0.out) | (simp only [hl0_1]; exact (rU HO_0.out))), by exact wU HB.out, by repeat (first | (with_reducible first | exact HK.out | apply Kept.alloc | apply Kept.drewN | apply Kept.drew) | exact HK.out)⟩

/-! ### cmp_isNaN_string: function 156 -/
def cmp_isNaN_string.f (a0 : ByteArray) : Option (Bool) := some (a0.toList != a0.toList)
set_option maxHeartbeats 8000000 in
set_option maxRecDepth 100000 in
theorem cmp_isNaN_string.calls (a0 : ByteArray) (r : Bool) (w : World) (h : cmp_isNaN_string.f a0 = some r) :
  Calls Tryd.prog 156 #[.string a0] w fun e w' => e = .returned (.bool r) ∧ Drawn0 w w' := by
 have H : (some (a0.toList != a0.toList)) = some r := h
 clear h
 obtain rfl := Option.some.inj H
 go_enter Tryd.func156, Tryd.ntmps156
 go_wp2
 go_ret
 exact ⟨by first | rfl | (simp; done) | (simp [*]; done) | (simp [X.bne_nil, X.beq_nil]; done) | (simp [*, X.bne_nil, X.beq_nil]; done) | (simp [X.bne_nil, X.beq_nil]; done), by repeat (first | exact Drawn0.refl _ | apply Drawn0.step)⟩

/-! ### cmp_Compare_string: function 140 -/
def cmp_Compare_string.f (a0 : ByteArray) (a1 : ByteArray) : Option (Int) := (cmp_isNaN_string.f a0).bind fun t361 => ((cmp_isNaN_string.f a1).bind fun t362 => (if t361 = true then (if t362 = true then (some 0) else (some (-1))) else (if t362 = true then (some 1) else (if (Op.bytesLess a0.toList a1.toList) = true then (some (-1)) else (if (!(Op.bytesLess a0.toList a1.toList || a0.toList == a1.toList)) = true then (some 1) else (some 0))))))
set_option maxHeartbeats 8000000 in
set_option maxRecDepth 100000 in
theorem cmp_Compare_string.calls (a0 : ByteArray) (a1 : ByteArray) (r : Int) (w : World) (h : cmp_Compare_string.f a0 a1 = some r) :
  Calls Tryd.prog 140 #[.string a0, .string a1] w fun e w' => e = .returned (.int .i64 r) ∧ Drawn0 w w' := by
 have H : ((cmp_isNaN_string.f a0).bind fun t361 => ((cmp_isNaN_string.f a1).bind fun t362 => (if t361 = true then (if t362 = true then (some 0) else (some (-1))) else (if t362 = true then (some 1) else (if (Op.bytesLess a0.toList a1.toList) = true then (some (-1)) else (if (!(Op.bytesLess a0.toList a1.toList || a0.toList == a1.toList)) = true then (some 1) else (some 0))))))) = some r := h
 clear h
 obtain ⟨t361, A3, H⟩ := bM H
 try dsimp only at H
 obtain ⟨t362, A4, H⟩ := bM H
 try dsimp only at H
 have HC5 := aS H
 clear H
 go_enter Tryd.func140, Tryd.ntmps140
 go_upto_if 11 with (first | ((with_reducible refine gate_callee (f := 156) rfl ?_); refine gL (some 8) Tryd.func156 #[.string a0] ?_; (with_reducible refine (cmp_isNaN_string.calls a0 t361 _ A3.out).mono ?_); rintro e w' ⟨rfl, ⟨nd, rfl⟩⟩; refine ⟨_, rfl, ?_⟩) | ((with_reducible refine gate_callee (f := 156) rfl ?_); refine gL (some 10) Tryd.func156 #[.string a1] ?_; (with_reducible refine (cmp_isNaN_string.calls a1 t362 _ A4.out).mono ?_); rintro e w' ⟨rfl, ⟨nd, rfl⟩⟩; refine ⟨_, rfl, ?_⟩))
 (try simp only [Act.put, List.setIfInBounds_toArray, List.set_cons_zero, List.set_cons_succ])
 have H := HC5.out
 clear HC5
 by_cases c6 : t361 = true
 ·subst c6
  rw [if_pos rfl] at H
  by_cases c7 : t362 = true
  ·subst c7
   rw [if_pos rfl] at H
   obtain rfl := Option.some.inj H
   go_wp2
   go_ret
   exact ⟨by first | rfl | (simp; done) | (simp [*]; done) | (simp [X.bne_nil, X.beq_nil]; done) | (simp [*, X.bne_nil, X.beq_nil]; done) | (simp [X.bne_nil, X.beq_nil]; done), by repeat (first | exact Drawn0.refl _ | apply Drawn0.step)⟩
  ·replace c7 := Bool.eq_false_iff.mpr c7
   subst c7
   rw [if_neg Bool.false_ne_true] at H
   obtain rfl := Option.some.inj H
   go_wp2
   go_ret
   exact ⟨by first | rfl | (simp; done) | (simp [*]; done) | (simp [X.bne_nil, X.beq_nil]; done) | (simp [*, X.bne_nil, X.beq_nil]; done) | (simp [X.bne_nil, X.beq_nil]; done), by repeat (first | exact Drawn0.refl _ | apply Drawn0.step)⟩
 ·replace c6 := Bool.eq_false_iff.mpr c6
  subst c6
  rw [if_neg Bool.false_ne_true] at H
  by_cases c8 : t362 = true
  ·subst c8
   rw [if_pos rfl] at H
   obtain rfl := Option.some.inj H
   go_wp2
   go_ret
   exact ⟨by first | rfl | (simp; done) | (simp [*]; done) | (simp [X.bne_nil, X.beq_nil]; done) | (simp [*, X.bne_nil, X.beq_nil]; done) | (simp [X.bne_nil, X.beq_nil]; done), by repeat (first | exact Drawn0.refl _ | apply Drawn0.step)⟩
  ·replace c8 := Bool.eq_false_iff.mpr c8
   subst c8
   rw [if_neg Bool.false_ne_true] at H
   by_cases c9 : (Op.bytesLess a0.toList a1.toList) = true
   ·rw [if_pos c9] at H
    have c9b0 : (Op.bytesLess a0.toList a1.toList) = true := c9
    clear c9
    (first | rw [c9b0] | (simp only [i64_w, i32_w]; rw [c9b0]) | skip)
    obtain rfl := Option.some.inj H
    go_wp2
    go_ret
    exact ⟨by first | rfl | (simp; done) | (simp [*]; done) | (simp [X.bne_nil, X.beq_nil]; done) | (simp [*, X.bne_nil, X.beq_nil]; done) | (simp [X.bne_nil, X.beq_nil]; done), by repeat (first | exact Drawn0.refl _ | apply Drawn0.step)⟩
   ·rw [if_neg c9] at H
    have c9b0 : (Op.bytesLess a0.toList a1.toList) = false := by simpa using c9
    clear c9
    (first | rw [c9b0] | (simp only [i64_w, i32_w]; rw [c9b0]) | skip)
    by_cases c10 : (!(Op.bytesLess a0.toList a1.toList || a0.toList == a1.toList)) = true
    ·rw [if_pos c10] at H
     have c10b0 : (!(Op.bytesLess a0.toList a1.toList || a0.toList == a1.toList)) = true := c10
     (try (have c10b9 : (!(a0.toList == a1.toList)) = true := by simp_all))
     clear c10
     obtain rfl := Option.some.inj H
     go_wp2
     go_ret
     exact ⟨by first | rfl | (simp; done) | (simp [*]; done) | (simp [X.bne_nil, X.beq_nil]; done) | (simp [*, X.bne_nil, X.beq_nil]; done) | (simp [X.bne_nil, X.beq_nil]; done), by repeat (first | exact Drawn0.refl _ | apply Drawn0.step)⟩
    ·rw [if_neg c10] at H
     have c10b0 : (!(Op.bytesLess a0.toList a1.toList || a0.toList == a1.toList)) = false := by simpa using c10
     (try (have c10b9 : (!(a0.toList == a1.toList)) = false := by simp_all))
     clear c10
     obtain rfl := Option.some.inj H
     go_wp2
     go_ret
     exact ⟨by first | rfl | (simp; done) | (simp [*]; done) | (simp [X.bne_nil, X.beq_nil]; done) | (simp [*, X.bne_nil, X.beq_nil]; done) | (simp [X.bne_nil, X.beq_nil]; done), by repeat (first | exact Drawn0.refl _ | apply Drawn0.step)⟩

end Go.Proofs.YtdigilidomimdaaDoor.Pr
