-- Written for this claim by a program of this session (wip/tool/pr.py, over the kit's printer).
-- half
import Derived.Test.YtdigilidomimdaaDoorPrx0
import Derived.Test.YtdigilidomimdaaDoorPrx2
import Derived.Test.YtdigilidomimdaaDoorPrx5
import Derived.Test.YtdigilidomimdaaDoorPrx6
namespace Go.Proofs.YtdigilidomimdaaDoor.Pr
open Go.RowKit Go.Proofs.YtdigilidomimdaaDoorW.PrintWords Go.Proofs.YtdigilidomimdaaDoorW.PrintLast Go.Proofs.YtdigilidomimdaaDoorW.PrintMore
attribute [local go_sem] max2_int min2_int max_two min_two max_three min_three max_four min_four   -- for this text's walks alone
set_option linter.unusedVariables false
set_option linter.unusedSimpArgs false

/-! ### spec_l3Any: function 112 -/
def spec_l3Any.f (s0_0 : List Int) (s0_1 : Int) (s0_2 : Int) : Option (ByteArray × Int × Int) := (spec_l1Once.f s0_0 s0_1 s0_2 5).bind fun bt363 => (if bt363.1 = true then ((spec_l1Str.f s0_0 bt363.2.1 bt363.2.2 (([(⟨#[46]⟩ : ByteArray), (⟨#[97, 46]⟩ : ByteArray), (⟨#[65, 46, 99, 111, 109]⟩ : ByteArray), (⟨#[97, 46, 46, 98]⟩ : ByteArray), (⟨#[97, 46, 98, 46, 99, 46, 100, 46, 101, 46, 102]⟩ : ByteArray), (⟨#[97, 46, 98, 46, 99, 46, 100, 46, 101, 46, 102, 46, 103]⟩ : ByteArray), (⟨#[116, 119, 101, 108, 118, 101, 98, 121, 116, 101, 115, 48, 46, 116, 119, 101, 108, 118, 101, 98, 121, 116, 101, 115, 48, 46, 116, 119, 101, 108, 118, 101, 98, 121, 116, 101, 115, 48, 46, 116, 119, 101, 108, 118, 101, 98, 121, 116, 101, 115, 48]⟩ : ByteArray), (⟨#[116, 104, 105, 114, 116, 101, 101, 110, 98, 121, 116, 101, 115, 46, 97]⟩ : ByteArray)] : List ByteArray))).bind fun bt369 => (some (bt369.1, bt369.2.1, bt369.2.2))) else ((spec_l3Name.f s0_0 bt363.2.1 bt363.2.2).bind fun bt372 => (some (bt372.1, bt372.2.1, bt372.2.2))))
set_option maxHeartbeats 8000000 in
set_option maxRecDepth 100000 in
theorem spec_l3Any.calls (g : Nat) (s0_0 : List Int) (s0_1 : Int) (s0_2 : Int) (r1 : ByteArray) (r2 : Int) (r3 : Int) (w0 w : World) (hI : IsS111 w0 w g s0_0 s0_1 s0_2) (hB : Below w0.heap.size w0 w) (h : spec_l3Any.f s0_0 s0_1 s0_2 = some (r1, r2, r3)) :
  Calls Tryd.prog 112 #[.pointer (some ⟨g, 0, none⟩)] w fun e w' => e = .returned (.string r1) ∧ IsS111 w0 w' g s0_0 r2 r3 ∧ Below w0.heap.size w0 w' ∧ KeepBut w w' g none := by
 have HI0 := aS hI
 have HK := aS (KeepBut.refl w g none)
 have HL := aS hB.size
 clear hI
 have HW0 := aS hB.size
 have HB := aS hB
 clear hB
 have H : ((spec_l1Once.f s0_0 s0_1 s0_2 5).bind fun bt363 => (if bt363.1 = true then ((spec_l1Str.f s0_0 bt363.2.1 bt363.2.2 (([(⟨#[46]⟩ : ByteArray), (⟨#[97, 46]⟩ : ByteArray), (⟨#[65, 46, 99, 111, 109]⟩ : ByteArray), (⟨#[97, 46, 46, 98]⟩ : ByteArray), (⟨#[97, 46, 98, 46, 99, 46, 100, 46, 101, 46, 102]⟩ : ByteArray), (⟨#[97, 46, 98, 46, 99, 46, 100, 46, 101, 46, 102, 46, 103]⟩ : ByteArray), (⟨#[116, 119, 101, 108, 118, 101, 98, 121, 116, 101, 115, 48, 46, 116, 119, 101, 108, 118, 101, 98, 121, 116, 101, 115, 48, 46, 116, 119, 101, 108, 118, 101, 98, 121, 116, 101, 115, 48, 46, 116, 119, 101, 108, 118, 101, 98, 121, 116, 101, 115, 48]⟩ : ByteArray), (⟨#[116, 104, 105, 114, 116, 101, 101, 110, 98, 121, 116, 101, 115, 46, 97]⟩ : ByteArray)] : List ByteArray))).bind fun bt369 => (some (bt369.1, bt369.2.1, bt369.2.2))) else ((spec_l3Name.f s0_0 bt363.2.1 bt363.2.2).bind fun bt372 => (some (bt372.1, bt372.2.1, bt372.2.2))))) = some (r1, r2, r3) := h
 clear h
 replace H := Option.bind_eq_some_iff.mp H
 obtain ⟨⟨t363, t364, t365⟩, A2, H⟩ := H
 try dsimp only at H
 replace A2 := aS A2
 by_cases c3 : t363 = true
 ·subst c3
  have H1 : ((spec_l1Str.f s0_0 t364 t365 (([(⟨#[46]⟩ : ByteArray), (⟨#[97, 46]⟩ : ByteArray), (⟨#[65, 46, 99, 111, 109]⟩ : ByteArray), (⟨#[97, 46, 46, 98]⟩ : ByteArray), (⟨#[97, 46, 98, 46, 99, 46, 100, 46, 101, 46, 102]⟩ : ByteArray), (⟨#[97, 46, 98, 46, 99, 46, 100, 46, 101, 46, 102, 46, 103]⟩ : ByteArray), (⟨#[116, 119, 101, 108, 118, 101, 98, 121, 116, 101, 115, 48, 46, 116, 119, 101, 108, 118, 101, 98, 121, 116, 101, 115, 48, 46, 116, 119, 101, 108, 118, 101, 98, 121, 116, 101, 115, 48, 46, 116, 119, 101, 108, 118, 101, 98, 121, 116, 101, 115, 48]⟩ : ByteArray), (⟨#[116, 104, 105, 114, 116, 101, 101, 110, 98, 121, 116, 101, 115, 46, 97]⟩ : ByteArray)] : List ByteArray))).bind fun bt369 => (some (bt369.1, bt369.2.1, bt369.2.2))) = some (r1, r2, r3) := by rw [if_pos rfl] at H; exact H
  clear H
  have H := H1
  clear H1
  obtain ⟨y366, hy_⟩ : ∃ y_ : List ByteArray, y_ = (([(⟨#[46]⟩ : ByteArray), (⟨#[97, 46]⟩ : ByteArray), (⟨#[65, 46, 99, 111, 109]⟩ : ByteArray), (⟨#[97, 46, 46, 98]⟩ : ByteArray), (⟨#[97, 46, 98, 46, 99, 46, 100, 46, 101, 46, 102]⟩ : ByteArray), (⟨#[97, 46, 98, 46, 99, 46, 100, 46, 101, 46, 102, 46, 103]⟩ : ByteArray), (⟨#[116, 119, 101, 108, 118, 101, 98, 121, 116, 101, 115, 48, 46, 116, 119, 101, 108, 118, 101, 98, 121, 116, 101, 115, 48, 46, 116, 119, 101, 108, 118, 101, 98, 121, 116, 101, 115, 48, 46, 116, 119, 101, 108, 118, 101, 98, 121, 116, 101, 115, 48]⟩ : ByteArray), (⟨#[116, 104, 105, 114, 116, 101, 101, 110, 98, 121, 116, 101, 115, 46, 97]⟩ : ByteArray)] : List ByteArray)) := ⟨_, rfl⟩
  replace H : ((spec_l1Str.f s0_0 t364 t365 y366).bind fun bt369 => (some (bt369.1, bt369.2.1, bt369.2.2))) = some (r1, r2, r3) := jD
  have Ny366 := aS hy_
  clear hy_
  replace H := Option.bind_eq_some_iff.mp H
  obtain ⟨⟨t369, t370, t371⟩, A4, H⟩ := H
  try dsimp only at H
  replace A4 := aS A4
  simp only [Option.some.injEq, Prod.mk.injEq] at H
  obtain ⟨rfl, rfl, rfl⟩ := H
  go_enter Tryd.func112, Tryd.ntmps112
  go_wp2_with (first | ((with_reducible refine gate_callee (f := 76) rfl ?_); refine goesL_ (some 4) rfl rfl Tryd.func76 jK rfl #[.pointer (some ⟨g, 0, none⟩), .int .i64 5] rfl jA ?_; (with_reducible refine (spec_l1Once.calls g s0_0 s0_1 s0_2 5 true t364 t365 w0 _ ?side1 ?side2 A2.out).mono ?_); (case side1 => exact IsS111.iS0 HI0.out); (case side2 => exact wS1 HB.out (IsS111.ge HI0.out)); rintro e w5 ⟨rfl, hi, hb, hk⟩; refine ⟨_, rfl, ?_⟩; have n0_ := aS (KeepBut.trans (kS0 HK.out) hk (.inl rfl)); have n1_ := aS (hb); have n2_ := aS (hi); clear HK HB HI0; revert n0_ n1_ n2_; intro HK HB HI0; clear hi hb hk) | ((with_reducible refine gate_dst (N := 6) rfl ?_); refine Kd.R_lit Kd.string _ 9 ?hg (N := 6) ?hd (xs := ([(⟨#[46]⟩ : ByteArray), (⟨#[97, 46]⟩ : ByteArray), (⟨#[65, 46, 99, 111, 109]⟩ : ByteArray), (⟨#[97, 46, 46, 98]⟩ : ByteArray), (⟨#[97, 46, 98, 46, 99, 46, 100, 46, 101, 46, 102]⟩ : ByteArray), (⟨#[97, 46, 98, 46, 99, 46, 100, 46, 101, 46, 102, 46, 103]⟩ : ByteArray), (⟨#[116, 119, 101, 108, 118, 101, 98, 121, 116, 101, 115, 48, 46, 116, 119, 101, 108, 118, 101, 98, 121, 116, 101, 115, 48, 46, 116, 119, 101, 108, 118, 101, 98, 121, 116, 101, 115, 48, 46, 116, 119, 101, 108, 118, 101, 98, 121, 116, 101, 115, 48]⟩ : ByteArray), (⟨#[116, 104, 105, 114, 116, 101, 101, 110, 98, 121, 116, 101, 115, 46, 97]⟩ : ByteArray)] : List ByteArray)) (inner := [.string (⟨#[46]⟩ : ByteArray), .string (⟨#[97, 46]⟩ : ByteArray), .string (⟨#[65, 46, 99, 111, 109]⟩ : ByteArray), .string (⟨#[97, 46, 46, 98]⟩ : ByteArray), .string (⟨#[97, 46, 98, 46, 99, 46, 100, 46, 101, 46, 102]⟩ : ByteArray), .string (⟨#[97, 46, 98, 46, 99, 46, 100, 46, 101, 46, 102, 46, 103]⟩ : ByteArray), .string (⟨#[116, 119, 101, 108, 118, 101, 98, 121, 116, 101, 115, 48, 46, 116, 119, 101, 108, 118, 101, 98, 121, 116, 101, 115, 48, 46, 116, 119, 101, 108, 118, 101, 98, 121, 116, 101, 115, 48, 46, 116, 119, 101, 108, 118, 101, 98, 121, 116, 101, 115, 48]⟩ : ByteArray), .string (⟨#[116, 104, 105, 114, 116, 101, 101, 110, 98, 121, 116, 101, 115, 46, 97]⟩ : ByteArray)]) (ok := fun _ => True) (okp := fun _ => True) ?hr ?hp (fun _ hk => hk) trivial (Below.refl _ _) (Nat.le_refl _) (by simp) ?_; (case hd => rfl); (case hg => rfl); (case hr => first | (go_simp; done) | (go_simp; rfl)); (case hp => exact (Reps.one (show Kd.M Kd.string _ _ _ (⟨#[46]⟩ : ByteArray) [.string (⟨#[46]⟩ : ByteArray)] from rfl) (Reps.one (show Kd.M Kd.string _ _ _ (⟨#[97, 46]⟩ : ByteArray) [.string (⟨#[97, 46]⟩ : ByteArray)] from rfl) (Reps.one (show Kd.M Kd.string _ _ _ (⟨#[65, 46, 99, 111, 109]⟩ : ByteArray) [.string (⟨#[65, 46, 99, 111, 109]⟩ : ByteArray)] from rfl) (Reps.one (show Kd.M Kd.string _ _ _ (⟨#[97, 46, 46, 98]⟩ : ByteArray) [.string (⟨#[97, 46, 46, 98]⟩ : ByteArray)] from rfl) (Reps.one (show Kd.M Kd.string _ _ _ (⟨#[97, 46, 98, 46, 99, 46, 100, 46, 101, 46, 102]⟩ : ByteArray) [.string (⟨#[97, 46, 98, 46, 99, 46, 100, 46, 101, 46, 102]⟩ : ByteArray)] from rfl) (Reps.one (show Kd.M Kd.string _ _ _ (⟨#[97, 46, 98, 46, 99, 46, 100, 46, 101, 46, 102, 46, 103]⟩ : ByteArray) [.string (⟨#[97, 46, 98, 46, 99, 46, 100, 46, 101, 46, 102, 46, 103]⟩ : ByteArray)] from rfl) (Reps.one (show Kd.M Kd.string _ _ _ (⟨#[116, 119, 101, 108, 118, 101, 98, 121, 116, 101, 115, 48, 46, 116, 119, 101, 108, 118, 101, 98, 121, 116, 101, 115, 48, 46, 116, 119, 101, 108, 118, 101, 98, 121, 116, 101, 115, 48, 46, 116, 119, 101, 108, 118, 101, 98, 121, 116, 101, 115, 48]⟩ : ByteArray) [.string (⟨#[116, 119, 101, 108, 118, 101, 98, 121, 116, 101, 115, 48, 46, 116, 119, 101, 108, 118, 101, 98, 121, 116, 101, 115, 48, 46, 116, 119, 101, 108, 118, 101, 98, 121, 116, 101, 115, 48, 46, 116, 119, 101, 108, 118, 101, 98, 121, 116, 101, 115, 48]⟩ : ByteArray)] from rfl) (Reps.one (show Kd.M Kd.string _ _ _ (⟨#[116, 104, 105, 114, 116, 101, 101, 110, 98, 121, 116, 101, 115, 46, 97]⟩ : ByteArray) [.string (⟨#[116, 104, 105, 114, 116, 101, 101, 110, 98, 121, 116, 101, 115, 46, 97]⟩ : ByteArray)] from rfl) (Reps.none _ _)))))))))); intro v367 w6 ho7 hb hg_ hnew_; clear hg_ hnew_; (first | rw [← Ny366.out] at ho7 | (simp only [Int.reduceToNat] at ho7; rw [← Ny366.out] at ho7)); have n0_ := aS (Kd.R_lower ho7 (keep_size (w := w) (g := g) (row := none) (kS0 HK.out))); have n1_ := aS (IsS111.below (IsS111.iS0 HI0.out) hb); have n2_ := aS (KeepBut.trans (kS0 HK.out) (KeepBut.of_below hb g none) (.inl rfl)); have n3_ := aS (below_step (by exact wS1 HB.out (IsS111.ge HI0.out)) hb); clear HI0 HK HB; revert n0_ n1_ n2_ n3_; intro HO368 HI0 HK HB; clear hb ho7; obtain ⟨Ao8, co8, eo8⟩ := Kd.R_slice HO368.out; subst eo8) | ((with_reducible refine gate_callee (f := 113) rfl ?_); refine goesL_ (some 7) rfl rfl Tryd.func113 jK rfl #[.pointer (some ⟨g, 0, none⟩), .slice Ao8 y366.length co8] rfl jA ?_; (with_reducible refine (spec_l1Str.calls g s0_0 t364 t365 _ _ y366 t369 t370 t371 w0 _ ?side1 ?side2 ?side3 ?side4 ?side5 A4.out).mono ?_); (case side1 => exact IsS111.iS0 HI0.out); (case side2 => exact wS1 HB.out (IsS111.ge HI0.out)); (case side3 => exact cU ((Kd.R_reads' HO368.out).2.2)); (case side4 => exact (Kd.R_reads' HO368.out).2.1); (case side5 => exact far_slice (IsS111.own_ne HI0.out HO368.out (by decide))); rintro e w9 ⟨rfl, hi, hb, hk⟩; refine ⟨_, rfl, ?_⟩; have n0_ := aS (Kd.R_mono (Kd.R_keep (IsS111.apart (show IsS111 w0 _ g s0_0 t364 t365 from by exact IsS111.iS0 HI0.out) (rU HO368.out) (by decide)) hk (fun _ h => h.2)) (fun _ h => h.1)); have n1_ := aS (KeepBut.trans (kS0 HK.out) hk (.inl rfl)); have n2_ := aS (hb); have n3_ := aS (hi); clear HO368 HK HB HI0; revert n0_ n1_ n2_ n3_; intro HO368 HK HB HI0; clear hi hb hk))
  go_ret
  exact ⟨jE, by exact IsS111.iS0 HI0.out, by exact wS1 HB.out (IsS111.ge HI0.out), by exact kS0 HK.out⟩
 ·replace c3 := Bool.eq_false_iff.mpr c3
  subst c3
  have H1 : ((spec_l3Name.f s0_0 t364 t365).bind fun bt372 => (some (bt372.1, bt372.2.1, bt372.2.2))) = some (r1, r2, r3) := by rw [if_neg (show ¬ (false = true) by decide)] at H; exact H
  clear H
  have H := H1
  clear H1
  replace H := Option.bind_eq_some_iff.mp H
  obtain ⟨⟨t372, t373, t374⟩, A10, H⟩ := H
  try dsimp only at H
  replace A10 := aS A10
  simp only [Option.some.injEq, Prod.mk.injEq] at H
  obtain ⟨rfl, rfl, rfl⟩ := H
  go_enter Tryd.func112, Tryd.ntmps112
  go_wp2_with (first | ((with_reducible refine gate_callee (f := 76) rfl ?_); refine goesL_ (some 4) rfl rfl Tryd.func76 jK rfl #[.pointer (some ⟨g, 0, none⟩), .int .i64 5] rfl jA ?_; (with_reducible refine (spec_l1Once.calls g s0_0 s0_1 s0_2 5 false t364 t365 w0 _ ?side1 ?side2 A2.out).mono ?_); (case side1 => exact IsS111.iS0 HI0.out); (case side2 => exact wS1 HB.out (IsS111.ge HI0.out)); rintro e w11 ⟨rfl, hi, hb, hk⟩; refine ⟨_, rfl, ?_⟩; have n0_ := aS (KeepBut.trans (kS0 HK.out) hk (.inl rfl)); have n1_ := aS (hb); have n2_ := aS (hi); clear HK HB HI0; revert n0_ n1_ n2_; intro HK HB HI0; clear hi hb hk) | ((with_reducible refine gate_callee (f := 85) rfl ?_); refine goesL_ (some 9) rfl rfl Tryd.func85 jK rfl #[.pointer (some ⟨g, 0, none⟩)] rfl jA ?_; (with_reducible refine (spec_l3Name.calls g s0_0 t364 t365 t372 t373 t374 w0 _ ?side1 ?side2 A10.out).mono ?_); (case side1 => exact IsS111.iS0 HI0.out); (case side2 => exact wS1 HB.out (IsS111.ge HI0.out)); rintro e w12 ⟨rfl, hi, hb, hk⟩; refine ⟨_, rfl, ?_⟩; have n0_ := aS (KeepBut.trans (kS0 HK.out) hk (.inl rfl)); have n1_ := aS (hb); have n2_ := aS (hi); clear HK HB HI0; revert n0_ n1_ n2_; intro HK HB HI0; clear hi hb hk))
  go_ret
  exact ⟨jE, by exact IsS111.iS0 HI0.out, by exact wS1 HB.out (IsS111.ge HI0.out), by exact kS0 HK.out⟩

/-! ### spec_l5Any: function 58 -/
def spec_l5Any.f (k : Nat) (s0_0 : List Int) (s0_1 : Int) (s0_2 : Int) : Option (ByteArray × Int × Int × Int × ByteArray × ByteArray × Int × Int) := (spec_l5Draw.f k s0_0 s0_1 s0_2).bind fun bt376 => ((spec_l1Below.f s0_0 bt376.2.2.2.2.2.2.1 bt376.2.2.2.2.2.2.2 12).bind fun bt385 => (if bt385.1 = 0 then ((spec_l3Any.f s0_0 bt385.2.1 bt385.2.2).bind fun bt388 => (some (bt388.1, bt376.2.1, bt376.2.2.1, bt376.2.2.2.1, bt376.2.2.2.2.1, bt376.2.2.2.2.2.1, bt388.2.1, bt388.2.2))) else (if bt385.1 = 1 then ((spec_l1Int.f s0_0 bt385.2.1 bt385.2.2 (([0, 3, 15, 1, 2, 6] : List Int))).bind fun bt394 => (some (bt376.1, bt394.1, bt376.2.2.1, bt376.2.2.2.1, bt376.2.2.2.2.1, bt376.2.2.2.2.2.1, bt394.2.1, bt394.2.2))) else (if bt385.1 = 2 then ((spec_l1Int.f s0_0 bt385.2.1 bt385.2.2 (([(-1), 100000, 100001] : List Int))).bind fun bt400 => (some (bt376.1, bt376.2.1, bt400.1, bt376.2.2.2.1, bt376.2.2.2.2.1, bt376.2.2.2.2.2.1, bt400.2.1, bt400.2.2))) else (if bt385.1 = 3 then ((spec_l1Int.f s0_0 bt385.2.1 bt385.2.2 (([(-1), 2147483647, 2147483648, 100001, 0] : List Int))).bind fun bt406 => (some (bt376.1, bt376.2.1, bt376.2.2.1, bt406.1, bt376.2.2.2.2.1, bt376.2.2.2.2.2.1, bt406.2.1, bt406.2.2))) else (if bt385.1 = 4 then ((spec_l3Any.f s0_0 bt385.2.1 bt385.2.2).bind fun bt409 => (some (bt376.1, bt376.2.1, bt376.2.2.1, bt376.2.2.2.1, bt409.1, bt376.2.2.2.2.2.1, bt409.2.1, bt409.2.2))) else (if bt385.1 = 5 then ((spec_l1Str.f s0_0 bt385.2.1 bt385.2.2 (([(⟨#[32]⟩ : ByteArray), (⟨#[127]⟩ : ByteArray), (⟨#[116, 104, 105, 114, 116, 101, 101, 110, 98, 121, 116, 101, 115]⟩ : ByteArray), (⟨#[120]⟩ : ByteArray)] : List ByteArray))).bind fun bt415 => (some (bt376.1, bt376.2.1, bt376.2.2.1, bt376.2.2.2.1, bt376.2.2.2.2.1, bt415.1, bt415.2.1, bt415.2.2))) else (some (bt376.1, bt376.2.1, bt376.2.2.1, bt376.2.2.2.1, bt376.2.2.2.2.1, bt376.2.2.2.2.2.1, bt385.2.1, bt385.2.2)))))))))
theorem spec_l5Any.mono : ∀ a0 a1 a2 k, LeO (spec_l5Any.f k a0 a1 a2) (spec_l5Any.f (k + 1) a0 a1 a2) := by
 intro a0 a1 a2 k
 unfold spec_l5Any.f
 repeat' first
   | (with_reducible first | exact spec_l5Draw.mono _ _ _ _ | exact LeO.refl _ | exact LeO.none _ | refine LeO.ite ?_ ?_ | refine LeO.bind ?_ (fun _ => ?_))
   | exact spec_l5Draw.mono _ _ _ _
   | exact LeO.none _
   | refine LeO.ite ?_ ?_
   | refine LeO.bind ?_ (fun _ => ?_)
set_option maxHeartbeats 8000000 in
set_option maxRecDepth 100000 in
theorem spec_l5Any.calls (k : Nat) (g : Nat) (s0_0 : List Int) (s0_1 : Int) (s0_2 : Int) (r1 : ByteArray) (r2 : Int) (r3 : Int) (r4 : Int) (r5 : ByteArray) (r6 : ByteArray) (r7 : Int) (r8 : Int) (w0 w : World) (hI : IsS111 w0 w g s0_0 s0_1 s0_2) (hB : Below w0.heap.size w0 w) (h : spec_l5Any.f k s0_0 s0_1 s0_2 = some (r1, r2, r3, r4, r5, r6, r7, r8)) :
  Calls Tryd.prog 58 #[.pointer (some ⟨g, 0, none⟩)] w fun e w' => e = .returned (.agg #[.string r1, .int .i64 r2, .int .i64 r3, .int .i64 r4, .string r5, .string r6]) ∧ IsS111 w0 w' g s0_0 r7 r8 ∧ Below w0.heap.size w0 w' ∧ KeepBut w w' g none := by
 have hu25 := Tryd.underlying25
 have HI0 := aS hI
 have HK := aS (KeepBut.refl w g none)
 have HL := aS hB.size
 clear hI
 have HW0 := aS hB.size
 have HB := aS hB
 clear hB
 have H : ((spec_l5Draw.f k s0_0 s0_1 s0_2).bind fun bt376 => ((spec_l1Below.f s0_0 bt376.2.2.2.2.2.2.1 bt376.2.2.2.2.2.2.2 12).bind fun bt385 => (if bt385.1 = 0 then ((spec_l3Any.f s0_0 bt385.2.1 bt385.2.2).bind fun bt388 => (some (bt388.1, bt376.2.1, bt376.2.2.1, bt376.2.2.2.1, bt376.2.2.2.2.1, bt376.2.2.2.2.2.1, bt388.2.1, bt388.2.2))) else (if bt385.1 = 1 then ((spec_l1Int.f s0_0 bt385.2.1 bt385.2.2 (([0, 3, 15, 1, 2, 6] : List Int))).bind fun bt394 => (some (bt376.1, bt394.1, bt376.2.2.1, bt376.2.2.2.1, bt376.2.2.2.2.1, bt376.2.2.2.2.2.1, bt394.2.1, bt394.2.2))) else (if bt385.1 = 2 then ((spec_l1Int.f s0_0 bt385.2.1 bt385.2.2 (([(-1), 100000, 100001] : List Int))).bind fun bt400 => (some (bt376.1, bt376.2.1, bt400.1, bt376.2.2.2.1, bt376.2.2.2.2.1, bt376.2.2.2.2.2.1, bt400.2.1, bt400.2.2))) else (if bt385.1 = 3 then ((spec_l1Int.f s0_0 bt385.2.1 bt385.2.2 (([(-1), 2147483647, 2147483648, 100001, 0] : List Int))).bind fun bt406 => (some (bt376.1, bt376.2.1, bt376.2.2.1, bt406.1, bt376.2.2.2.2.1, bt376.2.2.2.2.2.1, bt406.2.1, bt406.2.2))) else (if bt385.1 = 4 then ((spec_l3Any.f s0_0 bt385.2.1 bt385.2.2).bind fun bt409 => (some (bt376.1, bt376.2.1, bt376.2.2.1, bt376.2.2.2.1, bt409.1, bt376.2.2.2.2.2.1, bt409.2.1, bt409.2.2))) else (if bt385.1 = 5 then ((spec_l1Str.f s0_0 bt385.2.1 bt385.2.2 (([(⟨#[32]⟩ : ByteArray), (⟨#[127]⟩ : ByteArray), (⟨#[116, 104, 105, 114, 116, 101, 101, 110, 98, 121, 116, 101, 115]⟩ : ByteArray), (⟨#[120]⟩ : ByteArray)] : List ByteArray))).bind fun bt415 => (some (bt376.1, bt376.2.1, bt376.2.2.1, bt376.2.2.2.1, bt376.2.2.2.2.1, bt415.1, bt415.2.1, bt415.2.2))) else (some (bt376.1, bt376.2.1, bt376.2.2.1, bt376.2.2.2.1, bt376.2.2.2.2.1, bt376.2.2.2.2.2.1, bt385.2.1, bt385.2.2)))))))))) = some (r1, r2, r3, r4, r5, r6, r7, r8) := h
 clear h
 replace H := Option.bind_eq_some_iff.mp H
 obtain ⟨⟨t376, t377, t378, t379, t380, t381, t382, t383⟩, A2, H⟩ := H
 try dsimp only at H
 replace A2 := aS A2
 replace H := Option.bind_eq_some_iff.mp H
 obtain ⟨⟨t385, t386, t387⟩, A3, H⟩ := H
 try dsimp only at H
 replace A3 := aS A3
 have HC4 := aS H
 clear H
 go_enter Tryd.func58, Tryd.ntmps58
 go_upto_if 8 with (first | ((with_reducible refine gate_dst (N := 2) rfl ?_); refine box_event ?hg (N := 2) ?hd (cs := #[.string (⟨#[]⟩ : ByteArray), .int .i64 0, .int .i64 0, .int .i64 0, .string (⟨#[]⟩ : ByteArray), .string (⟨#[]⟩ : ByteArray)]) (t := 25) ?hr ?_; (case hd => rfl); (case hg => rfl); (case hr => first | (go_simp; done) | (go_simp; rfl)); intro gb375 hg w5 hbox hb; have n0_ := aS (IsS111.below (IsS111.iS0 HI0.out) hb); have n1_ := aS (KeepBut.trans (kS0 HK.out) (KeepBut.of_below hb g none) (.inl rfl)); have n2_ := aS (below_step (by exact wS1 HB.out (IsS111.ge HI0.out)) hb); have n3_ := aS (hbox); have n4_ := aS ((by rw [hg]; exact (keep_size (w := w) (g := g) (row := none) (kS0 HK.out)) : w.heap.size ≤ gb375)); have n5_ := aS ((Nat.le_trans HW0.out (by rw [hg]; exact (keep_size (w := w) (g := g) (row := none) (kS0 HK.out)) : w.heap.size ≤ gb375) : w0.heap.size ≤ gb375)); have n6_ := aS ((by rw [hg]; exact Nat.ne_of_lt (IsS111.lt (show IsS111 w0 _ g s0_0 s0_1 s0_2 from by exact IsS111.iS0 HI0.out)) : g ≠ gb375)); have n7_ := aS ((by rw [hg]; exact Nat.ne_of_gt (IsS111.lt (show IsS111 w0 _ g s0_0 s0_1 s0_2 from by exact IsS111.iS0 HI0.out)) : gb375 ≠ g)); clear HI0 HK HB; revert n0_ n1_ n2_ n3_ n4_ n5_ n6_ n7_; intro HI0 HK HB BK375 GW375 GE375 NB0_375 NB375_0; clear hb hbox hg) | ((with_reducible refine gate_callee (f := 79) rfl ?_); refine goesL_ (some 5) rfl rfl Tryd.func79 jK rfl #[.pointer (some ⟨g, 0, none⟩)] rfl jA ?_; (with_reducible refine (spec_l5Draw.calls k g s0_0 s0_1 s0_2 t376 t377 t378 t379 t380 t381 t382 t383 w0 _ ?side1 ?side2 A2.out).mono ?_); (case side1 => exact IsS111.iS1 HI0.out NB0_375.out); (case side2 => exact wS2 HB.out (IsS111.ge HI0.out) GE375.out); rintro e w6 ⟨rfl, hi, hb, hk⟩; refine ⟨_, rfl, ?_⟩; have n0_ := aS (KeepBut.blk hk (g' := gb375) (o := .cells #[.string (⟨#[]⟩ : ByteArray), .int .i64 0, .int .i64 0, .int .i64 0, .string (⟨#[]⟩ : ByteArray), .string (⟨#[]⟩ : ByteArray)] 25 (0, 0)) (bU BK375.out) NB375_0.out (by simp)); have n1_ := aS (KeepBut.trans (kS1 HK.out GW375.out) hk (.inl rfl)); have n2_ := aS (hb); have n3_ := aS (hi); clear BK375 HK HB HI0; revert n0_ n1_ n2_ n3_; intro BK375 HK HB HI0; clear hi hb hk) | ((with_reducible refine gate_dst (N := 3) rfl ?_); refine box_event ?hg (N := 3) ?hd (cs := #[.string (⟨#[]⟩ : ByteArray), .int .i64 0, .int .i64 0, .int .i64 0, .string (⟨#[]⟩ : ByteArray), .string (⟨#[]⟩ : ByteArray)]) (t := 25) ?hr ?_; (case hd => rfl); (case hg => rfl); (case hr => first | (go_simp; done) | (go_simp; rfl)); intro gb384 hg w7 hbox hb; have n0_ := aS (IsS111.below (IsS111.iS1 HI0.out NB0_375.out) hb); have n1_ := aS (blk_below (bU BK375.out) hb); have n2_ := aS (KeepBut.trans (kS1 HK.out GW375.out) (KeepBut.of_below hb g none) (.inl rfl)); have n3_ := aS (below_step (by exact wS2 HB.out (IsS111.ge HI0.out) GE375.out) hb); have n4_ := aS (hbox); have n5_ := aS ((by rw [hg]; exact (keep_size (w := w) (g := g) (row := none) (kS1 HK.out GW375.out)) : w.heap.size ≤ gb384)); have n6_ := aS ((Nat.le_trans HW0.out (by rw [hg]; exact (keep_size (w := w) (g := g) (row := none) (kS1 HK.out GW375.out)) : w.heap.size ≤ gb384) : w0.heap.size ≤ gb384)); have n7_ := aS ((by rw [hg]; exact Nat.ne_of_lt (blk_lt (bU BK375.out)) : gb375 ≠ gb384)); have n8_ := aS ((by rw [hg]; exact Nat.ne_of_gt (blk_lt (bU BK375.out)) : gb384 ≠ gb375)); have n9_ := aS ((by rw [hg]; exact Nat.ne_of_lt (IsS111.lt (show IsS111 w0 _ g s0_0 t382 t383 from by exact IsS111.iS1 HI0.out NB0_375.out)) : g ≠ gb384)); have n10_ := aS ((by rw [hg]; exact Nat.ne_of_gt (IsS111.lt (show IsS111 w0 _ g s0_0 t382 t383 from by exact IsS111.iS1 HI0.out NB0_375.out)) : gb384 ≠ g)); clear HI0 BK375 HK HB; revert n0_ n1_ n2_ n3_ n4_ n5_ n6_ n7_ n8_ n9_ n10_; intro HI0 BK375 HK HB BK384 GW384 GE384 NB375_384 NB384_375 NB0_384 NB384_0; clear hb hbox hg; have hnb8 := NB384_375.out; have hnc8 := NB375_384.out; have hnb9 := NB384_0.out; have hnc9 := NB0_384.out; have hcz10 := cells6f BK384.out) | ((with_reducible refine gate_callee (f := 78) rfl ?_); refine goesL_ (some 7) rfl rfl Tryd.func78 jK rfl #[.pointer (some ⟨g, 0, none⟩), .int .i64 12] rfl jA ?_; (with_reducible refine (spec_l1Below.calls g s0_0 t382 t383 12 t385 t386 t387 w0 _ ?side1 ?side2 A3.out).mono ?_); (case side1 => exact IsS111.iS2 HI0.out NB0_375.out NB0_384.out); (case side2 => exact wS3 HB.out (IsS111.ge HI0.out) GE375.out GE384.out); rintro e w11 ⟨rfl, hi, hb, hk⟩; refine ⟨_, rfl, ?_⟩; have n0_ := aS (KeepBut.blk hk (g' := gb375) (o := .cells #[.string (⟨#[]⟩ : ByteArray), .int .i64 0, .int .i64 0, .int .i64 0, .string (⟨#[]⟩ : ByteArray), .string (⟨#[]⟩ : ByteArray)] 25 (0, 0)) (by (iterate 6 ((with_reducible repeat (first | refine blk_drewN ?_ _ | refine blk_drew ?_ | refine blk_alloc ?_ _)); refine blk_far ?_ NB375_384.out _)); (with_reducible repeat (first | refine blk_drewN ?_ _ | refine blk_drew ?_ | refine blk_alloc ?_ _)); exact BK375.out) NB375_0.out (by simp)); have n1_ := aS (KeepBut.blk hk (g' := gb384) (o := .cells #[.string t376, .int .i64 t377, .int .i64 t378, .int .i64 t379, .string t380, .string t381] 25 (0, 0)) (by (with_reducible repeat (first | refine blk_drewN ?_ _ | refine blk_drew ?_ | refine blk_alloc ?_ _)); refine blk_put_6 (.string (⟨#[]⟩ : ByteArray)) (.int .i64 0) (.int .i64 0) (.int .i64 0) (.string (⟨#[]⟩ : ByteArray)) (.string (⟨#[]⟩ : ByteArray)) ?_; (with_reducible repeat (first | refine blk_drewN ?_ _ | refine blk_drew ?_ | refine blk_alloc ?_ _)); exact BK384.out) NB384_0.out (by simp)); have n2_ := aS (KeepBut.trans (kS2 HK.out GW375.out GW384.out) hk (.inl rfl)); have n3_ := aS (hb); have n4_ := aS (hi); clear BK375 BK384 HK HB HI0; revert n0_ n1_ n2_ n3_ n4_; intro BK375 BK384 HK HB HI0; clear hi hb hk))
 (try simp only [Act.put, List.setIfInBounds_toArray, List.set_cons_zero, List.set_cons_succ])
 have H := HC4.out
 clear HC4
 by_cases c12 : t385 = 0
 ·rw [if_pos c12] at H
  have c12b0 : (t385 == 0) = true := beq_iff_eq.mpr c12
  have c12b1 : (t385 != 0) = false := bne_eq_false_iff_eq.mpr c12
  clear c12
  (first | rw [c12b0] | (simp only [i64_w, i32_w]; rw [c12b0]) | skip)
  replace H := Option.bind_eq_some_iff.mp H
  obtain ⟨⟨t388, t389, t390⟩, A13, H⟩ := H
  try dsimp only at H
  replace A13 := aS A13
  simp only [Option.some.injEq, Prod.mk.injEq] at H
  obtain ⟨rfl, rfl, rfl, rfl, rfl, rfl, rfl, rfl⟩ := H
  go_wp2_with (first | ((with_reducible refine gate_callee (f := 112) rfl ?_); refine goesL_ (some 11) rfl rfl Tryd.func112 jK rfl #[.pointer (some ⟨g, 0, none⟩)] rfl jA ?_; (with_reducible refine (spec_l3Any.calls g s0_0 t386 t387 t388 t389 t390 w0 _ ?side1 ?side2 A13.out).mono ?_); (case side1 => exact IsS111.iS2 HI0.out NB0_375.out NB0_384.out); (case side2 => exact wS3 HB.out (IsS111.ge HI0.out) GE375.out GE384.out); rintro e w14 ⟨rfl, hi, hb, hk⟩; refine ⟨_, rfl, ?_⟩; have n0_ := aS (KeepBut.blk hk (g' := gb375) (o := .cells #[.string (⟨#[]⟩ : ByteArray), .int .i64 0, .int .i64 0, .int .i64 0, .string (⟨#[]⟩ : ByteArray), .string (⟨#[]⟩ : ByteArray)] 25 (0, 0)) (bU BK375.out) NB375_0.out (by simp)); have n1_ := aS (KeepBut.blk hk (g' := gb384) (o := .cells #[.string t376, .int .i64 t377, .int .i64 t378, .int .i64 t379, .string t380, .string t381] 25 (0, 0)) (bU BK384.out) NB384_0.out (by simp)); have n2_ := aS (KeepBut.trans (kS2 HK.out GW375.out GW384.out) hk (.inl rfl)); have n3_ := aS (hb); have n4_ := aS (hi); clear BK375 BK384 HK HB HI0; revert n0_ n1_ n2_ n3_ n4_; intro BK375 BK384 HK HB HI0; clear hi hb hk; have hnb15 := NB384_375.out; have hnc15 := NB375_384.out; have hnb16 := NB384_0.out; have hnc16 := NB0_384.out; have hcz17 := cells6f BK384.out; have hnb18 := NB375_0.out; have hnc18 := NB0_375.out; have hcz19 := cells6f BK375.out))
  refine bodyPost_ret (results_cell_row rfl _ _ gb375 25 #[.string t388, .int .i64 t377, .int .i64 t378, .int .i64 t379, .string t380, .string t381] (0, 0) _ rfl (by (with_reducible repeat (first | refine blk_drewN ?_ _ | refine blk_drew ?_ | refine blk_alloc ?_ _)); refine blk_put_6 (.string (⟨#[]⟩ : ByteArray)) (.int .i64 0) (.int .i64 0) (.int .i64 0) (.string (⟨#[]⟩ : ByteArray)) (.string (⟨#[]⟩ : ByteArray)) ?_; (with_reducible repeat (first | refine blk_drewN ?_ _ | refine blk_drew ?_ | refine blk_alloc ?_ _)); refine blk_far ?_ NB375_384.out _; (with_reducible repeat (first | refine blk_drewN ?_ _ | refine blk_drew ?_ | refine blk_alloc ?_ _)); exact BK375.out) Tryd.underlying25 rfl jK) rfl ?_
  exact ⟨jE, by exact IsS111.iS2 HI0.out NB0_375.out NB0_384.out, by exact wS3 HB.out (IsS111.ge HI0.out) GE375.out GE384.out, by exact kS2 HK.out GW375.out GW384.out⟩
 ·rw [if_neg c12] at H
  have c12b0 : (t385 == 0) = false := beq_eq_false_iff_ne.mpr c12
  have c12b1 : (t385 != 0) = true := bne_iff_ne.mpr c12
  (first | rw [c12b0] | (simp only [i64_w, i32_w]; rw [c12b0]) | skip)
  by_cases c20 : t385 = 1
  ·rw [if_pos c20] at H
   have c20b0 : (t385 == 1) = true := beq_iff_eq.mpr c20
   have c20b1 : (t385 != 1) = false := bne_eq_false_iff_eq.mpr c20
   clear c20
   obtain ⟨y391, hy_⟩ : ∃ y_ : List Int, y_ = (([0, 3, 15, 1, 2, 6] : List Int)) := ⟨_, rfl⟩
   rw [← hy_] at H
   have Ny391 := aS hy_
   clear hy_
   replace H := Option.bind_eq_some_iff.mp H
   obtain ⟨⟨t394, t395, t396⟩, A21, H⟩ := H
   try dsimp only at H
   replace A21 := aS A21
   simp only [Option.some.injEq, Prod.mk.injEq] at H
   obtain ⟨rfl, rfl, rfl, rfl, rfl, rfl, rfl, rfl⟩ := H
   go_wp2_with (first | ((with_reducible refine gate_dst (N := 16) rfl ?_); refine Kd.R_lit (Kd.int .i64) _ 3 ?hg (N := 16) ?hd (xs := ([0, 3, 15, 1, 2, 6] : List Int)) (inner := [.int .i64 0, .int .i64 3, .int .i64 15, .int .i64 1, .int .i64 2, .int .i64 6]) (ok := fun _ => True) (okp := fun _ => True) ?hr ?hp (fun _ hk => hk) trivial (Below.refl _ _) (Nat.le_refl _) (by simp) ?_; (case hd => rfl); (case hg => rfl); (case hr => first | (go_simp; done) | (go_simp; rfl)); (case hp => exact (Reps.one (show Kd.M (Kd.int .i64) _ _ _ 0 [.int .i64 0] from rfl) (Reps.one (show Kd.M (Kd.int .i64) _ _ _ 3 [.int .i64 3] from rfl) (Reps.one (show Kd.M (Kd.int .i64) _ _ _ 15 [.int .i64 15] from rfl) (Reps.one (show Kd.M (Kd.int .i64) _ _ _ 1 [.int .i64 1] from rfl) (Reps.one (show Kd.M (Kd.int .i64) _ _ _ 2 [.int .i64 2] from rfl) (Reps.one (show Kd.M (Kd.int .i64) _ _ _ 6 [.int .i64 6] from rfl) (Reps.none _ _)))))))); intro v392 w22 ho23 hb hg_ hnew_; clear hg_ hnew_; (first | rw [← Ny391.out] at ho23 | (simp only [Int.reduceToNat] at ho23; rw [← Ny391.out] at ho23)); have n0_ := aS (Kd.R_lower ho23 (keep_size (w := w) (g := g) (row := none) (kS2 HK.out GW375.out GW384.out))); have n1_ := aS (IsS111.below (IsS111.iS2 HI0.out NB0_375.out NB0_384.out) hb); have n2_ := aS (blk_below (bU BK375.out) hb); have n3_ := aS (blk_below (bU BK384.out) hb); have n4_ := aS (KeepBut.trans (kS2 HK.out GW375.out GW384.out) (KeepBut.of_below hb g none) (.inl rfl)); have n5_ := aS (below_step (by exact wS3 HB.out (IsS111.ge HI0.out) GE375.out GE384.out) hb); clear HI0 BK375 BK384 HK HB; revert n0_ n1_ n2_ n3_ n4_ n5_; intro HO393 HI0 BK375 BK384 HK HB; clear hb ho23; obtain ⟨Ao24, co24, eo24⟩ := Kd.R_slice HO393.out; subst eo24) | ((with_reducible refine gate_callee (f := 81) rfl ?_); refine goesL_ (some 17) rfl rfl Tryd.func81 jK rfl #[.pointer (some ⟨g, 0, none⟩), .slice Ao24 y391.length co24] rfl jA ?_; (with_reducible refine (spec_l1Int.calls g s0_0 t386 t387 _ _ y391 t394 t395 t396 w0 _ ?side1 ?side2 ?side3 ?side4 ?side5 A21.out).mono ?_); (case side1 => exact IsS111.iS2 HI0.out NB0_375.out NB0_384.out); (case side2 => exact wS3 HB.out (IsS111.ge HI0.out) GE375.out GE384.out); (case side3 => exact cU ((Kd.R_reads' HO393.out).2.2)); (case side4 => exact (Kd.R_reads' HO393.out).2.1); (case side5 => exact far_slice (IsS111.own_ne HI0.out HO393.out (by decide))); rintro e w25 ⟨rfl, hi, hb, hk⟩; refine ⟨_, rfl, ?_⟩; have n0_ := aS (KeepBut.blk hk (g' := gb375) (o := .cells #[.string (⟨#[]⟩ : ByteArray), .int .i64 0, .int .i64 0, .int .i64 0, .string (⟨#[]⟩ : ByteArray), .string (⟨#[]⟩ : ByteArray)] 25 (0, 0)) (bU BK375.out) NB375_0.out (by simp)); have n1_ := aS (KeepBut.blk hk (g' := gb384) (o := .cells #[.string t376, .int .i64 t377, .int .i64 t378, .int .i64 t379, .string t380, .string t381] 25 (0, 0)) (bU BK384.out) NB384_0.out (by simp)); have n2_ := aS (Kd.R_mono (Kd.R_keep (IsS111.apart (show IsS111 w0 _ g s0_0 t386 t387 from by exact IsS111.iS2 HI0.out NB0_375.out NB0_384.out) (rU HO393.out) (by decide)) hk (fun _ h => h.2)) (fun _ h => h.1)); have n3_ := aS (KeepBut.trans (kS2 HK.out GW375.out GW384.out) hk (.inl rfl)); have n4_ := aS (hb); have n5_ := aS (hi); clear BK375 BK384 HO393 HK HB HI0; revert n0_ n1_ n2_ n3_ n4_ n5_; intro BK375 BK384 HO393 HK HB HI0; clear hi hb hk; have hnb26 := NB384_375.out; have hnc26 := NB375_384.out; have hnb27 := NB384_0.out; have hnc27 := NB0_384.out; have hcz28 := cells6f BK384.out; have hnb29 := NB375_0.out; have hnc29 := NB0_375.out; have hcz30 := cells6f BK375.out))
   refine bodyPost_ret (results_cell_row rfl _ _ gb375 25 #[.string t376, .int .i64 t394, .int .i64 t378, .int .i64 t379, .string t380, .string t381] (0, 0) _ rfl (by (with_reducible repeat (first | refine blk_drewN ?_ _ | refine blk_drew ?_ | refine blk_alloc ?_ _)); refine blk_put_6 (.string (⟨#[]⟩ : ByteArray)) (.int .i64 0) (.int .i64 0) (.int .i64 0) (.string (⟨#[]⟩ : ByteArray)) (.string (⟨#[]⟩ : ByteArray)) ?_; (with_reducible repeat (first | refine blk_drewN ?_ _ | refine blk_drew ?_ | refine blk_alloc ?_ _)); refine blk_far ?_ NB375_384.out _; (with_reducible repeat (first | refine blk_drewN ?_ _ | refine blk_drew ?_ | refine blk_alloc ?_ _)); exact BK375.out) Tryd.underlying25 rfl jK) rfl ?_
   exact ⟨jE, by exact IsS111.iS2 HI0.out NB0_375.out NB0_384.out, by exact wS3 HB.out (IsS111.ge HI0.out) GE375.out GE384.out, by exact kS2 HK.out GW375.out GW384.out⟩
  ·rw [if_neg c20] at H
   have c20b0 : (t385 == 1) = false := beq_eq_false_iff_ne.mpr c20
   have c20b1 : (t385 != 1) = true := bne_iff_ne.mpr c20
   by_cases c31 : t385 = 2
   ·rw [if_pos c31] at H
    have c31b0 : (t385 == 2) = true := beq_iff_eq.mpr c31
    have c31b1 : (t385 != 2) = false := bne_eq_false_iff_eq.mpr c31
    clear c31
    obtain ⟨y397, hy_⟩ : ∃ y_ : List Int, y_ = (([(-1), 100000, 100001] : List Int)) := ⟨_, rfl⟩
    rw [← hy_] at H
    have Ny397 := aS hy_
    clear hy_
    replace H := Option.bind_eq_some_iff.mp H
    obtain ⟨⟨t400, t401, t402⟩, A32, H⟩ := H
    try dsimp only at H
    replace A32 := aS A32
    simp only [Option.some.injEq, Prod.mk.injEq] at H
    obtain ⟨rfl, rfl, rfl, rfl, rfl, rfl, rfl, rfl⟩ := H
    go_wp2_with (first | ((with_reducible refine gate_dst (N := 22) rfl ?_); refine Kd.R_lit (Kd.int .i64) _ 3 ?hg (N := 22) ?hd (xs := ([(-1), 100000, 100001] : List Int)) (inner := [.int .i64 (-1), .int .i64 100000, .int .i64 100001]) (ok := fun _ => True) (okp := fun _ => True) ?hr ?hp (fun _ hk => hk) trivial (Below.refl _ _) (Nat.le_refl _) (by simp) ?_; (case hd => rfl); (case hg => rfl); (case hr => first | (go_simp; done) | (go_simp; rfl)); (case hp => exact (Reps.one (show Kd.M (Kd.int .i64) _ _ _ (-1) [.int .i64 (-1)] from rfl) (Reps.one (show Kd.M (Kd.int .i64) _ _ _ 100000 [.int .i64 100000] from rfl) (Reps.one (show Kd.M (Kd.int .i64) _ _ _ 100001 [.int .i64 100001] from rfl) (Reps.none _ _))))); intro v398 w33 ho34 hb hg_ hnew_; clear hg_ hnew_; (first | rw [← Ny397.out] at ho34 | (simp only [Int.reduceToNat] at ho34; rw [← Ny397.out] at ho34)); have n0_ := aS (Kd.R_lower ho34 (keep_size (w := w) (g := g) (row := none) (kS2 HK.out GW375.out GW384.out))); have n1_ := aS (IsS111.below (IsS111.iS2 HI0.out NB0_375.out NB0_384.out) hb); have n2_ := aS (blk_below (bU BK375.out) hb); have n3_ := aS (blk_below (bU BK384.out) hb); have n4_ := aS (KeepBut.trans (kS2 HK.out GW375.out GW384.out) (KeepBut.of_below hb g none) (.inl rfl)); have n5_ := aS (below_step (by exact wS3 HB.out (IsS111.ge HI0.out) GE375.out GE384.out) hb); clear HI0 BK375 BK384 HK HB; revert n0_ n1_ n2_ n3_ n4_ n5_; intro HO399 HI0 BK375 BK384 HK HB; clear hb ho34; obtain ⟨Ao35, co35, eo35⟩ := Kd.R_slice HO399.out; subst eo35) | ((with_reducible refine gate_callee (f := 81) rfl ?_); refine goesL_ (some 23) rfl rfl Tryd.func81 jK rfl #[.pointer (some ⟨g, 0, none⟩), .slice Ao35 y397.length co35] rfl jA ?_; (with_reducible refine (spec_l1Int.calls g s0_0 t386 t387 _ _ y397 t400 t401 t402 w0 _ ?side1 ?side2 ?side3 ?side4 ?side5 A32.out).mono ?_); (case side1 => exact IsS111.iS2 HI0.out NB0_375.out NB0_384.out); (case side2 => exact wS3 HB.out (IsS111.ge HI0.out) GE375.out GE384.out); (case side3 => exact cU ((Kd.R_reads' HO399.out).2.2)); (case side4 => exact (Kd.R_reads' HO399.out).2.1); (case side5 => exact far_slice (IsS111.own_ne HI0.out HO399.out (by decide))); rintro e w36 ⟨rfl, hi, hb, hk⟩; refine ⟨_, rfl, ?_⟩; have n0_ := aS (KeepBut.blk hk (g' := gb375) (o := .cells #[.string (⟨#[]⟩ : ByteArray), .int .i64 0, .int .i64 0, .int .i64 0, .string (⟨#[]⟩ : ByteArray), .string (⟨#[]⟩ : ByteArray)] 25 (0, 0)) (bU BK375.out) NB375_0.out (by simp)); have n1_ := aS (KeepBut.blk hk (g' := gb384) (o := .cells #[.string t376, .int .i64 t377, .int .i64 t378, .int .i64 t379, .string t380, .string t381] 25 (0, 0)) (bU BK384.out) NB384_0.out (by simp)); have n2_ := aS (Kd.R_mono (Kd.R_keep (IsS111.apart (show IsS111 w0 _ g s0_0 t386 t387 from by exact IsS111.iS2 HI0.out NB0_375.out NB0_384.out) (rU HO399.out) (by decide)) hk (fun _ h => h.2)) (fun _ h => h.1)); have n3_ := aS (KeepBut.trans (kS2 HK.out GW375.out GW384.out) hk (.inl rfl)); have n4_ := aS (hb); have n5_ := aS (hi); clear BK375 BK384 HO399 HK HB HI0; revert n0_ n1_ n2_ n3_ n4_ n5_; intro BK375 BK384 HO399 HK HB HI0; clear hi hb hk; have hnb37 := NB384_375.out; have hnc37 := NB375_384.out; have hnb38 := NB384_0.out; have hnc38 := NB0_384.out; have hcz39 := cells6f BK384.out; have hnb40 := NB375_0.out; have hnc40 := NB0_375.out; have hcz41 := cells6f BK375.out))
    refine bodyPost_ret (results_cell_row rfl _ _ gb375 25 #[.string t376, .int .i64 t377, .int .i64 t400, .int .i64 t379, .string t380, .string t381] (0, 0) _ rfl (by (with_reducible repeat (first | refine blk_drewN ?_ _ | refine blk_drew ?_ | refine blk_alloc ?_ _)); refine blk_put_6 (.string (⟨#[]⟩ : ByteArray)) (.int .i64 0) (.int .i64 0) (.int .i64 0) (.string (⟨#[]⟩ : ByteArray)) (.string (⟨#[]⟩ : ByteArray)) ?_; (with_reducible repeat (first | refine blk_drewN ?_ _ | refine blk_drew ?_ | refine blk_alloc ?_ _)); refine blk_far ?_ NB375_384.out _; (with_reducible repeat (first | refine blk_drewN ?_ _ | refine blk_drew ?_ | refine blk_alloc ?_ _)); exact BK375.out) Tryd.underlying25 rfl jK) rfl ?_
    exact ⟨jE, by exact IsS111.iS2 HI0.out NB0_375.out NB0_384.out, by exact wS3 HB.out (IsS111.ge HI0.out) GE375.out GE384.out, by exact kS2 HK.out GW375.out GW384.out⟩
   ·rw [if_neg c31] at H
    have c31b0 : (t385 == 2) = false := beq_eq_false_iff_ne.mpr c31
    have c31b1 : (t385 != 2) = true := bne_iff_ne.mpr c31
    by_cases c42 : t385 = 3
    ·rw [if_pos c42] at H
     have c42b0 : (t385 == 3) = true := beq_iff_eq.mpr c42
     have c42b1 : (t385 != 3) = false := bne_eq_false_iff_eq.mpr c42
     clear c42
     obtain ⟨y403, hy_⟩ : ∃ y_ : List Int, y_ = (([(-1), 2147483647, 2147483648, 100001, 0] : List Int)) := ⟨_, rfl⟩
     rw [← hy_] at H
     have Ny403 := aS hy_
     clear hy_
     replace H := Option.bind_eq_some_iff.mp H
     obtain ⟨⟨t406, t407, t408⟩, A43, H⟩ := H
     try dsimp only at H
     replace A43 := aS A43
     simp only [Option.some.injEq, Prod.mk.injEq] at H
     obtain ⟨rfl, rfl, rfl, rfl, rfl, rfl, rfl, rfl⟩ := H
     go_wp2_with (first | ((with_reducible refine gate_dst (N := 28) rfl ?_); refine Kd.R_lit (Kd.int .i64) _ 3 ?hg (N := 28) ?hd (xs := ([(-1), 2147483647, 2147483648, 100001, 0] : List Int)) (inner := [.int .i64 (-1), .int .i64 2147483647, .int .i64 2147483648, .int .i64 100001, .int .i64 0]) (ok := fun _ => True) (okp := fun _ => True) ?hr ?hp (fun _ hk => hk) trivial (Below.refl _ _) (Nat.le_refl _) (by simp) ?_; (case hd => rfl); (case hg => rfl); (case hr => first | (go_simp; done) | (go_simp; rfl)); (case hp => exact (Reps.one (show Kd.M (Kd.int .i64) _ _ _ (-1) [.int .i64 (-1)] from rfl) (Reps.one (show Kd.M (Kd.int .i64) _ _ _ 2147483647 [.int .i64 2147483647] from rfl) (Reps.one (show Kd.M (Kd.int .i64) _ _ _ 2147483648 [.int .i64 2147483648] from rfl) (Reps.one (show Kd.M (Kd.int .i64) _ _ _ 100001 [.int .i64 100001] from rfl) (Reps.one (show Kd.M (Kd.int .i64) _ _ _ 0 [.int .i64 0] from rfl) (Reps.none _ _))))))); intro v404 w44 ho45 hb hg_ hnew_; clear hg_ hnew_; (first | rw [← Ny403.out] at ho45 | (simp only [Int.reduceToNat] at ho45; rw [← Ny403.out] at ho45)); have n0_ := aS (Kd.R_lower ho45 (keep_size (w := w) (g := g) (row := none) (kS2 HK.out GW375.out GW384.out))); have n1_ := aS (IsS111.below (IsS111.iS2 HI0.out NB0_375.out NB0_384.out) hb); have n2_ := aS (blk_below (bU BK375.out) hb); have n3_ := aS (blk_below (bU BK384.out) hb); have n4_ := aS (KeepBut.trans (kS2 HK.out GW375.out GW384.out) (KeepBut.of_below hb g none) (.inl rfl)); have n5_ := aS (below_step (by exact wS3 HB.out (IsS111.ge HI0.out) GE375.out GE384.out) hb); clear HI0 BK375 BK384 HK HB; revert n0_ n1_ n2_ n3_ n4_ n5_; intro HO405 HI0 BK375 BK384 HK HB; clear hb ho45; obtain ⟨Ao46, co46, eo46⟩ := Kd.R_slice HO405.out; subst eo46) | ((with_reducible refine gate_callee (f := 81) rfl ?_); refine goesL_ (some 29) rfl rfl Tryd.func81 jK rfl #[.pointer (some ⟨g, 0, none⟩), .slice Ao46 y403.length co46] rfl jA ?_; (with_reducible refine (spec_l1Int.calls g s0_0 t386 t387 _ _ y403 t406 t407 t408 w0 _ ?side1 ?side2 ?side3 ?side4 ?side5 A43.out).mono ?_); (case side1 => exact IsS111.iS2 HI0.out NB0_375.out NB0_384.out); (case side2 => exact wS3 HB.out (IsS111.ge HI0.out) GE375.out GE384.out); (case side3 => exact cU ((Kd.R_reads' HO405.out).2.2)); (case side4 => exact (Kd.R_reads' HO405.out).2.1); (case side5 => exact far_slice (IsS111.own_ne HI0.out HO405.out (by decide))); rintro e w47 ⟨rfl, hi, hb, hk⟩; refine ⟨_, rfl, ?_⟩; have n0_ := aS (KeepBut.blk hk (g' := gb375) (o := .cells #[.string (⟨#[]⟩ : ByteArray), .int .i64 0, .int .i64 0, .int .i64 0, .string (⟨#[]⟩ : ByteArray), .string (⟨#[]⟩ : ByteArray)] 25 (0, 0)) (bU BK375.out) NB375_0.out (by simp)); have n1_ := aS (KeepBut.blk hk (g' := gb384) (o := .cells #[.string t376, .int .i64 t377, .int .i64 t378, .int .i64 t379, .string t380, .string t381] 25 (0, 0)) (bU BK384.out) NB384_0.out (by simp)); have n2_ := aS (Kd.R_mono (Kd.R_keep (IsS111.apart (show IsS111 w0 _ g s0_0 t386 t387 from by exact IsS111.iS2 HI0.out NB0_375.out NB0_384.out) (rU HO405.out) (by decide)) hk (fun _ h => h.2)) (fun _ h => h.1)); have n3_ := aS (KeepBut.trans (kS2 HK.out GW375.out GW384.out) hk (.inl rfl)); have n4_ := aS (hb); have n5_ := aS (hi); clear BK375 BK384 HO405 HK HB HI0; revert n0_ n1_ n2_ n3_ n4_ n5_; intro BK375 BK384 HO405 HK HB HI0; clear hi hb hk; have hnb48 := NB384_375.out; have hnc48 := NB375_384.out; have hnb49 := NB384_0.out; have hnc49 := NB0_384.out; have hcz50 := cells6f BK384.out; have hnb51 := NB375_0.out; have hnc51 := NB0_375.out; have hcz52 := cells6f BK375.out))
     refine bodyPost_ret (results_cell_row rfl _ _ gb375 25 #[.string t376, .int .i64 t377, .int .i64 t378, .int .i64 t406, .string t380, .string t381] (0, 0) _ rfl (by (with_reducible repeat (first | refine blk_drewN ?_ _ | refine blk_drew ?_ | refine blk_alloc ?_ _)); refine blk_put_6 (.string (⟨#[]⟩ : ByteArray)) (.int .i64 0) (.int .i64 0) (.int .i64 0) (.string (⟨#[]⟩ : ByteArray)) (.string (⟨#[]⟩ : ByteArray)) ?_; (with_reducible repeat (first | refine blk_drewN ?_ _ | refine blk_drew ?_ | refine blk_alloc ?_ _)); refine blk_far ?_ NB375_384.out _; (with_reducible repeat (first | refine blk_drewN ?_ _ | refine blk_drew ?_ | refine blk_alloc ?_ _)); exact BK375.out) Tryd.underlying25 rfl jK) rfl ?_
     exact ⟨jE, by exact IsS111.iS2 HI0.out NB0_375.out NB0_384.out, by exact wS3 HB.out (IsS111.ge HI0.out) GE375.out GE384.out, by exact kS2 HK.out GW375.out GW384.out⟩
    ·rw [if_neg c42] at H
     have c42b0 : (t385 == 3) = false := beq_eq_false_iff_ne.mpr c42
     have c42b1 : (t385 != 3) = true := bne_iff_ne.mpr c42
     by_cases c53 : t385 = 4
     ·rw [if_pos c53] at H
      have c53b0 : (t385 == 4) = true := beq_iff_eq.mpr c53
      have c53b1 : (t385 != 4) = false := bne_eq_false_iff_eq.mpr c53
      clear c53
      replace H := Option.bind_eq_some_iff.mp H
      obtain ⟨⟨t409, t410, t411⟩, A54, H⟩ := H
      try dsimp only at H
      replace A54 := aS A54
      simp only [Option.some.injEq, Prod.mk.injEq] at H
      obtain ⟨rfl, rfl, rfl, rfl, rfl, rfl, rfl, rfl⟩ := H
      go_wp2_with (first | ((with_reducible refine gate_callee (f := 112) rfl ?_); refine goesL_ (some 34) rfl rfl Tryd.func112 jK rfl #[.pointer (some ⟨g, 0, none⟩)] rfl jA ?_; (with_reducible refine (spec_l3Any.calls g s0_0 t386 t387 t409 t410 t411 w0 _ ?side1 ?side2 A54.out).mono ?_); (case side1 => exact IsS111.iS2 HI0.out NB0_375.out NB0_384.out); (case side2 => exact wS3 HB.out (IsS111.ge HI0.out) GE375.out GE384.out); rintro e w55 ⟨rfl, hi, hb, hk⟩; refine ⟨_, rfl, ?_⟩; have n0_ := aS (KeepBut.blk hk (g' := gb375) (o := .cells #[.string (⟨#[]⟩ : ByteArray), .int .i64 0, .int .i64 0, .int .i64 0, .string (⟨#[]⟩ : ByteArray), .string (⟨#[]⟩ : ByteArray)] 25 (0, 0)) (bU BK375.out) NB375_0.out (by simp)); have n1_ := aS (KeepBut.blk hk (g' := gb384) (o := .cells #[.string t376, .int .i64 t377, .int .i64 t378, .int .i64 t379, .string t380, .string t381] 25 (0, 0)) (bU BK384.out) NB384_0.out (by simp)); have n2_ := aS (KeepBut.trans (kS2 HK.out GW375.out GW384.out) hk (.inl rfl)); have n3_ := aS (hb); have n4_ := aS (hi); clear BK375 BK384 HK HB HI0; revert n0_ n1_ n2_ n3_ n4_; intro BK375 BK384 HK HB HI0; clear hi hb hk; have hnb56 := NB384_375.out; have hnc56 := NB375_384.out; have hnb57 := NB384_0.out; have hnc57 := NB0_384.out; have hcz58 := cells6f BK384.out; have hnb59 := NB375_0.out; have hnc59 := NB0_375.out; have hcz60 := cells6f BK375.out))
      refine bodyPost_ret (results_cell_row rfl _ _ gb375 25 #[.string t376, .int .i64 t377, .int .i64 t378, .int .i64 t379, .string t409, .string t381] (0, 0) _ rfl (by (with_reducible repeat (first | refine blk_drewN ?_ _ | refine blk_drew ?_ | refine blk_alloc ?_ _)); refine blk_put_6 (.string (⟨#[]⟩ : ByteArray)) (.int .i64 0) (.int .i64 0) (.int .i64 0) (.string (⟨#[]⟩ : ByteArray)) (.string (⟨#[]⟩ : ByteArray)) ?_; (with_reducible repeat (first | refine blk_drewN ?_ _ | refine blk_drew ?_ | refine blk_alloc ?_ _)); refine blk_far ?_ NB375_384.out _; (with_reducible repeat (first | refine blk_drewN ?_ _ | refine blk_drew ?_ | refine blk_alloc ?_ _)); exact BK375.out) Tryd.underlying25 rfl jK) rfl ?_
      exact ⟨jE, by exact IsS111.iS2 HI0.out NB0_375.out NB0_384.out, by exact wS3 HB.out (IsS111.ge HI0.out) GE375.out GE384.out, by exact kS2 HK.out GW375.out GW384.out⟩
     ·rw [if_neg c53] at H
      have c53b0 : (t385 == 4) = false := beq_eq_false_iff_ne.mpr c53
      have c53b1 : (t385 != 4) = true := bne_iff_ne.mpr c53
      by_cases c61 : t385 = 5
      ·rw [if_pos c61] at H
       have c61b0 : (t385 == 5) = true := beq_iff_eq.mpr c61
       have c61b1 : (t385 != 5) = false := bne_eq_false_iff_eq.mpr c61
       clear c61
       obtain ⟨y412, hy_⟩ : ∃ y_ : List ByteArray, y_ = (([(⟨#[32]⟩ : ByteArray), (⟨#[127]⟩ : ByteArray), (⟨#[116, 104, 105, 114, 116, 101, 101, 110, 98, 121, 116, 101, 115]⟩ : ByteArray), (⟨#[120]⟩ : ByteArray)] : List ByteArray)) := ⟨_, rfl⟩
       replace H : ((spec_l1Str.f s0_0 t386 t387 y412).bind fun bt415 => (some (t376, t377, t378, t379, t380, bt415.1, bt415.2.1, bt415.2.2))) = some (r1, r2, r3, r4, r5, r6, r7, r8) := jD
       have Ny412 := aS hy_
       clear hy_
       replace H := Option.bind_eq_some_iff.mp H
       obtain ⟨⟨t415, t416, t417⟩, A62, H⟩ := H
       try dsimp only at H
       replace A62 := aS A62
       simp only [Option.some.injEq, Prod.mk.injEq] at H
       obtain ⟨rfl, rfl, rfl, rfl, rfl, rfl, rfl, rfl⟩ := H
       go_wp2_with (first | ((with_reducible refine gate_dst (N := 39) rfl ?_); refine Kd.R_lit Kd.string _ 9 ?hg (N := 39) ?hd (xs := ([(⟨#[32]⟩ : ByteArray), (⟨#[127]⟩ : ByteArray), (⟨#[116, 104, 105, 114, 116, 101, 101, 110, 98, 121, 116, 101, 115]⟩ : ByteArray), (⟨#[120]⟩ : ByteArray)] : List ByteArray)) (inner := [.string (⟨#[32]⟩ : ByteArray), .string (⟨#[127]⟩ : ByteArray), .string (⟨#[116, 104, 105, 114, 116, 101, 101, 110, 98, 121, 116, 101, 115]⟩ : ByteArray), .string (⟨#[120]⟩ : ByteArray)]) (ok := fun _ => True) (okp := fun _ => True) ?hr ?hp (fun _ hk => hk) trivial (Below.refl _ _) (Nat.le_refl _) (by simp) ?_; (case hd => rfl); (case hg => rfl); (case hr => first | (go_simp; done) | (go_simp; rfl)); (case hp => exact (Reps.one (show Kd.M Kd.string _ _ _ (⟨#[32]⟩ : ByteArray) [.string (⟨#[32]⟩ : ByteArray)] from rfl) (Reps.one (show Kd.M Kd.string _ _ _ (⟨#[127]⟩ : ByteArray) [.string (⟨#[127]⟩ : ByteArray)] from rfl) (Reps.one (show Kd.M Kd.string _ _ _ (⟨#[116, 104, 105, 114, 116, 101, 101, 110, 98, 121, 116, 101, 115]⟩ : ByteArray) [.string (⟨#[116, 104, 105, 114, 116, 101, 101, 110, 98, 121, 116, 101, 115]⟩ : ByteArray)] from rfl) (Reps.one (show Kd.M Kd.string _ _ _ (⟨#[120]⟩ : ByteArray) [.string (⟨#[120]⟩ : ByteArray)] from rfl) (Reps.none _ _)))))); intro v413 w63 ho64 hb hg_ hnew_; clear hg_ hnew_; (first | rw [← Ny412.out] at ho64 | (simp only [Int.reduceToNat] at ho64; rw [← Ny412.out] at ho64)); have n0_ := aS (Kd.R_lower ho64 (keep_size (w := w) (g := g) (row := none) (kS2 HK.out GW375.out GW384.out))); have n1_ := aS (IsS111.below (IsS111.iS2 HI0.out NB0_375.out NB0_384.out) hb); have n2_ := aS (blk_below (bU BK375.out) hb); have n3_ := aS (blk_below (bU BK384.out) hb); have n4_ := aS (KeepBut.trans (kS2 HK.out GW375.out GW384.out) (KeepBut.of_below hb g none) (.inl rfl)); have n5_ := aS (below_step (by exact wS3 HB.out (IsS111.ge HI0.out) GE375.out GE384.out) hb); clear HI0 BK375 BK384 HK HB; revert n0_ n1_ n2_ n3_ n4_ n5_; intro HO414 HI0 BK375 BK384 HK HB; clear hb ho64; obtain ⟨Ao65, co65, eo65⟩ := Kd.R_slice HO414.out; subst eo65) | ((with_reducible refine gate_callee (f := 113) rfl ?_); refine goesL_ (some 40) rfl rfl Tryd.func113 jK rfl #[.pointer (some ⟨g, 0, none⟩), .slice Ao65 y412.length co65] rfl jA ?_; (with_reducible refine (spec_l1Str.calls g s0_0 t386 t387 _ _ y412 t415 t416 t417 w0 _ ?side1 ?side2 ?side3 ?side4 ?side5 A62.out).mono ?_); (case side1 => exact IsS111.iS2 HI0.out NB0_375.out NB0_384.out); (case side2 => exact wS3 HB.out (IsS111.ge HI0.out) GE375.out GE384.out); (case side3 => exact cU ((Kd.R_reads' HO414.out).2.2)); (case side4 => exact (Kd.R_reads' HO414.out).2.1); (case side5 => exact far_slice (IsS111.own_ne HI0.out HO414.out (by decide))); rintro e w66 ⟨rfl, hi, hb, hk⟩; refine ⟨_, rfl, ?_⟩; have n0_ := aS (KeepBut.blk hk (g' := gb375) (o := .cells #[.string (⟨#[]⟩ : ByteArray), .int .i64 0, .int .i64 0, .int .i64 0, .string (⟨#[]⟩ : ByteArray), .string (⟨#[]⟩ : ByteArray)] 25 (0, 0)) (bU BK375.out) NB375_0.out (by simp)); have n1_ := aS (KeepBut.blk hk (g' := gb384) (o := .cells #[.string t376, .int .i64 t377, .int .i64 t378, .int .i64 t379, .string t380, .string t381] 25 (0, 0)) (bU BK384.out) NB384_0.out (by simp)); have n2_ := aS (Kd.R_mono (Kd.R_keep (IsS111.apart (show IsS111 w0 _ g s0_0 t386 t387 from by exact IsS111.iS2 HI0.out NB0_375.out NB0_384.out) (rU HO414.out) (by decide)) hk (fun _ h => h.2)) (fun _ h => h.1)); have n3_ := aS (KeepBut.trans (kS2 HK.out GW375.out GW384.out) hk (.inl rfl)); have n4_ := aS (hb); have n5_ := aS (hi); clear BK375 BK384 HO414 HK HB HI0; revert n0_ n1_ n2_ n3_ n4_ n5_; intro BK375 BK384 HO414 HK HB HI0; clear hi hb hk; have hnb67 := NB384_375.out; have hnc67 := NB375_384.out; have hnb68 := NB384_0.out; have hnc68 := NB0_384.out; have hcz69 := cells6f BK384.out; have hnb70 := NB375_0.out; have hnc70 := NB0_375.out; have hcz71 := cells6f BK375.out))
       refine bodyPost_ret (results_cell_row rfl _ _ gb375 25 #[.string t376, .int .i64 t377, .int .i64 t378, .int .i64 t379, .string t380, .string t415] (0, 0) _ rfl (by (with_reducible repeat (first | refine blk_drewN ?_ _ | refine blk_drew ?_ | refine blk_alloc ?_ _)); refine blk_put_6 (.string (⟨#[]⟩ : ByteArray)) (.int .i64 0) (.int .i64 0) (.int .i64 0) (.string (⟨#[]⟩ : ByteArray)) (.string (⟨#[]⟩ : ByteArray)) ?_; (with_reducible repeat (first | refine blk_drewN ?_ _ | refine blk_drew ?_ | refine blk_alloc ?_ _)); refine blk_far ?_ NB375_384.out _; (with_reducible repeat (first | refine blk_drewN ?_ _ | refine blk_drew ?_ | refine blk_alloc ?_ _)); exact BK375.out) Tryd.underlying25 rfl jK) rfl ?_
       exact ⟨jE, by exact IsS111.iS2 HI0.out NB0_375.out NB0_384.out, by exact wS3 HB.out (IsS111.ge HI0.out) GE375.out GE384.out, by exact kS2 HK.out GW375.out GW384.out⟩
      ·rw [if_neg c61] at H
       have c61b0 : (t385 == 5) = false := beq_eq_false_iff_ne.mpr c61
       have c61b1 : (t385 != 5) = true := bne_iff_ne.mpr c61
       simp only [Option.some.injEq, Prod.mk.injEq] at H
       obtain ⟨rfl, rfl, rfl, rfl, rfl, rfl, rfl, rfl⟩ := H
       have hnb72 := NB384_375.out
       have hnc72 := NB375_384.out
       have hnb73 := NB384_0.out
       have hnc73 := NB0_384.out
       have hcz74 := cells6f BK384.out
       have hnb75 := NB375_0.out
       have hnc75 := NB0_375.out
       have hcz76 := cells6f BK375.out
       go_wp2
       refine bodyPost_ret (results_cell_row rfl _ _ gb375 25 #[.string t376, .int .i64 t377, .int .i64 t378, .int .i64 t379, .string t380, .string t381] (0, 0) _ rfl (by (with_reducible repeat (first | refine blk_drewN ?_ _ | refine blk_drew ?_ | refine blk_alloc ?_ _)); refine blk_put_6 (.string (⟨#[]⟩ : ByteArray)) (.int .i64 0) (.int .i64 0) (.int .i64 0) (.string (⟨#[]⟩ : ByteArray)) (.string (⟨#[]⟩ : ByteArray)) ?_; (with_reducible repeat (first | refine blk_drewN ?_ _ | refine blk_drew ?_ | refine blk_alloc ?_ _)); exact BK375.out) Tryd.underlying25 rfl jK) rfl ?_
       exact ⟨jE, by exact IsS111.iS2 HI0.out NB0_375.out NB0_384.out, by exact wS3 HB.out (IsS111.ge HI0.out) GE375.out GE384.out, by exact kS2 HK.out GW375.out GW384.out⟩

/-! ### spec_DrawPutRecord: function 9 -/
def spec_DrawPutRecord.f (k : Nat) (l0 : List Int) : Option (List Int × ByteArray × Int × Int × Int × ByteArray × ByteArray) := (spec_l1New.f k l0).bind fun bt419 => ((spec_l4Bytes.f k bt419.1 bt419.2.1 bt419.2.2).bind fun bt423 => ((spec_l5Any.f k bt419.1 bt423.2.2.1 bt423.2.2.2).bind fun bt429 => (some (bt423.1, bt429.1, bt429.2.1, bt429.2.2.1, bt429.2.2.2.1, bt429.2.2.2.2.1, bt429.2.2.2.2.2.1))))
theorem spec_DrawPutRecord.mono : ∀ a0 k, LeO (spec_DrawPutRecord.f k a0) (spec_DrawPutRecord.f (k + 1) a0) := by
 intro a0 k
 unfold spec_DrawPutRecord.f
 repeat' first
   | (with_reducible first | exact spec_l1New.mono _ _ | exact spec_l4Bytes.mono _ _ _ _ | exact spec_l5Any.mono _ _ _ _ | exact LeO.refl _ | exact LeO.none _ | refine LeO.ite ?_ ?_ | refine LeO.bind ?_ (fun _ => ?_))
   | exact spec_l1New.mono _ _
   | exact spec_l4Bytes.mono _ _ _ _
   | exact spec_l5Any.mono _ _ _ _
   | exact LeO.none _
   | refine LeO.ite ?_ ?_
   | refine LeO.bind ?_ (fun _ => ?_)
set_option maxHeartbeats 8000000 in
set_option maxRecDepth 100000 in
theorem spec_DrawPutRecord.calls (k : Nat) (A0 : Option Addr) (c0 : Nat) (l0 : List Int) (r1 : List Int) (r2 : ByteArray) (r3 : Int) (r4 : Int) (r5 : Int) (r6 : ByteArray) (r7 : ByteArray) (w : World) (hr0 : Kd.C (Kd.int .u8) w A0 l0.length l0) (hc0 : l0.length ≤ c0) (h : spec_DrawPutRecord.f k l0 = some (r1, r2, r3, r4, r5, r6, r7)) :
  Calls Tryd.prog 9 #[.slice A0 l0.length c0] w fun e w' => ∃ v0_ : Value, e = .returned (.tuple #[v0_, .agg #[.string r2, .int .i64 r3, .int .i64 r4, .int .i64 r5, .string r6, .string r7]]) ∧ Kd.R (Kd.int .u8) 5 w' w.heap.size (fun _ => True) v0_ r1 ∧ Below w.heap.size w w' := by
 have hu25 := Tryd.underlying25
 have HR0 := aS hr0
 have HC0 := aS hc0
 clear hr0 hc0
 have HB := aS (Below.refl w.heap.size w)
 have H : ((spec_l1New.f k l0).bind fun bt419 => ((spec_l4Bytes.f k bt419.1 bt419.2.1 bt419.2.2).bind fun bt423 => ((spec_l5Any.f k bt419.1 bt423.2.2.1 bt423.2.2.2).bind fun bt429 => (some (bt423.1, bt429.1, bt429.2.1, bt429.2.2.1, bt429.2.2.2.1, bt429.2.2.2.2.1, bt429.2.2.2.2.2.1))))) = some (r1, r2, r3, r4, r5, r6, r7) := h
 clear h
 replace H := Option.bind_eq_some_iff.mp H
 obtain ⟨⟨t419, t420, t421⟩, A2, H⟩ := H
 try dsimp only at H
 replace A2 := aS A2
 replace H := Option.bind_eq_some_iff.mp H
 obtain ⟨⟨t423, t426, t427, t428⟩, A3, H⟩ := H
 try dsimp only at H
 replace A3 := aS A3
 replace H := Option.bind_eq_some_iff.mp H
 obtain ⟨⟨t429, t430, t431, t432, t433, t434, t435, t436⟩, A4, H⟩ := H
 try dsimp only at H
 replace A4 := aS A4
 simp only [Option.some.injEq, Prod.mk.injEq] at H
 obtain ⟨rfl, rfl, rfl, rfl, rfl, rfl, rfl⟩ := H
 go_enter Tryd.func9, Tryd.ntmps9
 go_wp2_with (first | ((with_reducible refine gate_dst (N := 3) rfl ?_); refine box_event ?hg (N := 3) ?hd (cs := #[.string (⟨#[]⟩ : ByteArray), .int .i64 0, .int .i64 0, .int .i64 0, .string (⟨#[]⟩ : ByteArray), .string (⟨#[]⟩ : ByteArray)]) (t := 25) ?hr ?_; (case hd => rfl); (case hg => rfl); (case hr => first | (go_simp; done) | (go_simp; rfl)); intro gb418 hg w5 hbox hb; have n0_ := aS (below_step (wU HB.out) hb); have n1_ := aS (hbox); have n2_ := aS ((by rw [hg]; exact (below_size (wU HB.out)) : w.heap.size ≤ gb418)); have n3_ := aS ((by rw [hg]; exact (below_size (wU HB.out)) : w.heap.size ≤ gb418)); clear HB; revert n0_ n1_ n2_ n3_; intro HB BK418 GW418 GE418; clear hb hbox hg) | ((with_reducible refine gate_callee (f := 56) rfl ?_); refine goesL_ (some 8) rfl rfl Tryd.func56 jK rfl #[.slice A0 l0.length c0] rfl jA ?_; (with_reducible refine (spec_l1New.calls k _ _ l0 t419 t420 t421 w _ ?side1 ?side2 ?side3 A2.out).mono ?_); (case side1 => exact wS1 HB.out GE418.out); (case side2 => exact HR0.out); (case side3 => exact HC0.out); rintro e w6 ⟨g422, rfl, hi, hb, hb2⟩; refine ⟨_, rfl, ?_⟩; have n0_ := aS (blk_below (bU BK418.out) hb2); have n1_ := aS (hb); have n2_ := aS (hi); have n3_ := aS (IsS111.ne_blk hi (blk_below (bU BK418.out) hb2) (by decide)); have n4_ := aS (Ne.symm (IsS111.ne_blk hi (blk_below (bU BK418.out) hb2) (by decide))); clear BK418 HB; revert n0_ n1_ n2_ n3_ n4_; intro BK418 HB HI422 NB422_418 NB418_422; clear hi hb hb2) | ((with_reducible refine gate_callee (f := 57) rfl ?_); refine goesL_ (some 11) rfl rfl Tryd.func57 jK rfl #[.pointer (some ⟨g422, 0, none⟩)] rfl jA ?_; (with_reducible refine (spec_l4Bytes.calls k g422 t419 t420 t421 t423 t426 t427 t428 w _ ?side1 ?side2 A3.out).mono ?_); (case side1 => exact IsS111.iS1 HI422.out NB422_418.out); (case side2 => exact wS2 HB.out (IsS111.ge HI422.out) GE418.out); rintro e w7 ⟨v424, rfl, ho0, hi, hb, hk⟩; refine ⟨_, rfl, ?_⟩; have n0_ := aS (KeepBut.blk hk (g' := gb418) (o := .cells #[.string (⟨#[]⟩ : ByteArray), .int .i64 0, .int .i64 0, .int .i64 0, .string (⟨#[]⟩ : ByteArray), .string (⟨#[]⟩ : ByteArray)] 25 (0, 0)) (bU BK418.out) NB418_422.out (by simp)); have n1_ := aS (Kd.R_lower ho0 (below_size (by exact wS2 HB.out (IsS111.ge HI422.out) GE418.out))); have n2_ := aS (hb); have n3_ := aS (hi); clear BK418 HB HI422; revert n0_ n1_ n2_ n3_; intro BK418 HO425 HB HI422; clear hi hb hk; (try clear ho0)) | ((with_reducible refine gate_callee (f := 58) rfl ?_); refine goesL_ (some 16) rfl rfl Tryd.func58 jK rfl #[.pointer (some ⟨g422, 0, none⟩)] rfl jA ?_; (with_reducible refine (spec_l5Any.calls k g422 t419 t427 t428 t429 t430 t431 t432 t433 t434 t435 t436 w _ ?side1 ?side2 A4.out).mono ?_); (case side1 => exact IsS111.iS1 HI422.out NB422_418.out); (case side2 => exact wS2 HB.out (IsS111.ge HI422.out) GE418.out); rintro e w8 ⟨rfl, hi, hb, hk⟩; refine ⟨_, rfl, ?_⟩; have n0_ := aS (KeepBut.blk hk (g' := gb418) (o := .cells #[.string (⟨#[]⟩ : ByteArray), .int .i64 0, .int .i64 0, .int .i64 0, .string (⟨#[]⟩ : ByteArray), .string (⟨#[]⟩ : ByteArray)] 25 (0, 0)) (bU BK418.out) NB418_422.out (by simp)); have n1_ := aS (Kd.R_mono (Kd.R_keep (IsS111.apart (show IsS111 w _ g422 t419 t427 t428 from by exact IsS111.iS1 HI422.out NB422_418.out) (rU HO425.out) (by decide)) hk (fun _ h => h.2)) (fun _ h => h.1)); have n2_ := aS (hb); have n3_ := aS (hi); clear BK418 HO425 HB HI422; revert n0_ n1_ n2_ n3_; intro BK418 HO425 HB HI422; clear hi hb hk; have hnb9 := NB418_422.out; have hnc9 := NB422_418.out; have hcz10 := cells6f BK418.out))
 refine bodyPost_ret (results_tc rfl _ _ gb418 25 #[.string t429, .int .i64 t430, .int .i64 t431, .int .i64 t432, .string t433, .string t434] (0, 0) _ rfl (by (with_reducible repeat (first | refine blk_drewN ?_ _ | refine blk_drew ?_ | refine blk_alloc ?_ _)); refine blk_put_6 (.string (⟨#[]⟩ : ByteArray)) (.int .i64 0) (.int .i64 0) (.int .i64 0) (.string (⟨#[]⟩ : ByteArray)) (.string (⟨#[]⟩ : ByteArray)) ?_; (with_reducible repeat (first | refine blk_drewN ?_ _ | refine blk_drew ?_ | refine blk_alloc ?_ _)); exact BK418.out) Tryd.underlying25 rfl jK) rfl ?_
 exact ⟨_, jE, by (with_reducible repeat (first | apply Kd.R_alloc | apply Kd.R_drewN | apply Kd.R_drew)); exact Kd.R_mono (Kd.R_far (p := ⟨gb418, 5, none⟩) (Kd.R_far (p := ⟨gb418, 4, none⟩) (Kd.R_far (p := ⟨gb418, 3, none⟩) (Kd.R_far (p := ⟨gb418, 2, none⟩) (Kd.R_far (p := ⟨gb418, 1, none⟩) (Kd.R_far (p := ⟨gb418, 0, none⟩) (Kd.R_types HO425.out BK418.out (by decide)) (fun _ hk => hk.2) (.string t429)) (fun _ hk => hk.2) (.int .i64 t430)) (fun _ hk => hk.2) (.int .i64 t431)) (fun _ hk => hk.2) (.int .i64 t432)) (fun _ hk => hk.2) (.string t433)) (fun _ hk => hk.2) (.string t434)) (fun _ hk => trivial), by exact wS2 HB.out (IsS111.ge HI422.out) GE418.out⟩

/-! ### strings_Split: function 145 -/
def strings_Split.f (a0 : ByteArray) (a1 : ByteArray) : Option (List ByteArray) := if a1.size = 1 ∧ a0.size < 4294967281 then some (Lib.splitB a1 0 (Lib.countB a0 a1) a0) else none
theorem strings_Split.calls (a0 : ByteArray) (a1 : ByteArray) (r : List ByteArray) (w : World) (h : strings_Split.f a0 a1 = some r) :
  Calls Tryd.prog 145 #[.string a0, .string a1] w fun e w' => ∃ v0_ : Value, e = .returned (v0_) ∧ Kd.R Kd.string 9 w' w.heap.size (fun _ => True) v0_ r ∧ Below w.heap.size w w' := by
 by_cases hb : a1.size = 1 ∧ a0.size < 4294967281
 ·rw [strings_Split.f, if_pos hb] at h
  obtain rfl := Option.some.inj h
  exact X.split_calls Tryd.lays146 (by kernel_rfl) a0 a1 w hb.1 hb.2
 ·rw [strings_Split.f, if_neg hb] at h
  cases h


/-! ### impl_Labels: function 115 -/
def impl_Labels.f (a0 : ByteArray) : Option (List ByteArray) := if a0.toList = ([] : List UInt8) then (some ([] : List ByteArray)) else ((strings_Split.f a0 (⟨#[46]⟩ : ByteArray)).bind fun t437 => (some t437))
set_option maxHeartbeats 8000000 in
set_option maxRecDepth 100000 in
theorem impl_Labels.calls (a0 : ByteArray) (r : List ByteArray) (w : World) (h : impl_Labels.f a0 = some r) :
  Calls Tryd.prog 115 #[.string a0] w fun e w' => ∃ v0_ : Value, e = .returned (v0_) ∧ Kd.R Kd.string 9 w' w.heap.size (fun _ => True) v0_ r ∧ Below w.heap.size w w' := by
 have HB := aS (Below.refl w.heap.size w)
 have H : (if a0.toList = ([] : List UInt8) then (some ([] : List ByteArray)) else ((strings_Split.f a0 (⟨#[46]⟩ : ByteArray)).bind fun t437 => (some t437))) = some r := h
 clear h
 by_cases c2 : a0.toList = ([] : List UInt8)
 ·rw [if_pos c2] at H
  have c2b0 : (a0.toList == ([] : List UInt8)) = true := beq_iff_eq.mpr c2
  have c2b1 : (a0.toList != ([] : List UInt8)) = false := bne_eq_false_iff_eq.mpr c2
  clear c2
  obtain rfl := Option.some.inj H
  go_enter Tryd.func115, Tryd.ntmps115
  go_wp2
  go_ret
  exact ⟨_, jE, by first | exact Kd.R_nil _ _ _ _ _ | exact Kd.N_nil _ _ _ _ _ | exact Kd.V_nil _ _ _ _ _ | exact Kd.Q_nil _ _ _ _ _ | exact Kd.S_nil _ _ _ _ _, by repeat (first | (with_reducible first | exact HB.out | apply below_alloc | apply pw_below_drewN | apply below_drew1) | exact HB.out)⟩
 ·rw [if_neg c2] at H
  have c2b0 : (a0.toList == ([] : List UInt8)) = false := beq_eq_false_iff_ne.mpr c2
  have c2b1 : (a0.toList != ([] : List UInt8)) = true := bne_iff_ne.mpr c2
  replace H := Option.bind_eq_some_iff.mp H
  obtain ⟨t437, A3, H⟩ := H
  try dsimp only at H
  replace A3 := aS A3
  obtain rfl := Option.some.inj H
  go_enter Tryd.func115, Tryd.ntmps115
  go_wp2_with (first | ((with_reducible refine gate_callee (f := 145) rfl ?_); refine goesL_ (some 6) rfl rfl Tryd.func145 jK rfl #[.string a0, .string (⟨#[46]⟩ : ByteArray)] rfl jA ?_; (with_reducible refine (strings_Split.calls a0 (⟨#[46]⟩ : ByteArray) t437 _ A3.out).mono ?_); rintro e w4 ⟨v438, rfl, ho0, hb⟩; refine ⟨_, rfl, ?_⟩; have n0_ := aS (Kd.R_lower ho0 (below_size (wU HB.out))); have n1_ := aS (below_step (wU HB.out) hb); clear HB; revert n0_ n1_; intro HO439 HB; clear hb; (try clear ho0)))
  go_ret
  exact ⟨_, jE, by (with_reducible repeat (first | apply Kd.R_alloc | apply Kd.R_drewN | apply Kd.R_drew)); exact HO439.out, by repeat (first | (with_reducible first | exact HB.out | apply below_alloc | apply pw_below_drewN | apply below_drew1) | exact HB.out)⟩

/-! ### impl_LabelOk: function 126 -/
def impl_LabelOk.l0 : Nat → ByteArray → Int → Int → Option (Bool)
 | 0, _, _, _ => none
 | k + 1, x0, x6, x7 => if x7 < x6 then (if 0 ≤ x7 then (if x7 < (x0.size : Int) then (if (bt x0 x7) < 97 then (if (bt x0 x7) < 48 then (if (bt x0 x7) = 45 then (impl_LabelOk.l0 k x0 x6 (wrap64 (x7 + 1))) else (if (bt x0 x7) = 95 then (impl_LabelOk.l0 k x0 x6 (wrap64 (x7 + 1))) else (some false))) else (if (bt x0 x7) > 57 then (if (bt x0 x7) = 45 then (impl_LabelOk.l0 k x0 x6 (wrap64 (x7 + 1))) else (if (bt x0 x7) = 95 then (impl_LabelOk.l0 k x0 x6 (wrap64 (x7 + 1))) else (some false))) else (impl_LabelOk.l0 k x0 x6 (wrap64 (x7 + 1))))) else (if (bt x0 x7) > 122 then (if (bt x0 x7) < 48 then (if (bt x0 x7) = 45 then (impl_LabelOk.l0 k x0 x6 (wrap64 (x7 + 1))) else (if (bt x0 x7) = 95 then (impl_LabelOk.l0 k x0 x6 (wrap64 (x7 + 1))) else (some false))) else (if (bt x0 x7) > 57 then (if (bt x0 x7) = 45 then (impl_LabelOk.l0 k x0 x6 (wrap64 (x7 + 1))) else (if (bt x0 x7) = 95 then (impl_LabelOk.l0 k x0 x6 (wrap64 (x7 + 1))) else (some false))) else (impl_LabelOk.l0 k x0 x6 (wrap64 (x7 + 1))))) else (impl_LabelOk.l0 k x0 x6 (wrap64 (x7 + 1))))) else (none)) else (none)) else (if (x0.size : Int) ≥ 1 then (some (decide ((x0.size : Int) ≤ 12))) else (some false))
def impl_LabelOk.f (k : Nat) (a0 : ByteArray) : Option (Bool) := impl_LabelOk.l0 k a0 (a0.size : Int) 0
theorem impl_LabelOk.mono_l : ∀ k, (∀ y0 y1 y2, LeO (impl_LabelOk.l0 k y0 y1 y2) (impl_LabelOk.l0 (k + 1) y0 y1 y2))
 | 0 => fun _ _ _ r h => by simp [impl_LabelOk.l0] at h
 | k + 1 => by
  have ih0 := impl_LabelOk.mono_l k
  ·intro y0 y1 y2
   unfold impl_LabelOk.l0
   repeat' first
   | (with_reducible first | exact ih0 _ _ _ | exact LeO.refl _ | exact LeO.none _ | refine LeO.ite ?_ ?_ | refine LeO.bind ?_ (fun _ => ?_))
   | exact ih0 _ _ _
   | exact LeO.none _
   | refine LeO.ite ?_ ?_
   | refine LeO.bind ?_ (fun _ => ?_)
theorem impl_LabelOk.mono : ∀ a0 k, LeO (impl_LabelOk.f k a0) (impl_LabelOk.f (k + 1) a0) := by
 intro a0 k
 have ih0 := impl_LabelOk.mono_l k
 unfold impl_LabelOk.f
 repeat' first
   | (with_reducible first | exact ih0 _ _ _ | exact LeO.refl _ | exact LeO.none _ | refine LeO.ite ?_ ?_ | refine LeO.bind ?_ (fun _ => ?_))
   | exact ih0 _ _ _
   | exact LeO.none _
   | refine LeO.ite ?_ ?_
   | refine LeO.bind ?_ (fun _ => ?_)
set_option maxHeartbeats 8000000 in
set_option maxRecDepth 100000 in
theorem impl_LabelOk.calls (k : Nat) (a0 : ByteArray) (r : Bool) (w : World) (h : impl_LabelOk.f k a0 = some r) :
  Calls Tryd.prog 126 #[.string a0] w fun e w' => e = .returned (.bool r) ∧ Drawn0 w w' := by
 have H : (impl_LabelOk.l0 k a0 (a0.size : Int) 0) = some r := h
 clear h
 have H' := aS H
 clear H
 go_enter Tryd.func126, Tryd.ntmps126
 go_wp2
 go_loopg [7] k (fun kq v7 w' => ∃ (x7_1 : Int), v7 = .int .i64 x7_1 ∧ Aside0 (impl_LabelOk.l0 kq a0 (a0.size : Int) x7_1 = some r) ∧ Aside0 (kq ≤ k) ∧ Drawn0 w w')
 case atStart => exact ⟨(0), jB, H', ⟨Nat.le_refl _⟩, by repeat (first | exact Drawn0.refl _ | apply Drawn0.step)⟩
 case round =>
  clear H'
  try clear c1
  obtain ⟨x7_1, rfl, HA, HK1, ⟨m1, rfl⟩⟩ := hrel
  cases gk with
  | zero => exact absurd HA.out (by simp [impl_LabelOk.l0])
  | succ k1 =>
   have H := HA.out
   clear HA
   simp only [impl_LabelOk.l0] at H
   by_cases c2 : x7_1 < (a0.size : Int)
   ·rw [if_pos c2] at H
    have c2b0 : decide (x7_1 < (a0.size : Int)) = true := decide_eq_true c2
    clear c2
    by_cases c3 : 0 ≤ x7_1
    ·rw [if_pos c3] at H
     have c3b0 : decide (0 ≤ x7_1) = true := decide_eq_true c3
     clear c3
     by_cases c4 : x7_1 < (a0.size : Int)
     ·rw [if_pos c4] at H
      have c4b0 : decide (x7_1 < (a0.size : Int)) = true := decide_eq_true c4
      clear c4
      by_cases c6 : (bt a0 x7_1) < 97
      ·rw [if_pos c6] at H
       have c6b0 : decide ((bt a0 x7_1) < 97) = true := decide_eq_true c6
       clear c6
       by_cases c7 : (bt a0 x7_1) < 48
       ·rw [if_pos c7] at H
        have c7b0 : decide ((bt a0 x7_1) < 48) = true := decide_eq_true c7
        clear c7
        by_cases c8 : (bt a0 x7_1) = 45
        ·rw [if_pos c8] at H
         have c8b0 : ((bt a0 x7_1) == 45) = true := beq_iff_eq.mpr c8
         have c8b1 : ((bt a0 x7_1) != 45) = false := bne_eq_false_iff_eq.mpr c8
         clear c8
         have H' := aS H
         clear H
         have p5 : 0 ≤ (x7_1 : Int) := of_decide_eq_true jC
         have q5 : x7_1 < (a0.size : Int) := of_decide_eq_true jC
         have hx5 := bt_at a0 x7_1
         replace p5 := eq_true p5
         replace q5 := eq_true q5
         go_wp2
         go_roundg k1
         case measure => have := HK1.out; omega
         case rel => exact ⟨(wrap64 (x7_1 + 1)), jB, H', ⟨by have := HK1.out; omega⟩, by repeat (first | exact Drawn0.refl _ | apply Drawn0.step)⟩
        ·rw [if_neg c8] at H
         have c8b0 : ((bt a0 x7_1) == 45) = false := beq_eq_false_iff_ne.mpr c8
         have c8b1 : ((bt a0 x7_1) != 45) = true := bne_iff_ne.mpr c8
         by_cases c9 : (bt a0 x7_1) = 95
         ·rw [if_pos c9] at H
          have c9b0 : ((bt a0 x7_1) == 95) = true := beq_iff_eq.mpr c9
          have c9b1 : ((bt a0 x7_1) != 95) = false := bne_eq_false_iff_eq.mpr c9
          clear c9
          have H' := aS H
          clear H
          have p5 : 0 ≤ (x7_1 : Int) := of_decide_eq_true jC
          have q5 : x7_1 < (a0.size : Int) := of_decide_eq_true jC
          have hx5 := bt_at a0 x7_1
          replace p5 := eq_true p5
          replace q5 := eq_true q5
          go_wp2
          go_roundg k1
          case measure => have := HK1.out; omega
          case rel => exact ⟨(wrap64 (x7_1 + 1)), jB, H', ⟨by have := HK1.out; omega⟩, by repeat (first | exact Drawn0.refl _ | apply Drawn0.step)⟩
         ·rw [if_neg c9] at H
          have c9b0 : ((bt a0 x7_1) == 95) = false := beq_eq_false_iff_ne.mpr c9
          have c9b1 : ((bt a0 x7_1) != 95) = true := bne_iff_ne.mpr c9
          obtain rfl := Option.some.inj H
          have p5 : 0 ≤ (x7_1 : Int) := of_decide_eq_true jC
          have q5 : x7_1 < (a0.size : Int) := of_decide_eq_true jC
          have hx5 := bt_at a0 x7_1
          replace p5 := eq_true p5
          replace q5 := eq_true q5
          go_wp2
          go_ret
          exact ⟨by first | rfl | (simp; done) | (simp [*]; done) | (simp [X.bne_nil, X.beq_nil]; done) | (simp [*, X.bne_nil, X.beq_nil]; done) | (simp [X.bne_nil, X.beq_nil]; done), by repeat (first | exact Drawn0.refl _ | apply Drawn0.step)⟩
       ·rw [if_neg c7] at H
        have c7b0 : decide ((bt a0 x7_1) < 48) = false := decide_eq_false c7
        clear c7
        by_cases c10 : (bt a0 x7_1) > 57
        ·rw [if_pos c10] at H
         have c10b0 : decide (57 < (bt a0 x7_1)) = true := decide_eq_true c10
         clear c10
         by_cases c11 : (bt a0 x7_1) = 45
         ·rw [if_pos c11] at H
          have c11b0 : ((bt a0 x7_1) == 45) = true := beq_iff_eq.mpr c11
          have c11b1 : ((bt a0 x7_1) != 45) = false := bne_eq_false_iff_eq.mpr c11
          clear c11
          have H' := aS H
          clear H
          have p5 : 0 ≤ (x7_1 : Int) := of_decide_eq_true jC
          have q5 : x7_1 < (a0.size : Int) := of_decide_eq_true jC
          have hx5 := bt_at a0 x7_1
          replace p5 := eq_true p5
          replace q5 := eq_true q5
          go_wp2
          go_roundg k1
          case measure => have := HK1.out; omega
          case rel => exact ⟨(wrap64 (x7_1 + 1)), jB, H', ⟨by have := HK1.out; omega⟩, by repeat (first | exact Drawn0.refl _ | apply Drawn0.step)⟩
         ·rw [if_neg c11] at H
          have c11b0 : ((bt a0 x7_1) == 45) = false := beq_eq_false_iff_ne.mpr c11
          have c11b1 : ((bt a0 x7_1) != 45) = true := bne_iff_ne.mpr c11
          by_cases c12 : (bt a0 x7_1) = 95
          ·rw [if_pos c12] at H
           have c12b0 : ((bt a0 x7_1) == 95) = true := beq_iff_eq.mpr c12
           have c12b1 : ((bt a0 x7_1) != 95) = false := bne_eq_false_iff_eq.mpr c12
           clear c12
           have H' := aS H
           clear H
           have p5 : 0 ≤ (x7_1 : Int) := of_decide_eq_true jC
           have q5 : x7_1 < (a0.size : Int) := of_decide_eq_true jC
           have hx5 := bt_at a0 x7_1
           replace p5 := eq_true p5
           replace q5 := eq_true q5
           go_wp2
           go_roundg k1
           case measure => have := HK1.out; omega
           case rel => exact ⟨(wrap64 (x7_1 + 1)), jB, H', ⟨by have := HK1.out; omega⟩, by repeat (first | exact Drawn0.refl _ | apply Drawn0.step)⟩
          ·rw [if_neg c12] at H
           have c12b0 : ((bt a0 x7_1) == 95) = false := beq_eq_false_iff_ne.mpr c12
           have c12b1 : ((bt a0 x7_1) != 95) = true := bne_iff_ne.mpr c12
           obtain rfl := Option.some.inj H
           have p5 : 0 ≤ (x7_1 : Int) := of_decide_eq_true jC
           have q5 : x7_1 < (a0.size : Int) := of_decide_eq_true jC
           have hx5 := bt_at a0 x7_1
           replace p5 := eq_true p5
           replace q5 := eq_true q5
           go_wp2
           go_ret
           exact ⟨by first | rfl | (simp; done) | (simp [*]; done) | (simp [X.bne_nil, X.beq_nil]; done) | (simp [*, X.bne_nil, X.beq_nil]; done) | (simp [X.bne_nil, X.beq_nil]; done), by repeat (first | exact Drawn0.refl _ | apply Drawn0.step)⟩
        ·rw [if_neg c10] at H
         have c10b0 : decide (57 < (bt a0 x7_1)) = false := decide_eq_false c10
         clear c10
         have H' := aS H
         clear H
         have p5 : 0 ≤ (x7_1 : Int) := of_decide_eq_true jC
         have q5 : x7_1 < (a0.size : Int) := of_decide_eq_true jC
         have hx5 := bt_at a0 x7_1
         replace p5 := eq_true p5
         replace q5 := eq_true q5
         go_wp2
         go_roundg k1
         case measure => have := HK1.out; omega
         case rel => exact ⟨(wrap64 (x7_1 + 1)), jB, H', ⟨by have := HK1.out; omega⟩, by repeat (first | exact Drawn0.refl _ | apply Drawn0.step)⟩
      ·rw [if_neg c6] at H
       have c6b0 : decide ((bt a0 x7_1) < 97) = false := decide_eq_false c6
       clear c6
       by_cases c13 : (bt a0 x7_1) > 122
       ·rw [if_pos c13] at H
        have c13b0 : decide (122 < (bt a0 x7_1)) = true := decide_eq_true c13
        clear c13
        by_cases c14 : (bt a0 x7_1) < 48
        ·rw [if_pos c14] at H
         have c14b0 : decide ((bt a0 x7_1) < 48) = true := decide_eq_true c14
         clear c14
         by_cases c15 : (bt a0 x7_1) = 45
         ·rw [if_pos c15] at H
          have c15b0 : ((bt a0 x7_1) == 45) = true := beq_iff_eq.mpr c15
          have c15b1 : ((bt a0 x7_1) != 45) = false := bne_eq_false_iff_eq.mpr c15
          clear c15
          have H' := aS H
          clear H
          have p5 : 0 ≤ (x7_1 : Int) := of_decide_eq_true jC
          have q5 : x7_1 < (a0.size : Int) := of_decide_eq_true jC
          have hx5 := bt_at a0 x7_1
          replace p5 := eq_true p5
          replace q5 := eq_true q5
          go_wp2
          go_roundg k1
          case measure => have := HK1.out; omega
          case rel => exact ⟨(wrap64 (x7_1 + 1)), jB, H', ⟨by have := HK1.out; omega⟩, by repeat (first | exact Drawn0.refl _ | apply Drawn0.step)⟩
         ·rw [if_neg c15] at H
          have c15b0 : ((bt a0 x7_1) == 45) = false := beq_eq_false_iff_ne.mpr c15
          have c15b1 : ((bt a0 x7_1) != 45) = true := bne_iff_ne.mpr c15
          by_cases c16 : (bt a0 x7_1) = 95
          ·rw [if_pos c16] at H
           have c16b0 : ((bt a0 x7_1) == 95) = true := beq_iff_eq.mpr c16
           have c16b1 : ((bt a0 x7_1) != 95) = false := bne_eq_false_iff_eq.mpr c16
           clear c16
           have H' := aS H
           clear H
           have p5 : 0 ≤ (x7_1 : Int) := of_decide_eq_true jC
           have q5 : x7_1 < (a0.size : Int) := of_decide_eq_true jC
           have hx5 := bt_at a0 x7_1
           replace p5 := eq_true p5
           replace q5 := eq_true q5
           go_wp2
           go_roundg k1
           case measure => have := HK1.out; omega
           case rel => exact ⟨(wrap64 (x7_1 + 1)), jB, H', ⟨by have := HK1.out; omega⟩, by repeat (first | exact Drawn0.refl _ | apply Drawn0.step)⟩
          ·rw [if_neg c16] at H
           have c16b0 : ((bt a0 x7_1) == 95) = false := beq_eq_false_iff_ne.mpr c16
           have c16b1 : ((bt a0 x7_1) != 95) = true := bne_iff_ne.mpr c16
           obtain rfl := Option.some.inj H
           have p5 : 0 ≤ (x7_1 : Int) := of_decide_eq_true jC
           have q5 : x7_1 < (a0.size : Int) := of_decide_eq_true jC
           have hx5 := bt_at a0 x7_1
           replace p5 := eq_true p5
           replace q5 := eq_true q5
           go_wp2
           go_ret
           exact ⟨by first | rfl | (simp; done) | (simp [*]; done) | (simp [X.bne_nil, X.beq_nil]; done) | (simp [*, X.bne_nil, X.beq_nil]; done) | (simp [X.bne_nil, X.beq_nil]; done), by repeat (first | exact Drawn0.refl _ | apply Drawn0.step)⟩
        ·rw [if_neg c14] at H
         have c14b0 : decide ((bt a0 x7_1) < 48) = false := decide_eq_false c14
         clear c14
         by_cases c17 : (bt a0 x7_1) > 57
         ·rw [if_pos c17] at H
          have c17b0 : decide (57 < (bt a0 x7_1)) = true := decide_eq_true c17
          clear c17
          by_cases c18 : (bt a0 x7_1) = 45
          ·rw [if_pos c18] at H
           have c18b0 : ((bt a0 x7_1) == 45) = true := beq_iff_eq.mpr c18
           have c18b1 : ((bt a0 x7_1) != 45) = false := bne_eq_false_iff_eq.mpr c18
           clear c18
           have H' := aS H
           clear H
           have p5 : 0 ≤ (x7_1 : Int) := of_decide_eq_true jC
           have q5 : x7_1 < (a0.size : Int) := of_decide_eq_true jC
           have hx5 := bt_at a0 x7_1
           replace p5 := eq_true p5
           replace q5 := eq_true q5
           go_wp2
           go_roundg k1
           case measure => have := HK1.out; omega
           case rel => exact ⟨(wrap64 (x7_1 + 1)), jB, H', ⟨by have := HK1.out; omega⟩, by repeat (first | exact Drawn0.refl _ | apply Drawn0.step)⟩
          ·rw [if_neg c18] at H
           have c18b0 : ((bt a0 x7_1) == 45) = false := beq_eq_false_iff_ne.mpr c18
           have c18b1 : ((bt a0 x7_1) != 45) = true := bne_iff_ne.mpr c18
           by_cases c19 : (bt a0 x7_1) = 95
           ·rw [if_pos c19] at H
            have c19b0 : ((bt a0 x7_1) == 95) = true := beq_iff_eq.mpr c19
            have c19b1 : ((bt a0 x7_1) != 95) = false := bne_eq_false_iff_eq.mpr c19
            clear c19
            have H' := aS H
            clear H
            have p5 : 0 ≤ (x7_1 : Int) := of_decide_eq_true jC
            have q5 : x7_1 < (a0.size : Int) := of_decide_eq_true jC
            have hx5 := bt_at a0 x7_1
            replace p5 := eq_true p5
            replace q5 := eq_true q5
            go_wp2
            go_roundg k1
            case measure => have := HK1.out; omega
            case rel => exact ⟨(wrap64 (x7_1 + 1)), jB, H', ⟨by have := HK1.out; omega⟩, by repeat (first | exact Drawn0.refl _ | apply Drawn0.step)⟩
           ·rw [if_neg c19] at H
            have c19b0 : ((bt a0 x7_1) == 95) = false := beq_eq_false_iff_ne.mpr c19
            have c19b1 : ((bt a0 x7_1) != 95) = true := bne_iff_ne.mpr c19
            obtain rfl := Option.some.inj H
            have p5 : 0 ≤ (x7_1 : Int) := of_decide_eq_true jC
            have q5 : x7_1 < (a0.size : Int) := of_decide_eq_true jC
            have hx5 := bt_at a0 x7_1
            replace p5 := eq_true p5
            replace q5 := eq_true q5
            go_wp2
            go_ret
            exact ⟨by first | rfl | (simp; done) | (simp [*]; done) | (simp [X.bne_nil, X.beq_nil]; done) | (simp [*, X.bne_nil, X.beq_nil]; done) | (simp [X.bne_nil, X.beq_nil]; done), by repeat (first | exact Drawn0.refl _ | apply Drawn0.step)⟩
         ·rw [if_neg c17] at H
          have c17b0 : decide (57 < (bt a0 x7_1)) = false := decide_eq_false c17
          clear c17
          have H' := aS H
          clear H
          have p5 : 0 ≤ (x7_1 : Int) := of_decide_eq_true jC
          have q5 : x7_1 < (a0.size : Int) := of_decide_eq_true jC
          have hx5 := bt_at a0 x7_1
          replace p5 := eq_true p5
          replace q5 := eq_true q5
          go_wp2
          go_roundg k1
          case measure => have := HK1.out; omega
          case rel => exact ⟨(wrap64 (x7_1 + 1)), jB, H', ⟨by have := HK1.out; omega⟩, by repeat (first | exact Drawn0.refl _ | apply Drawn0.step)⟩
       ·rw [if_neg c13] at H
        have c13b0 : decide (122 < (bt a0 x7_1)) = false := decide_eq_false c13
        clear c13
        have H' := aS H
        clear H
        have p5 : 0 ≤ (x7_1 : Int) := of_decide_eq_true jC
        have q5 : x7_1 < (a0.size : Int) := of_decide_eq_true jC
        have hx5 := bt_at a0 x7_1
        replace p5 := eq_true p5
        replace q5 := eq_true q5
        go_wp2
        go_roundg k1
        case measure => have := HK1.out; omega
        case rel => exact ⟨(wrap64 (x7_1 + 1)), jB, H', ⟨by have := HK1.out; omega⟩, by repeat (first | exact Drawn0.refl _ | apply Drawn0.step)⟩
     ·rw [if_neg c4] at H
      exact absurd H (by simp)
    ·rw [if_neg c3] at H
     exact absurd H (by simp)
   ·rw [if_neg c2] at H
    have c2b0 : decide (x7_1 < (a0.size : Int)) = false := decide_eq_false c2
    clear c2
    by_cases c20 : (a0.size : Int) ≥ 1
    ·rw [if_pos c20] at H
     have c20b0 : decide (1 ≤ (a0.size : Int)) = true := decide_eq_true c20
     have c20b1 : decide (1 ≤ a0.size) = true := decide_eq_true (by omega)
     clear c20
     obtain rfl := Option.some.inj H
     go_wp2
     go_ret
     exact ⟨by first | rfl | (simp; done) | (simp [*]; done) | (simp [X.bne_nil, X.beq_nil]; done) | (simp [*, X.bne_nil, X.beq_nil]; done) | (simp [X.bne_nil, X.beq_nil]; done), by repeat (first | exact Drawn0.refl _ | apply Drawn0.step)⟩
    ·rw [if_neg c20] at H
     have c20b0 : decide (1 ≤ (a0.size : Int)) = false := decide_eq_false c20
     have c20b1 : decide (1 ≤ a0.size) = false := decide_eq_false (by omega)
     clear c20
     obtain rfl := Option.some.inj H
     go_wp2
     go_ret
     exact ⟨by first | rfl | (simp; done) | (simp [*]; done) | (simp [X.bne_nil, X.beq_nil]; done) | (simp [*, X.bne_nil, X.beq_nil]; done) | (simp [X.bne_nil, X.beq_nil]; done), by repeat (first | exact Drawn0.refl _ | apply Drawn0.step)⟩

/-! ### impl_NameOk_1: function 125 -/
def impl_NameOk_1.f (k : Nat) (a0 : ByteArray) : Option (Bool) := (impl_LabelOk.f k a0).bind fun t440 => (some (!t440))
theorem impl_NameOk_1.mono : ∀ a0 k, LeO (impl_NameOk_1.f k a0) (impl_NameOk_1.f (k + 1) a0) := by
 intro a0 k
 unfold impl_NameOk_1.f
 repeat' first
   | (with_reducible first | exact impl_LabelOk.mono _ _ | exact LeO.refl _ | exact LeO.none _ | refine LeO.ite ?_ ?_ | refine LeO.bind ?_ (fun _ => ?_))
   | exact impl_LabelOk.mono _ _
   | exact LeO.none _
   | refine LeO.ite ?_ ?_
   | refine LeO.bind ?_ (fun _ => ?_)
set_option maxHeartbeats 8000000 in
set_option maxRecDepth 100000 in
theorem impl_NameOk_1.calls (k : Nat) (a0 : ByteArray) (r : Bool) (w : World) (h : impl_NameOk_1.f k a0 = some r) :
  Calls Tryd.prog 125 #[.string a0] w fun e w' => e = .returned (.bool r) ∧ Drawn0 w w' := by
 have H : ((impl_LabelOk.f k a0).bind fun t440 => (some (!t440))) = some r := h
 clear h
 replace H := Option.bind_eq_some_iff.mp H
 obtain ⟨t440, A2, H⟩ := H
 try dsimp only at H
 replace A2 := aS A2
 obtain rfl := Option.some.inj H
 go_enter Tryd.func125, Tryd.ntmps125
 go_wp2_with (first | ((with_reducible refine gate_callee (f := 126) rfl ?_); refine goesL_ (some 4) rfl rfl Tryd.func126 jK rfl #[.string a0] rfl jA ?_; (with_reducible refine (impl_LabelOk.calls k a0 t440 _ A2.out).mono ?_); rintro e w' ⟨rfl, ⟨nd, rfl⟩⟩; refine ⟨_, rfl, ?_⟩))
 go_ret
 exact ⟨by first | rfl | (simp; done) | (simp [*]; done) | (simp [X.bne_nil, X.beq_nil]; done) | (simp [*, X.bne_nil, X.beq_nil]; done) | (simp [X.bne_nil, X.beq_nil]; done), by repeat (first | exact Drawn0.refl _ | apply Drawn0.step)⟩

/-! ### slices_IndexFunc_string: function 148 -/
def slices_IndexFunc_string.l0 : Nat → List ByteArray → Int → Int → Option (Int)
 | 0, _, _, _ => none
 | k + 1, x0, x7, x8 => if x8 < x7 then (if 0 ≤ x8 then (if x8 < (x0.length : Int) then ((impl_NameOk_1.f k (rdOf ByteArray.empty x0 x8)).bind fun t442 => (if t442 = true then (some x8) else (slices_IndexFunc_string.l0 k x0 x7 (wrap64 (x8 + 1))))) else (none)) else (none)) else (some (-1))
def slices_IndexFunc_string.f (k : Nat) (l0 : List ByteArray)  : Option (Int) := slices_IndexFunc_string.l0 k l0 (l0.length : Int) 0
theorem slices_IndexFunc_string.mono_l : ∀ k, (∀ y0 y1 y2, LeO (slices_IndexFunc_string.l0 k y0 y1 y2) (slices_IndexFunc_string.l0 (k + 1) y0 y1 y2))
 | 0 => fun _ _ _ r h => by simp [slices_IndexFunc_string.l0] at h
 | k + 1 => by
  have ih0 := slices_IndexFunc_string.mono_l k
  ·intro y0 y1 y2
   unfold slices_IndexFunc_string.l0
   repeat' first
   | (with_reducible first | exact ih0 _ _ _ | exact impl_NameOk_1.mono _ _ | exact LeO.refl _ | exact LeO.none _ | refine LeO.ite ?_ ?_ | refine LeO.bind ?_ (fun _ => ?_))
   | exact ih0 _ _ _
   | exact impl_NameOk_1.mono _ _
   | exact LeO.none _
   | refine LeO.ite ?_ ?_
   | refine LeO.bind ?_ (fun _ => ?_)
theorem slices_IndexFunc_string.mono : ∀ a0 k, LeO (slices_IndexFunc_string.f k a0) (slices_IndexFunc_string.f (k + 1) a0) := by
 intro a0 k
 have ih0 := slices_IndexFunc_string.mono_l k
 unfold slices_IndexFunc_string.f
 repeat' first
   | (with_reducible first | exact ih0 _ _ _ | exact impl_NameOk_1.mono _ _ | exact LeO.refl _ | exact LeO.none _ | refine LeO.ite ?_ ?_ | refine LeO.bind ?_ (fun _ => ?_))
   | exact ih0 _ _ _
   | exact impl_NameOk_1.mono _ _
   | exact LeO.none _
   | refine LeO.ite ?_ ?_
   | refine LeO.bind ?_ (fun _ => ?_)
set_option maxHeartbeats 8000000 in
set_option maxRecDepth 100000 in
theorem slices_IndexFunc_string.calls (k : Nat) (A0 : Option Addr) (c0 : Nat) (l0 : List ByteArray)  (r : Int) (w : World) (hr0 : Kd.C Kd.string w A0 l0.length l0) (hc0 : l0.length ≤ c0) (h : slices_IndexFunc_string.f k l0 = some r) :
  Calls Tryd.prog 148 #[.slice A0 l0.length c0, .func (.func 125) #[] #[]] w fun e w' => e = .returned (.int .i64 r) ∧ Drawn0 w w' := by
 have HR0 := aS hr0
 have HC0 := aS hc0
 clear hr0 hc0
 have H : (slices_IndexFunc_string.l0 k l0 (l0.length : Int) 0) = some r := h
 clear h
 have H' := aS H
 clear H
 go_enter Tryd.func148, Tryd.ntmps148
 go_wp2
 go_loopg [8] k (fun kq v8 w' => ∃ (x8_1 : Int), v8 = .int .i64 x8_1 ∧ Aside0 (slices_IndexFunc_string.l0 kq l0 (l0.length : Int) x8_1 = some r) ∧ Aside0 (kq ≤ k) ∧ Drawn0 w w')
 case atStart => exact ⟨(0), jB, H', ⟨Nat.le_refl _⟩, by repeat (first | exact Drawn0.refl _ | apply Drawn0.step)⟩
 case round =>
  clear H'
  try clear c1
  try clear p2
  obtain ⟨x8_1, rfl, HA, HK1, ⟨m1, rfl⟩⟩ := hrel
  cases gk with
  | zero => exact absurd HA.out (by simp [slices_IndexFunc_string.l0])
  | succ k1 =>
   have H := HA.out
   clear HA
   simp only [slices_IndexFunc_string.l0] at H
   by_cases c3 : x8_1 < (l0.length : Int)
   ·rw [if_pos c3] at H
    have c3b0 : decide (x8_1 < (l0.length : Int)) = true := decide_eq_true c3
    clear c3
    by_cases c4 : 0 ≤ x8_1
    ·rw [if_pos c4] at H
     have c4b0 : decide (0 ≤ x8_1) = true := decide_eq_true c4
     clear c4
     by_cases c5 : x8_1 < (l0.length : Int)
     ·rw [if_pos c5] at H
      have c5b0 : decide (x8_1 < (l0.length : Int)) = true := decide_eq_true c5
      clear c5
      replace H := Option.bind_eq_some_iff.mp H
      obtain ⟨t442, A6, H⟩ := H
      try dsimp only at H
      replace A6 := aS A6
      by_cases c7 : t442 = true
      ·subst c7
       have H1 : (some x8_1) = some r := by rw [if_pos rfl] at H; exact H
       clear H
       have H := H1
       clear H1
       obtain rfl := Option.some.inj H
       have p441 : 0 ≤ (x8_1 : Int) := of_decide_eq_true jC
       have q441 : x8_1 < (l0.length : Int) := of_decide_eq_true jC
       obtain ⟨ad441, e441, hx441_0⟩ := Kd.at_string HR0.out x8_1 p441 q441
       cases e441
       replace p441 := eq_true p441
       replace q441 := eq_true q441
       go_wp2_with (first | (go_at_call 125; (with_reducible refine (impl_NameOk_1.calls k1 (rdOf ByteArray.empty l0 x8_1) true _ A6.out).mono ?_); rintro e w' ⟨rfl, ⟨nd, rfl⟩⟩))
       go_ret
       exact ⟨by first | rfl | (simp; done) | (simp [*]; done) | (simp [X.bne_nil, X.beq_nil]; done) | (simp [*, X.bne_nil, X.beq_nil]; done) | (simp [X.bne_nil, X.beq_nil]; done), by repeat (first | exact Drawn0.refl _ | apply Drawn0.step)⟩
      ·replace c7 := Bool.eq_false_iff.mpr c7
       subst c7
       have H1 : (slices_IndexFunc_string.l0 k1 l0 (l0.length : Int) (wrap64 (x8_1 + 1))) = some r := by rw [if_neg (show ¬ (false = true) by decide)] at H; exact H
       clear H
       have H := H1
       clear H1
       have H' := aS H
       clear H
       have p441 : 0 ≤ (x8_1 : Int) := of_decide_eq_true jC
       have q441 : x8_1 < (l0.length : Int) := of_decide_eq_true jC
       obtain ⟨ad441, e441, hx441_0⟩ := Kd.at_string HR0.out x8_1 p441 q441
       cases e441
       replace p441 := eq_true p441
       replace q441 := eq_true q441
       go_wp2_with (first | (go_at_call 125; (with_reducible refine (impl_NameOk_1.calls k1 (rdOf ByteArray.empty l0 x8_1) false _ A6.out).mono ?_); rintro e w' ⟨rfl, ⟨nd, rfl⟩⟩))
       go_roundg k1
       case measure => have := HK1.out; omega
       case rel => exact ⟨(wrap64 (x8_1 + 1)), jB, H', ⟨by have := HK1.out; omega⟩, by repeat (first | exact Drawn0.refl _ | apply Drawn0.step)⟩
     ·rw [if_neg c5] at H
      exact absurd H (by simp)
    ·rw [if_neg c4] at H
     exact absurd H (by simp)
   ·rw [if_neg c3] at H
    have c3b0 : decide (x8_1 < (l0.length : Int)) = false := decide_eq_false c3
    clear c3
    obtain rfl := Option.some.inj H
    go_wp2
    go_ret
    exact ⟨by first | rfl | (simp; done) | (simp [*]; done) | (simp [X.bne_nil, X.beq_nil]; done) | (simp [*, X.bne_nil, X.beq_nil]; done) | (simp [X.bne_nil, X.beq_nil]; done), by repeat (first | exact Drawn0.refl _ | apply Drawn0.step)⟩

/-! ### slices_ContainsFunc_string: function 124 -/
def slices_ContainsFunc_string.f (k : Nat) (l0 : List ByteArray)  : Option (Bool) := (slices_IndexFunc_string.f k l0).bind fun t443 => (some (decide (t443 ≥ 0)))
theorem slices_ContainsFunc_string.mono : ∀ a0 k, LeO (slices_ContainsFunc_string.f k a0) (slices_ContainsFunc_string.f (k + 1) a0) := by
 intro a0 k
 unfold slices_ContainsFunc_string.f
 repeat' first
   | (with_reducible first | exact slices_IndexFunc_string.mono _ _ | exact LeO.refl _ | exact LeO.none _ | refine LeO.ite ?_ ?_ | refine LeO.bind ?_ (fun _ => ?_))
   | exact slices_IndexFunc_string.mono _ _
   | exact LeO.none _
   | refine LeO.ite ?_ ?_
   | refine LeO.bind ?_ (fun _ => ?_)
set_option maxHeartbeats 8000000 in
set_option maxRecDepth 100000 in
theorem slices_ContainsFunc_string.calls (k : Nat) (A0 : Option Addr) (c0 : Nat) (l0 : List ByteArray)  (r : Bool) (w : World) (hr0 : Kd.C Kd.string w A0 l0.length l0) (hc0 : l0.length ≤ c0) (h : slices_ContainsFunc_string.f k l0 = some r) :
  Calls Tryd.prog 124 #[.slice A0 l0.length c0, .func (.func 125) #[] #[]] w fun e w' => e = .returned (.bool r) ∧ Drawn0 w w' := by
 have HR0 := aS hr0
 have HC0 := aS hc0
 clear hr0 hc0
 have H : ((slices_IndexFunc_string.f k l0).bind fun t443 => (some (decide (t443 ≥ 0)))) = some r := h
 clear h
 replace H := Option.bind_eq_some_iff.mp H
 obtain ⟨t443, A3, H⟩ := H
 try dsimp only at H
 replace A3 := aS A3
 obtain rfl := Option.some.inj H
 go_enter Tryd.func124, Tryd.ntmps124
 go_wp2_with (first | ((with_reducible refine gate_callee (f := 148) rfl ?_); refine goesL_ (some 7) rfl rfl Tryd.func148 jK rfl #[.slice A0 l0.length c0, .func (.func 125) #[] #[]] rfl jA ?_; (with_reducible refine (slices_IndexFunc_string.calls k _ _ l0  t443 _ ?side1 ?side2 A3.out).mono ?_); (case side1 => exact cU (HR0.out)); (case side2 => exact HC0.out); rintro e w' ⟨rfl, ⟨nd, rfl⟩⟩; refine ⟨_, rfl, ?_⟩))
 go_ret
 exact ⟨by first | rfl | (simp; done) | (simp [*]; done) | (simp [X.bne_nil, X.beq_nil]; done) | (simp [*, X.bne_nil, X.beq_nil]; done) | (simp [X.bne_nil, X.beq_nil]; done), by repeat (first | exact Drawn0.refl _ | apply Drawn0.step)⟩

/-! ### impl_NameOk: function 67 -/
def impl_NameOk.f (k : Nat) (a0 : ByteArray) : Option (Bool) := (impl_Labels.f a0).bind fun t444 => (if (a0.size : Int) ≤ 50 then (if (t444.length : Int) ≤ 6 then ((slices_ContainsFunc_string.f k t444).bind fun t447 => (some (!t447))) else (some false)) else (some false))
theorem impl_NameOk.mono : ∀ a0 k, LeO (impl_NameOk.f k a0) (impl_NameOk.f (k + 1) a0) := by
 intro a0 k
 unfold impl_NameOk.f
 repeat' first
   | (with_reducible first | exact slices_ContainsFunc_string.mono _ _ | exact LeO.refl _ | exact LeO.none _ | refine LeO.ite ?_ ?_ | refine LeO.bind ?_ (fun _ => ?_))
   | exact slices_ContainsFunc_string.mono _ _
   | exact LeO.none _
   | refine LeO.ite ?_ ?_
   | refine LeO.bind ?_ (fun _ => ?_)
set_option maxHeartbeats 8000000 in
set_option maxRecDepth 100000 in
theorem impl_NameOk.calls (k : Nat) (a0 : ByteArray) (r : Bool) (w : World) (h : impl_NameOk.f k a0 = some r) :
  Calls Tryd.prog 67 #[.string a0] w fun e w' => e = .returned (.bool r) ∧ Below w.heap.size w w' := by
 have HB := aS (Below.refl w.heap.size w)
 have H : ((impl_Labels.f a0).bind fun t444 => (if (a0.size : Int) ≤ 50 then (if (t444.length : Int) ≤ 6 then ((slices_ContainsFunc_string.f k t444).bind fun t447 => (some (!t447))) else (some false)) else (some false))) = some r := h
 clear h
 replace H := Option.bind_eq_some_iff.mp H
 obtain ⟨t444, A2, H⟩ := H
 try dsimp only at H
 replace A2 := aS A2
 by_cases c3 : (a0.size : Int) ≤ 50
 ·rw [if_pos c3] at H
  have c3b0 : decide ((a0.size : Int) ≤ 50) = true := decide_eq_true c3
  have c3b1 : decide (a0.size ≤ 50) = true := decide_eq_true (by omega)
  clear c3
  by_cases c4 : (t444.length : Int) ≤ 6
  ·rw [if_pos c4] at H
   have c4b0 : decide ((t444.length : Int) ≤ 6) = true := decide_eq_true c4
   have c4b1 : decide (t444.length ≤ 6) = true := decide_eq_true (by omega)
   clear c4
   replace H := Option.bind_eq_some_iff.mp H
   obtain ⟨t447, A5, H⟩ := H
   try dsimp only at H
   replace A5 := aS A5
   obtain rfl := Option.some.inj H
   go_enter Tryd.func67, Tryd.ntmps67
   go_wp2_with (first | ((with_reducible refine gate_callee (f := 115) rfl ?_); refine goesL_ (some 5) rfl rfl Tryd.func115 jK rfl #[.string a0] rfl jA ?_; (with_reducible refine (impl_Labels.calls a0 t444 _ A2.out).mono ?_); rintro e w6 ⟨v445, rfl, ho0, hb⟩; refine ⟨_, rfl, ?_⟩; have n0_ := aS (Kd.R_lower ho0 (below_size (wU HB.out))); have n1_ := aS (below_step (wU HB.out) hb); clear HB; revert n0_ n1_; intro HO446 HB; clear hb; (try clear ho0); obtain ⟨Ao7, co7, eo7⟩ := Kd.R_slice HO446.out; subst eo7) | (go_at_call 124; (with_reducible refine (slices_ContainsFunc_string.calls k _ _ t444  t447 _ ?side1 ?side2 A5.out).mono ?_); (case side1 => exact cU ((Kd.R_reads' HO446.out).2.2)); (case side2 => exact (Kd.R_reads' HO446.out).2.1); rintro e w' ⟨rfl, ⟨nd, rfl⟩⟩))
   go_ret
   exact ⟨jE, by repeat (first | (with_reducible first | exact HB.out | apply below_alloc | apply pw_below_drewN | apply below_drew1) | exact HB.out)⟩
  ·rw [if_neg c4] at H
   have c4b0 : decide ((t444.length : Int) ≤ 6) = false := decide_eq_false c4
   have c4b1 : decide (t444.length ≤ 6) = false := decide_eq_false (by omega)
   clear c4
   obtain rfl := Option.some.inj H
   go_enter Tryd.func67, Tryd.ntmps67
   go_wp2_with (first | ((with_reducible refine gate_callee (f := 115) rfl ?_); refine goesL_ (some 5) rfl rfl Tryd.func115 jK rfl #[.string a0] rfl jA ?_; (with_reducible refine (impl_Labels.calls a0 t444 _ A2.out).mono ?_); rintro e w8 ⟨v445, rfl, ho0, hb⟩; refine ⟨_, rfl, ?_⟩; have n0_ := aS (Kd.R_lower ho0 (below_size (wU HB.out))); have n1_ := aS (below_step (wU HB.out) hb); clear HB; revert n0_ n1_; intro HO446 HB; clear hb; (try clear ho0); obtain ⟨Ao9, co9, eo9⟩ := Kd.R_slice HO446.out; subst eo9))
   go_ret
   exact ⟨jE, by repeat (first | (with_reducible first | exact HB.out | apply below_alloc | apply pw_below_drewN | apply below_drew1) | exact HB.out)⟩
 ·rw [if_neg c3] at H
  have c3b0 : decide ((a0.size : Int) ≤ 50) = false := decide_eq_false c3
  have c3b1 : decide (a0.size ≤ 50) = false := decide_eq_false (by omega)
  clear c3
  obtain rfl := Option.some.inj H
  go_enter Tryd.func67, Tryd.ntmps67
  go_wp2_with (first | ((with_reducible refine gate_callee (f := 115) rfl ?_); refine goesL_ (some 5) rfl rfl Tryd.func115 jK rfl #[.string a0] rfl jA ?_; (with_reducible refine (impl_Labels.calls a0 t444 _ A2.out).mono ?_); rintro e w10 ⟨v445, rfl, ho0, hb⟩; refine ⟨_, rfl, ?_⟩; have n0_ := aS (Kd.R_lower ho0 (below_size (wU HB.out))); have n1_ := aS (below_step (wU HB.out) hb); clear HB; revert n0_ n1_; intro HO446 HB; clear hb; (try clear ho0)))
  go_ret
  exact ⟨jE, by repeat (first | (with_reducible first | exact HB.out | apply below_alloc | apply pw_below_drewN | apply below_drew1) | exact HB.out)⟩

end Go.Proofs.YtdigilidomimdaaDoor.Pr
