-- Written for this claim by a program of this session (wip/tool/pr.py, over the kit's printer).
-- half
import Derived.Test.YtdigilidomimdaaDoorPrx0
import Derived.Test.YtdigilidomimdaaDoorPrx1
import Derived.Test.YtdigilidomimdaaDoorPrx2
import Derived.Test.YtdigilidomimdaaDoorPrx3
import Derived.Test.YtdigilidomimdaaDoorPrx5
import Derived.Test.YtdigilidomimdaaDoorPrx6
import Derived.Test.YtdigilidomimdaaDoorPrx10
import Derived.Test.YtdigilidomimdaaDoorPrx11
import Derived.Test.YtdigilidomimdaaDoorPrx12
import Derived.Test.YtdigilidomimdaaDoorPrx13
import Derived.Test.YtdigilidomimdaaDoorPrx14
import Derived.Test.YtdigilidomimdaaDoorPrx15
namespace Go.Proofs.YtdigilidomimdaaDoor.Pr
open Go.RowKit Go.Proofs.YtdigilidomimdaaDoorW.PrintWords Go.Proofs.YtdigilidomimdaaDoorW.PrintLast Go.Proofs.YtdigilidomimdaaDoorW.PrintMore
attribute [local go_sem] max2_int min2_int max_two min_two max_three min_three max_four min_four   -- for this text's walks alone
set_option linter.unusedVariables false
set_option linter.unusedSimpArgs false

attribute [local go_sem high] eqA25
/-! ### spec_l5List: function 75 -/
def spec_l5List.l0 : Nat → List (S25) → Int → List Int → Int → Int → Option ((List (S25)) × Int × Int)
 | 0, _, _, _, _, _ => none
 | k + 1, x5, x6, x1000, x1001, x1002 => if x6 > 0 then ((spec_l5Draw.f k x1000 x1001 x1002).bind fun bt754 => (if x5.length < 1954687338268 then (spec_l5List.l0 k (x5 ++ [(⟨bt754.1, bt754.2.1, bt754.2.2.1, bt754.2.2.2.1, bt754.2.2.2.2.1, bt754.2.2.2.2.2.1⟩ : S25)]) (wrap64 (x6 - 1)) x1000 bt754.2.2.2.2.2.2.1 bt754.2.2.2.2.2.2.2) else (none))) else (some (x5, x1001, x1002))
def spec_l5List.f (k : Nat) (s0_0 : List Int) (s0_1 : Int) (s0_2 : Int) (a1 : Int) : Option ((List (S25)) × Int × Int) := (spec_l1Below.f s0_0 s0_1 s0_2 (wrap64 (a1 + 1))).bind fun bt751 => (spec_l5List.l0 k (([] : List (S25))) bt751.1 s0_0 bt751.2.1 bt751.2.2)
theorem spec_l5List.mono_l : ∀ k, (∀ y0 y1 y2 y3 y4, LeO (spec_l5List.l0 k y0 y1 y2 y3 y4) (spec_l5List.l0 (k + 1) y0 y1 y2 y3 y4))
 | 0 => fun _ _ _ _ _ r h => by simp [spec_l5List.l0] at h
 | k + 1 => by
  have ih0 := spec_l5List.mono_l k
  ·intro y0 y1 y2 y3 y4
   unfold spec_l5List.l0
   repeat' first
   | (with_reducible first | exact ih0 _ _ _ _ _ | exact spec_l5Draw.mono _ _ _ _ | exact LeO.refl _ | exact LeO.none _ | refine LeO.ite ?_ ?_ | refine LeO.bind ?_ (fun _ => ?_))
   | exact ih0 _ _ _ _ _
   | exact spec_l5Draw.mono _ _ _ _
   | exact LeO.none _
   | refine LeO.ite ?_ ?_
   | refine LeO.bind ?_ (fun _ => ?_)
theorem spec_l5List.mono : ∀ a0 a1 a2 a3 k, LeO (spec_l5List.f k a0 a1 a2 a3) (spec_l5List.f (k + 1) a0 a1 a2 a3) := by
 intro a0 a1 a2 a3 k
 have ih0 := spec_l5List.mono_l k
 unfold spec_l5List.f
 repeat' first
   | (with_reducible first | exact ih0 _ _ _ _ _ | exact spec_l5Draw.mono _ _ _ _ | exact LeO.refl _ | exact LeO.none _ | refine LeO.ite ?_ ?_ | refine LeO.bind ?_ (fun _ => ?_))
   | exact ih0 _ _ _ _ _
   | exact spec_l5Draw.mono _ _ _ _
   | exact LeO.none _
   | refine LeO.ite ?_ ?_
   | refine LeO.bind ?_ (fun _ => ?_)
set_option maxHeartbeats 8000000 in
set_option maxRecDepth 100000 in
theorem spec_l5List.calls (k : Nat) (g : Nat) (s0_0 : List Int) (s0_1 : Int) (s0_2 : Int) (a1 : Int) (r1 : List (S25)) (r2 : Int) (r3 : Int) (w0 w : World) (hI : IsS111 w0 w g s0_0 s0_1 s0_2) (hB : Below w0.heap.size w0 w) (h : spec_l5List.f k s0_0 s0_1 s0_2 a1 = some (r1, r2, r3)) :
  Calls Tryd.prog 75 #[.pointer (some ⟨g, 0, none⟩), .int .i64 a1] w fun e w' => ∃ v0_ : Value, e = .returned (v0_) ∧ Kd.R k25 25 w' w.heap.size (fun _ => True) v0_ r1 ∧ IsS111 w0 w' g s0_0 r2 r3 ∧ Below w0.heap.size w0 w' ∧ KeepBut w w' g none := by
 have HI0 := aS hI
 have HK := aS (KeepBut.refl w g none)
 have HL := aS hB.size
 clear hI
 have HW0 := aS hB.size
 have HB := aS hB
 clear hB
 have H : ((spec_l1Below.f s0_0 s0_1 s0_2 (wrap64 (a1 + 1))).bind fun bt751 => (spec_l5List.l0 k (([] : List (S25))) bt751.1 s0_0 bt751.2.1 bt751.2.2)) = some (r1, r2, r3) := h
 clear h
 obtain ⟨y748, hy_⟩ : ∃ y_ : List (S25), y_ = (([] : List (S25))) := ⟨_, rfl⟩
 replace H : ((spec_l1Below.f s0_0 s0_1 s0_2 (wrap64 (a1 + 1))).bind fun bt751 => (spec_l5List.l0 k y748 bt751.1 s0_0 bt751.2.1 bt751.2.2)) = some (r1, r2, r3) := jD
 have Ny748 := aS hy_
 clear hy_
 obtain ⟨⟨t751, t752, t753⟩, A3, H⟩ := bM H
 try dsimp only at H
 have H' := aS H
 clear H
 go_enter Tryd.func75, Tryd.ntmps75
 go_wp2_with (first | ((with_reducible refine gate_dst (N := 7) rfl ?_); refine Kd.R_lit k25 _ 25 ?hg (N := 7) ?hd (xs := ([] : List (S25))) (inner := []) (ok := fun _ => True) (okp := fun _ => True) ?hr ?hp (fun _ hk => hk) trivial (Below.refl _ _) (Nat.le_refl _) (by simp) ?_; (case hd => rfl); (case hg => rfl); (case hr => first | (go_simp; done) | (go_simp; rfl)); (case hp => exact (Reps.none _ _)); intro v749 w4 ho5 hb hg_ hnew_; clear hg_ hnew_; (first | rw [← Ny748.out] at ho5 | (simp only [Int.reduceToNat] at ho5; rw [← Ny748.out] at ho5)); have HO750 := aS (Kd.R_lower ho5 (keep_size (w := w) (g := g) (row := none) (kS0 HK.out))); replace HK := aS (KeepBut.trans (kS0 HK.out) (KeepBut.of_below hb g none) (.inl rfl)); replace HB := aS (below_step (by exact wS1 HB.out (IsS111.ge HI0.out)) hb); replace HI0 := aS (IsS111.below (IsS111.iS0 HI0.out) hb); clear hb ho5) | ((with_reducible refine gate_callee (f := 78) rfl ?_); refine goesL_ (some 11) rfl rfl Tryd.func78 jK rfl #[.pointer (some ⟨g, 0, none⟩), .int .i64 (wrap64 (a1 + 1))] rfl jA ?_; (with_reducible refine (spec_l1Below.calls g s0_0 s0_1 s0_2 (wrap64 (a1 + 1)) t751 t752 t753 w0 _ ?side1 ?side2 A3.out).mono ?_); (case side1 => exact IsS111.iS0 HI0.out); (case side2 => exact wS1 HB.out (IsS111.ge HI0.out)); rintro e w6 ⟨rfl, hi, hb, hk⟩; refine ⟨_, rfl, ?_⟩; replace HO750 := aS (Kd.R_mono (Kd.R_keep (IsS111.apart (show IsS111 w0 _ g s0_0 s0_1 s0_2 from by exact IsS111.iS0 HI0.out) (rU HO750.out) (by decide)) hk (fun _ h => h.2)) (fun _ h => h.1)); replace HK := aS (KeepBut.trans (kS0 HK.out) hk (.inl rfl)); replace HB := aS (hb); replace HI0 := aS (hi); clear hi hb hk))
 go_loopg [5, 6] k (fun kq v5 v6 w' => ∃ (x5_1 : List (S25)) (x6_1 : Int) (x1001_1 : Int) (x1002_1 : Int), v6 = .int .i64 x6_1 ∧ Aside0 (spec_l5List.l0 kq x5_1 x6_1 s0_0 x1001_1 x1002_1 = some (r1, r2, r3)) ∧ Aside0 (kq ≤ k) ∧ Aside0 (Kd.R k25 25 w' w.heap.size (fun _ => True) v5 x5_1) ∧ Aside0 (IsS111 w0 w' g s0_0 x1001_1 x1002_1) ∧ Aside0 (KeepBut w w' g none) ∧ Aside0 (Below w0.heap.size w0 w'))
 case atStart => exact ⟨(y748), (t751), (t752), (t753), jB, H', ⟨Nat.le_refl _⟩, ⟨by exact rU HO750.out⟩, ⟨by exact IsS111.iS0 HI0.out⟩, ⟨by exact kS0 HK.out⟩, ⟨by exact wS1 HB.out (IsS111.ge HI0.out)⟩⟩
 case round =>
  clear H'
  try clear p2
  try clear p6
  obtain ⟨x5_1, x6_1, x1001_1, x1002_1, rfl, HA, HK1, HO_5, HI0, HK, HB⟩ := hrel
  cases gk with
  | zero => exact absurd HA.out (by simp [spec_l5List.l0])
  | succ k1 =>
   have H := HA.out
   clear HA
   simp only [spec_l5List.l0] at H
   by_cases c7 : x6_1 > 0
   ·rw [if_pos c7] at H
    have c7b0 := decide_eq_true c7
    clear c7
    obtain ⟨⟨t754, t755, t756, t757, t758, t759, t760, t761⟩, A8, H⟩ := bM H
    try dsimp only at H
    by_cases c9 : x5_1.length < 1954687338268
    ·rw [if_pos c9] at H
     have LMc9 := aS c9
     clear c9
     obtain ⟨y762, hy_⟩ : ∃ y_ : List (S25), y_ = (x5_1 ++ [(⟨t754, t755, t756, t757, t758, t759⟩ : S25)]) := ⟨_, rfl⟩
     replace H : (spec_l5List.l0 k1 y762 (wrap64 (x6_1 - 1)) s0_0 t760 t761) = some (r1, r2, r3) := jD
     have Ny762 := aS hy_
     clear hy_
     have H' := aS H
     clear H
     go_wp2_with (first | ((with_reducible refine gate_callee (f := 79) rfl ?_); refine goesL_ (some 18) rfl rfl Tryd.func79 jK rfl #[.pointer (some ⟨g, 0, none⟩)] rfl jA ?_; (with_reducible refine (spec_l5Draw.calls k1 g s0_0 x1001_1 x1002_1 t754 t755 t756 t757 t758 t759 t760 t761 w0 _ ?side1 ?side2 A8.out).mono ?_); (case side1 => exact IsS111.iS0 HI0.out); (case side2 => exact wS1 HB.out (IsS111.ge HI0.out)); rintro e w10 ⟨rfl, hi, hb, hk⟩; refine ⟨_, rfl, ?_⟩; replace HO_5 := aS (Kd.R_mono (Kd.R_keep (IsS111.apart (show IsS111 w0 _ g s0_0 x1001_1 x1002_1 from by exact IsS111.iS0 HI0.out) (rU HO_5.out) (by decide)) hk (fun _ h => h.2)) (fun _ h => h.1)); replace HK := aS (KeepBut.trans (kS0 HK.out) hk (.inl rfl)); replace HB := aS (hb); replace HI0 := aS (hi); clear hi hb hk) | ((with_reducible refine gate_builtin (b := .append) (xs := #[.tmp 16, .tmp 19]) rfl ?_); at_builtin; refine Kd.R_append k25 w.heap.size rfl (.tmp 16) (.tmp 19) 36 25 (.agg #[(.string ⟨#[]⟩), (.int .i64 0), (.int .i64 0), (.int .i64 0), (.string ⟨#[]⟩), (.string ⟨#[]⟩)]) 72 rfl Tryd.underlying36 info25 rfl (by decide) (by omega) u5 x5_1 (⟨t754, t755, t756, t757, t758, t759⟩ : S25) [.string t754, .int .i64 t755, .int .i64 t756, .int .i64 t757, .string t758, .string t759] (fun _ => True) (fun _ => False) rfl rfl ?aP (fun _ hk => hk.elim) ?aF ?aO (Below.refl _ _) ?aS ?aL ?_; (case aP => exact k25_mkM _ _ _ (⟨t754, t755, t756, t757, t758, t759⟩ : S25)); (case aF => exact (fun _ _ => trivial)); (case aO => exact (rU HO_5.out)); (case aS => exact (keep_size (w := w) (g := g) (row := none) (kS0 HK.out))); (case aL => have := LMc9.out; omega); intro v763 w11 ho hb hg hat; rw [← Ny762.out] at ho; replace HB := aS (below_weaken (by exact wS1 HB.out (IsS111.ge HI0.out)) HL.out hb); replace HI0 := aS (IsS111.grown (IsS111.iS0 HI0.out) hg (IsS111.own_ne HI0.out HO_5.out (by decide))); replace HK := aS (KeepBut.trans (kS0 HK.out) (KeepBut.of_grown hg g) (Kd.R_base2 HO_5.out)); have HO764 := aS (ho); clear HO_5; clear ho hb hg hat))
     go_roundg k1
     case measure => have := HK1.out; omega
     case rel => exact ⟨(y762), (wrap64 (x6_1 - 1)), (t760), (t761), jB, H', ⟨by have := HK1.out; omega⟩, ⟨by exact rU HO764.out⟩, ⟨by exact IsS111.iS0 HI0.out⟩, ⟨by exact kS0 HK.out⟩, ⟨by exact wS1 HB.out (IsS111.ge HI0.out)⟩⟩
    ·rw [if_neg c9] at H
     exact absurd H (by simp)
   ·rw [if_neg c7] at H
    have c7b0 := decide_eq_false c7
    clear c7
    simp only [Option.some.injEq, Prod.mk.injEq] at H
    obtain ⟨rfl, rfl, rfl⟩ := H
    go_wp2
    go_ret
    exact ⟨_, jE, by exact rU HO_5.out, by exact IsS111.iS0 HI0.out, by exact wS1 HB.out (IsS111.ge HI0.out), by exact kS0 HK.out⟩

/-! ### spec_DrawGetRecords: function 27 -/
def spec_DrawGetRecords.j0 : Nat → List (S25) → Int → List Int → Int → Int → Option (List Int × Int × Int)
 | 0, _, _, _, _, _ => none
 | k + 1, x6, x7, x769000, x769001, x769002 => (spec_PutRecords.f k (([] : List Int)) x6).bind fun t786 => ((spec_l1Once.f x769000 x769001 x769002 3).bind fun bt789 => (if bt789.1 = true then ((spec_l1Bent.f x769000 bt789.2.1 bt789.2.2 t786).bind fun bt792 => ((spec_l1Int.f x769000 bt792.2.1 bt792.2.2 (([0, 0, 0, 0, 1, (-1)] : List Int))).bind fun bt800 => (some (bt792.1, bt800.1, x7)))) else ((spec_l1Int.f x769000 bt789.2.1 bt789.2.2 (([0, 0, 0, 0, 1, (-1)] : List Int))).bind fun bt806 => (some (t786, bt806.1, x7)))))
def spec_DrawGetRecords.f (k : Nat) (l0 : List Int) : Option (List Int × Int × Int) := (spec_l1New.f k l0).bind fun bt765 => ((spec_l5List.f k bt765.1 bt765.2.1 bt765.2.2 4).bind fun bt769 => ((spec_l1Once.f bt765.1 bt769.2.1 bt769.2.2 6).bind fun bt774 => (if bt774.1 = true then ((spec_l1Int.f bt765.1 bt774.2.1 bt774.2.2 (([0, wrap64 ((bt769.1.length : Int) + 1), 8, 9, (-1)] : List Int))).bind fun bt780 => (spec_DrawGetRecords.j0 k bt769.1 bt780.1 bt765.1 bt780.2.1 bt780.2.2)) else (spec_DrawGetRecords.j0 k bt769.1 (bt769.1.length : Int) bt765.1 bt774.2.1 bt774.2.2))))
theorem spec_DrawGetRecords.mono_l : ∀ k, (∀ y0 y1 y2 y3 y4, LeO (spec_DrawGetRecords.j0 k y0 y1 y2 y3 y4) (spec_DrawGetRecords.j0 (k + 1) y0 y1 y2 y3 y4))
 | 0 => fun _ _ _ _ _ r h => by simp [spec_DrawGetRecords.j0] at h
 | k + 1 => by
  have ih0 := spec_DrawGetRecords.mono_l k
  ·intro y0 y1 y2 y3 y4
   unfold spec_DrawGetRecords.j0
   repeat' first
   | (with_reducible first | exact ih0 _ _ _ _ _ | exact spec_PutRecords.mono _ _ _ | exact spec_l1New.mono _ _ | exact spec_l5List.mono _ _ _ _ _ | exact LeO.refl _ | exact LeO.none _ | refine LeO.ite ?_ ?_ | refine LeO.bind ?_ (fun _ => ?_))
   | exact ih0 _ _ _ _ _
   | exact spec_PutRecords.mono _ _ _
   | exact spec_l1New.mono _ _
   | exact spec_l5List.mono _ _ _ _ _
   | exact LeO.none _
   | refine LeO.ite ?_ ?_
   | refine LeO.bind ?_ (fun _ => ?_)
theorem spec_DrawGetRecords.mono : ∀ a0 k, LeO (spec_DrawGetRecords.f k a0) (spec_DrawGetRecords.f (k + 1) a0) := by
 intro a0 k
 have ih0 := spec_DrawGetRecords.mono_l k
 unfold spec_DrawGetRecords.f
 repeat' first
   | (with_reducible first | exact ih0 _ _ _ _ _ | exact spec_PutRecords.mono _ _ _ | exact spec_l1New.mono _ _ | exact spec_l5List.mono _ _ _ _ _ | exact LeO.refl _ | exact LeO.none _ | refine LeO.ite ?_ ?_ | refine LeO.bind ?_ (fun _ => ?_))
   | exact ih0 _ _ _ _ _
   | exact spec_PutRecords.mono _ _ _
   | exact spec_l1New.mono _ _
   | exact spec_l5List.mono _ _ _ _ _
   | exact LeO.none _
   | refine LeO.ite ?_ ?_
   | refine LeO.bind ?_ (fun _ => ?_)
set_option maxHeartbeats 8000000 in
set_option maxRecDepth 100000 in
theorem spec_DrawGetRecords.calls (k : Nat) (A0 : Option Addr) (c0 : Nat) (l0 : List Int) (r1 : List Int) (r2 : Int) (r3 : Int) (w : World) (hr0 : Kd.C (Kd.int .u8) w A0 l0.length l0) (hc0 : l0.length ≤ c0) (h : spec_DrawGetRecords.f k l0 = some (r1, r2, r3)) :
  Calls Tryd.prog 27 #[.slice A0 l0.length c0] w fun e w' => ∃ v0_ : Value, e = .returned (.tuple #[v0_, .int .i64 r2, .int .i64 r3]) ∧ Kd.R (Kd.int .u8) 5 w' w.heap.size (fun _ => True) v0_ r1 ∧ Below w.heap.size w w' := by
 have HR0 := aS hr0
 have HC0 := aS hc0
 clear hr0 hc0
 have HB := aS (Below.refl w.heap.size w)
 have H : ((spec_l1New.f k l0).bind fun bt765 => ((spec_l5List.f k bt765.1 bt765.2.1 bt765.2.2 4).bind fun bt769 => ((spec_l1Once.f bt765.1 bt769.2.1 bt769.2.2 6).bind fun bt774 => (if bt774.1 = true then ((spec_l1Int.f bt765.1 bt774.2.1 bt774.2.2 (([0, wrap64 ((bt769.1.length : Int) + 1), 8, 9, (-1)] : List Int))).bind fun bt780 => (spec_DrawGetRecords.j0 k bt769.1 bt780.1 bt765.1 bt780.2.1 bt780.2.2)) else (spec_DrawGetRecords.j0 k bt769.1 (bt769.1.length : Int) bt765.1 bt774.2.1 bt774.2.2))))) = some (r1, r2, r3) := h
 clear h
 obtain ⟨⟨t765, t766, t767⟩, A2, H⟩ := bM H
 try dsimp only at H
 obtain ⟨⟨t769, t772, t773⟩, A3, H⟩ := bM H
 try dsimp only at H
 obtain ⟨⟨t774, t775, t776⟩, A4, H⟩ := bM H
 try dsimp only at H
 have HC5 := aS H
 clear H
 go_enter Tryd.func27, Tryd.ntmps27
 go_upto_if 16 with (first | ((with_reducible refine gate_callee (f := 56) rfl ?_); refine goesL_ (some 10) rfl rfl Tryd.func56 jK rfl #[.slice A0 l0.length c0] rfl jA ?_; (with_reducible refine (spec_l1New.calls k _ _ l0 t765 t766 t767 w _ ?side1 ?side2 ?side3 A2.out).mono ?_); (case side1 => exact wU HB.out); (case side2 => exact HR0.out); (case side3 => exact HC0.out); rintro e w6 ⟨g768, rfl, hi, hb, hb2⟩; refine ⟨_, rfl, ?_⟩; replace HB := aS (hb); have HI768 := aS (hi); clear hi hb hb2) | ((with_reducible refine gate_callee (f := 75) rfl ?_); refine goesL_ (some 12) rfl rfl Tryd.func75 jK rfl #[.pointer (some ⟨g768, 0, none⟩), .int .i64 4] rfl jA ?_; (with_reducible refine (spec_l5List.calls k g768 t765 t766 t767 4 t769 t772 t773 w _ ?side1 ?side2 A3.out).mono ?_); (case side1 => exact IsS111.iS0 HI768.out); (case side2 => exact wS1 HB.out (IsS111.ge HI768.out)); rintro e w7 ⟨v770, rfl, ho0, hi, hb, hk⟩; refine ⟨_, rfl, ?_⟩; have HO771 := aS (Kd.R_lower ho0 (below_size (by exact wS1 HB.out (IsS111.ge HI768.out)))); replace HB := aS (hb); replace HI768 := aS (hi); clear hi hb hk; (try clear ho0); obtain ⟨Ao8, co8, eo8⟩ := Kd.R_slice HO771.out; subst eo8) | ((with_reducible refine gate_callee (f := 76) rfl ?_); refine goesL_ (some 16) rfl rfl Tryd.func76 jK rfl #[.pointer (some ⟨g768, 0, none⟩), .int .i64 6] rfl jA ?_; (with_reducible refine (spec_l1Once.calls g768 t765 t772 t773 6 t774 t775 t776 w _ ?side1 ?side2 A4.out).mono ?_); (case side1 => exact IsS111.iS0 HI768.out); (case side2 => exact wS1 HB.out (IsS111.ge HI768.out)); rintro e w9 ⟨rfl, hi, hb, hk⟩; refine ⟨_, rfl, ?_⟩; replace HO771 := aS (Kd.R_mono (Kd.R_keep (IsS111.apart (show IsS111 w _ g768 t765 t772 t773 from by exact IsS111.iS0 HI768.out) (rU HO771.out) (by decide)) hk (fun _ h => h.2)) (fun _ h => h.1)); replace HB := aS (hb); replace HI768 := aS (hi); clear hi hb hk))
 (try simp only [Act.put, List.setIfInBounds_toArray, List.set_cons_zero, List.set_cons_succ])
 go_cut [7] (fun v7 wc => ∃ (kq : Nat) (x7_4 : Int) (x769001_4 : Int) (x769002_4 : Int), v7 = .int .i64 x7_4 ∧ Aside0 (spec_DrawGetRecords.j0 kq t769 x7_4 t765 x769001_4 x769002_4 = some (r1, r2, r3)) ∧ Aside0 (kq ≤ k) ∧ Aside0 (Kd.R k25 25 wc w.heap.size (fun _ => True) (.slice Ao8 t769.length co8) t769) ∧ Aside0 (IsS111 w wc g768 t765 x769001_4 x769002_4) ∧ Aside0 (Below w.heap.size w wc))
 case first =>
  have H := HC5.out
  clear HC5
  by_cases c10 : t774 = true
  ·subst c10
   rw [if_pos rfl] at H
   obtain ⟨y777, hy_⟩ : ∃ y_ : List Int, y_ = (([0, wrap64 ((t769.length : Int) + 1), 8, 9, (-1)] : List Int)) := ⟨_, rfl⟩
   replace H : ((spec_l1Int.f t765 t775 t776 y777).bind fun bt780 => (spec_DrawGetRecords.j0 k t769 bt780.1 t765 bt780.2.1 bt780.2.2)) = some (r1, r2, r3) := jD
   have Ny777 := aS hy_
   clear hy_
   obtain ⟨⟨t780, t781, t782⟩, A11, H⟩ := bM H
   try dsimp only at H
   have H' := aS H
   clear H
   go_wp2_with (first | ((with_reducible refine gate_dst (N := 20) rfl ?_); refine Kd.R_lit (Kd.int .i64) _ 3 ?hg (N := 20) ?hd (xs := ([0, wrap64 ((t769.length : Int) + 1), 8, 9, (-1)] : List Int)) (inner := [.int .i64 0, .int .i64 (wrap64 ((t769.length : Int) + 1)), .int .i64 8, .int .i64 9, .int .i64 (-1)]) (ok := fun _ => True) (okp := fun _ => True) ?hr ?hp (fun _ hk => hk) trivial (Below.refl _ _) (Nat.le_refl _) (by simp) ?_; (case hd => rfl); (case hg => rfl); (case hr => first | (go_simp; done) | (go_simp; rfl)); (case hp => exact (Reps.one (show Kd.M (Kd.int .i64) _ _ _ 0 [.int .i64 0] from rfl) (Reps.one (show Kd.M (Kd.int .i64) _ _ _ (wrap64 ((t769.length : Int) + 1)) [.int .i64 (wrap64 ((t769.length : Int) + 1))] from rfl) (Reps.one (show Kd.M (Kd.int .i64) _ _ _ 8 [.int .i64 8] from rfl) (Reps.one (show Kd.M (Kd.int .i64) _ _ _ 9 [.int .i64 9] from rfl) (Reps.one (show Kd.M (Kd.int .i64) _ _ _ (-1) [.int .i64 (-1)] from rfl) (Reps.none _ _))))))); intro v778 w12 ho13 hb hg_ hnew_; clear hg_ hnew_; (first | rw [← Ny777.out] at ho13 | (simp only [Int.reduceToNat] at ho13; rw [← Ny777.out] at ho13)); replace HO771 := aS (Kd.R_below (rU HO771.out) hb); have HO779 := aS (Kd.R_lower ho13 (below_size (by exact wS1 HB.out (IsS111.ge HI768.out)))); replace HB := aS (below_step (by exact wS1 HB.out (IsS111.ge HI768.out)) hb); replace HI768 := aS (IsS111.below (IsS111.iS0 HI768.out) hb); clear hb ho13; obtain ⟨Ao14, co14, eo14⟩ := Kd.R_slice HO779.out; subst eo14) | ((with_reducible refine gate_callee (f := 81) rfl ?_); refine goesL_ (some 21) rfl rfl Tryd.func81 jK rfl #[.pointer (some ⟨g768, 0, none⟩), .slice Ao14 y777.length co14] rfl jA ?_; (with_reducible refine (spec_l1Int.calls g768 t765 t775 t776 _ _ y777 t780 t781 t782 w _ ?side1 ?side2 ?side3 ?side4 ?side5 A11.out).mono ?_); (case side1 => exact IsS111.iS0 HI768.out); (case side2 => exact wS1 HB.out (IsS111.ge HI768.out)); (case side3 => exact cU ((Kd.R_reads' HO779.out).2.2)); (case side4 => exact (Kd.R_reads' HO779.out).2.1); (case side5 => exact far_slice (IsS111.own_ne HI768.out HO779.out (by decide))); rintro e w15 ⟨rfl, hi, hb, hk⟩; refine ⟨_, rfl, ?_⟩; replace HO771 := aS (Kd.R_mono (Kd.R_keep (IsS111.apart (show IsS111 w _ g768 t765 t775 t776 from by exact IsS111.iS0 HI768.out) (rU HO771.out) (by decide)) hk (fun _ h => h.2)) (fun _ h => h.1)); replace HO779 := aS (Kd.R_mono (Kd.R_keep (IsS111.apart (show IsS111 w _ g768 t765 t775 t776 from by exact IsS111.iS0 HI768.out) (rU HO779.out) (by decide)) hk (fun _ h => h.2)) (fun _ h => h.1)); replace HB := aS (hb); replace HI768 := aS (hi); clear hi hb hk))
   go_meet
   case rel => exact ⟨_, (t780), (t781), (t782), jB, H', ⟨by first | omega | exact Nat.le_refl _⟩, ⟨by exact rU HO771.out⟩, ⟨by exact IsS111.iS0 HI768.out⟩, ⟨by exact wS1 HB.out (IsS111.ge HI768.out)⟩⟩
  ·replace c10 := Bool.eq_false_iff.mpr c10
   subst c10
   rw [if_neg Bool.false_ne_true] at H
   have H' := aS H
   clear H
   go_wp2
   go_meet
   case rel => exact ⟨_, ((t769.length : Int)), (t775), (t776), jB, H', ⟨by first | omega | exact Nat.le_refl _⟩, ⟨by exact rU HO771.out⟩, ⟨by exact IsS111.iS0 HI768.out⟩, ⟨by exact wS1 HB.out (IsS111.ge HI768.out)⟩⟩
 case rest =>
  clear HC5
  try clear c1
  try clear c2
  try clear p2
  try clear c5
  try clear p6
  try clear c7
  try clear c8
  try clear c10
  obtain ⟨kq, x7_4, x769001_4, x769002_4, rfl, HA, HJ4, HO_6, HI768, HB⟩ := hcut
  cases kq with
  | zero => exact absurd HA.out (by simp [spec_DrawGetRecords.j0])
  | succ kj4 =>
   have H := HA.out
   clear HA
   simp only [spec_DrawGetRecords.j0] at H
   obtain ⟨y783, hy_⟩ : ∃ y_ : List Int, y_ = (([] : List Int)) := ⟨_, rfl⟩
   replace H : ((spec_PutRecords.f kj4 y783 t769).bind fun t786 => ((spec_l1Once.f t765 x769001_4 x769002_4 3).bind fun bt789 => (if bt789.1 = true then ((spec_l1Bent.f t765 bt789.2.1 bt789.2.2 t786).bind fun bt792 => ((spec_l1Int.f t765 bt792.2.1 bt792.2.2 (([0, 0, 0, 0, 1, (-1)] : List Int))).bind fun bt800 => (some (bt792.1, bt800.1, x7_4)))) else ((spec_l1Int.f t765 bt789.2.1 bt789.2.2 (([0, 0, 0, 0, 1, (-1)] : List Int))).bind fun bt806 => (some (t786, bt806.1, x7_4)))))) = some (r1, r2, r3) := jD
   have Ny783 := aS hy_
   clear hy_
   obtain ⟨t786, A16, H⟩ := bM H
   try dsimp only at H
   obtain ⟨⟨t789, t790, t791⟩, A17, H⟩ := bM H
   try dsimp only at H
   have HC18 := aS H
   clear H
   go_upto_if 26 with (first | ((with_reducible refine gate_dst (N := 22) rfl ?_); refine Kd.R_lit (Kd.int .u8) _ 5 ?hg (N := 22) ?hd (xs := ([] : List Int)) (inner := []) (ok := fun _ => True) (okp := fun _ => True) ?hr ?hp (fun _ hk => hk) trivial (Below.refl _ _) (Nat.le_refl _) (by simp) ?_; (case hd => rfl); (case hg => rfl); (case hr => first | (go_simp; done) | (go_simp; rfl)); (case hp => exact (Reps.none _ _)); intro v784 w19 ho20 hb hg_ hnew_; clear hg_ hnew_; (first | rw [← Ny783.out] at ho20 | (simp only [Int.reduceToNat] at ho20; rw [← Ny783.out] at ho20)); replace HO_6 := aS (Kd.R_below (rU HO_6.out) hb); have HO785 := aS (Kd.R_lower ho20 (below_size (by exact wS1 HB.out (IsS111.ge HI768.out)))); replace HB := aS (below_step (by exact wS1 HB.out (IsS111.ge HI768.out)) hb); replace HI768 := aS (IsS111.below (IsS111.iS0 HI768.out) hb); clear hb ho20; obtain ⟨Ao21, co21, eo21⟩ := Kd.R_slice HO785.out; subst eo21) | ((with_reducible refine gate_callee (f := 20) rfl ?_); refine goesL_ (some 24) rfl rfl Tryd.func20 jK rfl #[.slice Ao21 y783.length co21, .slice Ao8 t769.length co8] rfl jA ?_; (with_reducible refine (spec_PutRecords.calls kj4 _ _ y783 _ _ t769 t786 _ ?side1 ?side2 ?side3 ?side4 A16.out).mono ?_); (case side1 => exact cU ((Kd.R_reads' HO785.out).2.2)); (case side2 => exact (Kd.R_reads' HO785.out).2.1); (case side3 => exact cU ((Kd.R_reads' HO_6.out).2.2)); (case side4 => exact (Kd.R_reads' HO_6.out).2.1); rintro e w22 ⟨v787, rfl, ho0, hb⟩; refine ⟨_, rfl, ?_⟩; replace HO_6 := aS (Kd.R_below (rU HO_6.out) hb); have HO788 := aS (Kd.R_lower (Kd.R_new' ho0 (Kd.R_lt (rU HO785.out))) (below_size (by exact wS1 HB.out (IsS111.ge HI768.out)))); replace HO785 := aS (Kd.R_elder' (rU HO785.out) (Kd.R_base ho0) hb); replace HB := aS (below_step (by exact wS1 HB.out (IsS111.ge HI768.out)) hb); replace HI768 := aS (IsS111.below (IsS111.iS0 HI768.out) hb); clear hb; (try clear ho0)) | ((with_reducible refine gate_callee (f := 76) rfl ?_); refine goesL_ (some 26) rfl rfl Tryd.func76 jK rfl #[.pointer (some ⟨g768, 0, none⟩), .int .i64 3] rfl jA ?_; (with_reducible refine (spec_l1Once.calls g768 t765 x769001_4 x769002_4 3 t789 t790 t791 w _ ?side1 ?side2 A17.out).mono ?_); (case side1 => exact IsS111.iS0 HI768.out); (case side2 => exact wS1 HB.out (IsS111.ge HI768.out)); rintro e w23 ⟨rfl, hi, hb, hk⟩; refine ⟨_, rfl, ?_⟩; replace HO_6 := aS (Kd.R_mono (Kd.R_keep (IsS111.apart (show IsS111 w _ g768 t765 x769001_4 x769002_4 from by exact IsS111.iS0 HI768.out) (rU HO_6.out) (by decide)) hk (fun _ h => h.2)) (fun _ h => h.1)); replace HO785 := aS (Kd.R_mono (Kd.R_keep (IsS111.apart (show IsS111 w _ g768 t765 x769001_4 x769002_4 from by exact IsS111.iS0 HI768.out) (rU HO785.out) (by decide)) hk (fun _ h => h.2)) (fun _ h => h.1)); replace HO788 := aS (Kd.R_mono (Kd.R_keep (IsS111.apart (show IsS111 w _ g768 t765 x769001_4 x769002_4 from by exact IsS111.iS0 HI768.out) (rU HO788.out) (by decide)) hk (fun _ h => h.2)) (fun _ h => h.1)); replace HB := aS (hb); replace HI768 := aS (hi); clear hi hb hk))
   (try simp only [Act.put, List.setIfInBounds_toArray, List.set_cons_zero, List.set_cons_succ])
   have H := HC18.out
   clear HC18
   by_cases c24 : t789 = true
   ·subst c24
    rw [if_pos rfl] at H
    obtain ⟨⟨t792, t795, t796⟩, A25, H⟩ := bM H
    try dsimp only at H
    obtain ⟨y797, hy_⟩ : ∃ y_ : List Int, y_ = (([0, 0, 0, 0, 1, (-1)] : List Int)) := ⟨_, rfl⟩
    replace H : ((spec_l1Int.f t765 t795 t796 y797).bind fun bt800 => (some (t792, bt800.1, x7_4))) = some (r1, r2, r3) := jD
    have Ny797 := aS hy_
    clear hy_
    obtain ⟨⟨t800, t801, t802⟩, A26, H⟩ := bM H
    try dsimp only at H
    simp only [Option.some.injEq, Prod.mk.injEq] at H
    obtain ⟨rfl, rfl, rfl⟩ := H
    obtain ⟨Ao27, co27, eo27⟩ := Kd.R_slice HO788.out
    subst eo27
    go_wp2_with (first | ((with_reducible refine gate_callee (f := 80) rfl ?_); refine goesL_ (some 29) rfl rfl Tryd.func80 jK rfl #[.pointer (some ⟨g768, 0, none⟩), .slice Ao27 t786.length co27] rfl jA ?_; (with_reducible refine (spec_l1Bent.calls g768 t765 t790 t791 _ _ t786 t792 t795 t796 w _ ?side1 ?side2 ?side3 ?side4 ?side5 A25.out).mono ?_); (case side1 => exact IsS111.iS0 HI768.out); (case side2 => exact wS1 HB.out (IsS111.ge HI768.out)); (case side3 => exact cU ((Kd.R_reads' HO788.out).2.2)); (case side4 => exact (Kd.R_reads' HO788.out).2.1); (case side5 => exact far_slice (IsS111.own_ne HI768.out HO788.out (by decide))); rintro e w28 ⟨v793, rfl, ho0, hi, hb, hk⟩; refine ⟨_, rfl, ?_⟩; replace HO_6 := aS (Kd.R_mono (Kd.R_keep (IsS111.apart (show IsS111 w _ g768 t765 t790 t791 from by exact IsS111.iS0 HI768.out) (rU HO_6.out) (by decide)) hk (fun _ h => h.2)) (fun _ h => h.1)); have HO794 := aS (Kd.R_lower (Kd.R_new' (Kd.R_new' ho0 (Kd.R_lt (rU HO785.out))) (Kd.R_lt (rU HO788.out))) (below_size (by exact wS1 HB.out (IsS111.ge HI768.out)))); replace HO785 := aS (Kd.R_mono (Kd.R_told (Kd.R_oldK (IsS111.apart (show IsS111 w _ g768 t765 t790 t791 from by exact IsS111.iS0 HI768.out) (rU HO785.out) (by decide)) hk) (Kd.R_base ho0)) (fun _ h_ => h_.1)); replace HO788 := aS (Kd.R_mono (Kd.R_told (Kd.R_oldK (IsS111.apart (show IsS111 w _ g768 t765 t790 t791 from by exact IsS111.iS0 HI768.out) (rU HO788.out) (by decide)) hk) (Kd.R_base ho0)) (fun _ h_ => h_.1)); replace HB := aS (hb); replace HI768 := aS (hi); clear hi hb hk; (try clear ho0)) | ((with_reducible refine gate_dst (N := 32) rfl ?_); refine Kd.R_lit (Kd.int .i64) _ 3 ?hg (N := 32) ?hd (xs := ([0, 0, 0, 0, 1, (-1)] : List Int)) (inner := [.int .i64 0, .int .i64 0, .int .i64 0, .int .i64 0, .int .i64 1, .int .i64 (-1)]) (ok := fun _ => True) (okp := fun _ => True) ?hr ?hp (fun _ hk => hk) trivial (Below.refl _ _) (Nat.le_refl _) (by simp) ?_; (case hd => rfl); (case hg => rfl); (case hr => first | (go_simp; done) | (go_simp; rfl)); (case hp => exact (Reps.one (show Kd.M (Kd.int .i64) _ _ _ 0 [.int .i64 0] from rfl) (Reps.one (show Kd.M (Kd.int .i64) _ _ _ 0 [.int .i64 0] from rfl) (Reps.one (show Kd.M (Kd.int .i64) _ _ _ 0 [.int .i64 0] from rfl) (Reps.one (show Kd.M (Kd.int .i64) _ _ _ 0 [.int .i64 0] from rfl) (Reps.one (show Kd.M (Kd.int .i64) _ _ _ 1 [.int .i64 1] from rfl) (Reps.one (show Kd.M (Kd.int .i64) _ _ _ (-1) [.int .i64 (-1)] from rfl) (Reps.none _ _)))))))); intro v798 w29 ho30 hb hg_ hnew_; clear hg_ hnew_; (first | rw [← Ny797.out] at ho30 | (simp only [Int.reduceToNat] at ho30; rw [← Ny797.out] at ho30)); replace HO_6 := aS (Kd.R_below (rU HO_6.out) hb); replace HO785 := aS (Kd.R_below (rU HO785.out) hb); replace HO788 := aS (Kd.R_below (rU HO788.out) hb); replace HO794 := aS (Kd.R_below (rU HO794.out) hb); have HO799 := aS (Kd.R_lower ho30 (below_size (by exact wS1 HB.out (IsS111.ge HI768.out)))); replace HB := aS (below_step (by exact wS1 HB.out (IsS111.ge HI768.out)) hb); replace HI768 := aS (IsS111.below (IsS111.iS0 HI768.out) hb); clear hb ho30; obtain ⟨Ao31, co31, eo31⟩ := Kd.R_slice HO799.out; subst eo31) | ((with_reducible refine gate_callee (f := 81) rfl ?_); refine goesL_ (some 33) rfl rfl Tryd.func81 jK rfl #[.pointer (some ⟨g768, 0, none⟩), .slice Ao31 y797.length co31] rfl jA ?_; (with_reducible refine (spec_l1Int.calls g768 t765 t795 t796 _ _ y797 t800 t801 t802 w _ ?side1 ?side2 ?side3 ?side4 ?side5 A26.out).mono ?_); (case side1 => exact IsS111.iS0 HI768.out); (case side2 => exact wS1 HB.out (IsS111.ge HI768.out)); (case side3 => exact cU ((Kd.R_reads' HO799.out).2.2)); (case side4 => exact (Kd.R_reads' HO799.out).2.1); (case side5 => exact far_slice (IsS111.own_ne HI768.out HO799.out (by decide))); rintro e w32 ⟨rfl, hi, hb, hk⟩; refine ⟨_, rfl, ?_⟩; replace HO_6 := aS (Kd.R_mono (Kd.R_keep (IsS111.apart (show IsS111 w _ g768 t765 t795 t796 from by exact IsS111.iS0 HI768.out) (rU HO_6.out) (by decide)) hk (fun _ h => h.2)) (fun _ h => h.1)); replace HO785 := aS (Kd.R_mono (Kd.R_keep (IsS111.apart (show IsS111 w _ g768 t765 t795 t796 from by exact IsS111.iS0 HI768.out) (rU HO785.out) (by decide)) hk (fun _ h => h.2)) (fun _ h => h.1)); replace HO788 := aS (Kd.R_mono (Kd.R_keep (IsS111.apart (show IsS111 w _ g768 t765 t795 t796 from by exact IsS111.iS0 HI768.out) (rU HO788.out) (by decide)) hk (fun _ h => h.2)) (fun _ h => h.1)); replace HO794 := aS (Kd.R_mono (Kd.R_keep (IsS111.apart (show IsS111 w _ g768 t765 t795 t796 from by exact IsS111.iS0 HI768.out) (rU HO794.out) (by decide)) hk (fun _ h => h.2)) (fun _ h => h.1)); replace HO799 := aS (Kd.R_mono (Kd.R_keep (IsS111.apart (show IsS111 w _ g768 t765 t795 t796 from by exact IsS111.iS0 HI768.out) (rU HO799.out) (by decide)) hk (fun _ h => h.2)) (fun _ h => h.1)); replace HB := aS (hb); replace HI768 := aS (hi); clear hi hb hk))
    go_ret3
    exact ⟨_, jE, Kd.R_mono (rU HO794.out) (fun _ hk => trivial), by exact wS1 HB.out (IsS111.ge HI768.out)⟩
   ·replace c24 := Bool.eq_false_iff.mpr c24
    subst c24
    rw [if_neg Bool.false_ne_true] at H
    obtain ⟨y803, hy_⟩ : ∃ y_ : List Int, y_ = (([0, 0, 0, 0, 1, (-1)] : List Int)) := ⟨_, rfl⟩
    replace H : ((spec_l1Int.f t765 t790 t791 y803).bind fun bt806 => (some (t786, bt806.1, x7_4))) = some (r1, r2, r3) := jD
    have Ny803 := aS hy_
    clear hy_
    obtain ⟨⟨t806, t807, t808⟩, A33, H⟩ := bM H
    try dsimp only at H
    simp only [Option.some.injEq, Prod.mk.injEq] at H
    obtain ⟨rfl, rfl, rfl⟩ := H
    go_wp2_with (first | ((with_reducible refine gate_dst (N := 32) rfl ?_); refine Kd.R_lit (Kd.int .i64) _ 3 ?hg (N := 32) ?hd (xs := ([0, 0, 0, 0, 1, (-1)] : List Int)) (inner := [.int .i64 0, .int .i64 0, .int .i64 0, .int .i64 0, .int .i64 1, .int .i64 (-1)]) (ok := fun _ => True) (okp := fun _ => True) ?hr ?hp (fun _ hk => hk) trivial (Below.refl _ _) (Nat.le_refl _) (by simp) ?_; (case hd => rfl); (case hg => rfl); (case hr => first | (go_simp; done) | (go_simp; rfl)); (case hp => exact (Reps.one (show Kd.M (Kd.int .i64) _ _ _ 0 [.int .i64 0] from rfl) (Reps.one (show Kd.M (Kd.int .i64) _ _ _ 0 [.int .i64 0] from rfl) (Reps.one (show Kd.M (Kd.int .i64) _ _ _ 0 [.int .i64 0] from rfl) (Reps.one (show Kd.M (Kd.int .i64) _ _ _ 0 [.int .i64 0] from rfl) (Reps.one (show Kd.M (Kd.int .i64) _ _ _ 1 [.int .i64 1] from rfl) (Reps.one (show Kd.M (Kd.int .i64) _ _ _ (-1) [.int .i64 (-1)] from rfl) (Reps.none _ _)))))))); intro v804 w34 ho35 hb hg_ hnew_; clear hg_ hnew_; (first | rw [← Ny803.out] at ho35 | (simp only [Int.reduceToNat] at ho35; rw [← Ny803.out] at ho35)); replace HO_6 := aS (Kd.R_below (rU HO_6.out) hb); replace HO785 := aS (Kd.R_below (rU HO785.out) hb); replace HO788 := aS (Kd.R_below (rU HO788.out) hb); have HO805 := aS (Kd.R_lower ho35 (below_size (by exact wS1 HB.out (IsS111.ge HI768.out)))); replace HB := aS (below_step (by exact wS1 HB.out (IsS111.ge HI768.out)) hb); replace HI768 := aS (IsS111.below (IsS111.iS0 HI768.out) hb); clear hb ho35; obtain ⟨Ao36, co36, eo36⟩ := Kd.R_slice HO805.out; subst eo36) | ((with_reducible refine gate_callee (f := 81) rfl ?_); refine goesL_ (some 33) rfl rfl Tryd.func81 jK rfl #[.pointer (some ⟨g768, 0, none⟩), .slice Ao36 y803.length co36] rfl jA ?_; (with_reducible refine (spec_l1Int.calls g768 t765 t790 t791 _ _ y803 t806 t807 t808 w _ ?side1 ?side2 ?side3 ?side4 ?side5 A33.out).mono ?_); (case side1 => exact IsS111.iS0 HI768.out); (case side2 => exact wS1 HB.out (IsS111.ge HI768.out)); (case side3 => exact cU ((Kd.R_reads' HO805.out).2.2)); (case side4 => exact (Kd.R_reads' HO805.out).2.1); (case side5 => exact far_slice (IsS111.own_ne HI768.out HO805.out (by decide))); rintro e w37 ⟨rfl, hi, hb, hk⟩; refine ⟨_, rfl, ?_⟩; replace HO_6 := aS (Kd.R_mono (Kd.R_keep (IsS111.apart (show IsS111 w _ g768 t765 t790 t791 from by exact IsS111.iS0 HI768.out) (rU HO_6.out) (by decide)) hk (fun _ h => h.2)) (fun _ h => h.1)); replace HO785 := aS (Kd.R_mono (Kd.R_keep (IsS111.apart (show IsS111 w _ g768 t765 t790 t791 from by exact IsS111.iS0 HI768.out) (rU HO785.out) (by decide)) hk (fun _ h => h.2)) (fun _ h => h.1)); replace HO788 := aS (Kd.R_mono (Kd.R_keep (IsS111.apart (show IsS111 w _ g768 t765 t790 t791 from by exact IsS111.iS0 HI768.out) (rU HO788.out) (by decide)) hk (fun _ h => h.2)) (fun _ h => h.1)); replace HO805 := aS (Kd.R_mono (Kd.R_keep (IsS111.apart (show IsS111 w _ g768 t765 t790 t791 from by exact IsS111.iS0 HI768.out) (rU HO805.out) (by decide)) hk (fun _ h => h.2)) (fun _ h => h.1)); replace HB := aS (hb); replace HI768 := aS (hi); clear hi hb hk))
    go_ret3
    exact ⟨_, jE, Kd.R_mono (rU HO788.out) (fun _ hk => trivial), by exact wS1 HB.out (IsS111.ge HI768.out)⟩

/-! ### spec_GetRecords: function 28 -/
def spec_GetRecords.l0 : Nat → List Int → Int → Int → List (S25) → Int → Option ((List (S25)) × Int × Int)
 | 0, _, _, _, _, _ => none
 | k + 1, x0, x1, x2, x9, x10 => if x10 < x2 then ((spec_GetRecord.f k x0 x1).bind fun bt813 => (if bt813.2.2.2.2.2.2.2 = 0 then (if x9.length < 1954687338268 then (spec_GetRecords.l0 k x0 bt813.2.2.2.2.2.2.1 x2 (x9 ++ [(⟨bt813.1, bt813.2.1, bt813.2.2.1, bt813.2.2.2.1, bt813.2.2.2.2.1, bt813.2.2.2.2.2.1⟩ : S25)]) (wrap64 (x10 + 1))) else (none)) else (some ((([] : List (S25))), 0, bt813.2.2.2.2.2.2.2)))) else (some (x9, x1, 0))
def spec_GetRecords.f (k : Nat) (l0 : List Int) (a1 : Int) (a2 : Int) : Option ((List (S25)) × Int × Int) := (some (([] : List (S25)) : List (S25))).bind fun y809 => ((spec_l1In.f a2 0 8).bind fun t812 => (if t812 = true then (spec_GetRecords.l0 k l0 a1 a2 y809 0) else (some (y809, 0, 2))))
theorem spec_GetRecords.mono_l : ∀ k, (∀ y0 y1 y2 y3 y4, LeO (spec_GetRecords.l0 k y0 y1 y2 y3 y4) (spec_GetRecords.l0 (k + 1) y0 y1 y2 y3 y4))
 | 0 => fun _ _ _ _ _ r h => by simp [spec_GetRecords.l0] at h
 | k + 1 => by
  have ih0 := spec_GetRecords.mono_l k
  ·intro y0 y1 y2 y3 y4
   unfold spec_GetRecords.l0
   repeat' first
   | (with_reducible first | exact ih0 _ _ _ _ _ | exact spec_GetRecord.mono _ _ _ | exact LeO.refl _ | exact LeO.none _ | refine LeO.ite ?_ ?_ | refine LeO.bind ?_ (fun _ => ?_))
   | exact ih0 _ _ _ _ _
   | exact spec_GetRecord.mono _ _ _
   | exact LeO.none _
   | refine LeO.ite ?_ ?_
   | refine LeO.bind ?_ (fun _ => ?_)
theorem spec_GetRecords.mono : ∀ a0 a1 a2 k, LeO (spec_GetRecords.f k a0 a1 a2) (spec_GetRecords.f (k + 1) a0 a1 a2) := by
 intro a0 a1 a2 k
 have ih0 := spec_GetRecords.mono_l k
 unfold spec_GetRecords.f
 repeat' first
   | (with_reducible first | exact ih0 _ _ _ _ _ | exact spec_GetRecord.mono _ _ _ | exact LeO.refl _ | exact LeO.none _ | refine LeO.ite ?_ ?_ | refine LeO.bind ?_ (fun _ => ?_))
   | exact ih0 _ _ _ _ _
   | exact spec_GetRecord.mono _ _ _
   | exact LeO.none _
   | refine LeO.ite ?_ ?_
   | refine LeO.bind ?_ (fun _ => ?_)
set_option maxHeartbeats 8000000 in
set_option maxRecDepth 100000 in
theorem spec_GetRecords.calls (k : Nat) (A0 : Option Addr) (c0 : Nat) (l0 : List Int) (a1 : Int) (a2 : Int) (r1 : List (S25)) (r2 : Int) (r3 : Int) (w : World) (hr0 : Kd.C (Kd.int .u8) w A0 l0.length l0) (hc0 : l0.length ≤ c0) (h : spec_GetRecords.f k l0 a1 a2 = some (r1, r2, r3)) :
  Calls Tryd.prog 28 #[.slice A0 l0.length c0, .int .i64 a1, .int .i64 a2] w fun e w' => ∃ v0_ : Value, e = .returned (.tuple #[v0_, .int .i64 r2, .int .i64 r3]) ∧ Kd.R k25 25 w' w.heap.size (fun _ => True) v0_ r1 ∧ Below w.heap.size w w' := by
 have hu25 := Tryd.underlying25
 have HR0 := aS hr0
 have HC0 := aS hc0
 clear hr0 hc0
 have HB := aS (Below.refl w.heap.size w)
 have H : ((some (([] : List (S25)) : List (S25))).bind fun y809 => ((spec_l1In.f a2 0 8).bind fun t812 => (if t812 = true then (spec_GetRecords.l0 k l0 a1 a2 y809 0) else (some (y809, 0, 2))))) = some (r1, r2, r3) := h
 clear h
 obtain ⟨y809, hy_⟩ : ∃ y_ : List (S25), y_ = (([] : List (S25))) := ⟨_, rfl⟩
 replace H : ((spec_l1In.f a2 0 8).bind fun t812 => (if t812 = true then (spec_GetRecords.l0 k l0 a1 a2 y809 0) else (some (y809, 0, 2)))) = some (r1, r2, r3) := jD
 have Ny809 := aS hy_
 clear hy_
 obtain ⟨t812, A4, H⟩ := bM H
 try dsimp only at H
 by_cases c5 : t812 = true
 ·subst c5
  rw [if_pos rfl] at H
  have H' := aS H
  clear H
  go_enter Tryd.func28, Tryd.ntmps28
  go_wp2_with (first | ((with_reducible refine gate_dst (N := 14) rfl ?_); refine Kd.R_lit k25 _ 25 ?hg (N := 14) ?hd (xs := ([] : List (S25))) (inner := []) (ok := fun _ => True) (okp := fun _ => True) ?hr ?hp (fun _ hk => hk) trivial (Below.refl _ _) (Nat.le_refl _) (by simp) ?_; (case hd => rfl); (case hg => rfl); (case hr => first | (go_simp; done) | (go_simp; rfl)); (case hp => exact (Reps.none _ _)); intro v810 w6 ho7 hb hg_ hnew_; clear hg_ hnew_; (first | rw [← Ny809.out] at ho7 | (simp only [Int.reduceToNat] at ho7; rw [← Ny809.out] at ho7)); have HO811 := aS (Kd.R_lower ho7 (below_size (wU HB.out))); replace HB := aS (below_step (wU HB.out) hb); clear hb ho7) | ((with_reducible refine gate_callee (f := 86) rfl ?_); refine goesL_ (some 16) rfl rfl Tryd.func86 jK rfl #[.int .i64 a2, .int .i64 0, .int .i64 8] rfl jA ?_; (with_reducible refine (spec_l1In.calls a2 0 8 true _ A4.out).mono ?_); rintro e w' ⟨rfl, ⟨nd, rfl⟩⟩; refine ⟨_, rfl, ?_⟩))
  go_loopg [1, 9, 10] k (fun kq v1 v9 v10 w' => ∃ (x1_1 : Int) (x9_1 : List (S25)) (x10_1 : Int), v1 = .int .i64 x1_1 ∧ v10 = .int .i64 x10_1 ∧ Aside0 (spec_GetRecords.l0 kq l0 x1_1 a2 x9_1 x10_1 = some (r1, r2, r3)) ∧ Aside0 (kq ≤ k) ∧ Aside0 (Kd.R k25 25 w' w.heap.size (fun _ => True) v9 x9_1) ∧ Aside0 (Below w.heap.size w w'))
  case atStart => exact ⟨(a1), (y809), (0), jB, jB, H', ⟨Nat.le_refl _⟩, ⟨by exact rU HO811.out⟩, ⟨by exact wU HB.out⟩⟩
  case round =>
   clear H'
   try clear c2
   try clear p2
   try clear c5
   obtain ⟨x1_1, x9_1, x10_1, rfl, rfl, HA, HK1, HO_9, HB⟩ := hrel
   cases gk with
   | zero => exact absurd HA.out (by simp [spec_GetRecords.l0])
   | succ k1 =>
    have H := HA.out
    clear HA
    simp only [spec_GetRecords.l0] at H
    by_cases c8 : x10_1 < a2
    ·rw [if_pos c8] at H
     have c8b0 := decide_eq_true c8
     clear c8
     obtain ⟨⟨t813, t814, t815, t816, t817, t818, t819, t820⟩, A9, H⟩ := bM H
     try dsimp only at H
     by_cases c10 : t820 = 0
     ·rw [if_pos c10] at H
      have c10b0 := beq_iff_eq.mpr c10
      have c10b1 := bne_eq_false_iff_eq.mpr c10
      clear c10
      by_cases c11 : x9_1.length < 1954687338268
      ·rw [if_pos c11] at H
       have LMc11 := aS c11
       clear c11
       obtain ⟨y822, hy_⟩ : ∃ y_ : List (S25), y_ = (x9_1 ++ [(⟨t813, t814, t815, t816, t817, t818⟩ : S25)]) := ⟨_, rfl⟩
       replace H : (spec_GetRecords.l0 k1 l0 t819 a2 y822 (wrap64 (x10_1 + 1))) = some (r1, r2, r3) := jD
       have Ny822 := aS hy_
       clear hy_
       have H' := aS H
       clear H
       go_wp2_with (first | ((with_reducible refine gate_callee (f := 24) rfl ?_); refine goesL_ (some 27) rfl rfl Tryd.func24 jK rfl #[.slice A0 l0.length c0, .int .i64 x1_1] rfl jA ?_; (with_reducible refine (spec_GetRecord.calls k1 _ _ l0 x1_1 t813 t814 t815 t816 t817 t818 t819 t820 _ ?side1 ?side2 A9.out).mono ?_); (case side1 => exact cU ((Kd.C_below HR0.out HB.out))); (case side2 => exact HC0.out); rintro e w12 ⟨rfl, hb⟩; refine ⟨_, rfl, ?_⟩; replace HO_9 := aS (Kd.R_below (rU HO_9.out) hb); replace HB := aS (below_step (wU HB.out) hb); clear hb) | ((with_reducible refine gate_dst (N := 11) rfl ?_); refine box_event ?hg (N := 11) ?hd (cs := #[.string (⟨#[]⟩ : ByteArray), .int .i64 0, .int .i64 0, .int .i64 0, .string (⟨#[]⟩ : ByteArray), .string (⟨#[]⟩ : ByteArray)]) (t := 25) ?hr ?_; (case hd => rfl); (case hg => rfl); (case hr => first | (go_simp; done) | (go_simp; rfl)); intro gb821 hg w13 hbox hb; replace HO_9 := aS (Kd.R_below (Kd.R_elderB (rU HO_9.out) gb821 (Nat.le_of_eq hg.symm)) hb); have BK821 := aS (hbox); have GW821 := aS ((by rw [hg]; exact (below_size (wU HB.out)) : w.heap.size ≤ gb821)); have GE821 := aS ((by rw [hg]; exact (below_size (wU HB.out)) : w.heap.size ≤ gb821)); replace HB := aS (below_step (wU HB.out) hb); clear hb hbox hg; have hcz14 := cells6f BK821.out) | ((with_reducible refine gate_builtin (b := .append) (xs := #[.tmp 35, .tmp 37]) rfl ?_); at_builtin; refine Kd.R_append k25 (w0 := w) w.heap.size rfl (.tmp 35) (.tmp 37) 36 25 (.agg #[(.string ⟨#[]⟩), (.int .i64 0), (.int .i64 0), (.int .i64 0), (.string ⟨#[]⟩), (.string ⟨#[]⟩)]) 72 rfl Tryd.underlying36 info25 rfl (by decide) (by omega) u9 x9_1 (⟨t813, t814, t815, t816, t817, t818⟩ : S25) [.string t813, .int .i64 t814, .int .i64 t815, .int .i64 t816, .string t817, .string t818] (fun k_ => k_ ≠ gb821) (fun _ => False) rfl (by first | (go_simp; done) | (go_simp; rfl)) ?aP (fun _ hk => hk.elim) ?aF ?aO ?aB ?aS ?aL ?_; (case aP => exact k25_mkM _ _ _ (⟨t813, t814, t815, t816, t817, t818⟩ : S25)); (case aB => exact (wS1 HB.out GE821.out)); (case aF => exact (fun k_ hk => Kd.freshB (g := gb821) (o := .cells #[.string t813, .int .i64 t814, .int .i64 t815, .int .i64 t816, .string t817, .string t818] 25 (0, 0)) (by (with_reducible repeat (first | refine blk_drewN ?_ _ | refine blk_drew ?_ | refine blk_alloc ?_ _)); refine blk_put_6 (.string (⟨#[]⟩ : ByteArray)) (.int .i64 0) (.int .i64 0) (.int .i64 0) (.string (⟨#[]⟩ : ByteArray)) (.string (⟨#[]⟩ : ByteArray)) ?_; exact bU BK821.out) k_ hk)); (case aO => exact (by (with_reducible repeat (first | apply Kd.R_alloc | apply Kd.R_drewN | apply Kd.R_drew)); exact Kd.R_mono (Kd.R_far (p := ⟨gb821, 5, none⟩) (Kd.R_far (p := ⟨gb821, 4, none⟩) (Kd.R_far (p := ⟨gb821, 3, none⟩) (Kd.R_far (p := ⟨gb821, 2, none⟩) (Kd.R_far (p := ⟨gb821, 1, none⟩) (Kd.R_far (p := ⟨gb821, 0, none⟩) (Kd.R_mono HO_9.out (fun k_ hk => (⟨hk, hk.2⟩ : _ ∧ k_ ≠ gb821))) (fun _ hk => hk.2) (.string t813)) (fun _ hk => hk.2) (.int .i64 t814)) (fun _ hk => hk.2) (.int .i64 t815)) (fun _ hk => hk.2) (.int .i64 t816)) (fun _ hk => hk.2) (.string t817)) (fun _ hk => hk.2) (.string t818)) (fun _ hk => hk.1.2))); (case aS => exact (below_size (wS1 HB.out GE821.out))); (case aL => have := LMc11.out; omega); intro v823 w15 ho hb hg hat; rw [← Ny822.out] at ho; replace BK821 := aS (blk_grown (g := gb821) (o := .cells #[.string t813, .int .i64 t814, .int .i64 t815, .int .i64 t816, .string t817, .string t818] 25 (0, 0)) (by (with_reducible repeat (first | refine blk_drewN ?_ _ | refine blk_drew ?_ | refine blk_alloc ?_ _)); refine blk_put_6 (.string (⟨#[]⟩ : ByteArray)) (.int .i64 0) (.int .i64 0) (.int .i64 0) (.string (⟨#[]⟩ : ByteArray)) (.string (⟨#[]⟩ : ByteArray)) ?_; exact bU BK821.out) hg (Kd.R_away HO_9.out (fun _ hk => hk.2))); replace HB := aS (hb); have HO824 := aS (ho); clear HO_9; clear ho hb hg hat))
       go_roundg k1
       case measure => have := HK1.out; omega
       case rel => exact ⟨(t819), (y822), (wrap64 (x10_1 + 1)), jB, jB, H', ⟨by have := HK1.out; omega⟩, ⟨Kd.R_mono (rU HO824.out) (fun _ hk => trivial)⟩, ⟨by exact wS1 HB.out GE821.out⟩⟩
      ·rw [if_neg c11] at H
       exact absurd H (by simp)
     ·rw [if_neg c10] at H
      have c10b0 := beq_eq_false_iff_ne.mpr c10
      have c10b1 := bne_iff_ne.mpr c10
      obtain ⟨y825, hy_⟩ : ∃ y_ : List (S25), y_ = (([] : List (S25))) := ⟨_, rfl⟩
      replace H : (some (y825, 0, t820)) = some (r1, r2, r3) := jD
      have Ny825 := aS hy_
      clear hy_
      simp only [Option.some.injEq, Prod.mk.injEq] at H
      obtain ⟨rfl, rfl, rfl⟩ := H
      go_wp2_with (first | ((with_reducible refine gate_callee (f := 24) rfl ?_); refine goesL_ (some 27) rfl rfl Tryd.func24 jK rfl #[.slice A0 l0.length c0, .int .i64 x1_1] rfl jA ?_; (with_reducible refine (spec_GetRecord.calls k1 _ _ l0 x1_1 t813 t814 t815 t816 t817 t818 t819 t820 _ ?side1 ?side2 A9.out).mono ?_); (case side1 => exact cU ((Kd.C_below HR0.out HB.out))); (case side2 => exact HC0.out); rintro e w16 ⟨rfl, hb⟩; refine ⟨_, rfl, ?_⟩; replace HO_9 := aS (Kd.R_below (rU HO_9.out) hb); replace HB := aS (below_step (wU HB.out) hb); clear hb) | ((with_reducible refine gate_dst (N := 11) rfl ?_); refine box_event ?hg (N := 11) ?hd (cs := #[.string (⟨#[]⟩ : ByteArray), .int .i64 0, .int .i64 0, .int .i64 0, .string (⟨#[]⟩ : ByteArray), .string (⟨#[]⟩ : ByteArray)]) (t := 25) ?hr ?_; (case hd => rfl); (case hg => rfl); (case hr => first | (go_simp; done) | (go_simp; rfl)); intro gb821 hg w17 hbox hb; replace HO_9 := aS (Kd.R_below (Kd.R_elderB (rU HO_9.out) gb821 (Nat.le_of_eq hg.symm)) hb); have BK821 := aS (hbox); have GW821 := aS ((by rw [hg]; exact (below_size (wU HB.out)) : w.heap.size ≤ gb821)); have GE821 := aS ((by rw [hg]; exact (below_size (wU HB.out)) : w.heap.size ≤ gb821)); replace HB := aS (below_step (wU HB.out) hb); clear hb hbox hg; have hcz18 := cells6f BK821.out) | ((with_reducible refine gate_dst (N := 33) rfl ?_); refine Kd.R_lit k25 _ 25 ?hg (N := 33) ?hd (xs := ([] : List (S25))) (inner := []) (ok := fun _ => True) (okp := fun _ => True) ?hr ?hp (fun _ hk => hk) trivial (Below.refl _ _) (Nat.le_refl _) (by simp) ?_; (case hd => rfl); (case hg => rfl); (case hr => first | (go_simp; done) | (go_simp; rfl)); (case hp => exact (Reps.none _ _)); intro v826 w19 ho20 hb hg_ hnew_; clear hg_ hnew_; (first | rw [← Ny825.out] at ho20 | (simp only [Int.reduceToNat] at ho20; rw [← Ny825.out] at ho20)); have HO827 := aS (Kd.R_lower (Kd.R_newB (Kd.R_new' ho20 (Kd.R_lt (by (with_reducible repeat (first | apply Kd.R_alloc | apply Kd.R_drewN | apply Kd.R_drew)); exact (Kd.R_mono (Kd.R_far (p := ⟨gb821, 5, none⟩) (Kd.R_far (p := ⟨gb821, 4, none⟩) (Kd.R_far (p := ⟨gb821, 3, none⟩) (Kd.R_far (p := ⟨gb821, 2, none⟩) (Kd.R_far (p := ⟨gb821, 1, none⟩) (Kd.R_far (p := ⟨gb821, 0, none⟩) (Kd.R_mono HO_9.out (fun k_ hk => (⟨hk, hk.2⟩ : _ ∧ k_ ≠ gb821))) (fun _ hk => hk.2) (.string t813)) (fun _ hk => hk.2) (.int .i64 t814)) (fun _ hk => hk.2) (.int .i64 t815)) (fun _ hk => hk.2) (.int .i64 t816)) (fun _ hk => hk.2) (.string t817)) (fun _ hk => hk.2) (.string t818)) (fun _ h_ => h_.1))))) (g := gb821) (o := .cells #[.string t813, .int .i64 t814, .int .i64 t815, .int .i64 t816, .string t817, .string t818] 25 (0, 0)) (by (with_reducible repeat (first | refine blk_drewN ?_ _ | refine blk_drew ?_ | refine blk_alloc ?_ _)); refine blk_put_6 (.string (⟨#[]⟩ : ByteArray)) (.int .i64 0) (.int .i64 0) (.int .i64 0) (.string (⟨#[]⟩ : ByteArray)) (.string (⟨#[]⟩ : ByteArray)) ?_; exact bU BK821.out)) (below_size (wS1 HB.out GE821.out))); replace HO_9 := aS (Kd.R_elder' (by (with_reducible repeat (first | apply Kd.R_alloc | apply Kd.R_drewN | apply Kd.R_drew)); exact (Kd.R_mono (Kd.R_far (p := ⟨gb821, 5, none⟩) (Kd.R_far (p := ⟨gb821, 4, none⟩) (Kd.R_far (p := ⟨gb821, 3, none⟩) (Kd.R_far (p := ⟨gb821, 2, none⟩) (Kd.R_far (p := ⟨gb821, 1, none⟩) (Kd.R_far (p := ⟨gb821, 0, none⟩) (Kd.R_mono HO_9.out (fun k_ hk => (⟨hk, hk.2⟩ : _ ∧ k_ ≠ gb821))) (fun _ hk => hk.2) (.string t813)) (fun _ hk => hk.2) (.int .i64 t814)) (fun _ hk => hk.2) (.int .i64 t815)) (fun _ hk => hk.2) (.int .i64 t816)) (fun _ hk => hk.2) (.string t817)) (fun _ hk => hk.2) (.string t818)) (fun _ h_ => h_.1))) (Kd.R_base ho20) hb); replace BK821 := aS (blk_below (g := gb821) (o := .cells #[.string t813, .int .i64 t814, .int .i64 t815, .int .i64 t816, .string t817, .string t818] 25 (0, 0)) (by (with_reducible repeat (first | refine blk_drewN ?_ _ | refine blk_drew ?_ | refine blk_alloc ?_ _)); refine blk_put_6 (.string (⟨#[]⟩ : ByteArray)) (.int .i64 0) (.int .i64 0) (.int .i64 0) (.string (⟨#[]⟩ : ByteArray)) (.string (⟨#[]⟩ : ByteArray)) ?_; exact bU BK821.out) hb); replace HB := aS (below_step (wS1 HB.out GE821.out) hb); clear hb ho20))
      go_ret3
      exact ⟨_, jE, Kd.R_mono (rU HO827.out) (fun _ hk => trivial), by exact wS1 HB.out GE821.out⟩
    ·rw [if_neg c8] at H
     have c8b0 := decide_eq_false c8
     clear c8
     simp only [Option.some.injEq, Prod.mk.injEq] at H
     obtain ⟨rfl, rfl, rfl⟩ := H
     go_wp2
     go_ret3
     exact ⟨_, jE, by exact rU HO_9.out, by exact wU HB.out⟩
 ·replace c5 := Bool.eq_false_iff.mpr c5
  subst c5
  rw [if_neg Bool.false_ne_true] at H
  simp only [Option.some.injEq, Prod.mk.injEq] at H
  obtain ⟨rfl, rfl, rfl⟩ := H
  go_enter Tryd.func28, Tryd.ntmps28
  go_wp2_with (first | ((with_reducible refine gate_dst (N := 14) rfl ?_); refine Kd.R_lit k25 _ 25 ?hg (N := 14) ?hd (xs := ([] : List (S25))) (inner := []) (ok := fun _ => True) (okp := fun _ => True) ?hr ?hp (fun _ hk => hk) trivial (Below.refl _ _) (Nat.le_refl _) (by simp) ?_; (case hd => rfl); (case hg => rfl); (case hr => first | (go_simp; done) | (go_simp; rfl)); (case hp => exact (Reps.none _ _)); intro v810 w21 ho22 hb hg_ hnew_; clear hg_ hnew_; (first | rw [← Ny809.out] at ho22 | (simp only [Int.reduceToNat] at ho22; rw [← Ny809.out] at ho22)); have HO811 := aS (Kd.R_lower ho22 (below_size (wU HB.out))); replace HB := aS (below_step (wU HB.out) hb); clear hb ho22) | ((with_reducible refine gate_callee (f := 86) rfl ?_); refine goesL_ (some 16) rfl rfl Tryd.func86 jK rfl #[.int .i64 a2, .int .i64 0, .int .i64 8] rfl jA ?_; (with_reducible refine (spec_l1In.calls a2 0 8 false _ A4.out).mono ?_); rintro e w' ⟨rfl, ⟨nd, rfl⟩⟩; refine ⟨_, rfl, ?_⟩))
  go_ret3
  exact ⟨_, jE, by exact rU HO811.out, by exact wU HB.out⟩

/-! ### laws_FnFieldsBent: function 5 -/
def laws_FnFieldsBent.f (k : Nat) (l0 : List Int) : Option (Bool) := (laws_big.f l0).bind fun t828 => (if t828 = true then (some true) else ((spec_DrawGetRecord.f k l0).bind fun bt829 => ((impl_GetRecord.f k bt829.1 bt829.2).bind fun bt833 => ((spec_GetRecord.f k bt829.1 bt829.2).bind fun bt842 => ((spec_DrawGetData.f k l0).bind fun bt851 => ((impl_GetData.f k bt851.1 bt851.2.1 bt851.2.2.1 bt851.2.2.2).bind fun bt857 => ((spec_GetData.f k bt851.1 bt851.2.1 bt851.2.2.1 bt851.2.2.2).bind fun bt865 => ((spec_DrawGetRecords.f k l0).bind fun bt873 => ((impl_GetRecords.f k bt873.1 bt873.2.1 bt873.2.2).bind fun bt878 => ((spec_GetRecords.f k bt873.1 bt873.2.1 bt873.2.2).bind fun bt883 => (if (!(bt833.1.toList == bt842.1.toList) || (!(bt833.2.1 == bt842.2.1) || (!(bt833.2.2.1 == bt842.2.2.1) || (!(bt833.2.2.2.1 == bt842.2.2.2.1) || (!(bt833.2.2.2.2.1.toList == bt842.2.2.2.2.1.toList) || (!(bt833.2.2.2.2.2.1.toList == bt842.2.2.2.2.2.1.toList))))))) = true then (some false) else (if bt833.2.2.2.2.2.2.1 = bt842.2.2.2.2.2.2.1 then (if bt833.2.2.2.2.2.2.2 = bt842.2.2.2.2.2.2.2 then (if (!(bt857.1.toList == bt865.1.toList) || (!(bt857.2.1 == bt865.2.1) || (!(bt857.2.2.1 == bt865.2.2.1) || (!(bt857.2.2.2.1 == bt865.2.2.2.1) || (!(bt857.2.2.2.2.1.toList == bt865.2.2.2.2.1.toList) || (!(bt857.2.2.2.2.2.1.toList == bt865.2.2.2.2.2.1.toList))))))) = true then (some false) else (if bt857.2.2.2.2.2.2 = bt865.2.2.2.2.2.2 then ((laws_sameRecs.f k bt878.1 bt883.1).bind fun t888 => (if t888 = true then (if bt878.2.1 = bt883.2.1 then (if bt878.2.2 = bt883.2.2 then (if bt833.2.2.2.2.2.2.2 = 0 then ((impl_RecordOk.f k bt833.1 bt833.2.1 bt833.2.2.1 bt833.2.2.2.1 bt833.2.2.2.2.1 bt833.2.2.2.2.2.1).bind fun t889 => (if t889 = true then (if bt833.2.2.2.2.2.2.1 > bt829.2 then (if bt878.2.2 = 0 then (some ((bt878.1.length : Int) == bt873.2.2)) else (some true)) else (some false)) else (some false))) else (if bt878.2.2 = 0 then (some ((bt878.1.length : Int) == bt873.2.2)) else (some true))) else (some false)) else (some false)) else (some false))) else (some false))) else (some false)) else (some false)))))))))))))
theorem laws_FnFieldsBent.mono : ∀ a0 k, LeO (laws_FnFieldsBent.f k a0) (laws_FnFieldsBent.f (k + 1) a0) := by
 intro a0 k
 unfold laws_FnFieldsBent.f
 repeat' first
   | (with_reducible first | exact impl_GetData.mono _ _ _ _ _ | exact impl_GetRecord.mono _ _ _ | exact impl_GetRecords.mono _ _ _ _ | exact impl_RecordOk.mono _ _ _ _ _ _ _ | exact laws_sameRecs.mono _ _ _ | exact spec_DrawGetData.mono _ _ | exact spec_DrawGetRecord.mono _ _ | exact spec_DrawGetRecords.mono _ _ | exact spec_GetData.mono _ _ _ _ _ | exact spec_GetRecord.mono _ _ _ | exact spec_GetRecords.mono _ _ _ _ | exact LeO.refl _ | exact LeO.none _ | refine LeO.ite ?_ ?_ | refine LeO.bind ?_ (fun _ => ?_))
   | exact impl_GetData.mono _ _ _ _ _
   | exact impl_GetRecord.mono _ _ _
   | exact impl_GetRecords.mono _ _ _ _
   | exact impl_RecordOk.mono _ _ _ _ _ _ _
   | exact laws_sameRecs.mono _ _ _
   | exact spec_DrawGetData.mono _ _
   | exact spec_DrawGetRecord.mono _ _
   | exact spec_DrawGetRecords.mono _ _
   | exact spec_GetData.mono _ _ _ _ _
   | exact spec_GetRecord.mono _ _ _
   | exact spec_GetRecords.mono _ _ _ _
   | exact LeO.none _
   | refine LeO.ite ?_ ?_
   | refine LeO.bind ?_ (fun _ => ?_)
set_option maxHeartbeats 8000000 in
set_option maxRecDepth 100000 in
theorem laws_FnFieldsBent.calls (k : Nat) (A0 : Option Addr) (c0 : Nat) (l0 : List Int) (r : Bool) (w : World) (hr0 : Kd.C (Kd.int .u8) w A0 l0.length l0) (hc0 : l0.length ≤ c0) (hrt_ : r = true) (h : laws_FnFieldsBent.f k l0 = some r) :
  Calls Tryd.prog 5 #[.slice A0 l0.length c0] w fun e w' => e = .returned (.bool r) ∧ Below w.heap.size w w' := by
 have hu25 := Tryd.underlying25
 have HR0 := aS hr0
 have HC0 := aS hc0
 clear hr0 hc0
 have HB := aS (Below.refl w.heap.size w)
 have H : ((laws_big.f l0).bind fun t828 => (if t828 = true then (some true) else ((spec_DrawGetRecord.f k l0).bind fun bt829 => ((impl_GetRecord.f k bt829.1 bt829.2).bind fun bt833 => ((spec_GetRecord.f k bt829.1 bt829.2).bind fun bt842 => ((spec_DrawGetData.f k l0).bind fun bt851 => ((impl_GetData.f k bt851.1 bt851.2.1 bt851.2.2.1 bt851.2.2.2).bind fun bt857 => ((spec_GetData.f k bt851.1 bt851.2.1 bt851.2.2.1 bt851.2.2.2).bind fun bt865 => ((spec_DrawGetRecords.f k l0).bind fun bt873 => ((impl_GetRecords.f k bt873.1 bt873.2.1 bt873.2.2).bind fun bt878 => ((spec_GetRecords.f k bt873.1 bt873.2.1 bt873.2.2).bind fun bt883 => (if (!(bt833.1.toList == bt842.1.toList) || (!(bt833.2.1 == bt842.2.1) || (!(bt833.2.2.1 == bt842.2.2.1) || (!(bt833.2.2.2.1 == bt842.2.2.2.1) || (!(bt833.2.2.2.2.1.toList == bt842.2.2.2.2.1.toList) || (!(bt833.2.2.2.2.2.1.toList == bt842.2.2.2.2.2.1.toList))))))) = true then (some false) else (if bt833.2.2.2.2.2.2.1 = bt842.2.2.2.2.2.2.1 then (if bt833.2.2.2.2.2.2.2 = bt842.2.2.2.2.2.2.2 then (if (!(bt857.1.toList == bt865.1.toList) || (!(bt857.2.1 == bt865.2.1) || (!(bt857.2.2.1 == bt865.2.2.1) || (!(bt857.2.2.2.1 == bt865.2.2.2.1) || (!(bt857.2.2.2.2.1.toList == bt865.2.2.2.2.1.toList) || (!(bt857.2.2.2.2.2.1.toList == bt865.2.2.2.2.2.1.toList))))))) = true then (some false) else (if bt857.2.2.2.2.2.2 = bt865.2.2.2.2.2.2 then ((laws_sameRecs.f k bt878.1 bt883.1).bind fun t888 => (if t888 = true then (if bt878.2.1 = bt883.2.1 then (if bt878.2.2 = bt883.2.2 then (if bt833.2.2.2.2.2.2.2 = 0 then ((impl_RecordOk.f k bt833.1 bt833.2.1 bt833.2.2.1 bt833.2.2.2.1 bt833.2.2.2.2.1 bt833.2.2.2.2.2.1).bind fun t889 => (if t889 = true then (if bt833.2.2.2.2.2.2.1 > bt829.2 then (if bt878.2.2 = 0 then (some ((bt878.1.length : Int) == bt873.2.2)) else (some true)) else (some false)) else (some false))) else (if bt878.2.2 = 0 then (some ((bt878.1.length : Int) == bt873.2.2)) else (some true))) else (some false)) else (some false)) else (some false))) else (some false))) else (some false)) else (some false)))))))))))))) = some r := h
 clear h
 obtain ⟨t828, A2, H⟩ := bM H
 try dsimp only at H
 have HC3 := aS H
 clear H
 go_enter Tryd.func5, Tryd.ntmps5
 go_upto_if 29 with (first | ((with_reducible refine gate_callee (f := 8) rfl ?_); refine goesL_ (some 29) rfl rfl Tryd.func8 jK rfl #[.slice A0 l0.length c0] rfl jA ?_; (with_reducible refine (laws_big.calls _ _ l0 t828 _ ?side1 ?side2 A2.out).mono ?_); (case side1 => exact cU (HR0.out)); (case side2 => exact HC0.out); rintro e w' ⟨rfl, ⟨nd, rfl⟩⟩; refine ⟨_, rfl, ?_⟩))
 (try simp only [Act.put, List.setIfInBounds_toArray, List.set_cons_zero, List.set_cons_succ])
 have H := HC3.out
 clear HC3
 by_cases c4 : t828 = true
 ·subst c4
  rw [if_pos rfl] at H
  obtain rfl := Option.some.inj H
  go_wp2
  go_ret
  exact ⟨by first | rfl | (simp [errW_none, errW_some] <;> rfl) | (simp [*, errW_none, errW_some] <;> rfl) | (exfalso; simp_all; done) | ((have ai_ : ∀ p : Prop, Aside0 p ↔ p := fun p => ⟨fun h => h.out, fun h => ⟨h⟩⟩); simp_all [ai_]; done), by exact wU HB.out⟩
 ·replace c4 := Bool.eq_false_iff.mpr c4
  subst c4
  rw [if_neg Bool.false_ne_true] at H
  obtain ⟨⟨t829, t830⟩, A5, H⟩ := bM H
  try dsimp only at H
  obtain ⟨⟨t833, t834, t835, t836, t837, t838, t839, t840⟩, A6, H⟩ := bM H
  try dsimp only at H
  obtain ⟨⟨t842, t843, t844, t845, t846, t847, t848, t849⟩, A7, H⟩ := bM H
  try dsimp only at H
  obtain ⟨⟨t851, t852, t853, t854⟩, A8, H⟩ := bM H
  try dsimp only at H
  obtain ⟨⟨t857, t858, t859, t860, t861, t862, t863⟩, A9, H⟩ := bM H
  try dsimp only at H
  obtain ⟨⟨t865, t866, t867, t868, t869, t870, t871⟩, A10, H⟩ := bM H
  try dsimp only at H
  obtain ⟨⟨t873, t874, t875⟩, A11, H⟩ := bM H
  try dsimp only at H
  obtain ⟨⟨t878, t879, t880⟩, A12, H⟩ := bM H
  try dsimp only at H
  obtain ⟨⟨t883, t884, t885⟩, A13, H⟩ := bM H
  try dsimp only at H
  by_cases c14 : (!(t833.toList == t842.toList) || (!(t834 == t843) || (!(t835 == t844) || (!(t836 == t845) || (!(t837.toList == t846.toList) || (!(t838.toList == t847.toList))))))) = true
  ·rw [if_pos c14] at H
   have c14b0 : (!(t833.toList == t842.toList) || (!(t834 == t843) || (!(t835 == t844) || (!(t836 == t845) || (!(t837.toList == t846.toList) || (!(t838.toList == t847.toList))))))) = true := c14
   clear c14
   (first | rw [c14b0] | (simp only [i64_w, i32_w]; rw [c14b0]) | skip)
   exact absurd (H.trans (congrArg some hrt_)) (by simp)
  ·rw [if_neg c14] at H
   have c14b0 : (!(t833.toList == t842.toList) || (!(t834 == t843) || (!(t835 == t844) || (!(t836 == t845) || (!(t837.toList == t846.toList) || (!(t838.toList == t847.toList))))))) = false := by simpa using c14
   clear c14
   (first | rw [c14b0] | (simp only [i64_w, i32_w]; rw [c14b0]) | skip)
   by_cases c15 : t839 = t848
   ·rw [if_pos c15] at H
    have c15b0 := beq_iff_eq.mpr c15
    have c15b1 := bne_eq_false_iff_eq.mpr c15
    clear c15
    by_cases c16 : t840 = t849
    ·rw [if_pos c16] at H
     have c16b0 := beq_iff_eq.mpr c16
     have c16b1 := bne_eq_false_iff_eq.mpr c16
     clear c16
     by_cases c17 : (!(t857.toList == t865.toList) || (!(t858 == t866) || (!(t859 == t867) || (!(t860 == t868) || (!(t861.toList == t869.toList) || (!(t862.toList == t870.toList))))))) = true
     ·rw [if_pos c17] at H
      have c17b0 : (!(t857.toList == t865.toList) || (!(t858 == t866) || (!(t859 == t867) || (!(t860 == t868) || (!(t861.toList == t869.toList) || (!(t862.toList == t870.toList))))))) = true := c17
      clear c17
      exact absurd (H.trans (congrArg some hrt_)) (by simp)
     ·rw [if_neg c17] at H
      have c17b0 : (!(t857.toList == t865.toList) || (!(t858 == t866) || (!(t859 == t867) || (!(t860 == t868) || (!(t861.toList == t869.toList) || (!(t862.toList == t870.toList))))))) = false := by simpa using c17
      clear c17
      by_cases c18 : t863 = t871
      ·rw [if_pos c18] at H
       have c18b0 := beq_iff_eq.mpr c18
       have c18b1 := bne_eq_false_iff_eq.mpr c18
       clear c18
       obtain ⟨t888, A19, H⟩ := bM H
       try dsimp only at H
       by_cases c20 : t888 = true
       ·subst c20
        rw [if_pos rfl] at H
        by_cases c21 : t879 = t884
        ·rw [if_pos c21] at H
         have c21b0 := beq_iff_eq.mpr c21
         have c21b1 := bne_eq_false_iff_eq.mpr c21
         clear c21
         have HC22 := aS H
         clear H
         go_upto_if 132 with (first | ((with_reducible refine gate_callee (f := 23) rfl ?_); refine goesL_ (some 32) rfl rfl Tryd.func23 jK rfl #[.slice A0 l0.length c0] rfl jA ?_; (with_reducible refine (spec_DrawGetRecord.calls k _ _ l0 t829 t830 _ ?side1 ?side2 A5.out).mono ?_); (case side1 => exact cU ((Kd.C_below HR0.out HB.out))); (case side2 => exact HC0.out); rintro e w23 ⟨v831, rfl, ho0, hb⟩; refine ⟨_, rfl, ?_⟩; have HO832 := aS (Kd.R_lower ho0 (below_size (wU HB.out))); replace HB := aS (below_step (wU HB.out) hb); clear hb; (try clear ho0); obtain ⟨Ao24, co24, eo24⟩ := Kd.R_slice HO832.out; subst eo24) | ((with_reducible refine gate_callee (f := 16) rfl ?_); refine goesL_ (some 38) rfl rfl Tryd.func16 jK rfl #[.slice Ao24 t829.length co24, .int .i64 t830] rfl jA ?_; (with_reducible refine (impl_GetRecord.calls k _ _ t829 t830 t833 t834 t835 t836 t837 t838 t839 t840 _ ?side1 ?side2 A6.out).mono ?_); (case side1 => exact cU ((Kd.R_reads' HO832.out).2.2)); (case side2 => exact (Kd.R_reads' HO832.out).2.1); rintro e w25 ⟨rfl, hb⟩; refine ⟨_, rfl, ?_⟩; replace HO832 := aS (Kd.R_below (rU HO832.out) hb); replace HB := aS (below_step (wU HB.out) hb); clear hb) | ((with_reducible refine gate_dst (N := 5) rfl ?_); (try (refine gate_guard (by rfl) ?_; dsimp only)); refine box_event ?hg (N := 5) ?hd (cs := #[.string (⟨#[]⟩ : ByteArray), .int .i64 0, .int .i64 0, .int .i64 0, .string (⟨#[]⟩ : ByteArray), .string (⟨#[]⟩ : ByteArray)]) (t := 25) ?hr ?_; (case hd => rfl); (case hg => rfl); (case hr => first | (go_simp; done) | (go_simp; rfl)); intro gb841 hg w26 hbox hb; replace HO832 := aS (Kd.R_below (rU HO832.out) hb); have BK841 := aS (hbox); have GW841 := aS ((by rw [hg]; exact (below_size (wU HB.out)) : w.heap.size ≤ gb841)); have GE841 := aS ((by rw [hg]; exact (below_size (wU HB.out)) : w.heap.size ≤ gb841)); replace HB := aS (below_step (wU HB.out) hb); clear hb hbox hg; have hcz27 := cells6f BK841.out) | ((with_reducible refine gate_callee (f := 24) rfl ?_); refine goesL_ (some 45) rfl rfl Tryd.func24 jK rfl #[.slice Ao24 t829.length co24, .int .i64 t830] rfl jA ?_; (with_reducible refine (spec_GetRecord.calls k _ _ t829 t830 t842 t843 t844 t845 t846 t847 t848 t849 _ ?side1 ?side2 A7.out).mono ?_); (case side1 => refine (Kd.R_reads' (e := 5) (base := w.heap.size) (ok := fun k_ => True) (n := t829.length) (c := co24) ?_).2.2; exact (by (with_reducible repeat (first | apply Kd.R_alloc | apply Kd.R_drewN | apply Kd.R_drew)); exact (Kd.R_mono (Kd.R_far (p := ⟨gb841, 5, none⟩) (Kd.R_far (p := ⟨gb841, 4, none⟩) (Kd.R_far (p := ⟨gb841, 3, none⟩) (Kd.R_far (p := ⟨gb841, 2, none⟩) (Kd.R_far (p := ⟨gb841, 1, none⟩) (Kd.R_far (p := ⟨gb841, 0, none⟩) (Kd.R_types HO832.out BK841.out (by decide)) (fun _ hk => hk.2) (.string t833)) (fun _ hk => hk.2) (.int .i64 t834)) (fun _ hk => hk.2) (.int .i64 t835)) (fun _ hk => hk.2) (.int .i64 t836)) (fun _ hk => hk.2) (.string t837)) (fun _ hk => hk.2) (.string t838)) (fun _ h_ => h_.1)))); (case side2 => exact (Kd.R_reads' HO832.out).2.1); rintro e w28 ⟨rfl, hb⟩; refine ⟨_, rfl, ?_⟩; replace HO832 := aS (Kd.R_below (by (with_reducible repeat (first | apply Kd.R_alloc | apply Kd.R_drewN | apply Kd.R_drew)); exact (Kd.R_mono (Kd.R_far (p := ⟨gb841, 5, none⟩) (Kd.R_far (p := ⟨gb841, 4, none⟩) (Kd.R_far (p := ⟨gb841, 3, none⟩) (Kd.R_far (p := ⟨gb841, 2, none⟩) (Kd.R_far (p := ⟨gb841, 1, none⟩) (Kd.R_far (p := ⟨gb841, 0, none⟩) (Kd.R_types HO832.out BK841.out (by decide)) (fun _ hk => hk.2) (.string t833)) (fun _ hk => hk.2) (.int .i64 t834)) (fun _ hk => hk.2) (.int .i64 t835)) (fun _ hk => hk.2) (.int .i64 t836)) (fun _ hk => hk.2) (.string t837)) (fun _ hk => hk.2) (.string t838)) (fun _ h_ => h_.1))) hb); replace BK841 := aS (blk_below (g := gb841) (o := .cells #[.string t833, .int .i64 t834, .int .i64 t835, .int .i64 t836, .string t837, .string t838] 25 (0, 0)) (by (with_reducible repeat (first | refine blk_drewN ?_ _ | refine blk_drew ?_ | refine blk_alloc ?_ _)); refine blk_put_6 (.string (⟨#[]⟩ : ByteArray)) (.int .i64 0) (.int .i64 0) (.int .i64 0) (.string (⟨#[]⟩ : ByteArray)) (.string (⟨#[]⟩ : ByteArray)) ?_; exact bU BK841.out) hb); replace HB := aS (below_step (wS1 HB.out GE841.out) hb); clear hb) | ((with_reducible refine gate_dst (N := 8) rfl ?_); (try (refine gate_guard (by rfl) ?_; dsimp only)); refine box_event ?hg (N := 8) ?hd (cs := #[.string (⟨#[]⟩ : ByteArray), .int .i64 0, .int .i64 0, .int .i64 0, .string (⟨#[]⟩ : ByteArray), .string (⟨#[]⟩ : ByteArray)]) (t := 25) ?hr ?_; (case hd => rfl); (case hg => rfl); (case hr => first | (go_simp; done) | (go_simp; rfl)); intro gb850 hg w29 hbox hb; replace HO832 := aS (Kd.R_below (rU HO832.out) hb); have BK850 := aS (hbox); have GW850 := aS ((by rw [hg]; exact (below_size (wS1 HB.out GE841.out)) : w.heap.size ≤ gb850)); have GE850 := aS ((by rw [hg]; exact (below_size (wS1 HB.out GE841.out)) : w.heap.size ≤ gb850)); replace HB := aS (below_step (wS1 HB.out GE841.out) hb); have NB841_850 := aS ((by rw [hg]; exact Nat.ne_of_lt (blk_lt (bU BK841.out)) : gb841 ≠ gb850)); have NB850_841 := aS ((by rw [hg]; exact Nat.ne_of_gt (blk_lt (bU BK841.out)) : gb850 ≠ gb841)); replace BK841 := aS (blk_below (bU BK841.out) hb); clear hb hbox hg; have hnb30 := NB850_841.out; have hnc30 := NB841_850.out; have hcz31 := cells6f BK850.out) | ((with_reducible refine gate_callee (f := 25) rfl ?_); refine goesL_ (some 51) rfl rfl Tryd.func25 jK rfl #[.slice A0 l0.length c0] rfl jA ?_; (with_reducible refine (spec_DrawGetData.calls k _ _ l0 t851 t852 t853 t854 _ ?side1 ?side2 A8.out).mono ?_); (case side1 => exact Kd.C_below HR0.out (wS2 HB.out GE841.out GE850.out)); (case side2 => exact HC0.out); rintro e w32 ⟨v855, rfl, ho0, hb⟩; refine ⟨_, rfl, ?_⟩; have HO856 := aS (Kd.R_lower ho0 (below_size (wS2 HB.out GE841.out GE850.out))); replace BK841 := aS (blk_below (g := gb841) (o := .cells #[.string t833, .int .i64 t834, .int .i64 t835, .int .i64 t836, .string t837, .string t838] 25 (0, 0)) (by (iterate 6 ((with_reducible repeat (first | refine blk_drewN ?_ _ | refine blk_drew ?_ | refine blk_alloc ?_ _)); refine blk_far ?_ NB841_850.out _)); exact bU BK841.out) hb); replace BK850 := aS (blk_below (g := gb850) (o := .cells #[.string t842, .int .i64 t843, .int .i64 t844, .int .i64 t845, .string t846, .string t847] 25 (0, 0)) (by (with_reducible repeat (first | refine blk_drewN ?_ _ | refine blk_drew ?_ | refine blk_alloc ?_ _)); refine blk_put_6 (.string (⟨#[]⟩ : ByteArray)) (.int .i64 0) (.int .i64 0) (.int .i64 0) (.string (⟨#[]⟩ : ByteArray)) (.string (⟨#[]⟩ : ByteArray)) ?_; exact bU BK850.out) hb); replace HB := aS (below_step (wS2 HB.out GE841.out GE850.out) hb); clear hb; (try clear ho0); obtain ⟨Ao33, co33, eo33⟩ := Kd.R_slice HO856.out; subst eo33) | ((with_reducible refine gate_callee (f := 17) rfl ?_); refine goesL_ (some 61) rfl rfl Tryd.func17 jK rfl #[.slice Ao33 t851.length co33, .int .i64 t852, .int .i64 t853, .int .i64 t854] rfl jA ?_; (with_reducible refine (impl_GetData.calls k _ _ t851 t852 t853 t854 t857 t858 t859 t860 t861 t862 t863 _ ?side1 ?side2 A9.out).mono ?_); (case side1 => exact cU ((Kd.R_reads' HO856.out).2.2)); (case side2 => exact (Kd.R_reads' HO856.out).2.1); rintro e w34 ⟨rfl, hb⟩; refine ⟨_, rfl, ?_⟩; replace HO856 := aS (Kd.R_below (rU HO856.out) hb); replace BK841 := aS (blk_below (bU BK841.out) hb); replace BK850 := aS (blk_below (bU BK850.out) hb); replace HB := aS (below_step (wS2 HB.out GE841.out GE850.out) hb); clear hb) | ((with_reducible refine gate_dst (N := 15) rfl ?_); (try (refine gate_guard (by rfl) ?_; dsimp only)); refine box_event ?hg (N := 15) ?hd (cs := #[.string (⟨#[]⟩ : ByteArray), .int .i64 0, .int .i64 0, .int .i64 0, .string (⟨#[]⟩ : ByteArray), .string (⟨#[]⟩ : ByteArray)]) (t := 25) ?hr ?_; (case hd => rfl); (case hg => rfl); (case hr => first | (go_simp; done) | (go_simp; rfl)); intro gb864 hg w35 hbox hb; replace HO856 := aS (Kd.R_below (rU HO856.out) hb); have BK864 := aS (hbox); have GW864 := aS ((by rw [hg]; exact (below_size (wS2 HB.out GE841.out GE850.out)) : w.heap.size ≤ gb864)); have GE864 := aS ((by rw [hg]; exact (below_size (wS2 HB.out GE841.out GE850.out)) : w.heap.size ≤ gb864)); replace HB := aS (below_step (wS2 HB.out GE841.out GE850.out) hb); have NB841_864 := aS ((by rw [hg]; exact Nat.ne_of_lt (blk_lt (bU BK841.out)) : gb841 ≠ gb864)); have NB864_841 := aS ((by rw [hg]; exact Nat.ne_of_gt (blk_lt (bU BK841.out)) : gb864 ≠ gb841)); replace BK841 := aS (blk_below (bU BK841.out) hb); have NB850_864 := aS ((by rw [hg]; exact Nat.ne_of_lt (blk_lt (bU BK850.out)) : gb850 ≠ gb864)); have NB864_850 := aS ((by rw [hg]; exact Nat.ne_of_gt (blk_lt (bU BK850.out)) : gb864 ≠ gb850)); replace BK850 := aS (blk_below (bU BK850.out) hb); clear hb hbox hg; have hnb36 := NB864_841.out; have hnc36 := NB841_864.out; have hnb37 := NB864_850.out; have hnc37 := NB850_864.out; have hcz38 := cells6f BK864.out) | ((with_reducible refine gate_callee (f := 26) rfl ?_); refine goesL_ (some 69) rfl rfl Tryd.func26 jK rfl #[.slice Ao33 t851.length co33, .int .i64 t852, .int .i64 t853, .int .i64 t854] rfl jA ?_; (with_reducible refine (spec_GetData.calls k _ _ t851 t852 t853 t854 t865 t866 t867 t868 t869 t870 t871 _ ?side1 ?side2 A10.out).mono ?_); (case side1 => refine (Kd.R_reads' (e := 5) (base := w.heap.size) (ok := fun k_ => True) (n := t851.length) (c := co33) ?_).2.2; exact (by (with_reducible repeat (first | apply Kd.R_alloc | apply Kd.R_drewN | apply Kd.R_drew)); exact (Kd.R_mono (Kd.R_far (p := ⟨gb864, 5, none⟩) (Kd.R_far (p := ⟨gb864, 4, none⟩) (Kd.R_far (p := ⟨gb864, 3, none⟩) (Kd.R_far (p := ⟨gb864, 2, none⟩) (Kd.R_far (p := ⟨gb864, 1, none⟩) (Kd.R_far (p := ⟨gb864, 0, none⟩) (Kd.R_types HO856.out BK864.out (by decide)) (fun _ hk => hk.2) (.string t857)) (fun _ hk => hk.2) (.int .i64 t858)) (fun _ hk => hk.2) (.int .i64 t859)) (fun _ hk => hk.2) (.int .i64 t860)) (fun _ hk => hk.2) (.string t861)) (fun _ hk => hk.2) (.string t862)) (fun _ h_ => h_.1)))); (case side2 => exact (Kd.R_reads' HO856.out).2.1); rintro e w39 ⟨rfl, hb⟩; refine ⟨_, rfl, ?_⟩; replace HO856 := aS (Kd.R_below (by (with_reducible repeat (first | apply Kd.R_alloc | apply Kd.R_drewN | apply Kd.R_drew)); exact (Kd.R_mono (Kd.R_far (p := ⟨gb864, 5, none⟩) (Kd.R_far (p := ⟨gb864, 4, none⟩) (Kd.R_far (p := ⟨gb864, 3, none⟩) (Kd.R_far (p := ⟨gb864, 2, none⟩) (Kd.R_far (p := ⟨gb864, 1, none⟩) (Kd.R_far (p := ⟨gb864, 0, none⟩) (Kd.R_types HO856.out BK864.out (by decide)) (fun _ hk => hk.2) (.string t857)) (fun _ hk => hk.2) (.int .i64 t858)) (fun _ hk => hk.2) (.int .i64 t859)) (fun _ hk => hk.2) (.int .i64 t860)) (fun _ hk => hk.2) (.string t861)) (fun _ hk => hk.2) (.string t862)) (fun _ h_ => h_.1))) hb); replace BK841 := aS (blk_below (g := gb841) (o := .cells #[.string t833, .int .i64 t834, .int .i64 t835, .int .i64 t836, .string t837, .string t838] 25 (0, 0)) (by (iterate 6 ((with_reducible repeat (first | refine blk_drewN ?_ _ | refine blk_drew ?_ | refine blk_alloc ?_ _)); refine blk_far ?_ NB841_864.out _)); exact bU BK841.out) hb); replace BK850 := aS (blk_below (g := gb850) (o := .cells #[.string t842, .int .i64 t843, .int .i64 t844, .int .i64 t845, .string t846, .string t847] 25 (0, 0)) (by (iterate 6 ((with_reducible repeat (first | refine blk_drewN ?_ _ | refine blk_drew ?_ | refine blk_alloc ?_ _)); refine blk_far ?_ NB850_864.out _)); exact bU BK850.out) hb); replace BK864 := aS (blk_below (g := gb864) (o := .cells #[.string t857, .int .i64 t858, .int .i64 t859, .int .i64 t860, .string t861, .string t862] 25 (0, 0)) (by (with_reducible repeat (first | refine blk_drewN ?_ _ | refine blk_drew ?_ | refine blk_alloc ?_ _)); refine blk_put_6 (.string (⟨#[]⟩ : ByteArray)) (.int .i64 0) (.int .i64 0) (.int .i64 0) (.string (⟨#[]⟩ : ByteArray)) (.string (⟨#[]⟩ : ByteArray)) ?_; exact bU BK864.out) hb); replace HB := aS (below_step (wS3 HB.out GE841.out GE850.out GE864.out) hb); clear hb) | ((with_reducible refine gate_dst (N := 17) rfl ?_); (try (refine gate_guard (by rfl) ?_; dsimp only)); refine box_event ?hg (N := 17) ?hd (cs := #[.string (⟨#[]⟩ : ByteArray), .int .i64 0, .int .i64 0, .int .i64 0, .string (⟨#[]⟩ : ByteArray), .string (⟨#[]⟩ : ByteArray)]) (t := 25) ?hr ?_; (case hd => rfl); (case hg => rfl); (case hr => first | (go_simp; done) | (go_simp; rfl)); intro gb872 hg w40 hbox hb; replace HO856 := aS (Kd.R_below (rU HO856.out) hb); have BK872 := aS (hbox); have GW872 := aS ((by rw [hg]; exact (below_size (wS3 HB.out GE841.out GE850.out GE864.out)) : w.heap.size ≤ gb872)); have GE872 := aS ((by rw [hg]; exact (below_size (wS3 HB.out GE841.out GE850.out GE864.out)) : w.heap.size ≤ gb872)); replace HB := aS (below_step (wS3 HB.out GE841.out GE850.out GE864.out) hb); have NB841_872 := aS ((by rw [hg]; exact Nat.ne_of_lt (blk_lt (bU BK841.out)) : gb841 ≠ gb872)); have NB872_841 := aS ((by rw [hg]; exact Nat.ne_of_gt (blk_lt (bU BK841.out)) : gb872 ≠ gb841)); replace BK841 := aS (blk_below (bU BK841.out) hb); have NB850_872 := aS ((by rw [hg]; exact Nat.ne_of_lt (blk_lt (bU BK850.out)) : gb850 ≠ gb872)); have NB872_850 := aS ((by rw [hg]; exact Nat.ne_of_gt (blk_lt (bU BK850.out)) : gb872 ≠ gb850)); replace BK850 := aS (blk_below (bU BK850.out) hb); have NB864_872 := aS ((by rw [hg]; exact Nat.ne_of_lt (blk_lt (bU BK864.out)) : gb864 ≠ gb872)); have NB872_864 := aS ((by rw [hg]; exact Nat.ne_of_gt (blk_lt (bU BK864.out)) : gb872 ≠ gb864)); replace BK864 := aS (blk_below (bU BK864.out) hb); clear hb hbox hg; have hnb41 := NB872_841.out; have hnc41 := NB841_872.out; have hnb42 := NB872_850.out; have hnc42 := NB850_872.out; have hnb43 := NB872_864.out; have hnc43 := NB864_872.out; have hcz44 := cells6f BK872.out) | ((with_reducible refine gate_callee (f := 27) rfl ?_); refine goesL_ (some 74) rfl rfl Tryd.func27 jK rfl #[.slice A0 l0.length c0] rfl jA ?_; (with_reducible refine (spec_DrawGetRecords.calls k _ _ l0 t873 t874 t875 _ ?side1 ?side2 A11.out).mono ?_); (case side1 => exact Kd.C_below HR0.out (wS4 HB.out GE841.out GE850.out GE864.out GE872.out)); (case side2 => exact HC0.out); rintro e w45 ⟨v876, rfl, ho0, hb⟩; refine ⟨_, rfl, ?_⟩; have HO877 := aS (Kd.R_lower ho0 (below_size (wS4 HB.out GE841.out GE850.out GE864.out GE872.out))); replace BK841 := aS (blk_below (g := gb841) (o := .cells #[.string t833, .int .i64 t834, .int .i64 t835, .int .i64 t836, .string t837, .string t838] 25 (0, 0)) (by (iterate 6 ((with_reducible repeat (first | refine blk_drewN ?_ _ | refine blk_drew ?_ | refine blk_alloc ?_ _)); refine blk_far ?_ NB841_872.out _)); exact bU BK841.out) hb); replace BK850 := aS (blk_below (g := gb850) (o := .cells #[.string t842, .int .i64 t843, .int .i64 t844, .int .i64 t845, .string t846, .string t847] 25 (0, 0)) (by (iterate 6 ((with_reducible repeat (first | refine blk_drewN ?_ _ | refine blk_drew ?_ | refine blk_alloc ?_ _)); refine blk_far ?_ NB850_872.out _)); exact bU BK850.out) hb); replace BK864 := aS (blk_below (g := gb864) (o := .cells #[.string t857, .int .i64 t858, .int .i64 t859, .int .i64 t860, .string t861, .string t862] 25 (0, 0)) (by (iterate 6 ((with_reducible repeat (first | refine blk_drewN ?_ _ | refine blk_drew ?_ | refine blk_alloc ?_ _)); refine blk_far ?_ NB864_872.out _)); exact bU BK864.out) hb); replace BK872 := aS (blk_below (g := gb872) (o := .cells #[.string t865, .int .i64 t866, .int .i64 t867, .int .i64 t868, .string t869, .string t870] 25 (0, 0)) (by (with_reducible repeat (first | refine blk_drewN ?_ _ | refine blk_drew ?_ | refine blk_alloc ?_ _)); refine blk_put_6 (.string (⟨#[]⟩ : ByteArray)) (.int .i64 0) (.int .i64 0) (.int .i64 0) (.string (⟨#[]⟩ : ByteArray)) (.string (⟨#[]⟩ : ByteArray)) ?_; exact bU BK872.out) hb); replace HB := aS (below_step (wS4 HB.out GE841.out GE850.out GE864.out GE872.out) hb); clear hb; (try clear ho0); obtain ⟨Ao46, co46, eo46⟩ := Kd.R_slice HO877.out; subst eo46) | ((with_reducible refine gate_callee (f := 21) rfl ?_); refine goesL_ (some 82) rfl rfl Tryd.func21 jK rfl #[.slice Ao46 t873.length co46, .int .i64 t874, .int .i64 t875] rfl jA ?_; (with_reducible refine (impl_GetRecords.calls k _ _ t873 t874 t875 t878 t879 t880 _ ?side1 ?side2 A12.out).mono ?_); (case side1 => exact cU ((Kd.R_reads' HO877.out).2.2)); (case side2 => exact (Kd.R_reads' HO877.out).2.1); rintro e w47 ⟨v881, rfl, ho0, hb⟩; refine ⟨_, rfl, ?_⟩; replace HO877 := aS (Kd.R_below (rU HO877.out) hb); have HO882 := aS (Kd.R_lower (Kd.R_newB (Kd.R_newB (Kd.R_newB (Kd.R_newB ho0 (g := gb841) (o := .cells #[.string t833, .int .i64 t834, .int .i64 t835, .int .i64 t836, .string t837, .string t838] 25 (0, 0)) (bU BK841.out)) (g := gb850) (o := .cells #[.string t842, .int .i64 t843, .int .i64 t844, .int .i64 t845, .string t846, .string t847] 25 (0, 0)) (bU BK850.out)) (g := gb864) (o := .cells #[.string t857, .int .i64 t858, .int .i64 t859, .int .i64 t860, .string t861, .string t862] 25 (0, 0)) (bU BK864.out)) (g := gb872) (o := .cells #[.string t865, .int .i64 t866, .int .i64 t867, .int .i64 t868, .string t869, .string t870] 25 (0, 0)) (bU BK872.out)) (below_size (wS4 HB.out GE841.out GE850.out GE864.out GE872.out))); replace BK841 := aS (blk_below (bU BK841.out) hb); replace BK850 := aS (blk_below (bU BK850.out) hb); replace BK864 := aS (blk_below (bU BK864.out) hb); replace BK872 := aS (blk_below (bU BK872.out) hb); replace HB := aS (below_step (wS4 HB.out GE841.out GE850.out GE864.out GE872.out) hb); clear hb; (try clear ho0)) | ((with_reducible refine gate_callee (f := 28) rfl ?_); refine goesL_ (some 90) rfl rfl Tryd.func28 jK rfl #[.slice Ao46 t873.length co46, .int .i64 t874, .int .i64 t875] rfl jA ?_; (with_reducible refine (spec_GetRecords.calls k _ _ t873 t874 t875 t883 t884 t885 _ ?side1 ?side2 A13.out).mono ?_); (case side1 => exact cU ((Kd.R_reads' HO877.out).2.2)); (case side2 => exact (Kd.R_reads' HO877.out).2.1); rintro e w48 ⟨v886, rfl, ho0, hb⟩; refine ⟨_, rfl, ?_⟩; replace HO877 := aS (Kd.R_below (rU HO877.out) hb); have HO887 := aS (Kd.R_lower (Kd.R_newB (Kd.R_newB (Kd.R_newB (Kd.R_newB (Kd.R_new' ho0 (Kd.R_lt (rU HO882.out))) (g := gb841) (o := .cells #[.string t833, .int .i64 t834, .int .i64 t835, .int .i64 t836, .string t837, .string t838] 25 (0, 0)) (bU BK841.out)) (g := gb850) (o := .cells #[.string t842, .int .i64 t843, .int .i64 t844, .int .i64 t845, .string t846, .string t847] 25 (0, 0)) (bU BK850.out)) (g := gb864) (o := .cells #[.string t857, .int .i64 t858, .int .i64 t859, .int .i64 t860, .string t861, .string t862] 25 (0, 0)) (bU BK864.out)) (g := gb872) (o := .cells #[.string t865, .int .i64 t866, .int .i64 t867, .int .i64 t868, .string t869, .string t870] 25 (0, 0)) (bU BK872.out)) (below_size (wS4 HB.out GE841.out GE850.out GE864.out GE872.out))); replace HO882 := aS (Kd.R_elder' (rU HO882.out) (Kd.R_base ho0) hb); replace BK841 := aS (blk_below (bU BK841.out) hb); replace BK850 := aS (blk_below (bU BK850.out) hb); replace BK864 := aS (blk_below (bU BK864.out) hb); replace BK872 := aS (blk_below (bU BK872.out) hb); replace HB := aS (below_step (wS4 HB.out GE841.out GE850.out GE864.out GE872.out) hb); clear hb; (try clear ho0); have hcz49 := cells6f BK841.out; have hcz50 := cells6f BK850.out; have hcz51 := cells6f BK864.out; have hcz52 := cells6f BK872.out; obtain ⟨Ao53, co53, eo53⟩ := Kd.R_slice HO882.out; subst eo53; obtain ⟨Ao54, co54, eo54⟩ := Kd.R_slice HO887.out; subst eo54) | (go_at_call 22; (with_reducible refine (laws_sameRecs.calls k _ _ t878 _ _ t883 true _ ?side1 ?side2 ?side3 ?side4 A19.out).mono ?_); (case side1 => exact cU ((Kd.R_reads' HO882.out).2.2)); (case side2 => exact (Kd.R_reads' HO882.out).2.1); (case side3 => exact cU ((Kd.R_reads' HO887.out).2.2)); (case side4 => exact (Kd.R_reads' HO887.out).2.1); rintro e w' ⟨rfl, ⟨nd, rfl⟩⟩))
         (try simp only [Act.put, List.setIfInBounds_toArray, List.set_cons_zero, List.set_cons_succ])
         have H := HC22.out
         clear HC22
         by_cases c55 : t880 = t885
         ·rw [if_pos c55] at H
          have c55b0 := beq_iff_eq.mpr c55
          have c55b1 := bne_eq_false_iff_eq.mpr c55
          clear c55
          (first | rw [c55b0] | (simp only [i64_w, i32_w]; rw [c55b0]) | skip)
          by_cases c56 : t840 = 0
          ·rw [if_pos c56] at H
           have c56b0 := beq_iff_eq.mpr c56
           have c56b1 := bne_eq_false_iff_eq.mpr c56
           clear c56
           obtain ⟨t889, A57, H⟩ := bM H
           try dsimp only at H
           by_cases c58 : t889 = true
           ·subst c58
            rw [if_pos rfl] at H
            by_cases c59 : t839 > t830
            ·rw [if_pos c59] at H
             have c59b0 := decide_eq_true c59
             clear c59
             by_cases c60 : t880 = 0
             ·rw [if_pos c60] at H
              have c60b0 := beq_iff_eq.mpr c60
              have c60b1 := bne_eq_false_iff_eq.mpr c60
              clear c60
              obtain rfl := Option.some.inj H
              have hnb61 := NB841_850.out
              have hnc61 := NB850_841.out
              have hnb62 := NB841_864.out
              have hnc62 := NB864_841.out
              have hnb63 := NB841_872.out
              have hnc63 := NB872_841.out
              have hcz64 := cells6f BK841.out
              go_wp2_with (first | (go_at_call 15; (with_reducible refine (impl_RecordOk.calls k t833 t834 t835 t836 t837 t838 true _ A57.out).mono ?_); rintro e w65 ⟨rfl, hb⟩; replace HO882 := aS (Kd.R_below (rU HO882.out) hb); replace BK841 := aS (blk_below (bU BK841.out) hb); replace BK850 := aS (blk_below (bU BK850.out) hb); replace BK864 := aS (blk_below (bU BK864.out) hb); replace BK872 := aS (blk_below (bU BK872.out) hb); replace HB := aS (below_step (wS4 HB.out GE841.out GE850.out GE864.out GE872.out) hb); clear hb))
              go_ret
              exact ⟨by first | rfl | (simp [errW_none, errW_some] <;> rfl) | (simp [*, errW_none, errW_some] <;> rfl) | (exfalso; simp_all; done) | ((have ai_ : ∀ p : Prop, Aside0 p ↔ p := fun p => ⟨fun h => h.out, fun h => ⟨h⟩⟩); simp_all [ai_]; done), by exact wS4 HB.out GE841.out GE850.out GE864.out GE872.out⟩
             ·rw [if_neg c60] at H
              have c60b0 := beq_eq_false_iff_ne.mpr c60
              have c60b1 := bne_iff_ne.mpr c60
              obtain rfl := Option.some.inj H
              have hnb66 := NB841_850.out
              have hnc66 := NB850_841.out
              have hnb67 := NB841_864.out
              have hnc67 := NB864_841.out
              have hnb68 := NB841_872.out
              have hnc68 := NB872_841.out
              have hcz69 := cells6f BK841.out
              go_wp2_with (first | (go_at_call 15; (with_reducible refine (impl_RecordOk.calls k t833 t834 t835 t836 t837 t838 true _ A57.out).mono ?_); rintro e w70 ⟨rfl, hb⟩; replace BK841 := aS (blk_below (bU BK841.out) hb); replace BK850 := aS (blk_below (bU BK850.out) hb); replace BK864 := aS (blk_below (bU BK864.out) hb); replace BK872 := aS (blk_below (bU BK872.out) hb); replace HB := aS (below_step (wS4 HB.out GE841.out GE850.out GE864.out GE872.out) hb); clear hb))
              go_ret
              exact ⟨by first | rfl | (simp [errW_none, errW_some] <;> rfl) | (simp [*, errW_none, errW_some] <;> rfl) | (exfalso; simp_all; done) | ((have ai_ : ∀ p : Prop, Aside0 p ↔ p := fun p => ⟨fun h => h.out, fun h => ⟨h⟩⟩); simp_all [ai_]; done), by exact wS4 HB.out GE841.out GE850.out GE864.out GE872.out⟩
            ·rw [if_neg c59] at H
             have c59b0 := decide_eq_false c59
             clear c59
             exact absurd (H.trans (congrArg some hrt_)) (by simp)
           ·replace c58 := Bool.eq_false_iff.mpr c58
            subst c58
            rw [if_neg Bool.false_ne_true] at H
            exact absurd (H.trans (congrArg some hrt_)) (by simp)
          ·rw [if_neg c56] at H
           have c56b0 := beq_eq_false_iff_ne.mpr c56
           have c56b1 := bne_iff_ne.mpr c56
           by_cases c71 : t880 = 0
           ·rw [if_pos c71] at H
            have c71b0 := beq_iff_eq.mpr c71
            have c71b1 := bne_eq_false_iff_eq.mpr c71
            clear c71
            obtain rfl := Option.some.inj H
            go_wp2
            go_ret
            exact ⟨by first | rfl | (simp [errW_none, errW_some] <;> rfl) | (simp [*, errW_none, errW_some] <;> rfl) | (exfalso; simp_all; done) | ((have ai_ : ∀ p : Prop, Aside0 p ↔ p := fun p => ⟨fun h => h.out, fun h => ⟨h⟩⟩); simp_all [ai_]; done), by exact wS4 HB.out GE841.out GE850.out GE864.out GE872.out⟩
           ·rw [if_neg c71] at H
            have c71b0 := beq_eq_false_iff_ne.mpr c71
            have c71b1 := bne_iff_ne.mpr c71
            obtain rfl := Option.some.inj H
            go_wp2
            go_ret
            exact ⟨by first | rfl | (simp [errW_none, errW_some] <;> rfl) | (simp [*, errW_none, errW_some] <;> rfl) | (exfalso; simp_all; done) | ((have ai_ : ∀ p : Prop, Aside0 p ↔ p := fun p => ⟨fun h => h.out, fun h => ⟨h⟩⟩); simp_all [ai_]; done), by exact wS4 HB.out GE841.out GE850.out GE864.out GE872.out⟩
         ·rw [if_neg c55] at H
          have c55b0 := beq_eq_false_iff_ne.mpr c55
          have c55b1 := bne_iff_ne.mpr c55
          (first | rw [c55b0] | (simp only [i64_w, i32_w]; rw [c55b0]) | skip)
          exact absurd (H.trans (congrArg some hrt_)) (by simp)
        ·rw [if_neg c21] at H
         have c21b0 := beq_eq_false_iff_ne.mpr c21
         have c21b1 := bne_iff_ne.mpr c21
         exact absurd (H.trans (congrArg some hrt_)) (by simp)
       ·replace c20 := Bool.eq_false_iff.mpr c20
        subst c20
        rw [if_neg Bool.false_ne_true] at H
        exact absurd (H.trans (congrArg some hrt_)) (by simp)
      ·rw [if_neg c18] at H
       have c18b0 := beq_eq_false_iff_ne.mpr c18
       have c18b1 := bne_iff_ne.mpr c18
       exact absurd (H.trans (congrArg some hrt_)) (by simp)
    ·rw [if_neg c16] at H
     have c16b0 := beq_eq_false_iff_ne.mpr c16
     have c16b1 := bne_iff_ne.mpr c16
     exact absurd (H.trans (congrArg some hrt_)) (by simp)
   ·rw [if_neg c15] at H
    have c15b0 := beq_eq_false_iff_ne.mpr c15
    have c15b1 := bne_iff_ne.mpr c15
    exact absurd (H.trans (congrArg some hrt_)) (by simp)

/-- The one pure statement of laws_FnFieldsBent. -/
def laws_FnFieldsBent.Pure : Prop := ∀ (l0 : List Int), (l0.length ≤ maxLen ∧ l0.length * 1 ≤ 140737488351232 ∧ ∀ y_ ∈ l0, (Lit.int .u8 y_).wf = true) → ∃ k, laws_FnFieldsBent.f k l0 = some true

end Go.Proofs.YtdigilidomimdaaDoor.Pr
