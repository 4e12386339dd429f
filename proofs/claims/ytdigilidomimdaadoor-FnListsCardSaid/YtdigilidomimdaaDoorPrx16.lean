-- Written for this claim by a program of this session (wip/tool/pr.py, over the kit's printer).
-- half
import Derived.Test.YtdigilidomimdaaDoorPrx0
import Derived.Test.YtdigilidomimdaaDoorPrx2
import Derived.Test.YtdigilidomimdaaDoorPrx3
import Derived.Test.YtdigilidomimdaaDoorPrx4
import Derived.Test.YtdigilidomimdaaDoorPrx8
import Derived.Test.YtdigilidomimdaaDoorPrx12
import Derived.Test.YtdigilidomimdaaDoorPrx15
namespace Go.Proofs.YtdigilidomimdaaDoor.Pr
open Go.RowKit Go.Proofs.YtdigilidomimdaaDoorW.PrintWords Go.Proofs.YtdigilidomimdaaDoorW.PrintLast Go.Proofs.YtdigilidomimdaaDoorW.PrintMore
attribute [local go_sem] max2_int min2_int max_two min_two max_three min_three max_four min_four   -- for this text's walks alone
set_option linter.unusedVariables false
set_option linter.unusedSimpArgs false

/-! ### laws_FnLists: function 4 -/
def laws_FnLists.l0 : Nat → List Int → List (S25) → List Int → Int → Option (Bool)
 | 0, _, _, _, _ => none
 | k + 1, x3, x4, x5, x6 => if x6 < (x4.length : Int) then (if 0 ≤ x6 then ((impl_RecordOk.f k ((rd_T25 x4 x6).f0) ((rd_T25 x4 x6).f1) ((rd_T25 x4 x6).f2) ((rd_T25 x4 x6).f3) ((rd_T25 x4 x6).f4) ((rd_T25 x4 x6).f5)).bind fun t795 => (if t795 = true then (laws_FnLists.l0 k x3 x4 x5 (wrap64 (x6 + 1))) else (some true))) else (none)) else ((impl_GetRecords.f k x5 (x3.length : Int) (x4.length : Int)).bind fun bt796 => (if bt796.2.2 = 0 then ((laws_sameRecs.f k bt796.1 x4).bind fun t801 => (if t801 = true then (some (bt796.2.1 == (x5.length : Int))) else (some false))) else (some false)))
def laws_FnLists.f (k : Nat) (l0 : List Int) : Option (Bool) := (laws_big.f l0).bind fun t780 => (if t780 = true then (some true) else ((spec_DrawPutRecords.f k l0).bind fun bt781 => ((impl_PutRecords.f k bt781.1 bt781.2).bind fun t787 => ((spec_PutRecords.f k bt781.1 bt781.2).bind fun t790 => ((laws_same.f k t787 t790).bind fun t793 => (if t793 = true then (laws_FnLists.l0 k bt781.1 bt781.2 t787 0) else (some false)))))))
theorem laws_FnLists.mono_l : ∀ k, (∀ y0 y1 y2 y3, LeO (laws_FnLists.l0 k y0 y1 y2 y3) (laws_FnLists.l0 (k + 1) y0 y1 y2 y3))
 | 0 => fun _ _ _ _ r h => by simp [laws_FnLists.l0] at h
 | k + 1 => by
  have ih0 := laws_FnLists.mono_l k
  ·intro y0 y1 y2 y3
   unfold laws_FnLists.l0
   repeat' first
   | (with_reducible first | exact ih0 _ _ _ _ | exact impl_GetRecords.mono _ _ _ _ | exact impl_PutRecords.mono _ _ _ | exact impl_RecordOk.mono _ _ _ _ _ _ _ | exact laws_same.mono _ _ _ | exact laws_sameRecs.mono _ _ _ | exact spec_DrawPutRecords.mono _ _ | exact spec_PutRecords.mono _ _ _ | exact LeO.refl _ | exact LeO.none _ | refine LeO.ite ?_ ?_ | refine LeO.bind ?_ (fun _ => ?_))
   | exact ih0 _ _ _ _
   | exact impl_GetRecords.mono _ _ _ _
   | exact impl_PutRecords.mono _ _ _
   | exact impl_RecordOk.mono _ _ _ _ _ _ _
   | exact laws_same.mono _ _ _
   | exact laws_sameRecs.mono _ _ _
   | exact spec_DrawPutRecords.mono _ _
   | exact spec_PutRecords.mono _ _ _
   | exact LeO.none _
   | refine LeO.ite ?_ ?_
   | refine LeO.bind ?_ (fun _ => ?_)
theorem laws_FnLists.mono : ∀ a0 k, LeO (laws_FnLists.f k a0) (laws_FnLists.f (k + 1) a0) := by
 intro a0 k
 have ih0 := laws_FnLists.mono_l k
 unfold laws_FnLists.f
 repeat' first
   | (with_reducible first | exact ih0 _ _ _ _ | exact impl_GetRecords.mono _ _ _ _ | exact impl_PutRecords.mono _ _ _ | exact impl_RecordOk.mono _ _ _ _ _ _ _ | exact laws_same.mono _ _ _ | exact laws_sameRecs.mono _ _ _ | exact spec_DrawPutRecords.mono _ _ | exact spec_PutRecords.mono _ _ _ | exact LeO.refl _ | exact LeO.none _ | refine LeO.ite ?_ ?_ | refine LeO.bind ?_ (fun _ => ?_))
   | exact ih0 _ _ _ _
   | exact impl_GetRecords.mono _ _ _ _
   | exact impl_PutRecords.mono _ _ _
   | exact impl_RecordOk.mono _ _ _ _ _ _ _
   | exact laws_same.mono _ _ _
   | exact laws_sameRecs.mono _ _ _
   | exact spec_DrawPutRecords.mono _ _
   | exact spec_PutRecords.mono _ _ _
   | exact LeO.none _
   | refine LeO.ite ?_ ?_
   | refine LeO.bind ?_ (fun _ => ?_)
set_option maxHeartbeats 8000000 in
set_option maxRecDepth 100000 in
theorem laws_FnLists.calls (k : Nat) (A0 : Option Addr) (c0 : Nat) (l0 : List Int) (r : Bool) (w : World) (hr0 : Kd.C (Kd.int .u8) w A0 l0.length l0) (hc0 : l0.length ≤ c0) (hrt_ : r = true) (h : laws_FnLists.f k l0 = some r) :
  Calls Tryd.prog 4 #[.slice A0 l0.length c0] w fun e w' => e = .returned (.bool r) ∧ Below w.heap.size w w' := by
 have hu25 := Tryd.underlying25
 have HR0 := aS hr0
 have HC0 := aS hc0
 clear hr0 hc0
 have HB := aS (Below.refl w.heap.size w)
 have H : ((laws_big.f l0).bind fun t780 => (if t780 = true then (some true) else ((spec_DrawPutRecords.f k l0).bind fun bt781 => ((impl_PutRecords.f k bt781.1 bt781.2).bind fun t787 => ((spec_PutRecords.f k bt781.1 bt781.2).bind fun t790 => ((laws_same.f k t787 t790).bind fun t793 => (if t793 = true then (laws_FnLists.l0 k bt781.1 bt781.2 t787 0) else (some false)))))))) = some r := h
 clear h
 obtain ⟨t780, A2, H⟩ := bM H
 try dsimp only at H
 by_cases c3 : t780 = true
 ·subst c3
  rw [if_pos rfl] at H
  obtain rfl := Option.some.inj H
  go_enter Tryd.func4, Tryd.ntmps4
  go_wp2_with (first | ((with_reducible refine gate_callee (f := 8) rfl ?_); refine goesL_ (some 11) rfl rfl Tryd.func8 jK rfl #[.slice A0 l0.length c0] rfl jA ?_; (with_reducible refine (laws_big.calls _ _ l0 true _ ?side1 ?side2 A2.out).mono ?_); (case side1 => exact cU (HR0.out)); (case side2 => exact HC0.out); rintro e w' ⟨rfl, ⟨nd, rfl⟩⟩; refine ⟨_, rfl, ?_⟩))
  go_ret
  exact ⟨by first | rfl | (simp [errW_none, errW_some] <;> rfl) | (simp [*, errW_none, errW_some] <;> rfl) | (exfalso; simp_all; done) | ((have ai_ : ∀ p : Prop, Aside0 p ↔ p := fun p => ⟨fun h => h.out, fun h => ⟨h⟩⟩); simp_all [ai_]; done), by exact wU HB.out⟩
 ·replace c3 := Bool.eq_false_iff.mpr c3
  subst c3
  rw [if_neg Bool.false_ne_true] at H
  obtain ⟨⟨t781, t782⟩, A4, H⟩ := bM H
  try dsimp only at H
  obtain ⟨t787, A5, H⟩ := bM H
  try dsimp only at H
  obtain ⟨t790, A6, H⟩ := bM H
  try dsimp only at H
  obtain ⟨t793, A7, H⟩ := bM H
  try dsimp only at H
  have HC8 := aS H
  clear H
  go_enter Tryd.func4, Tryd.ntmps4
  go_upto_if 25 with (first | ((with_reducible refine gate_callee (f := 8) rfl ?_); refine goesL_ (some 11) rfl rfl Tryd.func8 jK rfl #[.slice A0 l0.length c0] rfl jA ?_; (with_reducible refine (laws_big.calls _ _ l0 false _ ?side1 ?side2 A2.out).mono ?_); (case side1 => exact cU (HR0.out)); (case side2 => exact HC0.out); rintro e w' ⟨rfl, ⟨nd, rfl⟩⟩; refine ⟨_, rfl, ?_⟩) | ((with_reducible refine gate_callee (f := 18) rfl ?_); refine goesL_ (some 14) rfl rfl Tryd.func18 jK rfl #[.slice A0 l0.length c0] rfl jA ?_; (with_reducible refine (spec_DrawPutRecords.calls k _ _ l0 t781 t782 _ ?side1 ?side2 A4.out).mono ?_); (case side1 => exact cU (HR0.out)); (case side2 => exact HC0.out); rintro e w9 ⟨v783, v785, rfl, ho0, ho1, hb⟩; refine ⟨_, rfl, ?_⟩; have HO784 := aS (Kd.R_lower ho0 (below_size (wU HB.out))); have HO786 := aS (Kd.R_lower ho1 (below_size (wU HB.out))); replace HB := aS (below_step (wU HB.out) hb); clear hb; (try clear ho0); (try clear ho1); obtain ⟨Ao10, co10, eo10⟩ := Kd.R_slice HO784.out; subst eo10; obtain ⟨Ao11, co11, eo11⟩ := Kd.R_slice HO786.out; subst eo11) | ((with_reducible refine gate_callee (f := 19) rfl ?_); refine goesL_ (some 19) rfl rfl Tryd.func19 jK rfl #[.slice Ao10 t781.length co10, .slice Ao11 t782.length co11] rfl jA ?_; (with_reducible refine (impl_PutRecords.calls k _ _ t781 _ _ t782 t787 _ ?side1 ?side2 ?side3 ?side4 A5.out).mono ?_); (case side1 => exact cU ((Kd.R_reads' HO784.out).2.2)); (case side2 => exact (Kd.R_reads' HO784.out).2.1); (case side3 => exact cU ((Kd.R_reads' HO786.out).2.2)); (case side4 => exact (Kd.R_reads' HO786.out).2.1); rintro e w12 ⟨v788, rfl, ho0, hb⟩; refine ⟨_, rfl, ?_⟩; replace HO786 := aS (Kd.R_below (rU HO786.out) hb); have HO789 := aS (Kd.R_lower (Kd.R_new' ho0 (Kd.R_lt (rU HO784.out))) (below_size (wU HB.out))); replace HO784 := aS (Kd.R_elder' (rU HO784.out) (Kd.R_base ho0) hb); replace HB := aS (below_step (wU HB.out) hb); clear hb; (try clear ho0)) | ((with_reducible refine gate_callee (f := 20) rfl ?_); refine goesL_ (some 23) rfl rfl Tryd.func20 jK rfl #[.slice Ao10 t781.length co10, .slice Ao11 t782.length co11] rfl jA ?_; (with_reducible refine (spec_PutRecords.calls k _ _ t781 _ _ t782 t790 _ ?side1 ?side2 ?side3 ?side4 A6.out).mono ?_); (case side1 => exact cU ((Kd.R_reads' HO784.out).2.2)); (case side2 => exact (Kd.R_reads' HO784.out).2.1); (case side3 => exact cU ((Kd.R_reads' HO786.out).2.2)); (case side4 => exact (Kd.R_reads' HO786.out).2.1); rintro e w13 ⟨v791, rfl, ho0, hb⟩; refine ⟨_, rfl, ?_⟩; replace HO786 := aS (Kd.R_below (rU HO786.out) hb); have HO792 := aS (Kd.R_lower (Kd.R_new' (Kd.R_new' ho0 (Kd.R_lt (rU HO784.out))) (Kd.R_lt (rU HO789.out))) (below_size (wU HB.out))); replace HO784 := aS (Kd.R_elder' (rU HO784.out) (Kd.R_base ho0) hb); replace HO789 := aS (Kd.R_elder' (rU HO789.out) (Kd.R_base ho0) hb); replace HB := aS (below_step (wU HB.out) hb); clear hb; (try clear ho0); obtain ⟨Ao14, co14, eo14⟩ := Kd.R_slice HO789.out; subst eo14; obtain ⟨Ao15, co15, eo15⟩ := Kd.R_slice HO792.out; subst eo15) | ((with_reducible refine gate_callee (f := 12) rfl ?_); refine goesL_ (some 24) rfl rfl Tryd.func12 jK rfl #[.slice Ao14 t787.length co14, .slice Ao15 t790.length co15] rfl jA ?_; (with_reducible refine (laws_same.calls k _ _ t787 _ _ t790 t793 _ ?side1 ?side2 ?side3 ?side4 A7.out).mono ?_); (case side1 => exact cU ((Kd.R_reads' HO789.out).2.2)); (case side2 => exact (Kd.R_reads' HO789.out).2.1); (case side3 => exact cU ((Kd.R_reads' HO792.out).2.2)); (case side4 => exact (Kd.R_reads' HO792.out).2.1); rintro e w' ⟨rfl, ⟨nd, rfl⟩⟩; refine ⟨_, rfl, ?_⟩))
  (try simp only [Act.put, List.setIfInBounds_toArray, List.set_cons_zero, List.set_cons_succ])
  have H := HC8.out
  clear HC8
  by_cases c16 : t793 = true
  ·subst c16
   rw [if_pos rfl] at H
   have H' := aS H
   clear H
   go_wp2
   go_loopg [6] k (fun kq v6 w' => ∃ (x6_1 : Int), v6 = .int .i64 x6_1 ∧ Aside0 (laws_FnLists.l0 kq t781 t782 t787 x6_1 = some r) ∧ Aside0 (kq ≤ k) ∧ Aside0 (Kd.R (Kd.int .u8) 5 w' w.heap.size (fun k_ => some k_ ≠ ((.slice Ao14 t787.length co14) : Value).ownBlock) (.slice Ao10 t781.length co10) t781) ∧ Aside0 (Kd.R k25 25 w' w.heap.size (fun _ => True) (.slice Ao11 t782.length co11) t782) ∧ Aside0 (Kd.R (Kd.int .u8) 5 w' w.heap.size (fun k_ => some k_ ≠ ((.slice Ao10 t781.length co10) : Value).ownBlock) (.slice Ao14 t787.length co14) t787) ∧ Aside0 (Below w.heap.size w w'))
   case atStart => exact ⟨(0), jB, H', ⟨Nat.le_refl _⟩, ⟨by (with_reducible repeat (first | apply Kd.R_alloc | apply Kd.R_drewN | apply Kd.R_drew)); exact Kd.R_mono HO784.out (fun _ hk => hk.1.2)⟩, ⟨by exact rU HO786.out⟩, ⟨by (with_reducible repeat (first | apply Kd.R_alloc | apply Kd.R_drewN | apply Kd.R_drew)); exact Kd.R_mono HO789.out (fun _ hk => hk.1.2)⟩, ⟨by exact wU HB.out⟩⟩
   case round =>
    clear H'
    try clear c1
    try clear c2
    try clear p2
    try clear c3
    try clear c4
    try clear c8
    try clear c12
    try clear c16
    obtain ⟨x6_1, rfl, HA, HK1, HO_3, HO_4, HO_5, HB⟩ := hrel
    cases gk with
    | zero => exact absurd HA.out (by simp [laws_FnLists.l0])
    | succ k1 =>
     have H := HA.out
     clear HA
     simp only [laws_FnLists.l0] at H
     by_cases c17 : x6_1 < (t782.length : Int)
     ·rw [if_pos c17] at H
      have c17b0 := decide_eq_true c17
      clear c17
      (first | rw [c17b0] | (simp only [i64_w, i32_w]; rw [c17b0]) | skip)
      by_cases c18 : 0 ≤ x6_1
      ·rw [if_pos c18] at H
       have c18b0 := decide_eq_true c18
       clear c18
       obtain ⟨t795, A19, H⟩ := bM H
       try dsimp only at H
       by_cases c20 : t795 = true
       ·subst c20
        rw [if_pos rfl] at H
        have H' := aS H
        clear H
        have p794 : 0 ≤ (x6_1 : Int) := of_decide_eq_true jC
        have q794 : x6_1 < (t782.length : Int) := of_decide_eq_true jC
        obtain ⟨ad794, e794, hx794_0, hx794_1, hx794_2, hx794_3, hx794_4, hx794_5⟩ := at_T25 (Kd.R_reads' HO_4.out).2.2 x6_1 p794 q794
        cases e794
        replace p794 := eq_true p794
        replace q794 := eq_true q794
        go_wp2_with (first | ((with_reducible refine gate_callee (f := 15) rfl ?_); refine goesL_ (some 36) rfl rfl Tryd.func15 jK rfl #[.agg #[.string ((rd_T25 t782 x6_1).f0), .int .i64 ((rd_T25 t782 x6_1).f1), .int .i64 ((rd_T25 t782 x6_1).f2), .int .i64 ((rd_T25 t782 x6_1).f3), .string ((rd_T25 t782 x6_1).f4), .string ((rd_T25 t782 x6_1).f5)]] rfl jA ?_; (with_reducible refine (impl_RecordOk.calls k1 ((rd_T25 t782 x6_1).f0) ((rd_T25 t782 x6_1).f1) ((rd_T25 t782 x6_1).f2) ((rd_T25 t782 x6_1).f3) ((rd_T25 t782 x6_1).f4) ((rd_T25 t782 x6_1).f5) true _ A19.out).mono ?_); rintro e w21 ⟨rfl, hb⟩; refine ⟨_, rfl, ?_⟩; replace HO_3 := aS (Kd.R_below (rU HO_3.out) hb); replace HO_4 := aS (Kd.R_below (rU HO_4.out) hb); replace HO_5 := aS (Kd.R_below (rU HO_5.out) hb); replace HB := aS (below_step (wU HB.out) hb); clear hb))
        go_roundg k1
        case measure => have := HK1.out; omega
        case rel => exact ⟨(wrap64 (x6_1 + 1)), jB, H', ⟨by have := HK1.out; omega⟩, ⟨by exact rU HO_3.out⟩, ⟨by exact rU HO_4.out⟩, ⟨by exact rU HO_5.out⟩, ⟨by exact wU HB.out⟩⟩
       ·replace c20 := Bool.eq_false_iff.mpr c20
        subst c20
        rw [if_neg Bool.false_ne_true] at H
        obtain rfl := Option.some.inj H
        have p794 : 0 ≤ (x6_1 : Int) := of_decide_eq_true jC
        have q794 : x6_1 < (t782.length : Int) := of_decide_eq_true jC
        obtain ⟨ad794, e794, hx794_0, hx794_1, hx794_2, hx794_3, hx794_4, hx794_5⟩ := at_T25 (Kd.R_reads' HO_4.out).2.2 x6_1 p794 q794
        cases e794
        replace p794 := eq_true p794
        replace q794 := eq_true q794
        go_wp2_with (first | ((with_reducible refine gate_callee (f := 15) rfl ?_); refine goesL_ (some 36) rfl rfl Tryd.func15 jK rfl #[.agg #[.string ((rd_T25 t782 x6_1).f0), .int .i64 ((rd_T25 t782 x6_1).f1), .int .i64 ((rd_T25 t782 x6_1).f2), .int .i64 ((rd_T25 t782 x6_1).f3), .string ((rd_T25 t782 x6_1).f4), .string ((rd_T25 t782 x6_1).f5)]] rfl jA ?_; (with_reducible refine (impl_RecordOk.calls k1 ((rd_T25 t782 x6_1).f0) ((rd_T25 t782 x6_1).f1) ((rd_T25 t782 x6_1).f2) ((rd_T25 t782 x6_1).f3) ((rd_T25 t782 x6_1).f4) ((rd_T25 t782 x6_1).f5) false _ A19.out).mono ?_); rintro e w22 ⟨rfl, hb⟩; refine ⟨_, rfl, ?_⟩; replace HO_3 := aS (Kd.R_below (rU HO_3.out) hb); replace HO_4 := aS (Kd.R_below (rU HO_4.out) hb); replace HO_5 := aS (Kd.R_below (rU HO_5.out) hb); replace HB := aS (below_step (wU HB.out) hb); clear hb))
        go_ret
        exact ⟨by first | rfl | (simp [errW_none, errW_some] <;> rfl) | (simp [*, errW_none, errW_some] <;> rfl) | (exfalso; simp_all; done) | ((have ai_ : ∀ p : Prop, Aside0 p ↔ p := fun p => ⟨fun h => h.out, fun h => ⟨h⟩⟩); simp_all [ai_]; done), by exact wU HB.out⟩
      ·rw [if_neg c18] at H
       exact absurd H (by simp)
     ·rw [if_neg c17] at H
      have c17b0 := decide_eq_false c17
      clear c17
      (first | rw [c17b0] | (simp only [i64_w, i32_w]; rw [c17b0]) | skip)
      obtain ⟨⟨t796, t797, t798⟩, A23, H⟩ := bM H
      try dsimp only at H
      by_cases c24 : t798 = 0
      ·rw [if_pos c24] at H
       have c24b0 := beq_iff_eq.mpr c24
       have c24b1 := bne_eq_false_iff_eq.mpr c24
       clear c24
       obtain ⟨t801, A25, H⟩ := bM H
       try dsimp only at H
       by_cases c26 : t801 = true
       ·subst c26
        rw [if_pos rfl] at H
        obtain rfl := Option.some.inj H
        go_wp2_with (first | ((with_reducible refine gate_callee (f := 21) rfl ?_); refine goesL_ (some 44) rfl rfl Tryd.func21 jK rfl #[.slice Ao14 t787.length co14, .int .i64 (t781.length : Int), .int .i64 (t782.length : Int)] rfl jA ?_; (with_reducible refine (impl_GetRecords.calls k1 _ _ t787 (t781.length : Int) (t782.length : Int) t796 t797 t798 _ ?side1 ?side2 A23.out).mono ?_); (case side1 => exact cU ((Kd.R_reads' HO_5.out).2.2)); (case side2 => exact (Kd.R_reads' HO_5.out).2.1); rintro e w27 ⟨v799, rfl, ho0, hb⟩; refine ⟨_, rfl, ?_⟩; replace HO_3 := aS (Kd.R_below (rU HO_3.out) hb); replace HO_5 := aS (Kd.R_below (rU HO_5.out) hb); have HO800 := aS (Kd.R_lower (Kd.R_new' ho0 (Kd.R_lt (rU HO_4.out))) (below_size (wU HB.out))); replace HO_4 := aS (Kd.R_elder' (rU HO_4.out) (Kd.R_base ho0) hb); replace HB := aS (below_step (wU HB.out) hb); clear hb; (try clear ho0); obtain ⟨Ao28, co28, eo28⟩ := Kd.R_slice HO800.out; subst eo28) | (go_at_call 22; (with_reducible refine (laws_sameRecs.calls k1 _ _ t796 _ _ t782 true _ ?side1 ?side2 ?side3 ?side4 A25.out).mono ?_); (case side1 => exact cU ((Kd.R_reads' HO800.out).2.2)); (case side2 => exact (Kd.R_reads' HO800.out).2.1); (case side3 => exact cU ((Kd.R_reads' HO_4.out).2.2)); (case side4 => exact (Kd.R_reads' HO_4.out).2.1); rintro e w' ⟨rfl, ⟨nd, rfl⟩⟩))
        go_ret
        exact ⟨by first | rfl | (simp [errW_none, errW_some] <;> rfl) | (simp [*, errW_none, errW_some] <;> rfl) | (exfalso; simp_all; done) | ((have ai_ : ∀ p : Prop, Aside0 p ↔ p := fun p => ⟨fun h => h.out, fun h => ⟨h⟩⟩); simp_all [ai_]; done), by exact wU HB.out⟩
       ·replace c26 := Bool.eq_false_iff.mpr c26
        subst c26
        rw [if_neg Bool.false_ne_true] at H
        exact absurd (H.trans (congrArg some hrt_)) (by simp)
      ·rw [if_neg c24] at H
       have c24b0 := beq_eq_false_iff_ne.mpr c24
       have c24b1 := bne_iff_ne.mpr c24
       exact absurd (H.trans (congrArg some hrt_)) (by simp)
  ·replace c16 := Bool.eq_false_iff.mpr c16
   subst c16
   rw [if_neg Bool.false_ne_true] at H
   exact absurd (H.trans (congrArg some hrt_)) (by simp)

/-- The one pure statement of laws_FnLists. -/
def laws_FnLists.Pure : Prop := ∀ (l0 : List Int), (l0.length ≤ maxLen ∧ l0.length * 1 ≤ 140737488351232 ∧ ∀ y_ ∈ l0, (Lit.int .u8 y_).wf = true) → ∃ k, laws_FnLists.f k l0 = some true

end Go.Proofs.YtdigilidomimdaaDoor.Pr
