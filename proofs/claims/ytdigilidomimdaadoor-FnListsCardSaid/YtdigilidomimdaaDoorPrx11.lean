-- Written for this claim by a program of this session (wip/tool/pr.py, over the kit's printer).
-- half
import Derived.Test.YtdigilidomimdaaDoorPrx0
import Derived.Test.YtdigilidomimdaaDoorPrx8
import Derived.Test.YtdigilidomimdaaDoorPrx10
namespace Go.Proofs.YtdigilidomimdaaDoor.Pr
open Go.RowKit Go.Proofs.YtdigilidomimdaaDoorW.PrintWords Go.Proofs.YtdigilidomimdaaDoorW.PrintLast Go.Proofs.YtdigilidomimdaaDoorW.PrintMore
attribute [local go_sem] max2_int min2_int max_two min_two max_three min_three max_four min_four   -- for this text's walks alone
set_option linter.unusedVariables false
set_option linter.unusedSimpArgs false

/-! ### spec_GetLabel: function 150 -/
mutual
def spec_GetLabel.j0 : Nat → List Int → Int → Bool → Option (ByteArray × Int × Bool)
 | 0, _, _, _ => none
 | k + 1, x0, x1, x16 => if x16 = true then (some ((⟨#[]⟩ : ByteArray), 0, false)) else (if 0 ≤ x1 then (if x1 < (x0.length : Int) then ((spec_l1In.f (wrap64 (rd x0 x1)) 1 12).bind fun t628 => (if t628 = true then (spec_GetLabel.j1 k x0 x1 (wrap64 (rd x0 x1)) (decide ((wrap64 (rd x0 x1)) > (wrap64 ((wrap64 ((x0.length : Int) - x1)) - 1))))) else (spec_GetLabel.j1 k x0 x1 (wrap64 (rd x0 x1)) true))) else (none)) else (none))
def spec_GetLabel.j1 : Nat → List Int → Int → Int → Bool → Option (ByteArray × Int × Bool)
 | 0, _, _, _, _ => none
 | k + 1, x0, x1, x7, x33 => if x33 = true then (some ((⟨#[]⟩ : ByteArray), 0, false)) else (if 0 ≤ (wrap64 (x1 + 1)) then (if (wrap64 (x1 + 1)) ≤ (wrap64 ((wrap64 (x1 + 1)) + x7)) then (if (wrap64 ((wrap64 (x1 + 1)) + x7)) ≤ (x0.length : Int) then ((spec_Fold.f (strOfNums ((x0.take ((wrap64 ((wrap64 (x1 + 1)) + x7)) : Int).toNat).drop ((wrap64 (x1 + 1)) : Int).toNat))).bind fun t633 => ((spec_LabelOk.f k t633).bind fun t634 => (if t634 = true then (some (t633, wrap64 ((wrap64 (x1 + 1)) + x7), true)) else (some ((⟨#[]⟩ : ByteArray), 0, false))))) else (none)) else (none)) else (none))
end
def spec_GetLabel.f (k : Nat) (l0 : List Int) (a1 : Int) : Option (ByteArray × Int × Bool) := if a1 < 0 then (spec_GetLabel.j0 k l0 a1 true) else (spec_GetLabel.j0 k l0 a1 (decide (a1 ≥ (l0.length : Int))))
theorem spec_GetLabel.mono_l : ∀ k, (∀ y0 y1 y2, LeO (spec_GetLabel.j0 k y0 y1 y2) (spec_GetLabel.j0 (k + 1) y0 y1 y2)) ∧ (∀ y0 y1 y2 y3, LeO (spec_GetLabel.j1 k y0 y1 y2 y3) (spec_GetLabel.j1 (k + 1) y0 y1 y2 y3))
 | 0 => ⟨fun _ _ _ r h => by simp [spec_GetLabel.j0] at h, fun _ _ _ _ r h => by simp [spec_GetLabel.j1] at h⟩
 | k + 1 => by
  obtain ⟨ih0, ih1⟩ := spec_GetLabel.mono_l k
  refine ⟨?_, ?_⟩
  ·intro y0 y1 y2
   unfold spec_GetLabel.j0
   repeat' first
   | (with_reducible first | exact ih0 _ _ _ | exact ih1 _ _ _ _ | exact spec_LabelOk.mono _ _ | exact LeO.refl _ | exact LeO.none _ | refine LeO.ite ?_ ?_ | refine LeO.bind ?_ (fun _ => ?_))
   | exact ih0 _ _ _
   | exact ih1 _ _ _ _
   | exact spec_LabelOk.mono _ _
   | exact LeO.none _
   | refine LeO.ite ?_ ?_
   | refine LeO.bind ?_ (fun _ => ?_)
  ·intro y0 y1 y2 y3
   unfold spec_GetLabel.j1
   repeat' first
   | (with_reducible first | exact ih0 _ _ _ | exact ih1 _ _ _ _ | exact spec_LabelOk.mono _ _ | exact LeO.refl _ | exact LeO.none _ | refine LeO.ite ?_ ?_ | refine LeO.bind ?_ (fun _ => ?_))
   | exact ih0 _ _ _
   | exact ih1 _ _ _ _
   | exact spec_LabelOk.mono _ _
   | exact LeO.none _
   | refine LeO.ite ?_ ?_
   | refine LeO.bind ?_ (fun _ => ?_)
theorem spec_GetLabel.mono : ∀ a0 a1 k, LeO (spec_GetLabel.f k a0 a1) (spec_GetLabel.f (k + 1) a0 a1) := by
 intro a0 a1 k
 obtain ⟨ih0, ih1⟩ := spec_GetLabel.mono_l k
 unfold spec_GetLabel.f
 repeat' first
   | (with_reducible first | exact ih0 _ _ _ | exact ih1 _ _ _ _ | exact spec_LabelOk.mono _ _ | exact LeO.refl _ | exact LeO.none _ | refine LeO.ite ?_ ?_ | refine LeO.bind ?_ (fun _ => ?_))
   | exact ih0 _ _ _
   | exact ih1 _ _ _ _
   | exact spec_LabelOk.mono _ _
   | exact LeO.none _
   | refine LeO.ite ?_ ?_
   | refine LeO.bind ?_ (fun _ => ?_)
set_option maxHeartbeats 8000000 in
set_option maxRecDepth 100000 in
theorem spec_GetLabel.calls (k : Nat) (A0 : Option Addr) (c0 : Nat) (l0 : List Int) (a1 : Int) (r1 : ByteArray) (r2 : Int) (r3 : Bool) (w : World) (hr0 : Kd.C (Kd.int .u8) w A0 l0.length l0) (hc0 : l0.length ≤ c0) (h : spec_GetLabel.f k l0 a1 = some (r1, r2, r3)) :
  Calls Tryd.prog 150 #[.slice A0 l0.length c0, .int .i64 a1] w fun e w' => e = .returned (.tuple #[.string r1, .int .i64 r2, .bool r3]) ∧ Below w.heap.size w w' := by
 have HR0 := aS hr0
 have HC0 := aS hc0
 clear hr0 hc0
 have HB := aS (Below.refl w.heap.size w)
 have H : (if a1 < 0 then (spec_GetLabel.j0 k l0 a1 true) else (spec_GetLabel.j0 k l0 a1 (decide (a1 ≥ (l0.length : Int))))) = some (r1, r2, r3) := h
 clear h
 have HC3 := aS H
 clear H
 go_enter Tryd.func150, Tryd.ntmps150
 go_upto_region 1 with (fail)
 go_cut [16] (fun v16 wc => ∃ (kq : Nat) (x16_2 : Bool), v16 = .bool x16_2 ∧ Aside0 (spec_GetLabel.j0 kq l0 a1 x16_2 = some (r1, r2, r3)) ∧ Aside0 (kq ≤ k) ∧ Aside0 (Below w.heap.size w wc))
 case first =>
  have H := HC3.out
  clear HC3
  by_cases c4 : a1 < 0
  ·rw [if_pos c4] at H
   have c4b0 := decide_eq_true c4
   clear c4
   (first | rw [c4b0] | (simp only [i64_w, i32_w]; rw [c4b0]) | skip)
   have H' := aS H
   clear H
   go_wp2
   go_meet
   case rel => exact ⟨_, (true), jB, H', ⟨by first | omega | exact Nat.le_refl _⟩, ⟨by exact wU HB.out⟩⟩
  ·rw [if_neg c4] at H
   have c4b0 := decide_eq_false c4
   clear c4
   (first | rw [c4b0] | (simp only [i64_w, i32_w]; rw [c4b0]) | skip)
   have H' := aS H
   clear H
   go_wp2
   go_meet
   case rel => exact ⟨_, (decide (a1 ≥ (l0.length : Int))), jB, H', ⟨by first | omega | exact Nat.le_refl _⟩, ⟨by exact wU HB.out⟩⟩
 case rest =>
  clear HC3
  try clear c1
  try clear p2
  try clear c4
  try clear c4b0
  obtain ⟨kq, x16_2, rfl, HA, HJ2, HB⟩ := hcut
  cases kq with
  | zero => exact absurd HA.out (by simp [spec_GetLabel.j0])
  | succ kj2 =>
   have H := HA.out
   clear HA
   simp only [spec_GetLabel.j0] at H
   by_cases c5 : x16_2 = true
   ·subst c5
    rw [if_pos rfl] at H
    simp only [Option.some.injEq, Prod.mk.injEq] at H
    obtain ⟨rfl, rfl, rfl⟩ := H
    go_wp2
    go_ret3
    exact ⟨jE, by exact wU HB.out⟩
   ·replace c5 := Bool.eq_false_iff.mpr c5
    subst c5
    rw [if_neg Bool.false_ne_true] at H
    by_cases c6 : 0 ≤ a1
    ·rw [if_pos c6] at H
     have c6b0 := decide_eq_true c6
     clear c6
     by_cases c7 : a1 < (l0.length : Int)
     ·rw [if_pos c7] at H
      have c7b0 := decide_eq_true c7
      clear c7
      have HC8 := aS H
      clear H
      have p627 : 0 ≤ (a1 : Int) := of_decide_eq_true jC
      have q627 : a1 < (l0.length : Int) := of_decide_eq_true jC
      obtain ⟨ad627, e627, hx627_0⟩ := Kd.at_int HR0.out a1 p627 q627
      cases e627
      try replace hx627_0 := (HB.out.cell (World.block_lt_of_cell? w _ hx627_0)).trans hx627_0
      replace p627 := eq_true p627
      replace q627 := eq_true q627
      go_upto_region 4 with (fail)
      go_cut [33] (fun v33 wc => ∃ (kq : Nat) (x33_7 : Bool), v33 = .bool x33_7 ∧ Aside0 (spec_GetLabel.j1 kq l0 a1 (wrap64 (rd l0 a1)) x33_7 = some (r1, r2, r3)) ∧ Aside0 (kq ≤ kj2) ∧ Aside0 (Below w.heap.size w wc))
      case first =>
       have H := HC8.out
       clear HC8
       obtain ⟨t628, A9, H⟩ := bM H
       try dsimp only at H
       by_cases c10 : t628 = true
       ·subst c10
        rw [if_pos rfl] at H
        have H' := aS H
        clear H
        go_wp2_with (first | ((with_reducible refine gate_callee (f := 86) rfl ?_); refine goesL_ (some 23) rfl rfl Tryd.func86 jK rfl #[.int .i64 (wrap64 (rd l0 a1)), .int .i64 1, .int .i64 12] rfl jA ?_; (with_reducible refine (spec_l1In.calls (wrap64 (rd l0 a1)) 1 12 true _ A9.out).mono ?_); rintro e w' ⟨rfl, ⟨nd, rfl⟩⟩; refine ⟨_, rfl, ?_⟩))
        go_meet
        case rel => exact ⟨_, (decide ((wrap64 (rd l0 a1)) > (wrap64 ((wrap64 ((l0.length : Int) - a1)) - 1)))), jB, H', ⟨by have := HJ2.out; first | omega | exact Nat.le_refl _⟩, ⟨by exact wU HB.out⟩⟩
       ·replace c10 := Bool.eq_false_iff.mpr c10
        subst c10
        rw [if_neg Bool.false_ne_true] at H
        have H' := aS H
        clear H
        go_wp2_with (first | ((with_reducible refine gate_callee (f := 86) rfl ?_); refine goesL_ (some 23) rfl rfl Tryd.func86 jK rfl #[.int .i64 (wrap64 (rd l0 a1)), .int .i64 1, .int .i64 12] rfl jA ?_; (with_reducible refine (spec_l1In.calls (wrap64 (rd l0 a1)) 1 12 false _ A9.out).mono ?_); rintro e w' ⟨rfl, ⟨nd, rfl⟩⟩; refine ⟨_, rfl, ?_⟩))
        go_meet
        case rel => exact ⟨_, (true), jB, H', ⟨by have := HJ2.out; first | omega | exact Nat.le_refl _⟩, ⟨by exact wU HB.out⟩⟩
      case rest =>
       clear HC8
       try clear c1
       try clear p2
       try clear c4
       try clear c4b0
       try clear c5
       try clear c6
       try clear c6b0
       try clear p6
       try clear q6
       try clear hx6
       try clear c7
       try clear c7b0
       try clear c8
       try clear c10
       try clear hx627_0
       try clear p2
       try clear p627
       try clear q627
       obtain ⟨kq, x33_7, rfl, HA, HJ7, HB⟩ := hcut
       cases kq with
       | zero => exact absurd HA.out (by simp [spec_GetLabel.j1])
       | succ kj7 =>
        have H := HA.out
        clear HA
        simp only [spec_GetLabel.j1] at H
        by_cases c11 : x33_7 = true
        ·subst c11
         rw [if_pos rfl] at H
         simp only [Option.some.injEq, Prod.mk.injEq] at H
         obtain ⟨rfl, rfl, rfl⟩ := H
         go_wp2
         go_ret3
         exact ⟨jE, by exact wU HB.out⟩
        ·replace c11 := Bool.eq_false_iff.mpr c11
         subst c11
         rw [if_neg Bool.false_ne_true] at H
         obtain ⟨ji12, hji12⟩ : ∃ j_ : Int, (wrap64 (a1 + 1)) = j_ := ⟨_, rfl⟩
         replace H : (if 0 ≤ (ji12) then (if (ji12) ≤ (wrap64 ((ji12) + (wrap64 (rd l0 a1)))) then (if (wrap64 ((ji12) + (wrap64 (rd l0 a1)))) ≤ (l0.length : Int) then ((spec_Fold.f (strOfNums ((l0.take ((wrap64 ((ji12) + (wrap64 (rd l0 a1)))) : Int).toNat).drop ((ji12) : Int).toNat))).bind fun t633 => ((spec_LabelOk.f kj7 t633).bind fun t634 => (if t634 = true then (some (t633, wrap64 ((ji12) + (wrap64 (rd l0 a1))), true)) else (some ((⟨#[]⟩ : ByteArray), 0, false))))) else (none)) else (none)) else (none)) = some (r1, r2, r3) := by first | (rw [hji12] at H; exact H) | (simp only [hji12] at H ⊢; exact H)
         have hji12w : (IntKind.i64.wrap (a1 + 1)) = ji12 := (i64_w _).trans hji12
         by_cases c13 : 0 ≤ (ji12)
         ·rw [if_pos c13] at H
          have c13b0 := eq_true c13
          have c13b1 := decide_eq_true c13
          clear c13
          by_cases c14 : (ji12) ≤ (wrap64 ((ji12) + (wrap64 (rd l0 a1))))
          ·rw [if_pos c14] at H
           have c14b0 := eq_true c14
           have c14b1 := decide_eq_true c14
           by_cases c15 : (wrap64 ((ji12) + (wrap64 (rd l0 a1)))) ≤ (l0.length : Int)
           ·rw [if_pos c15] at H
            have c15b0 := eq_true c15
            have c15b1 := decide_eq_true c15
            obtain ⟨y629, hy_⟩ : ∃ y_ : List Int, y_ = ((l0.take ((wrap64 ((ji12) + (wrap64 (rd l0 a1)))) : Int).toNat).drop ((ji12) : Int).toNat) := ⟨_, rfl⟩
            replace H : ((spec_Fold.f (strOfNums y629)).bind fun t633 => ((spec_LabelOk.f kj7 t633).bind fun t634 => (if t634 = true then (some (t633, wrap64 ((ji12) + (wrap64 (rd l0 a1))), true)) else (some ((⟨#[]⟩ : ByteArray), 0, false))))) = some (r1, r2, r3) := jD
            have Ny629 := aS hy_
            clear hy_
            obtain ⟨t633, A16, H⟩ := bM H
            try dsimp only at H
            obtain ⟨t634, A17, H⟩ := bM H
            try dsimp only at H
            by_cases c18 : t634 = true
            ·subst c18
             rw [if_pos rfl] at H
             simp only [Option.some.injEq, Prod.mk.injEq] at H
             obtain ⟨rfl, rfl, rfl⟩ := H
             have q19 : ((wrap64 ((ji12) + (wrap64 (rd l0 a1)))) : Int) ≤ ((l0.length : Int) : Int) := of_decide_eq_true jC
             obtain ⟨i019, hi019, _, hsz19, _⟩ := info_parts info5
             have hroom19 : l0.length ≤ c0 := HC0.out
             have hC19 : Kd.C (Kd.int .u8) _ (some ad627) l0.length l0 := HR0.out
             have ql19 : ((ji12) : Int) ≤ ((wrap64 ((ji12) + (wrap64 (rd l0 a1)))) : Int) := of_decide_eq_true jC
             have q019 : (0 : Int) ≤ ((ji12) : Int) := of_decide_eq_true jC
             have hcut19 := cut_mid (P := Tryd.prog) 22 5 .i64 .i64 Tryd.underlying22 hi019 1 hsz19 (some ad627) l0.length c0 (ji12) (wrap64 ((ji12) + (wrap64 (rd l0 a1)))) q019 ql19 q19 hroom19
             have hr19 := Kd.C_mid (lo := ((ji12) : Int).toNat) (hi := ((wrap64 ((ji12) + (wrap64 (rd l0 a1)))) : Int).toNat) (c := c0) hC19 (by omega) (by omega) hroom19
             obtain ⟨A19, hA19⟩ : ∃ A1, A1 = (if c0 = ((ji12) : Int).toNat then (some ad627) else ((some ad627) : Option Addr).map (·.add (((ji12) : Int).toNat * 1))) := ⟨_, rfl⟩
             obtain ⟨c19, hc19⟩ : ∃ c1, c1 = c0 - ((ji12) : Int).toNat := ⟨_, rfl⟩
             have hy19 : y629.length = ((wrap64 ((ji12) + (wrap64 (rd l0 a1)))) : Int).toNat - ((ji12) : Int).toNat := (by rw [Ny629.out, List.length_drop, List.length_take] <;> omega)
             rw [show ((l0).take ((wrap64 ((ji12) + (wrap64 (rd l0 a1)))) : Int).toNat).drop ((ji12) : Int).toNat = y629 from Ny629.out.symm] at hr19
             replace hr19 : Kd.C (Kd.int .u8) _ A19 y629.length y629 := (by rw [hA19]; exact hr19)
             rw [← hy19, ← hA19, ← hc19] at hcut19
             have HR632 := aS hr19
             have HC632 := aS (show y629.length ≤ c19 from by rw [hy19, hc19]; exact Nat.sub_le_sub_right (Nat.le_trans (by omega) hroom19) _)
             clear hr19 hC19 hroom19 hi019 hsz19 hc19
             have KY19 := aS hy19
             have KA19 := aS hA19
             clear hy19 hA19
             replace q19 := eq_true q19
             have hcv20 := Kd.C_string (P := Tryd.prog) (A := A19) (c := c19) Tryd.underlying22 Tryd.underlying5 Tryd.underlying9 (Kd.C_below HR632.out HB.out)
             go_wp2_with (first | ((with_reducible refine gate_callee (f := 162) rfl ?_); refine goesL_ (some 43) rfl rfl Tryd.func162 jK rfl #[.string (strOfNums y629)] rfl jA ?_; (with_reducible refine (spec_Fold.calls (strOfNums y629) t633 _ A16.out).mono ?_); rintro e w21 ⟨rfl, hb⟩; refine ⟨_, rfl, ?_⟩; replace HB := aS (below_step (wU HB.out) hb); clear hb) | ((with_reducible refine gate_callee (f := 144) rfl ?_); refine goesL_ (some 45) rfl rfl Tryd.func144 jK rfl #[.string t633] rfl jA ?_; (with_reducible refine (spec_LabelOk.calls kj7 t633 true _ A17.out).mono ?_); rintro e w' ⟨rfl, ⟨nd, rfl⟩⟩; refine ⟨_, rfl, ?_⟩))
             go_ret3
             exact ⟨by first | rfl | (simp [errW_none, errW_some] <;> rfl) | (simp only [← hji12]; first | rfl | (simp [errW_none, errW_some] <;> rfl)) | (simp [*, errW_none, errW_some] <;> rfl), by exact wU HB.out⟩
            ·replace c18 := Bool.eq_false_iff.mpr c18
             subst c18
             rw [if_neg Bool.false_ne_true] at H
             simp only [Option.some.injEq, Prod.mk.injEq] at H
             obtain ⟨rfl, rfl, rfl⟩ := H
             have q22 : ((wrap64 ((ji12) + (wrap64 (rd l0 a1)))) : Int) ≤ ((l0.length : Int) : Int) := of_decide_eq_true jC
             obtain ⟨i022, hi022, _, hsz22, _⟩ := info_parts info5
             have hroom22 : l0.length ≤ c0 := HC0.out
             have hC22 : Kd.C (Kd.int .u8) _ (some ad627) l0.length l0 := HR0.out
             have ql22 : ((ji12) : Int) ≤ ((wrap64 ((ji12) + (wrap64 (rd l0 a1)))) : Int) := of_decide_eq_true jC
             have q022 : (0 : Int) ≤ ((ji12) : Int) := of_decide_eq_true jC
             have hcut22 := cut_mid (P := Tryd.prog) 22 5 .i64 .i64 Tryd.underlying22 hi022 1 hsz22 (some ad627) l0.length c0 (ji12) (wrap64 ((ji12) + (wrap64 (rd l0 a1)))) q022 ql22 q22 hroom22
             have hr22 := Kd.C_mid (lo := ((ji12) : Int).toNat) (hi := ((wrap64 ((ji12) + (wrap64 (rd l0 a1)))) : Int).toNat) (c := c0) hC22 (by omega) (by omega) hroom22
             obtain ⟨A22, hA22⟩ : ∃ A1, A1 = (if c0 = ((ji12) : Int).toNat then (some ad627) else ((some ad627) : Option Addr).map (·.add (((ji12) : Int).toNat * 1))) := ⟨_, rfl⟩
             obtain ⟨c22, hc22⟩ : ∃ c1, c1 = c0 - ((ji12) : Int).toNat := ⟨_, rfl⟩
             have hy22 : y629.length = ((wrap64 ((ji12) + (wrap64 (rd l0 a1)))) : Int).toNat - ((ji12) : Int).toNat := (by rw [Ny629.out, List.length_drop, List.length_take] <;> omega)
             rw [show ((l0).take ((wrap64 ((ji12) + (wrap64 (rd l0 a1)))) : Int).toNat).drop ((ji12) : Int).toNat = y629 from Ny629.out.symm] at hr22
             replace hr22 : Kd.C (Kd.int .u8) _ A22 y629.length y629 := (by rw [hA22]; exact hr22)
             rw [← hy22, ← hA22, ← hc22] at hcut22
             have HR632 := aS hr22
             have HC632 := aS (show y629.length ≤ c22 from by rw [hy22, hc22]; exact Nat.sub_le_sub_right (Nat.le_trans (by omega) hroom22) _)
             clear hr22 hC22 hroom22 hi022 hsz22 hc22
             have KY22 := aS hy22
             have KA22 := aS hA22
             clear hy22 hA22
             replace q22 := eq_true q22
             have hcv23 := Kd.C_string (P := Tryd.prog) (A := A22) (c := c22) Tryd.underlying22 Tryd.underlying5 Tryd.underlying9 (Kd.C_below HR632.out HB.out)
             go_wp2_with (first | ((with_reducible refine gate_callee (f := 162) rfl ?_); refine goesL_ (some 43) rfl rfl Tryd.func162 jK rfl #[.string (strOfNums y629)] rfl jA ?_; (with_reducible refine (spec_Fold.calls (strOfNums y629) t633 _ A16.out).mono ?_); rintro e w24 ⟨rfl, hb⟩; refine ⟨_, rfl, ?_⟩; replace HB := aS (below_step (wU HB.out) hb); clear hb) | ((with_reducible refine gate_callee (f := 144) rfl ?_); refine goesL_ (some 45) rfl rfl Tryd.func144 jK rfl #[.string t633] rfl jA ?_; (with_reducible refine (spec_LabelOk.calls kj7 t633 false _ A17.out).mono ?_); rintro e w' ⟨rfl, ⟨nd, rfl⟩⟩; refine ⟨_, rfl, ?_⟩))
             go_ret3
             exact ⟨by first | rfl | (simp [errW_none, errW_some] <;> rfl) | (simp only [← hji12]; first | rfl | (simp [errW_none, errW_some] <;> rfl)) | (simp [*, errW_none, errW_some] <;> rfl), by exact wU HB.out⟩
           ·rw [if_neg c15] at H
            exact absurd H (by simp)
          ·rw [if_neg c14] at H
           exact absurd H (by simp)
         ·rw [if_neg c13] at H
          exact absurd H (by simp)
     ·rw [if_neg c7] at H
      exact absurd H (by simp)
    ·rw [if_neg c6] at H
     exact absurd H (by simp)

/-! ### spec_l4Walk: function 131 -/
mutual
def spec_l4Walk.l0 : Nat → List Int → Int → ByteArray → Int → Int → Int → Option (ByteArray × Int × Int × Int)
 | 0, _, _, _, _, _, _ => none
 | k + 1, x0, x1, x8, x9, x10, x11 => if x1 < 0 then (spec_l4Walk.j1 k x0 x1 x8 x9 x10 x11 true) else (spec_l4Walk.j1 k x0 x1 x8 x9 x10 x11 (decide (x1 ≥ (x0.length : Int))))
def spec_l4Walk.j1 : Nat → List Int → Int → ByteArray → Int → Int → Int → Bool → Option (ByteArray × Int × Int × Int)
 | 0, _, _, _, _, _, _, _ => none
 | k + 1, x0, x1, x8, x9, x10, x11, x25 => if x25 = true then (some ((⟨#[]⟩ : ByteArray), 0, 1, x11)) else (if 0 ≤ x1 then (if x1 < (x0.length : Int) then (if (wrap64 (rd x0 x1)) = 0 then (if x9 < 0 then (some (x8, wrap64 (x1 + 1), 0, x11)) else (some (x8, x9, 0, x11))) else (if (wrap64 (rd x0 x1)) ≥ 192 then (if (wrap64 (x1 + 1)) ≥ (x0.length : Int) then (some ((⟨#[]⟩ : ByteArray), 0, 1, x11)) else (if 0 ≤ (wrap64 (x1 + 1)) then (if (wrap64 (x1 + 1)) < (x0.length : Int) then (if (wrap64 ((wrap64 (256 * (wrap64 ((wrap64 (rd x0 x1)) - 192)))) + (wrap64 (rd x0 (wrap64 (x1 + 1)))))) ≥ x10 then (some ((⟨#[]⟩ : ByteArray), 0, 3, x11)) else (if x9 < 0 then (spec_l4Walk.l0 k x0 (wrap64 ((wrap64 (256 * (wrap64 ((wrap64 (rd x0 x1)) - 192)))) + (wrap64 (rd x0 (wrap64 (x1 + 1)))))) x8 (wrap64 (x1 + 2)) (wrap64 ((wrap64 (256 * (wrap64 ((wrap64 (rd x0 x1)) - 192)))) + (wrap64 (rd x0 (wrap64 (x1 + 1)))))) (wrap64 (x11 + 1))) else (spec_l4Walk.l0 k x0 (wrap64 ((wrap64 (256 * (wrap64 ((wrap64 (rd x0 x1)) - 192)))) + (wrap64 (rd x0 (wrap64 (x1 + 1)))))) x8 x9 (wrap64 ((wrap64 (256 * (wrap64 ((wrap64 (rd x0 x1)) - 192)))) + (wrap64 (rd x0 (wrap64 (x1 + 1)))))) (wrap64 (x11 + 1))))) else (none)) else (none))) else (if (wrap64 (rd x0 x1)) ≤ 12 then (spec_l4Walk.j2 k x0 x1 x8 x9 x10 x11 (decide ((wrap64 (rd x0 x1)) > (wrap64 ((wrap64 ((x0.length : Int) - x1)) - 1))))) else (spec_l4Walk.j2 k x0 x1 x8 x9 x10 x11 false)))) else (none)) else (none))
def spec_l4Walk.j2 : Nat → List Int → Int → ByteArray → Int → Int → Int → Bool → Option (ByteArray × Int × Int × Int)
 | 0, _, _, _, _, _, _, _ => none
 | k + 1, x0, x1, x8, x9, x10, x11, x81 => if x81 = true then (some ((⟨#[]⟩ : ByteArray), 0, 1, x11)) else ((spec_GetLabel.f k x0 x1).bind fun bt637 => (if bt637.2.2 = true then (if x8.toList = ([] : List UInt8) then (if x8.size + bt637.1.size ≤ 9223372036854775807 then ((spec_NameOk.f k (x8 ++ bt637.1)).bind fun t640 => (if t640 = true then (spec_l4Walk.l0 k x0 bt637.2.1 (x8 ++ bt637.1) x9 x10 x11) else (some ((⟨#[]⟩ : ByteArray), 0, 4, x11)))) else (none)) else (if x8.size + 1 ≤ 9223372036854775807 then (if (x8 ++ (⟨#[46]⟩ : ByteArray)).size + bt637.1.size ≤ 9223372036854775807 then ((spec_NameOk.f k ((x8 ++ (⟨#[46]⟩ : ByteArray)) ++ bt637.1)).bind fun t641 => (if t641 = true then (spec_l4Walk.l0 k x0 bt637.2.1 ((x8 ++ (⟨#[46]⟩ : ByteArray)) ++ bt637.1) x9 x10 x11) else (some ((⟨#[]⟩ : ByteArray), 0, 4, x11)))) else (none)) else (none))) else (some ((⟨#[]⟩ : ByteArray), 0, 2, x11))))
end
def spec_l4Walk.f (k : Nat) (l0 : List Int) (a1 : Int) : Option (ByteArray × Int × Int × Int) := spec_l4Walk.l0 k l0 a1 (⟨#[]⟩ : ByteArray) (-1) a1 0
theorem spec_l4Walk.mono_l : ∀ k, (∀ y0 y1 y2 y3 y4 y5, LeO (spec_l4Walk.l0 k y0 y1 y2 y3 y4 y5) (spec_l4Walk.l0 (k + 1) y0 y1 y2 y3 y4 y5)) ∧ (∀ y0 y1 y2 y3 y4 y5 y6, LeO (spec_l4Walk.j1 k y0 y1 y2 y3 y4 y5 y6) (spec_l4Walk.j1 (k + 1) y0 y1 y2 y3 y4 y5 y6)) ∧ (∀ y0 y1 y2 y3 y4 y5 y6, LeO (spec_l4Walk.j2 k y0 y1 y2 y3 y4 y5 y6) (spec_l4Walk.j2 (k + 1) y0 y1 y2 y3 y4 y5 y6))
 | 0 => ⟨fun _ _ _ _ _ _ r h => by simp [spec_l4Walk.l0] at h, fun _ _ _ _ _ _ _ r h => by simp [spec_l4Walk.j1] at h, fun _ _ _ _ _ _ _ r h => by simp [spec_l4Walk.j2] at h⟩
 | k + 1 => by
  obtain ⟨ih0, ih1, ih2⟩ := spec_l4Walk.mono_l k
  refine ⟨?_, ?_, ?_⟩
  ·intro y0 y1 y2 y3 y4 y5
   unfold spec_l4Walk.l0
   repeat' first
   | (with_reducible first | exact ih0 _ _ _ _ _ _ | exact ih1 _ _ _ _ _ _ _ | exact ih2 _ _ _ _ _ _ _ | exact spec_GetLabel.mono _ _ _ | exact spec_NameOk.mono _ _ | exact LeO.refl _ | exact LeO.none _ | refine LeO.ite ?_ ?_ | refine LeO.bind ?_ (fun _ => ?_))
   | exact ih0 _ _ _ _ _ _
   | exact ih1 _ _ _ _ _ _ _
   | exact ih2 _ _ _ _ _ _ _
   | exact spec_GetLabel.mono _ _ _
   | exact spec_NameOk.mono _ _
   | exact LeO.none _
   | refine LeO.ite ?_ ?_
   | refine LeO.bind ?_ (fun _ => ?_)
  ·intro y0 y1 y2 y3 y4 y5 y6
   unfold spec_l4Walk.j1
   repeat' first
   | (with_reducible first | exact ih0 _ _ _ _ _ _ | exact ih1 _ _ _ _ _ _ _ | exact ih2 _ _ _ _ _ _ _ | exact spec_GetLabel.mono _ _ _ | exact spec_NameOk.mono _ _ | exact LeO.refl _ | exact LeO.none _ | refine LeO.ite ?_ ?_ | refine LeO.bind ?_ (fun _ => ?_))
   | exact ih0 _ _ _ _ _ _
   | exact ih1 _ _ _ _ _ _ _
   | exact ih2 _ _ _ _ _ _ _
   | exact spec_GetLabel.mono _ _ _
   | exact spec_NameOk.mono _ _
   | exact LeO.none _
   | refine LeO.ite ?_ ?_
   | refine LeO.bind ?_ (fun _ => ?_)
  ·intro y0 y1 y2 y3 y4 y5 y6
   unfold spec_l4Walk.j2
   repeat' first
   | (with_reducible first | exact ih0 _ _ _ _ _ _ | exact ih1 _ _ _ _ _ _ _ | exact ih2 _ _ _ _ _ _ _ | exact spec_GetLabel.mono _ _ _ | exact spec_NameOk.mono _ _ | exact LeO.refl _ | exact LeO.none _ | refine LeO.ite ?_ ?_ | refine LeO.bind ?_ (fun _ => ?_))
   | exact ih0 _ _ _ _ _ _
   | exact ih1 _ _ _ _ _ _ _
   | exact ih2 _ _ _ _ _ _ _
   | exact spec_GetLabel.mono _ _ _
   | exact spec_NameOk.mono _ _
   | exact LeO.none _
   | refine LeO.ite ?_ ?_
   | refine LeO.bind ?_ (fun _ => ?_)
theorem spec_l4Walk.mono : ∀ a0 a1 k, LeO (spec_l4Walk.f k a0 a1) (spec_l4Walk.f (k + 1) a0 a1) := by
 intro a0 a1 k
 obtain ⟨ih0, ih1, ih2⟩ := spec_l4Walk.mono_l k
 unfold spec_l4Walk.f
 repeat' first
   | (with_reducible first | exact ih0 _ _ _ _ _ _ | exact ih1 _ _ _ _ _ _ _ | exact ih2 _ _ _ _ _ _ _ | exact spec_GetLabel.mono _ _ _ | exact spec_NameOk.mono _ _ | exact LeO.refl _ | exact LeO.none _ | refine LeO.ite ?_ ?_ | refine LeO.bind ?_ (fun _ => ?_))
   | exact ih0 _ _ _ _ _ _
   | exact ih1 _ _ _ _ _ _ _
   | exact ih2 _ _ _ _ _ _ _
   | exact spec_GetLabel.mono _ _ _
   | exact spec_NameOk.mono _ _
   | exact LeO.none _
   | refine LeO.ite ?_ ?_
   | refine LeO.bind ?_ (fun _ => ?_)
set_option maxHeartbeats 8000000 in
set_option maxRecDepth 100000 in
theorem spec_l4Walk.calls (k : Nat) (A0 : Option Addr) (c0 : Nat) (l0 : List Int) (a1 : Int) (r1 : ByteArray) (r2 : Int) (r3 : Int) (r4 : Int) (w : World) (hr0 : Kd.C (Kd.int .u8) w A0 l0.length l0) (hc0 : l0.length ≤ c0) (h : spec_l4Walk.f k l0 a1 = some (r1, r2, r3, r4)) :
  Calls Tryd.prog 131 #[.slice A0 l0.length c0, .int .i64 a1] w fun e w' => e = .returned (.tuple #[.string r1, .int .i64 r2, .int .i64 r3, .int .i64 r4]) ∧ Below w.heap.size w w' := by
 have HR0 := aS hr0
 have HC0 := aS hc0
 clear hr0 hc0
 have HB := aS (Below.refl w.heap.size w)
 have H : (spec_l4Walk.l0 k l0 a1 (⟨#[]⟩ : ByteArray) (-1) a1 0) = some (r1, r2, r3, r4) := h
 clear h
 have H' := aS H
 clear H
 go_enter Tryd.func131, Tryd.ntmps131
 go_wp2
 go_loopg [1, 8, 9, 10, 11] k (fun kq v1 v8 v9 v10 v11 w' => ∃ (x1_1 : Int) (x8_1 : ByteArray) (x9_1 : Int) (x10_1 : Int) (x11_1 : Int), v1 = .int .i64 x1_1 ∧ v8 = .string x8_1 ∧ v9 = .int .i64 x9_1 ∧ v10 = .int .i64 x10_1 ∧ v11 = .int .i64 x11_1 ∧ Aside0 (spec_l4Walk.l0 kq l0 x1_1 x8_1 x9_1 x10_1 x11_1 = some (r1, r2, r3, r4)) ∧ Aside0 (kq ≤ k) ∧ Aside0 (Below w.heap.size w w'))
 case atStart => exact ⟨(a1), ((⟨#[]⟩ : ByteArray)), ((-1)), (a1), (0), jB, jB, jB, jB, jB, H', ⟨Nat.le_refl _⟩, ⟨by exact wU HB.out⟩⟩
 case round =>
  clear H'
  try clear c1
  try clear p2
  obtain ⟨x1_1, x8_1, x9_1, x10_1, x11_1, rfl, rfl, rfl, rfl, rfl, HA, HK1, HB⟩ := hrel
  cases gk with
  | zero => exact absurd HA.out (by simp [spec_l4Walk.l0])
  | succ k1 =>
   have H := HA.out
   clear HA
   simp only [spec_l4Walk.l0] at H
   have HC3 := aS H
   clear H
   go_upto_region 5 with (fail)
   go_cut [25] (fun v25 wc => ∃ (kq : Nat) (x25_2 : Bool), v25 = .bool x25_2 ∧ Aside0 (spec_l4Walk.j1 kq l0 x1_1 x8_1 x9_1 x10_1 x11_1 x25_2 = some (r1, r2, r3, r4)) ∧ Aside0 (kq ≤ k1) ∧ Aside0 (Below w.heap.size w wc))
   case first =>
    have H := HC3.out
    clear HC3
    by_cases c4 : x1_1 < 0
    ·rw [if_pos c4] at H
     have c4b0 := decide_eq_true c4
     clear c4
     (first | rw [c4b0] | (simp only [i64_w, i32_w]; rw [c4b0]) | skip)
     have H' := aS H
     clear H
     go_wp2
     go_meet
     case rel => exact ⟨_, (true), jB, H', ⟨by have := HK1.out; first | omega | exact Nat.le_refl _⟩, ⟨by exact wU HB.out⟩⟩
    ·rw [if_neg c4] at H
     have c4b0 := decide_eq_false c4
     clear c4
     (first | rw [c4b0] | (simp only [i64_w, i32_w]; rw [c4b0]) | skip)
     have H' := aS H
     clear H
     go_wp2
     go_meet
     case rel => exact ⟨_, (decide (x1_1 ≥ (l0.length : Int))), jB, H', ⟨by have := HK1.out; first | omega | exact Nat.le_refl _⟩, ⟨by exact wU HB.out⟩⟩
   case rest =>
    clear HC3
    try clear c1
    try clear p2
    try clear c4
    try clear c4b0
    try clear p2
    obtain ⟨kq, x25_2, rfl, HA, HJ2, HB⟩ := hcut
    cases kq with
    | zero => exact absurd HA.out (by simp [spec_l4Walk.j1])
    | succ kj2 =>
     have H := HA.out
     clear HA
     simp only [spec_l4Walk.j1] at H
     by_cases c5 : x25_2 = true
     ·subst c5
      rw [if_pos rfl] at H
      simp only [Option.some.injEq, Prod.mk.injEq] at H
      obtain ⟨rfl, rfl, rfl, rfl⟩ := H
      go_wp2
      refine bodyPost_ret (results_list (rs := [.tmp 4, .tmp 5, .tmp 6, .tmp 7]) rfl (by simp) (.tmp (.tmp (.tmp (.tmp .nil))))) rfl ?_
      exact ⟨jE, by exact wU HB.out⟩
     ·replace c5 := Bool.eq_false_iff.mpr c5
      subst c5
      rw [if_neg Bool.false_ne_true] at H
      by_cases c6 : 0 ≤ x1_1
      ·rw [if_pos c6] at H
       have c6b0 := decide_eq_true c6
       clear c6
       by_cases c7 : x1_1 < (l0.length : Int)
       ·rw [if_pos c7] at H
        have c7b0 := decide_eq_true c7
        clear c7
        by_cases c8 : (wrap64 (rd l0 x1_1)) = 0
        ·rw [if_pos c8] at H
         have c8b0 := beq_iff_eq.mpr c8
         have c8b1 := bne_eq_false_iff_eq.mpr c8
         clear c8
         by_cases c9 : x9_1 < 0
         ·rw [if_pos c9] at H
          have c9b0 := decide_eq_true c9
          clear c9
          simp only [Option.some.injEq, Prod.mk.injEq] at H
          obtain ⟨rfl, rfl, rfl, rfl⟩ := H
          have p635 : 0 ≤ (x1_1 : Int) := of_decide_eq_true jC
          have q635 : x1_1 < (l0.length : Int) := of_decide_eq_true jC
          obtain ⟨ad635, e635, hx635_0⟩ := Kd.at_int HR0.out x1_1 p635 q635
          cases e635
          try replace hx635_0 := (HB.out.cell (World.block_lt_of_cell? w _ hx635_0)).trans hx635_0
          replace p635 := eq_true p635
          replace q635 := eq_true q635
          go_wp2
          refine bodyPost_ret (results_list (rs := [.tmp 4, .tmp 5, .tmp 6, .tmp 7]) rfl (by simp) (.tmp (.tmp (.tmp (.tmp .nil))))) rfl ?_
          exact ⟨jE, by exact wU HB.out⟩
         ·rw [if_neg c9] at H
          have c9b0 := decide_eq_false c9
          clear c9
          simp only [Option.some.injEq, Prod.mk.injEq] at H
          obtain ⟨rfl, rfl, rfl, rfl⟩ := H
          have p635 : 0 ≤ (x1_1 : Int) := of_decide_eq_true jC
          have q635 : x1_1 < (l0.length : Int) := of_decide_eq_true jC
          obtain ⟨ad635, e635, hx635_0⟩ := Kd.at_int HR0.out x1_1 p635 q635
          cases e635
          try replace hx635_0 := (HB.out.cell (World.block_lt_of_cell? w _ hx635_0)).trans hx635_0
          replace p635 := eq_true p635
          replace q635 := eq_true q635
          go_wp2
          refine bodyPost_ret (results_list (rs := [.tmp 4, .tmp 5, .tmp 6, .tmp 7]) rfl (by simp) (.tmp (.tmp (.tmp (.tmp .nil))))) rfl ?_
          exact ⟨jE, by exact wU HB.out⟩
        ·rw [if_neg c8] at H
         have c8b0 := beq_eq_false_iff_ne.mpr c8
         have c8b1 := bne_iff_ne.mpr c8
         by_cases c10 : (wrap64 (rd l0 x1_1)) ≥ 192
         ·rw [if_pos c10] at H
          have c10b0 := decide_eq_true c10
          clear c10
          by_cases c11 : (wrap64 (x1_1 + 1)) ≥ (l0.length : Int)
          ·rw [if_pos c11] at H
           have c11b0 := decide_eq_true c11
           clear c11
           simp only [Option.some.injEq, Prod.mk.injEq] at H
           obtain ⟨rfl, rfl, rfl, rfl⟩ := H
           have p635 : 0 ≤ (x1_1 : Int) := of_decide_eq_true jC
           have q635 : x1_1 < (l0.length : Int) := of_decide_eq_true jC
           obtain ⟨ad635, e635, hx635_0⟩ := Kd.at_int HR0.out x1_1 p635 q635
           cases e635
           try replace hx635_0 := (HB.out.cell (World.block_lt_of_cell? w _ hx635_0)).trans hx635_0
           replace p635 := eq_true p635
           replace q635 := eq_true q635
           go_wp2
           refine bodyPost_ret (results_list (rs := [.tmp 4, .tmp 5, .tmp 6, .tmp 7]) rfl (by simp) (.tmp (.tmp (.tmp (.tmp .nil))))) rfl ?_
           exact ⟨jE, by exact wU HB.out⟩
          ·rw [if_neg c11] at H
           have c11b0 := decide_eq_false c11
           clear c11
           obtain ⟨ji12, hji12⟩ : ∃ j_ : Int, (wrap64 (x1_1 + 1)) = j_ := ⟨_, rfl⟩
           replace H : (if 0 ≤ (ji12) then (if (ji12) < (l0.length : Int) then (if (wrap64 ((wrap64 (256 * (wrap64 ((wrap64 (rd l0 x1_1)) - 192)))) + (wrap64 (rd l0 (ji12))))) ≥ x10_1 then (some ((⟨#[]⟩ : ByteArray), 0, 3, x11_1)) else (if x9_1 < 0 then (spec_l4Walk.l0 kj2 l0 (wrap64 ((wrap64 (256 * (wrap64 ((wrap64 (rd l0 x1_1)) - 192)))) + (wrap64 (rd l0 (ji12))))) x8_1 (wrap64 (x1_1 + 2)) (wrap64 ((wrap64 (256 * (wrap64 ((wrap64 (rd l0 x1_1)) - 192)))) + (wrap64 (rd l0 (ji12))))) (wrap64 (x11_1 + 1))) else (spec_l4Walk.l0 kj2 l0 (wrap64 ((wrap64 (256 * (wrap64 ((wrap64 (rd l0 x1_1)) - 192)))) + (wrap64 (rd l0 (ji12))))) x8_1 x9_1 (wrap64 ((wrap64 (256 * (wrap64 ((wrap64 (rd l0 x1_1)) - 192)))) + (wrap64 (rd l0 (ji12))))) (wrap64 (x11_1 + 1))))) else (none)) else (none)) = some (r1, r2, r3, r4) := by first | (rw [hji12] at H; exact H) | (simp only [hji12] at H ⊢; exact H)
           (try rw [hji12] at c11b0)
           have hji12w : (IntKind.i64.wrap (x1_1 + 1)) = ji12 := (i64_w _).trans hji12
           by_cases c13 : 0 ≤ (ji12)
           ·rw [if_pos c13] at H
            have c13b0 := decide_eq_true c13
            clear c13
            by_cases c14 : (ji12) < (l0.length : Int)
            ·rw [if_pos c14] at H
             have c14b0 := decide_eq_true c14
             clear c14
             by_cases c15 : (wrap64 ((wrap64 (256 * (wrap64 ((wrap64 (rd l0 x1_1)) - 192)))) + (wrap64 (rd l0 (ji12))))) ≥ x10_1
             ·rw [if_pos c15] at H
              have c15b0 := decide_eq_true c15
              clear c15
              simp only [Option.some.injEq, Prod.mk.injEq] at H
              obtain ⟨rfl, rfl, rfl, rfl⟩ := H
              have p635 : 0 ≤ (x1_1 : Int) := of_decide_eq_true jC
              have q635 : x1_1 < (l0.length : Int) := of_decide_eq_true jC
              obtain ⟨ad635, e635, hx635_0⟩ := Kd.at_int HR0.out x1_1 p635 q635
              cases e635
              try replace hx635_0 := (HB.out.cell (World.block_lt_of_cell? w _ hx635_0)).trans hx635_0
              replace p635 := eq_true p635
              replace q635 := eq_true q635
              have p636 : 0 ≤ ((ji12) : Int) := of_decide_eq_true jC
              have q636 : (ji12) < (l0.length : Int) := of_decide_eq_true jC
              obtain ⟨ad636, e636, hx636_0⟩ := Kd.at_int HR0.out (ji12) p636 q636
              obtain rfl : ad635 = ad636 := (by injection e636)
              try replace hx636_0 := (HB.out.cell (World.block_lt_of_cell? w _ hx636_0)).trans hx636_0
              replace p636 := eq_true p636
              replace q636 := eq_true q636
              go_wp2
              refine bodyPost_ret (results_list (rs := [.tmp 4, .tmp 5, .tmp 6, .tmp 7]) rfl (by simp) (.tmp (.tmp (.tmp (.tmp .nil))))) rfl ?_
              exact ⟨by first | rfl | (simp [errW_none, errW_some] <;> rfl) | (simp only [← hji12]; first | rfl | (simp [errW_none, errW_some] <;> rfl)) | (simp [*, errW_none, errW_some] <;> rfl), by exact wU HB.out⟩
             ·rw [if_neg c15] at H
              have c15b0 := decide_eq_false c15
              clear c15
              by_cases c16 : x9_1 < 0
              ·rw [if_pos c16] at H
               have c16b0 := decide_eq_true c16
               clear c16
               have H' := aS H
               clear H
               have p635 : 0 ≤ (x1_1 : Int) := of_decide_eq_true jC
               have q635 : x1_1 < (l0.length : Int) := of_decide_eq_true jC
               obtain ⟨ad635, e635, hx635_0⟩ := Kd.at_int HR0.out x1_1 p635 q635
               cases e635
               try replace hx635_0 := (HB.out.cell (World.block_lt_of_cell? w _ hx635_0)).trans hx635_0
               replace p635 := eq_true p635
               replace q635 := eq_true q635
               have p636 : 0 ≤ ((ji12) : Int) := of_decide_eq_true jC
               have q636 : (ji12) < (l0.length : Int) := of_decide_eq_true jC
               obtain ⟨ad636, e636, hx636_0⟩ := Kd.at_int HR0.out (ji12) p636 q636
               obtain rfl : ad635 = ad636 := (by injection e636)
               try replace hx636_0 := (HB.out.cell (World.block_lt_of_cell? w _ hx636_0)).trans hx636_0
               replace p636 := eq_true p636
               replace q636 := eq_true q636
               go_wp2
               go_roundg kj2
               case measure => have := HK1.out; have := HJ2.out; omega
               case rel => exact ⟨(wrap64 ((wrap64 (256 * (wrap64 ((wrap64 (rd l0 x1_1)) - 192)))) + (wrap64 (rd l0 (ji12))))), (x8_1), (wrap64 (x1_1 + 2)), (wrap64 ((wrap64 (256 * (wrap64 ((wrap64 (rd l0 x1_1)) - 192)))) + (wrap64 (rd l0 (ji12))))), (wrap64 (x11_1 + 1)), (by first | rfl | (simp; done) | (simp only [← hji12] <;> (first | rfl | simp)) | (simp [*]; done)), jB, jB, (by first | rfl | (simp; done) | (simp only [← hji12] <;> (first | rfl | simp)) | (simp [*]; done)), jB, H', ⟨by have := HK1.out; have := HJ2.out; omega⟩, ⟨by exact wU HB.out⟩⟩
              ·rw [if_neg c16] at H
               have c16b0 := decide_eq_false c16
               clear c16
               have H' := aS H
               clear H
               have p635 : 0 ≤ (x1_1 : Int) := of_decide_eq_true jC
               have q635 : x1_1 < (l0.length : Int) := of_decide_eq_true jC
               obtain ⟨ad635, e635, hx635_0⟩ := Kd.at_int HR0.out x1_1 p635 q635
               cases e635
               try replace hx635_0 := (HB.out.cell (World.block_lt_of_cell? w _ hx635_0)).trans hx635_0
               replace p635 := eq_true p635
               replace q635 := eq_true q635
               have p636 : 0 ≤ ((ji12) : Int) := of_decide_eq_true jC
               have q636 : (ji12) < (l0.length : Int) := of_decide_eq_true jC
               obtain ⟨ad636, e636, hx636_0⟩ := Kd.at_int HR0.out (ji12) p636 q636
               obtain rfl : ad635 = ad636 := (by injection e636)
               try replace hx636_0 := (HB.out.cell (World.block_lt_of_cell? w _ hx636_0)).trans hx636_0
               replace p636 := eq_true p636
               replace q636 := eq_true q636
               go_wp2
               go_roundg kj2
               case measure => have := HK1.out; have := HJ2.out; omega
               case rel => exact ⟨(wrap64 ((wrap64 (256 * (wrap64 ((wrap64 (rd l0 x1_1)) - 192)))) + (wrap64 (rd l0 (ji12))))), (x8_1), (x9_1), (wrap64 ((wrap64 (256 * (wrap64 ((wrap64 (rd l0 x1_1)) - 192)))) + (wrap64 (rd l0 (ji12))))), (wrap64 (x11_1 + 1)), (by first | rfl | (simp; done) | (simp only [← hji12] <;> (first | rfl | simp)) | (simp [*]; done)), jB, jB, (by first | rfl | (simp; done) | (simp only [← hji12] <;> (first | rfl | simp)) | (simp [*]; done)), jB, H', ⟨by have := HK1.out; have := HJ2.out; omega⟩, ⟨by exact wU HB.out⟩⟩
            ·rw [if_neg c14] at H
             exact absurd H (by simp)
           ·rw [if_neg c13] at H
            exact absurd H (by simp)
         ·rw [if_neg c10] at H
          have c10b0 := decide_eq_false c10
          clear c10
          have HC17 := aS H
          clear H
          have p635 : 0 ≤ (x1_1 : Int) := of_decide_eq_true jC
          have q635 : x1_1 < (l0.length : Int) := of_decide_eq_true jC
          obtain ⟨ad635, e635, hx635_0⟩ := Kd.at_int HR0.out x1_1 p635 q635
          cases e635
          try replace hx635_0 := (HB.out.cell (World.block_lt_of_cell? w _ hx635_0)).trans hx635_0
          replace p635 := eq_true p635
          replace q635 := eq_true q635
          go_upto_region 23 with (fail)
          go_cut [81] (fun v81 wc => ∃ (kq : Nat) (x81_16 : Bool), v81 = .bool x81_16 ∧ Aside0 (spec_l4Walk.j2 kq l0 x1_1 x8_1 x9_1 x10_1 x11_1 x81_16 = some (r1, r2, r3, r4)) ∧ Aside0 (kq ≤ kj2) ∧ Aside0 (Below w.heap.size w wc))
          case first =>
           have H := HC17.out
           clear HC17
           by_cases c18 : (wrap64 (rd l0 x1_1)) ≤ 12
           ·rw [if_pos c18] at H
            have c18b0 := decide_eq_true c18
            clear c18
            (first | rw [c18b0] | (simp only [i64_w, i32_w]; rw [c18b0]) | skip)
            have H' := aS H
            clear H
            go_wp2
            go_meet
            case rel => exact ⟨_, (decide ((wrap64 (rd l0 x1_1)) > (wrap64 ((wrap64 ((l0.length : Int) - x1_1)) - 1)))), jB, H', ⟨by have := HK1.out; have := HJ2.out; first | omega | exact Nat.le_refl _⟩, ⟨by exact wU HB.out⟩⟩
           ·rw [if_neg c18] at H
            have c18b0 := decide_eq_false c18
            clear c18
            (first | rw [c18b0] | (simp only [i64_w, i32_w]; rw [c18b0]) | skip)
            have H' := aS H
            clear H
            go_wp2
            go_meet
            case rel => exact ⟨_, (false), jB, H', ⟨by have := HK1.out; have := HJ2.out; first | omega | exact Nat.le_refl _⟩, ⟨by exact wU HB.out⟩⟩
          case rest =>
           clear HC17
           try clear c1
           try clear p2
           try clear c4
           try clear c4b0
           try clear c5
           try clear c6
           try clear c6b0
           try clear p6
           try clear q6
           try clear hx6
           try clear c7
           try clear c7b0
           try clear c8
           try clear c8b0
           try clear c8b1
           try clear c9
           try clear c9b0
           try clear c10
           try clear c10b0
           try clear c11
           try clear c11b0
           try clear c13
           try clear c13b0
           try clear c14
           try clear c14b0
           try clear c15
           try clear c15b0
           try clear c16
           try clear c16b0
           try clear c18
           try clear c18b0
           try clear hx635_0
           try clear hx636_0
           try clear p2
           try clear p635
           try clear p636
           try clear q635
           try clear q636
           obtain ⟨kq, x81_16, rfl, HA, HJ16, HB⟩ := hcut
           cases kq with
           | zero => exact absurd HA.out (by simp [spec_l4Walk.j2])
           | succ kj16 =>
            have H := HA.out
            clear HA
            simp only [spec_l4Walk.j2] at H
            by_cases c19 : x81_16 = true
            ·subst c19
             rw [if_pos rfl] at H
             simp only [Option.some.injEq, Prod.mk.injEq] at H
             obtain ⟨rfl, rfl, rfl, rfl⟩ := H
             go_wp2
             refine bodyPost_ret (results_list (rs := [.tmp 4, .tmp 5, .tmp 6, .tmp 7]) rfl (by simp) (.tmp (.tmp (.tmp (.tmp .nil))))) rfl ?_
             exact ⟨jE, by exact wU HB.out⟩
            ·replace c19 := Bool.eq_false_iff.mpr c19
             subst c19
             rw [if_neg Bool.false_ne_true] at H
             obtain ⟨⟨t637, t638, t639⟩, A20, H⟩ := bM H
             try dsimp only at H
             have HC21 := aS H
             clear H
             go_upto_if 91 with (first | ((with_reducible refine gate_callee (f := 150) rfl ?_); refine goesL_ (some 86) rfl rfl Tryd.func150 jK rfl #[.slice (some ad635) l0.length c0, .int .i64 x1_1] rfl jA ?_; (with_reducible refine (spec_GetLabel.calls kj16 _ _ l0 x1_1 t637 t638 t639 _ ?side1 ?side2 A20.out).mono ?_); (case side1 => exact cU ((Kd.C_below HR0.out HB.out))); (case side2 => exact HC0.out); rintro e w22 ⟨rfl, hb⟩; refine ⟨_, rfl, ?_⟩; replace HB := aS (below_step (wU HB.out) hb); clear hb))
             (try simp only [Act.put, List.setIfInBounds_toArray, List.set_cons_zero, List.set_cons_succ])
             have H := HC21.out
             clear HC21
             by_cases c23 : t639 = true
             ·subst c23
              rw [if_pos rfl] at H
              by_cases c24 : x8_1.toList = ([] : List UInt8)
              ·rw [if_pos c24] at H
               have c24b0 := beq_iff_eq.mpr c24
               have c24b1 := bne_eq_false_iff_eq.mpr c24
               clear c24
               (first | rw [c24b0] | (simp only [i64_w, i32_w]; rw [c24b0]) | skip)
               by_cases c25 : x8_1.size + t637.size ≤ 9223372036854775807
               ·rw [if_pos c25] at H
                have c25b0 := eq_true c25
                have c25b1 := decide_eq_true c25
                try have c25b2 : (9223372036854775807 < x8_1.size + t637.size) = False := eq_false (Nat.not_lt.2 c25)
                obtain ⟨t640, A26, H⟩ := bM H
                try dsimp only at H
                by_cases c27 : t640 = true
                ·subst c27
                 rw [if_pos rfl] at H
                 have H' := aS H
                 clear H
                 go_wp2_with (first | ((with_reducible refine gate_callee (f := 110) rfl ?_); refine goesL_ (some 101) rfl rfl Tryd.func110 jK rfl #[.string (x8_1 ++ t637)] rfl jA ?_; (with_reducible refine (spec_NameOk.calls kj16 (x8_1 ++ t637) true _ A26.out).mono ?_); rintro e w28 ⟨rfl, hb⟩; refine ⟨_, rfl, ?_⟩; replace HB := aS (below_step (wU HB.out) hb); clear hb))
                 go_roundg kj16
                 case measure => have := HK1.out; have := HJ2.out; have := HJ16.out; omega
                 case rel => exact ⟨(t638), (x8_1 ++ t637), (x9_1), (x10_1), (x11_1), jB, jB, jB, jB, jB, H', ⟨by have := HK1.out; have := HJ2.out; have := HJ16.out; omega⟩, ⟨by exact wU HB.out⟩⟩
                ·replace c27 := Bool.eq_false_iff.mpr c27
                 subst c27
                 rw [if_neg Bool.false_ne_true] at H
                 simp only [Option.some.injEq, Prod.mk.injEq] at H
                 obtain ⟨rfl, rfl, rfl, rfl⟩ := H
                 go_wp2_with (first | ((with_reducible refine gate_callee (f := 110) rfl ?_); refine goesL_ (some 101) rfl rfl Tryd.func110 jK rfl #[.string (x8_1 ++ t637)] rfl jA ?_; (with_reducible refine (spec_NameOk.calls kj16 (x8_1 ++ t637) false _ A26.out).mono ?_); rintro e w29 ⟨rfl, hb⟩; refine ⟨_, rfl, ?_⟩; replace HB := aS (below_step (wU HB.out) hb); clear hb))
                 refine bodyPost_ret (results_list (rs := [.tmp 4, .tmp 5, .tmp 6, .tmp 7]) rfl (by simp) (.tmp (.tmp (.tmp (.tmp .nil))))) rfl ?_
                 exact ⟨jE, by exact wU HB.out⟩
               ·rw [if_neg c25] at H
                exact absurd H (by simp)
              ·rw [if_neg c24] at H
               have c24b0 := beq_eq_false_iff_ne.mpr c24
               have c24b1 := bne_iff_ne.mpr c24
               (first | rw [c24b0] | (simp only [i64_w, i32_w]; rw [c24b0]) | skip)
               by_cases c30 : x8_1.size + 1 ≤ 9223372036854775807
               ·rw [if_pos c30] at H
                have c30b0 := eq_true c30
                have c30b1 := decide_eq_true c30
                try have c30b2 : (9223372036854775807 < x8_1.size + 1) = False := eq_false (Nat.not_lt.2 c30)
                by_cases c31 : (x8_1 ++ (⟨#[46]⟩ : ByteArray)).size + t637.size ≤ 9223372036854775807
                ·rw [if_pos c31] at H
                 have c31b0 := eq_true c31
                 have c31b1 := decide_eq_true c31
                 try have c31b2 : (9223372036854775807 < (x8_1 ++ (⟨#[46]⟩ : ByteArray)).size + t637.size) = False := eq_false (Nat.not_lt.2 c31)
                 try have c31b8 : (9223372036854775807 < x8_1.size + 1 + t637.size) = False := by have q_ := c31b2; simp only [ByteArray.size_append] at q_; exact q_
                 obtain ⟨t641, A32, H⟩ := bM H
                 try dsimp only at H
                 by_cases c33 : t641 = true
                 ·subst c33
                  rw [if_pos rfl] at H
                  have H' := aS H
                  clear H
                  go_wp2_with (first | ((with_reducible refine gate_callee (f := 110) rfl ?_); refine goesL_ (some 101) rfl rfl Tryd.func110 jK rfl #[.string ((x8_1 ++ (⟨#[46]⟩ : ByteArray)) ++ t637)] rfl jA ?_; (with_reducible refine (spec_NameOk.calls kj16 ((x8_1 ++ (⟨#[46]⟩ : ByteArray)) ++ t637) true _ A32.out).mono ?_); rintro e w34 ⟨rfl, hb⟩; refine ⟨_, rfl, ?_⟩; replace HB := aS (below_step (wU HB.out) hb); clear hb))
                  go_roundg kj16
                  case measure => have := HK1.out; have := HJ2.out; have := HJ16.out; omega
                  case rel => exact ⟨(t638), ((x8_1 ++ (⟨#[46]⟩ : ByteArray)) ++ t637), (x9_1), (x10_1), (x11_1), jB, jB, jB, jB, jB, H', ⟨by have := HK1.out; have := HJ2.out; have := HJ16.out; omega⟩, ⟨by exact wU HB.out⟩⟩
                 ·replace c33 := Bool.eq_false_iff.mpr c33
                  subst c33
                  rw [if_neg Bool.false_ne_true] at H
                  simp only [Option.some.injEq, Prod.mk.injEq] at H
                  obtain ⟨rfl, rfl, rfl, rfl⟩ := H
                  go_wp2_with (first | ((with_reducible refine gate_callee (f := 110) rfl ?_); refine goesL_ (some 101) rfl rfl Tryd.func110 jK rfl #[.string ((x8_1 ++ (⟨#[46]⟩ : ByteArray)) ++ t637)] rfl jA ?_; (with_reducible refine (spec_NameOk.calls kj16 ((x8_1 ++ (⟨#[46]⟩ : ByteArray)) ++ t637) false _ A32.out).mono ?_); rintro e w35 ⟨rfl, hb⟩; refine ⟨_, rfl, ?_⟩; replace HB := aS (below_step (wU HB.out) hb); clear hb))
                  refine bodyPost_ret (results_list (rs := [.tmp 4, .tmp 5, .tmp 6, .tmp 7]) rfl (by simp) (.tmp (.tmp (.tmp (.tmp .nil))))) rfl ?_
                  exact ⟨jE, by exact wU HB.out⟩
                ·rw [if_neg c31] at H
                 exact absurd H (by simp)
               ·rw [if_neg c30] at H
                exact absurd H (by simp)
             ·replace c23 := Bool.eq_false_iff.mpr c23
              subst c23
              rw [if_neg Bool.false_ne_true] at H
              simp only [Option.some.injEq, Prod.mk.injEq] at H
              obtain ⟨rfl, rfl, rfl, rfl⟩ := H
              go_wp2
              refine bodyPost_ret (results_list (rs := [.tmp 4, .tmp 5, .tmp 6, .tmp 7]) rfl (by simp) (.tmp (.tmp (.tmp (.tmp .nil))))) rfl ?_
              exact ⟨jE, by exact wU HB.out⟩
       ·rw [if_neg c7] at H
        exact absurd H (by simp)
      ·rw [if_neg c6] at H
       exact absurd H (by simp)

/-! ### spec_GetName: function 82 -/
def spec_GetName.f (k : Nat) (l0 : List Int) (a1 : Int) : Option (ByteArray × Int × Int) := (spec_l4Walk.f k l0 a1).bind fun bt642 => (some (bt642.1, bt642.2.1, bt642.2.2.1))
theorem spec_GetName.mono : ∀ a0 a1 k, LeO (spec_GetName.f k a0 a1) (spec_GetName.f (k + 1) a0 a1) := by
 intro a0 a1 k
 unfold spec_GetName.f
 repeat' first
   | (with_reducible first | exact spec_l4Walk.mono _ _ _ | exact LeO.refl _ | exact LeO.none _ | refine LeO.ite ?_ ?_ | refine LeO.bind ?_ (fun _ => ?_))
   | exact spec_l4Walk.mono _ _ _
   | exact LeO.none _
   | refine LeO.ite ?_ ?_
   | refine LeO.bind ?_ (fun _ => ?_)
set_option maxHeartbeats 8000000 in
set_option maxRecDepth 100000 in
theorem spec_GetName.calls (k : Nat) (A0 : Option Addr) (c0 : Nat) (l0 : List Int) (a1 : Int) (r1 : ByteArray) (r2 : Int) (r3 : Int) (w : World) (hr0 : Kd.C (Kd.int .u8) w A0 l0.length l0) (hc0 : l0.length ≤ c0) (h : spec_GetName.f k l0 a1 = some (r1, r2, r3)) :
  Calls Tryd.prog 82 #[.slice A0 l0.length c0, .int .i64 a1] w fun e w' => e = .returned (.tuple #[.string r1, .int .i64 r2, .int .i64 r3]) ∧ Below w.heap.size w w' := by
 have HR0 := aS hr0
 have HC0 := aS hc0
 clear hr0 hc0
 have HB := aS (Below.refl w.heap.size w)
 have H : ((spec_l4Walk.f k l0 a1).bind fun bt642 => (some (bt642.1, bt642.2.1, bt642.2.2.1))) = some (r1, r2, r3) := h
 clear h
 obtain ⟨⟨t642, t643, t644, t645⟩, A3, H⟩ := bM H
 try dsimp only at H
 simp only [Option.some.injEq, Prod.mk.injEq] at H
 obtain ⟨rfl, rfl, rfl⟩ := H
 go_enter Tryd.func82, Tryd.ntmps82
 go_wp2_with (first | ((with_reducible refine gate_callee (f := 131) rfl ?_); refine goesL_ (some 14) rfl rfl Tryd.func131 jK rfl #[.slice A0 l0.length c0, .int .i64 a1] rfl jA ?_; (with_reducible refine (spec_l4Walk.calls k _ _ l0 a1 t642 t643 t644 t645 _ ?side1 ?side2 A3.out).mono ?_); (case side1 => exact cU (HR0.out)); (case side2 => exact HC0.out); rintro e w4 ⟨rfl, hb⟩; refine ⟨_, rfl, ?_⟩; replace HB := aS (below_step (wU HB.out) hb); clear hb))
 go_ret3
 exact ⟨jE, by exact wU HB.out⟩

end Go.Proofs.YtdigilidomimdaaDoor.Pr
