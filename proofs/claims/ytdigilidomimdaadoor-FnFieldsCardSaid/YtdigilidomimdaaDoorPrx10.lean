-- Written for this claim by a program of this session (wip/tool/pr.py, over the kit's printer).
-- half
import Derived.Test.YtdigilidomimdaaDoorPrx0
import Derived.Test.YtdigilidomimdaaDoorPrx7
import Derived.Test.YtdigilidomimdaaDoorPrx9
namespace Go.Proofs.YtdigilidomimdaaDoor.Pr
open Go.RowKit Go.Proofs.YtdigilidomimdaaDoorW.PrintWords Go.Proofs.YtdigilidomimdaaDoorW.PrintLast Go.Proofs.YtdigilidomimdaaDoorW.PrintMore
attribute [local go_sem] max2_int min2_int max_two min_two max_three min_three max_four min_four   -- for this text's walks alone
set_option linter.unusedVariables false
set_option linter.unusedSimpArgs false

/-! ### impl_GetLabel: function 149 -/
def impl_GetLabel.j0 : Nat → List Int → Int → Bool → Option (ByteArray × Int × Bool)
 | 0, _, _, _ => none
 | k + 1, x0, x1, x35 => if x35 = true then (some ((⟨#[]⟩ : ByteArray), 0, false)) else (if 0 ≤ x1 then (if x1 < (x0.length : Int) then (if 0 ≤ (wrap64 (x1 + 1)) then (if (wrap64 (x1 + 1)) ≤ (wrap64 ((wrap64 (x1 + 1)) + (wrap64 (rd x0 x1)))) then (if (wrap64 ((wrap64 (x1 + 1)) + (wrap64 (rd x0 x1)))) ≤ (x0.length : Int) then ((impl_Fold.f (strOfNums ((x0.take ((wrap64 ((wrap64 (x1 + 1)) + (wrap64 (rd x0 x1)))) : Int).toNat).drop ((wrap64 (x1 + 1)) : Int).toNat))).bind fun t540 => ((impl_LabelOk.f k t540).bind fun t541 => (if t541 = true then (some (t540, wrap64 ((wrap64 (x1 + 1)) + (wrap64 (rd x0 x1))), true)) else (some ((⟨#[]⟩ : ByteArray), 0, false))))) else (none)) else (none)) else (none)) else (none)) else (none))
def impl_GetLabel.f (k : Nat) (l0 : List Int) (a1 : Int) : Option (ByteArray × Int × Bool) := if a1 < 0 then (impl_GetLabel.j0 k l0 a1 true) else (if a1 ≥ (l0.length : Int) then (impl_GetLabel.j0 k l0 a1 true) else (if 0 ≤ a1 then (if a1 < (l0.length : Int) then (if (rd l0 a1) > 12 then (impl_GetLabel.j0 k l0 a1 true) else (impl_GetLabel.j0 k l0 a1 (decide ((wrap64 (rd l0 a1)) ≥ (wrap64 ((l0.length : Int) - a1)))))) else (none)) else (none)))
theorem impl_GetLabel.mono_l : ∀ k, (∀ y0 y1 y2, LeO (impl_GetLabel.j0 k y0 y1 y2) (impl_GetLabel.j0 (k + 1) y0 y1 y2))
 | 0 => fun _ _ _ r h => by simp [impl_GetLabel.j0] at h
 | k + 1 => by
  have ih0 := impl_GetLabel.mono_l k
  ·intro y0 y1 y2
   unfold impl_GetLabel.j0
   repeat' first
   | (with_reducible first | exact ih0 _ _ _ | exact impl_LabelOk.mono _ _ | exact LeO.refl _ | exact LeO.none _ | refine LeO.ite ?_ ?_ | refine LeO.bind ?_ (fun _ => ?_))
   | exact ih0 _ _ _
   | exact impl_LabelOk.mono _ _
   | exact LeO.none _
   | refine LeO.ite ?_ ?_
   | refine LeO.bind ?_ (fun _ => ?_)
theorem impl_GetLabel.mono : ∀ a0 a1 k, LeO (impl_GetLabel.f k a0 a1) (impl_GetLabel.f (k + 1) a0 a1) := by
 intro a0 a1 k
 have ih0 := impl_GetLabel.mono_l k
 unfold impl_GetLabel.f
 repeat' first
   | (with_reducible first | exact ih0 _ _ _ | exact impl_LabelOk.mono _ _ | exact LeO.refl _ | exact LeO.none _ | refine LeO.ite ?_ ?_ | refine LeO.bind ?_ (fun _ => ?_))
   | exact ih0 _ _ _
   | exact impl_LabelOk.mono _ _
   | exact LeO.none _
   | refine LeO.ite ?_ ?_
   | refine LeO.bind ?_ (fun _ => ?_)
set_option maxHeartbeats 8000000 in
set_option maxRecDepth 100000 in
theorem impl_GetLabel.calls (k : Nat) (A0 : Option Addr) (c0 : Nat) (l0 : List Int) (a1 : Int) (r1 : ByteArray) (r2 : Int) (r3 : Bool) (w : World) (hr0 : Kd.C (Kd.int .u8) w A0 l0.length l0) (hc0 : l0.length ≤ c0) (h : impl_GetLabel.f k l0 a1 = some (r1, r2, r3)) :
  Calls Tryd.prog 149 #[.slice A0 l0.length c0, .int .i64 a1] w fun e w' => e = .returned (.tuple #[.string r1, .int .i64 r2, .bool r3]) ∧ Below w.heap.size w w' := by
 have HR0 := aS hr0
 have HC0 := aS hc0
 clear hr0 hc0
 have HB := aS (Below.refl w.heap.size w)
 have H : (if a1 < 0 then (impl_GetLabel.j0 k l0 a1 true) else (if a1 ≥ (l0.length : Int) then (impl_GetLabel.j0 k l0 a1 true) else (if 0 ≤ a1 then (if a1 < (l0.length : Int) then (if (rd l0 a1) > 12 then (impl_GetLabel.j0 k l0 a1 true) else (impl_GetLabel.j0 k l0 a1 (decide ((wrap64 (rd l0 a1)) ≥ (wrap64 ((l0.length : Int) - a1)))))) else (none)) else (none)))) = some (r1, r2, r3) := h
 clear h
 have HC3 := aS H
 clear H
 go_enter Tryd.func149, Tryd.ntmps149
 go_upto_region 1 with (fail)
 go_cut [35] (fun v35 wc => ∃ (kq : Nat) (x35_2 : Bool), v35 = .bool x35_2 ∧ Aside0 (impl_GetLabel.j0 kq l0 a1 x35_2 = some (r1, r2, r3)) ∧ Aside0 (kq ≤ k) ∧ Aside0 (Below w.heap.size w wc))
 case first =>
  have H := HC3.out
  clear HC3
  by_cases c4 : a1 < 0
  ·rw [if_pos c4] at H
   have c4b0 : decide (a1 < 0) = true := decide_eq_true c4
   clear c4
   (first | rw [c4b0] | (simp only [i64_w, i32_w]; rw [c4b0]) | skip)
   have H' := aS H
   clear H
   go_wp2
   go_meet
   case rel => exact ⟨_, (true), jB, H', ⟨by first | omega | exact Nat.le_refl _⟩, ⟨by repeat (first | (with_reducible first | exact HB.out | apply below_alloc | apply pw_below_drewN | apply below_drew1) | exact HB.out)⟩⟩
  ·rw [if_neg c4] at H
   have c4b0 : decide (a1 < 0) = false := decide_eq_false c4
   clear c4
   (first | rw [c4b0] | (simp only [i64_w, i32_w]; rw [c4b0]) | skip)
   by_cases c5 : a1 ≥ (l0.length : Int)
   ·rw [if_pos c5] at H
    have c5b0 : decide ((l0.length : Int) ≤ a1) = true := decide_eq_true c5
    clear c5
    have H' := aS H
    clear H
    go_wp2
    go_meet
    case rel => exact ⟨_, (true), jB, H', ⟨by first | omega | exact Nat.le_refl _⟩, ⟨by repeat (first | (with_reducible first | exact HB.out | apply below_alloc | apply pw_below_drewN | apply below_drew1) | exact HB.out)⟩⟩
   ·rw [if_neg c5] at H
    have c5b0 : decide ((l0.length : Int) ≤ a1) = false := decide_eq_false c5
    clear c5
    by_cases c6 : 0 ≤ a1
    ·rw [if_pos c6] at H
     have c6b0 : decide (0 ≤ a1) = true := decide_eq_true c6
     clear c6
     by_cases c7 : a1 < (l0.length : Int)
     ·rw [if_pos c7] at H
      have c7b0 : decide (a1 < (l0.length : Int)) = true := decide_eq_true c7
      clear c7
      by_cases c8 : (rd l0 a1) > 12
      ·rw [if_pos c8] at H
       have c8b0 : decide (12 < (rd l0 a1)) = true := decide_eq_true c8
       clear c8
       have H' := aS H
       clear H
       have p533 : 0 ≤ (a1 : Int) := of_decide_eq_true jC
       have q533 : a1 < (l0.length : Int) := of_decide_eq_true jC
       obtain ⟨ad533, e533, hx533_0⟩ := Kd.at_int HR0.out a1 p533 q533
       cases e533
       try replace hx533_0 := (HB.out.cell (World.block_lt_of_cell? w _ hx533_0)).trans hx533_0
       replace p533 := eq_true p533
       replace q533 := eq_true q533
       go_wp2
       go_meet
       case rel => exact ⟨_, (true), jB, H', ⟨by first | omega | exact Nat.le_refl _⟩, ⟨by repeat (first | (with_reducible first | exact HB.out | apply below_alloc | apply pw_below_drewN | apply below_drew1) | exact HB.out)⟩⟩
      ·rw [if_neg c8] at H
       have c8b0 : decide (12 < (rd l0 a1)) = false := decide_eq_false c8
       clear c8
       have H' := aS H
       clear H
       have p533 : 0 ≤ (a1 : Int) := of_decide_eq_true jC
       have q533 : a1 < (l0.length : Int) := of_decide_eq_true jC
       obtain ⟨ad533, e533, hx533_0⟩ := Kd.at_int HR0.out a1 p533 q533
       cases e533
       try replace hx533_0 := (HB.out.cell (World.block_lt_of_cell? w _ hx533_0)).trans hx533_0
       replace p533 := eq_true p533
       replace q533 := eq_true q533
       have p534 : 0 ≤ (a1 : Int) := of_decide_eq_true jC
       have q534 : a1 < (l0.length : Int) := of_decide_eq_true jC
       obtain ⟨ad534, e534, hx534_0⟩ := Kd.at_int HR0.out a1 p534 q534
       obtain rfl : ad533 = ad534 := (by injection e534)
       try replace hx534_0 := (HB.out.cell (World.block_lt_of_cell? w _ hx534_0)).trans hx534_0
       replace p534 := eq_true p534
       replace q534 := eq_true q534
       go_wp2
       go_meet
       case rel => exact ⟨_, (decide ((wrap64 (rd l0 a1)) ≥ (wrap64 ((l0.length : Int) - a1)))), jB, H', ⟨by first | omega | exact Nat.le_refl _⟩, ⟨by repeat (first | (with_reducible first | exact HB.out | apply below_alloc | apply pw_below_drewN | apply below_drew1) | exact HB.out)⟩⟩
     ·rw [if_neg c7] at H
      exact absurd H (by simp)
    ·rw [if_neg c6] at H
     exact absurd H (by simp)
 case rest =>
  clear HC3
  try clear c1
  try clear p2
  try clear c4
  try clear c4b0
  try clear c5
  try clear c5b0
  try clear p5
  try clear q5
  try clear hx5
  try clear c6
  try clear c6b0
  try clear p6
  try clear c7
  try clear c7b0
  try clear c8
  try clear c8b0
  try clear hx533_0
  try clear hx534_0
  try clear p533
  try clear p534
  try clear q533
  try clear q534
  obtain ⟨kq, x35_2, rfl, HA, HJ2, HB⟩ := hcut
  cases kq with
  | zero => exact absurd HA.out (by simp [impl_GetLabel.j0])
  | succ kj2 =>
   have H := HA.out
   clear HA
   simp only [impl_GetLabel.j0] at H
   by_cases c9 : x35_2 = true
   ·subst c9
    have H1 : (some ((⟨#[]⟩ : ByteArray), 0, false)) = some (r1, r2, r3) := by rw [if_pos rfl] at H; exact H
    clear H
    have H := H1
    clear H1
    simp only [Option.some.injEq, Prod.mk.injEq] at H
    obtain ⟨rfl, rfl, rfl⟩ := H
    go_wp2
    go_ret3
    exact ⟨jE, by repeat (first | (with_reducible first | exact HB.out | apply below_alloc | apply pw_below_drewN | apply below_drew1) | exact HB.out)⟩
   ·replace c9 := Bool.eq_false_iff.mpr c9
    subst c9
    have H1 : (if 0 ≤ a1 then (if a1 < (l0.length : Int) then (if 0 ≤ (wrap64 (a1 + 1)) then (if (wrap64 (a1 + 1)) ≤ (wrap64 ((wrap64 (a1 + 1)) + (wrap64 (rd l0 a1)))) then (if (wrap64 ((wrap64 (a1 + 1)) + (wrap64 (rd l0 a1)))) ≤ (l0.length : Int) then ((impl_Fold.f (strOfNums ((l0.take ((wrap64 ((wrap64 (a1 + 1)) + (wrap64 (rd l0 a1)))) : Int).toNat).drop ((wrap64 (a1 + 1)) : Int).toNat))).bind fun t540 => ((impl_LabelOk.f kj2 t540).bind fun t541 => (if t541 = true then (some (t540, wrap64 ((wrap64 (a1 + 1)) + (wrap64 (rd l0 a1))), true)) else (some ((⟨#[]⟩ : ByteArray), 0, false))))) else (none)) else (none)) else (none)) else (none)) else (none)) = some (r1, r2, r3) := by rw [if_neg (show ¬ (false = true) by decide)] at H; exact H
    clear H
    have H := H1
    clear H1
    by_cases c10 : 0 ≤ a1
    ·rw [if_pos c10] at H
     have c10b0 : decide (0 ≤ a1) = true := decide_eq_true c10
     clear c10
     by_cases c11 : a1 < (l0.length : Int)
     ·rw [if_pos c11] at H
      have c11b0 : decide (a1 < (l0.length : Int)) = true := decide_eq_true c11
      clear c11
      obtain ⟨ji12, hji12⟩ : ∃ j_ : Int, (wrap64 (a1 + 1)) = j_ := ⟨_, rfl⟩
      replace H : (if 0 ≤ (ji12) then (if (ji12) ≤ (wrap64 ((ji12) + (wrap64 (rd l0 a1)))) then (if (wrap64 ((ji12) + (wrap64 (rd l0 a1)))) ≤ (l0.length : Int) then ((impl_Fold.f (strOfNums ((l0.take ((wrap64 ((ji12) + (wrap64 (rd l0 a1)))) : Int).toNat).drop ((ji12) : Int).toNat))).bind fun t540 => ((impl_LabelOk.f kj2 t540).bind fun t541 => (if t541 = true then (some (t540, wrap64 ((ji12) + (wrap64 (rd l0 a1))), true)) else (some ((⟨#[]⟩ : ByteArray), 0, false))))) else (none)) else (none)) else (none)) = some (r1, r2, r3) := by first | (rw [hji12] at H; exact H) | (simp only [hji12] at H ⊢; exact H)
      have hji12w : (IntKind.i64.wrap (a1 + 1)) = ji12 := (i64_w _).trans hji12
      by_cases c13 : 0 ≤ (ji12)
      ·rw [if_pos c13] at H
       have c13b0 := eq_true c13
       have c13b1 : decide (0 ≤ (ji12)) = true := decide_eq_true c13
       clear c13
       by_cases c14 : (ji12) ≤ (wrap64 ((ji12) + (wrap64 (rd l0 a1))))
       ·rw [if_pos c14] at H
        have c14b0 := eq_true c14
        have c14b1 : decide ((ji12) ≤ (wrap64 ((ji12) + (wrap64 (rd l0 a1))))) = true := decide_eq_true c14
        by_cases c15 : (wrap64 ((ji12) + (wrap64 (rd l0 a1)))) ≤ (l0.length : Int)
        ·rw [if_pos c15] at H
         have c15b0 := eq_true c15
         have c15b1 : decide ((wrap64 ((ji12) + (wrap64 (rd l0 a1)))) ≤ (l0.length : Int)) = true := decide_eq_true c15
         obtain ⟨y536, hy_⟩ : ∃ y_ : List Int, y_ = ((l0.take ((wrap64 ((ji12) + (wrap64 (rd l0 a1)))) : Int).toNat).drop ((ji12) : Int).toNat) := ⟨_, rfl⟩
         replace H : ((impl_Fold.f (strOfNums y536)).bind fun t540 => ((impl_LabelOk.f kj2 t540).bind fun t541 => (if t541 = true then (some (t540, wrap64 ((ji12) + (wrap64 (rd l0 a1))), true)) else (some ((⟨#[]⟩ : ByteArray), 0, false))))) = some (r1, r2, r3) := jD
         have Ny536 := aS hy_
         clear hy_
         replace H := Option.bind_eq_some_iff.mp H
         obtain ⟨t540, A16, H⟩ := H
         try dsimp only at H
         replace A16 := aS A16
         replace H := Option.bind_eq_some_iff.mp H
         obtain ⟨t541, A17, H⟩ := H
         try dsimp only at H
         replace A17 := aS A17
         by_cases c18 : t541 = true
         ·subst c18
          have H1 : (some (t540, wrap64 ((ji12) + (wrap64 (rd l0 a1))), true)) = some (r1, r2, r3) := by rw [if_pos rfl] at H; exact H
          clear H
          have H := H1
          clear H1
          simp only [Option.some.injEq, Prod.mk.injEq] at H
          obtain ⟨rfl, rfl, rfl⟩ := H
          have p535 : 0 ≤ (a1 : Int) := of_decide_eq_true jC
          have q535 : a1 < (l0.length : Int) := of_decide_eq_true jC
          obtain ⟨ad535, e535, hx535_0⟩ := Kd.at_int HR0.out a1 p535 q535
          cases e535
          try replace hx535_0 := (HB.out.cell (World.block_lt_of_cell? w _ hx535_0)).trans hx535_0
          replace p535 := eq_true p535
          replace q535 := eq_true q535
          have q19 : ((wrap64 ((ji12) + (wrap64 (rd l0 a1)))) : Int) ≤ ((l0.length : Int) : Int) := of_decide_eq_true jC
          obtain ⟨i019, hi019, _, hsz19, _⟩ := info_parts info5
          have hroom19 : l0.length ≤ c0 := HC0.out
          have hC19 : Kd.C (Kd.int .u8) _ (some ad535) l0.length l0 := HR0.out
          have ql19 : ((ji12) : Int) ≤ ((wrap64 ((ji12) + (wrap64 (rd l0 a1)))) : Int) := of_decide_eq_true jC
          have q019 : (0 : Int) ≤ ((ji12) : Int) := of_decide_eq_true jC
          have hcut19 := cut_mid (P := Tryd.prog) 22 5 .i64 .i64 Tryd.underlying22 hi019 1 hsz19 (some ad535) l0.length c0 (ji12) (wrap64 ((ji12) + (wrap64 (rd l0 a1)))) q019 ql19 q19 hroom19
          have hr19 := Kd.C_mid (lo := ((ji12) : Int).toNat) (hi := ((wrap64 ((ji12) + (wrap64 (rd l0 a1)))) : Int).toNat) (c := c0) hC19 (by omega) (by omega) hroom19
          obtain ⟨A19, hA19⟩ : ∃ A1, A1 = (if c0 = ((ji12) : Int).toNat then (some ad535) else ((some ad535) : Option Addr).map (·.add (((ji12) : Int).toNat * 1))) := ⟨_, rfl⟩
          obtain ⟨c19, hc19⟩ : ∃ c1, c1 = c0 - ((ji12) : Int).toNat := ⟨_, rfl⟩
          have hy19 : y536.length = ((wrap64 ((ji12) + (wrap64 (rd l0 a1)))) : Int).toNat - ((ji12) : Int).toNat := (by rw [Ny536.out, List.length_drop, List.length_take] <;> omega)
          rw [show ((l0).take ((wrap64 ((ji12) + (wrap64 (rd l0 a1)))) : Int).toNat).drop ((ji12) : Int).toNat = y536 from Ny536.out.symm] at hr19
          replace hr19 : Kd.C (Kd.int .u8) _ A19 y536.length y536 := (by rw [hA19]; exact hr19)
          rw [← hy19, ← hA19, ← hc19] at hcut19
          have HR539 := aS hr19
          have HC539 := aS (show y536.length ≤ c19 from by rw [hy19, hc19]; exact Nat.sub_le_sub_right (Nat.le_trans (by omega) hroom19) _)
          clear hr19 hC19 hroom19 hi019 hsz19 hc19
          have KY19 := aS hy19
          have KA19 := aS hA19
          clear hy19 hA19
          replace q19 := eq_true q19
          have hcv20 := Kd.C_string (P := Tryd.prog) (A := A19) (c := c19) Tryd.underlying22 Tryd.underlying5 Tryd.underlying9 (Kd.C_below HR539.out HB.out)
          go_wp2_with (first | ((with_reducible refine gate_callee (f := 161) rfl ?_); refine goesL_ (some 50) rfl rfl Tryd.func161 jK rfl #[.string (strOfNums y536)] rfl jA ?_; (with_reducible refine (impl_Fold.calls (strOfNums y536) t540 _ A16.out).mono ?_); rintro e w21 ⟨rfl, hb⟩; refine ⟨_, rfl, ?_⟩; have n0_ := aS (below_step (wU HB.out) hb); clear HB; revert n0_; intro HB; clear hb) | ((with_reducible refine gate_callee (f := 126) rfl ?_); refine goesL_ (some 52) rfl rfl Tryd.func126 jK rfl #[.string t540] rfl jA ?_; (with_reducible refine (impl_LabelOk.calls kj2 t540 true _ A17.out).mono ?_); rintro e w' ⟨rfl, ⟨nd, rfl⟩⟩; refine ⟨_, rfl, ?_⟩))
          go_ret3
          exact ⟨by first | rfl | (simp [errW_none, errW_some] <;> rfl) | (simp only [← hji12]; first | rfl | (simp [errW_none, errW_some] <;> rfl)) | (simp [*, errW_none, errW_some] <;> rfl), by repeat (first | (with_reducible first | exact HB.out | apply below_alloc | apply pw_below_drewN | apply below_drew1) | exact HB.out)⟩
         ·replace c18 := Bool.eq_false_iff.mpr c18
          subst c18
          have H1 : (some ((⟨#[]⟩ : ByteArray), 0, false)) = some (r1, r2, r3) := by rw [if_neg (show ¬ (false = true) by decide)] at H; exact H
          clear H
          have H := H1
          clear H1
          simp only [Option.some.injEq, Prod.mk.injEq] at H
          obtain ⟨rfl, rfl, rfl⟩ := H
          have p535 : 0 ≤ (a1 : Int) := of_decide_eq_true jC
          have q535 : a1 < (l0.length : Int) := of_decide_eq_true jC
          obtain ⟨ad535, e535, hx535_0⟩ := Kd.at_int HR0.out a1 p535 q535
          cases e535
          try replace hx535_0 := (HB.out.cell (World.block_lt_of_cell? w _ hx535_0)).trans hx535_0
          replace p535 := eq_true p535
          replace q535 := eq_true q535
          have q22 : ((wrap64 ((ji12) + (wrap64 (rd l0 a1)))) : Int) ≤ ((l0.length : Int) : Int) := of_decide_eq_true jC
          obtain ⟨i022, hi022, _, hsz22, _⟩ := info_parts info5
          have hroom22 : l0.length ≤ c0 := HC0.out
          have hC22 : Kd.C (Kd.int .u8) _ (some ad535) l0.length l0 := HR0.out
          have ql22 : ((ji12) : Int) ≤ ((wrap64 ((ji12) + (wrap64 (rd l0 a1)))) : Int) := of_decide_eq_true jC
          have q022 : (0 : Int) ≤ ((ji12) : Int) := of_decide_eq_true jC
          have hcut22 := cut_mid (P := Tryd.prog) 22 5 .i64 .i64 Tryd.underlying22 hi022 1 hsz22 (some ad535) l0.length c0 (ji12) (wrap64 ((ji12) + (wrap64 (rd l0 a1)))) q022 ql22 q22 hroom22
          have hr22 := Kd.C_mid (lo := ((ji12) : Int).toNat) (hi := ((wrap64 ((ji12) + (wrap64 (rd l0 a1)))) : Int).toNat) (c := c0) hC22 (by omega) (by omega) hroom22
          obtain ⟨A22, hA22⟩ : ∃ A1, A1 = (if c0 = ((ji12) : Int).toNat then (some ad535) else ((some ad535) : Option Addr).map (·.add (((ji12) : Int).toNat * 1))) := ⟨_, rfl⟩
          obtain ⟨c22, hc22⟩ : ∃ c1, c1 = c0 - ((ji12) : Int).toNat := ⟨_, rfl⟩
          have hy22 : y536.length = ((wrap64 ((ji12) + (wrap64 (rd l0 a1)))) : Int).toNat - ((ji12) : Int).toNat := (by rw [Ny536.out, List.length_drop, List.length_take] <;> omega)
          rw [show ((l0).take ((wrap64 ((ji12) + (wrap64 (rd l0 a1)))) : Int).toNat).drop ((ji12) : Int).toNat = y536 from Ny536.out.symm] at hr22
          replace hr22 : Kd.C (Kd.int .u8) _ A22 y536.length y536 := (by rw [hA22]; exact hr22)
          rw [← hy22, ← hA22, ← hc22] at hcut22
          have HR539 := aS hr22
          have HC539 := aS (show y536.length ≤ c22 from by rw [hy22, hc22]; exact Nat.sub_le_sub_right (Nat.le_trans (by omega) hroom22) _)
          clear hr22 hC22 hroom22 hi022 hsz22 hc22
          have KY22 := aS hy22
          have KA22 := aS hA22
          clear hy22 hA22
          replace q22 := eq_true q22
          have hcv23 := Kd.C_string (P := Tryd.prog) (A := A22) (c := c22) Tryd.underlying22 Tryd.underlying5 Tryd.underlying9 (Kd.C_below HR539.out HB.out)
          go_wp2_with (first | ((with_reducible refine gate_callee (f := 161) rfl ?_); refine goesL_ (some 50) rfl rfl Tryd.func161 jK rfl #[.string (strOfNums y536)] rfl jA ?_; (with_reducible refine (impl_Fold.calls (strOfNums y536) t540 _ A16.out).mono ?_); rintro e w24 ⟨rfl, hb⟩; refine ⟨_, rfl, ?_⟩; have n0_ := aS (below_step (wU HB.out) hb); clear HB; revert n0_; intro HB; clear hb) | ((with_reducible refine gate_callee (f := 126) rfl ?_); refine goesL_ (some 52) rfl rfl Tryd.func126 jK rfl #[.string t540] rfl jA ?_; (with_reducible refine (impl_LabelOk.calls kj2 t540 false _ A17.out).mono ?_); rintro e w' ⟨rfl, ⟨nd, rfl⟩⟩; refine ⟨_, rfl, ?_⟩))
          go_ret3
          exact ⟨by first | rfl | (simp [errW_none, errW_some] <;> rfl) | (simp only [← hji12]; first | rfl | (simp [errW_none, errW_some] <;> rfl)) | (simp [*, errW_none, errW_some] <;> rfl), by repeat (first | (with_reducible first | exact HB.out | apply below_alloc | apply pw_below_drewN | apply below_drew1) | exact HB.out)⟩
        ·rw [if_neg c15] at H
         exact absurd H (by simp)
       ·rw [if_neg c14] at H
        exact absurd H (by simp)
      ·rw [if_neg c13] at H
       exact absurd H (by simp)
     ·rw [if_neg c11] at H
      exact absurd H (by simp)
    ·rw [if_neg c10] at H
     exact absurd H (by simp)

/-! ### impl_read: function 127 -/
mutual
def impl_read.l0 : Nat → List Int → List ByteArray → Int → Int → Int → Int → Option (ByteArray × Int × Int × Int)
 | 0, _, _, _, _, _, _ => none
 | k + 1, x0, x8, x9, x10, x11, x12 => if x12 < 0 then (impl_read.j1 k x0 x8 x9 x10 x11 x12 true) else (impl_read.j1 k x0 x8 x9 x10 x11 x12 (decide (x12 ≥ (x0.length : Int))))
def impl_read.j1 : Nat → List Int → List ByteArray → Int → Int → Int → Int → Bool → Option (ByteArray × Int × Int × Int)
 | 0, _, _, _, _, _, _, _ => none
 | k + 1, x0, x8, x9, x10, x11, x12, x28 => if x28 = true then (some ((⟨#[]⟩ : ByteArray), 0, 1, x11)) else (if 0 ≤ x12 then (if x12 < (x0.length : Int) then (if (wrap64 (rd x0 x12)) = 0 then (if x9 < 0 then ((impl_JoinLabels.f x8).bind fun t546 => (some (t546, wrap64 (x12 + 1), 0, x11))) else ((impl_JoinLabels.f x8).bind fun t547 => (some (t547, x9, 0, x11)))) else (if (wrap64 (rd x0 x12)) ≥ 192 then (if (wrap64 (x12 + 1)) ≥ (x0.length : Int) then (some ((⟨#[]⟩ : ByteArray), 0, 1, x11)) else (if 0 ≤ (wrap64 (x12 + 1)) then (if (wrap64 (x12 + 1)) < (x0.length : Int) then (if (wrap64 ((wrap64 (256 * (wrap64 ((wrap64 (rd x0 x12)) - 192)))) + (wrap64 (rd x0 (wrap64 (x12 + 1)))))) ≥ x10 then (some ((⟨#[]⟩ : ByteArray), 0, 3, x11)) else (if x9 < 0 then (impl_read.l0 k x0 x8 (wrap64 (x12 + 2)) (wrap64 ((wrap64 (256 * (wrap64 ((wrap64 (rd x0 x12)) - 192)))) + (wrap64 (rd x0 (wrap64 (x12 + 1)))))) (wrap64 (x11 + 1)) (wrap64 ((wrap64 (256 * (wrap64 ((wrap64 (rd x0 x12)) - 192)))) + (wrap64 (rd x0 (wrap64 (x12 + 1))))))) else (impl_read.l0 k x0 x8 x9 (wrap64 ((wrap64 (256 * (wrap64 ((wrap64 (rd x0 x12)) - 192)))) + (wrap64 (rd x0 (wrap64 (x12 + 1)))))) (wrap64 (x11 + 1)) (wrap64 ((wrap64 (256 * (wrap64 ((wrap64 (rd x0 x12)) - 192)))) + (wrap64 (rd x0 (wrap64 (x12 + 1))))))))) else (none)) else (none))) else (if (wrap64 (rd x0 x12)) > 12 then (some ((⟨#[]⟩ : ByteArray), 0, 2, x11)) else (if (wrap64 (rd x0 x12)) ≥ (wrap64 ((x0.length : Int) - x12)) then (some ((⟨#[]⟩ : ByteArray), 0, 1, x11)) else ((impl_GetLabel.f k x0 x12).bind fun bt549 => (if bt549.2.2 = true then (if x8.length < 8796093022208 then ((some (x8 ++ [bt549.1] : List ByteArray)).bind fun y552 => ((impl_JoinLabels.f y552).bind fun t555 => ((impl_NameOk.f k t555).bind fun t556 => (if t556 = true then (impl_read.l0 k x0 y552 x9 x10 x11 bt549.2.1) else (some ((⟨#[]⟩ : ByteArray), 0, 4, x11)))))) else (none)) else (some ((⟨#[]⟩ : ByteArray), 0, 2, x11)))))))) else (none)) else (none))
end
def impl_read.f (k : Nat) (l0 : List Int) (a1 : Int) : Option (ByteArray × Int × Int × Int) := impl_read.l0 k l0 (([] : List ByteArray)) (-1) a1 0 a1
theorem impl_read.mono_l : ∀ k, (∀ y0 y1 y2 y3 y4 y5, LeO (impl_read.l0 k y0 y1 y2 y3 y4 y5) (impl_read.l0 (k + 1) y0 y1 y2 y3 y4 y5)) ∧ (∀ y0 y1 y2 y3 y4 y5 y6, LeO (impl_read.j1 k y0 y1 y2 y3 y4 y5 y6) (impl_read.j1 (k + 1) y0 y1 y2 y3 y4 y5 y6))
 | 0 => ⟨fun _ _ _ _ _ _ r h => by simp [impl_read.l0] at h, fun _ _ _ _ _ _ _ r h => by simp [impl_read.j1] at h⟩
 | k + 1 => by
  obtain ⟨ih0, ih1⟩ := impl_read.mono_l k
  refine ⟨?_, ?_⟩
  ·intro y0 y1 y2 y3 y4 y5
   unfold impl_read.l0
   repeat' first
   | (with_reducible first | exact ih0 _ _ _ _ _ _ | exact ih1 _ _ _ _ _ _ _ | exact impl_GetLabel.mono _ _ _ | exact impl_NameOk.mono _ _ | exact LeO.refl _ | exact LeO.none _ | refine LeO.ite ?_ ?_ | refine LeO.bind ?_ (fun _ => ?_))
   | exact ih0 _ _ _ _ _ _
   | exact ih1 _ _ _ _ _ _ _
   | exact impl_GetLabel.mono _ _ _
   | exact impl_NameOk.mono _ _
   | exact LeO.none _
   | refine LeO.ite ?_ ?_
   | refine LeO.bind ?_ (fun _ => ?_)
  ·intro y0 y1 y2 y3 y4 y5 y6
   unfold impl_read.j1
   repeat' first
   | (with_reducible first | exact ih0 _ _ _ _ _ _ | exact ih1 _ _ _ _ _ _ _ | exact impl_GetLabel.mono _ _ _ | exact impl_NameOk.mono _ _ | exact LeO.refl _ | exact LeO.none _ | refine LeO.ite ?_ ?_ | refine LeO.bind ?_ (fun _ => ?_))
   | exact ih0 _ _ _ _ _ _
   | exact ih1 _ _ _ _ _ _ _
   | exact impl_GetLabel.mono _ _ _
   | exact impl_NameOk.mono _ _
   | exact LeO.none _
   | refine LeO.ite ?_ ?_
   | refine LeO.bind ?_ (fun _ => ?_)
theorem impl_read.mono : ∀ a0 a1 k, LeO (impl_read.f k a0 a1) (impl_read.f (k + 1) a0 a1) := by
 intro a0 a1 k
 obtain ⟨ih0, ih1⟩ := impl_read.mono_l k
 unfold impl_read.f
 repeat' first
   | (with_reducible first | exact ih0 _ _ _ _ _ _ | exact ih1 _ _ _ _ _ _ _ | exact impl_GetLabel.mono _ _ _ | exact impl_NameOk.mono _ _ | exact LeO.refl _ | exact LeO.none _ | refine LeO.ite ?_ ?_ | refine LeO.bind ?_ (fun _ => ?_))
   | exact ih0 _ _ _ _ _ _
   | exact ih1 _ _ _ _ _ _ _
   | exact impl_GetLabel.mono _ _ _
   | exact impl_NameOk.mono _ _
   | exact LeO.none _
   | refine LeO.ite ?_ ?_
   | refine LeO.bind ?_ (fun _ => ?_)
set_option maxHeartbeats 8000000 in
set_option maxRecDepth 100000 in
theorem impl_read.calls (k : Nat) (A0 : Option Addr) (c0 : Nat) (l0 : List Int) (a1 : Int) (r1 : ByteArray) (r2 : Int) (r3 : Int) (r4 : Int) (w : World) (hr0 : Kd.C (Kd.int .u8) w A0 l0.length l0) (hc0 : l0.length ≤ c0) (h : impl_read.f k l0 a1 = some (r1, r2, r3, r4)) :
  Calls Tryd.prog 127 #[.slice A0 l0.length c0, .int .i64 a1] w fun e w' => e = .returned (.tuple #[.string r1, .int .i64 r2, .int .i64 r3, .int .i64 r4]) ∧ Below w.heap.size w w' := by
 have HR0 := aS hr0
 have HC0 := aS hc0
 clear hr0 hc0
 have HB := aS (Below.refl w.heap.size w)
 have H : (impl_read.l0 k l0 (([] : List ByteArray)) (-1) a1 0 a1) = some (r1, r2, r3, r4) := h
 clear h
 obtain ⟨y542, hy_⟩ : ∃ y_ : List ByteArray, y_ = (([] : List ByteArray)) := ⟨_, rfl⟩
 replace H : (impl_read.l0 k l0 y542 (-1) a1 0 a1) = some (r1, r2, r3, r4) := jD
 have Ny542 := aS hy_
 clear hy_
 have H' := aS H
 clear H
 go_enter Tryd.func127, Tryd.ntmps127
 go_wp2_with (first | ((with_reducible refine gate_dst (N := 18) rfl ?_); (try (refine gate_guard (by rfl) ?_; dsimp only)); refine Kd.R_lit Kd.string _ 9 ?hg (N := 18) ?hd (xs := ([] : List ByteArray)) (inner := []) (ok := fun _ => True) (okp := fun _ => True) ?hr ?hp (fun _ hk => hk) trivial (Below.refl _ _) (Nat.le_refl _) (by simp) ?_; (case hd => rfl); (case hg => rfl); (case hr => first | (go_simp; done) | (go_simp; rfl)); (case hp => exact (Reps.none _ _)); intro v543 w3 ho4 hb hg_ hnew_; clear hg_ hnew_; (first | rw [← Ny542.out] at ho4 | (simp only [Int.reduceToNat] at ho4; rw [← Ny542.out] at ho4)); have n0_ := aS (Kd.R_lower ho4 (below_size (wU HB.out))); have n1_ := aS (below_step (wU HB.out) hb); clear HB; revert n0_ n1_; intro HO544 HB; clear hb ho4))
 go_loopg [8, 9, 10, 11, 12] k (fun kq v8 v9 v10 v11 v12 w' => ∃ (x8_1 : List ByteArray) (x9_1 : Int) (x10_1 : Int) (x11_1 : Int) (x12_1 : Int), v9 = .int .i64 x9_1 ∧ v10 = .int .i64 x10_1 ∧ v11 = .int .i64 x11_1 ∧ v12 = .int .i64 x12_1 ∧ Aside0 (impl_read.l0 kq l0 x8_1 x9_1 x10_1 x11_1 x12_1 = some (r1, r2, r3, r4)) ∧ Aside0 (kq ≤ k) ∧ Aside0 (Kd.R Kd.string 9 w' w.heap.size (fun _ => True) v8 x8_1) ∧ Aside0 (Below w.heap.size w w'))
 case atStart => exact ⟨(y542), ((-1)), (a1), (0), (a1), jB, jB, jB, jB, H', ⟨Nat.le_refl _⟩, ⟨by (with_reducible repeat (first | apply Kd.R_alloc | apply Kd.R_drewN | apply Kd.R_drew)); exact HO544.out⟩, ⟨by repeat (first | (with_reducible first | exact HB.out | apply below_alloc | apply pw_below_drewN | apply below_drew1) | exact HB.out)⟩⟩
 case round =>
  clear H'
  try clear c1
  try clear p2
  obtain ⟨x8_1, x9_1, x10_1, x11_1, x12_1, rfl, rfl, rfl, rfl, HA, HK1, HO_8, HB⟩ := hrel
  cases gk with
  | zero => exact absurd HA.out (by simp [impl_read.l0])
  | succ k1 =>
   have H := HA.out
   clear HA
   simp only [impl_read.l0] at H
   have HC5 := aS H
   clear H
   go_upto_region 6 with (fail)
   go_cut [28] (fun v28 wc => ∃ (kq : Nat) (x28_4 : Bool), v28 = .bool x28_4 ∧ Aside0 (impl_read.j1 kq l0 x8_1 x9_1 x10_1 x11_1 x12_1 x28_4 = some (r1, r2, r3, r4)) ∧ Aside0 (kq ≤ k1) ∧ Aside0 (Kd.R Kd.string 9 wc w.heap.size (fun _ => True) u8 x8_1) ∧ Aside0 (Below w.heap.size w wc))
   case first =>
    have H := HC5.out
    clear HC5
    by_cases c6 : x12_1 < 0
    ·rw [if_pos c6] at H
     have c6b0 : decide (x12_1 < 0) = true := decide_eq_true c6
     clear c6
     (first | rw [c6b0] | (simp only [i64_w, i32_w]; rw [c6b0]) | skip)
     have H' := aS H
     clear H
     go_wp2
     go_meet
     case rel => exact ⟨_, (true), jB, H', ⟨by have := HK1.out; first | omega | exact Nat.le_refl _⟩, ⟨by (with_reducible repeat (first | apply Kd.R_alloc | apply Kd.R_drewN | apply Kd.R_drew)); exact HO_8.out⟩, ⟨by repeat (first | (with_reducible first | exact HB.out | apply below_alloc | apply pw_below_drewN | apply below_drew1) | exact HB.out)⟩⟩
    ·rw [if_neg c6] at H
     have c6b0 : decide (x12_1 < 0) = false := decide_eq_false c6
     clear c6
     (first | rw [c6b0] | (simp only [i64_w, i32_w]; rw [c6b0]) | skip)
     have H' := aS H
     clear H
     go_wp2
     go_meet
     case rel => exact ⟨_, (decide (x12_1 ≥ (l0.length : Int))), jB, H', ⟨by have := HK1.out; first | omega | exact Nat.le_refl _⟩, ⟨by (with_reducible repeat (first | apply Kd.R_alloc | apply Kd.R_drewN | apply Kd.R_drew)); exact HO_8.out⟩, ⟨by repeat (first | (with_reducible first | exact HB.out | apply below_alloc | apply pw_below_drewN | apply below_drew1) | exact HB.out)⟩⟩
   case rest =>
    clear HC5
    try clear c1
    try clear p2
    try clear c6
    try clear c6b0
    try clear p2
    obtain ⟨kq, x28_4, rfl, HA, HJ4, HO_8, HB⟩ := hcut
    cases kq with
    | zero => exact absurd HA.out (by simp [impl_read.j1])
    | succ kj4 =>
     have H := HA.out
     clear HA
     simp only [impl_read.j1] at H
     by_cases c7 : x28_4 = true
     ·subst c7
      have H1 : (some ((⟨#[]⟩ : ByteArray), 0, 1, x11_1)) = some (r1, r2, r3, r4) := by rw [if_pos rfl] at H; exact H
      clear H
      have H := H1
      clear H1
      simp only [Option.some.injEq, Prod.mk.injEq] at H
      obtain ⟨rfl, rfl, rfl, rfl⟩ := H
      go_wp2
      refine bodyPost_ret (results_list (rs := [.tmp 4, .tmp 5, .tmp 6, .tmp 7]) rfl (by simp) (.tmp (.tmp (.tmp (.tmp .nil))))) rfl ?_
      exact ⟨jE, by repeat (first | (with_reducible first | exact HB.out | apply below_alloc | apply pw_below_drewN | apply below_drew1) | exact HB.out)⟩
     ·replace c7 := Bool.eq_false_iff.mpr c7
      subst c7
      have H1 : (if 0 ≤ x12_1 then (if x12_1 < (l0.length : Int) then (if (wrap64 (rd l0 x12_1)) = 0 then (if x9_1 < 0 then ((impl_JoinLabels.f x8_1).bind fun t546 => (some (t546, wrap64 (x12_1 + 1), 0, x11_1))) else ((impl_JoinLabels.f x8_1).bind fun t547 => (some (t547, x9_1, 0, x11_1)))) else (if (wrap64 (rd l0 x12_1)) ≥ 192 then (if (wrap64 (x12_1 + 1)) ≥ (l0.length : Int) then (some ((⟨#[]⟩ : ByteArray), 0, 1, x11_1)) else (if 0 ≤ (wrap64 (x12_1 + 1)) then (if (wrap64 (x12_1 + 1)) < (l0.length : Int) then (if (wrap64 ((wrap64 (256 * (wrap64 ((wrap64 (rd l0 x12_1)) - 192)))) + (wrap64 (rd l0 (wrap64 (x12_1 + 1)))))) ≥ x10_1 then (some ((⟨#[]⟩ : ByteArray), 0, 3, x11_1)) else (if x9_1 < 0 then (impl_read.l0 kj4 l0 x8_1 (wrap64 (x12_1 + 2)) (wrap64 ((wrap64 (256 * (wrap64 ((wrap64 (rd l0 x12_1)) - 192)))) + (wrap64 (rd l0 (wrap64 (x12_1 + 1)))))) (wrap64 (x11_1 + 1)) (wrap64 ((wrap64 (256 * (wrap64 ((wrap64 (rd l0 x12_1)) - 192)))) + (wrap64 (rd l0 (wrap64 (x12_1 + 1))))))) else (impl_read.l0 kj4 l0 x8_1 x9_1 (wrap64 ((wrap64 (256 * (wrap64 ((wrap64 (rd l0 x12_1)) - 192)))) + (wrap64 (rd l0 (wrap64 (x12_1 + 1)))))) (wrap64 (x11_1 + 1)) (wrap64 ((wrap64 (256 * (wrap64 ((wrap64 (rd l0 x12_1)) - 192)))) + (wrap64 (rd l0 (wrap64 (x12_1 + 1))))))))) else (none)) else (none))) else (if (wrap64 (rd l0 x12_1)) > 12 then (some ((⟨#[]⟩ : ByteArray), 0, 2, x11_1)) else (if (wrap64 (rd l0 x12_1)) ≥ (wrap64 ((l0.length : Int) - x12_1)) then (some ((⟨#[]⟩ : ByteArray), 0, 1, x11_1)) else ((impl_GetLabel.f kj4 l0 x12_1).bind fun bt549 => (if bt549.2.2 = true then (if x8_1.length < 8796093022208 then ((some (x8_1 ++ [bt549.1] : List ByteArray)).bind fun y552 => ((impl_JoinLabels.f y552).bind fun t555 => ((impl_NameOk.f kj4 t555).bind fun t556 => (if t556 = true then (impl_read.l0 kj4 l0 y552 x9_1 x10_1 x11_1 bt549.2.1) else (some ((⟨#[]⟩ : ByteArray), 0, 4, x11_1)))))) else (none)) else (some ((⟨#[]⟩ : ByteArray), 0, 2, x11_1)))))))) else (none)) else (none)) = some (r1, r2, r3, r4) := by rw [if_neg (show ¬ (false = true) by decide)] at H; exact H
      clear H
      have H := H1
      clear H1
      by_cases c8 : 0 ≤ x12_1
      ·rw [if_pos c8] at H
       have c8b0 : decide (0 ≤ x12_1) = true := decide_eq_true c8
       clear c8
       by_cases c9 : x12_1 < (l0.length : Int)
       ·rw [if_pos c9] at H
        have c9b0 : decide (x12_1 < (l0.length : Int)) = true := decide_eq_true c9
        clear c9
        by_cases c10 : (wrap64 (rd l0 x12_1)) = 0
        ·rw [if_pos c10] at H
         have c10b0 : ((wrap64 (rd l0 x12_1)) == 0) = true := beq_iff_eq.mpr c10
         have c10b1 : ((wrap64 (rd l0 x12_1)) != 0) = false := bne_eq_false_iff_eq.mpr c10
         clear c10
         by_cases c11 : x9_1 < 0
         ·rw [if_pos c11] at H
          have c11b0 : decide (x9_1 < 0) = true := decide_eq_true c11
          clear c11
          replace H := Option.bind_eq_some_iff.mp H
          obtain ⟨t546, A12, H⟩ := H
          try dsimp only at H
          replace A12 := aS A12
          simp only [Option.some.injEq, Prod.mk.injEq] at H
          obtain ⟨rfl, rfl, rfl, rfl⟩ := H
          have p545 : 0 ≤ (x12_1 : Int) := of_decide_eq_true jC
          have q545 : x12_1 < (l0.length : Int) := of_decide_eq_true jC
          obtain ⟨ad545, e545, hx545_0⟩ := Kd.at_int HR0.out x12_1 p545 q545
          cases e545
          try replace hx545_0 := (HB.out.cell (World.block_lt_of_cell? w _ hx545_0)).trans hx545_0
          replace p545 := eq_true p545
          replace q545 := eq_true q545
          obtain ⟨Ao13, co13, eo13⟩ := Kd.R_slice HO_8.out
          subst eo13
          go_wp2_with (first | ((with_reducible refine gate_callee (f := 146) rfl ?_); refine goesL_ (some 43) rfl rfl Tryd.func146 jK rfl #[.slice Ao13 x8_1.length co13] rfl jA ?_; (with_reducible refine (impl_JoinLabels.calls _ _ x8_1 t546 _ ?side1 ?side2 A12.out).mono ?_); (case side1 => exact cU ((Kd.R_reads' HO_8.out).2.2)); (case side2 => exact (Kd.R_reads' HO_8.out).2.1); rintro e w14 ⟨rfl, hb⟩; refine ⟨_, rfl, ?_⟩; have n0_ := aS (Kd.R_below (rU HO_8.out) hb); have n1_ := aS (below_step (wU HB.out) hb); clear HO_8 HB; revert n0_ n1_; intro HO_8 HB; clear hb))
          refine bodyPost_ret (results_list (rs := [.tmp 4, .tmp 5, .tmp 6, .tmp 7]) rfl (by simp) (.tmp (.tmp (.tmp (.tmp .nil))))) rfl ?_
          exact ⟨jE, by repeat (first | (with_reducible first | exact HB.out | apply below_alloc | apply pw_below_drewN | apply below_drew1) | exact HB.out)⟩
         ·rw [if_neg c11] at H
          have c11b0 : decide (x9_1 < 0) = false := decide_eq_false c11
          clear c11
          replace H := Option.bind_eq_some_iff.mp H
          obtain ⟨t547, A15, H⟩ := H
          try dsimp only at H
          replace A15 := aS A15
          simp only [Option.some.injEq, Prod.mk.injEq] at H
          obtain ⟨rfl, rfl, rfl, rfl⟩ := H
          have p545 : 0 ≤ (x12_1 : Int) := of_decide_eq_true jC
          have q545 : x12_1 < (l0.length : Int) := of_decide_eq_true jC
          obtain ⟨ad545, e545, hx545_0⟩ := Kd.at_int HR0.out x12_1 p545 q545
          cases e545
          try replace hx545_0 := (HB.out.cell (World.block_lt_of_cell? w _ hx545_0)).trans hx545_0
          replace p545 := eq_true p545
          replace q545 := eq_true q545
          obtain ⟨Ao16, co16, eo16⟩ := Kd.R_slice HO_8.out
          subst eo16
          go_wp2_with (first | ((with_reducible refine gate_callee (f := 146) rfl ?_); refine goesL_ (some 43) rfl rfl Tryd.func146 jK rfl #[.slice Ao16 x8_1.length co16] rfl jA ?_; (with_reducible refine (impl_JoinLabels.calls _ _ x8_1 t547 _ ?side1 ?side2 A15.out).mono ?_); (case side1 => exact cU ((Kd.R_reads' HO_8.out).2.2)); (case side2 => exact (Kd.R_reads' HO_8.out).2.1); rintro e w17 ⟨rfl, hb⟩; refine ⟨_, rfl, ?_⟩; have n0_ := aS (Kd.R_below (rU HO_8.out) hb); have n1_ := aS (below_step (wU HB.out) hb); clear HO_8 HB; revert n0_ n1_; intro HO_8 HB; clear hb))
          refine bodyPost_ret (results_list (rs := [.tmp 4, .tmp 5, .tmp 6, .tmp 7]) rfl (by simp) (.tmp (.tmp (.tmp (.tmp .nil))))) rfl ?_
          exact ⟨jE, by repeat (first | (with_reducible first | exact HB.out | apply below_alloc | apply pw_below_drewN | apply below_drew1) | exact HB.out)⟩
        ·rw [if_neg c10] at H
         have c10b0 : ((wrap64 (rd l0 x12_1)) == 0) = false := beq_eq_false_iff_ne.mpr c10
         have c10b1 : ((wrap64 (rd l0 x12_1)) != 0) = true := bne_iff_ne.mpr c10
         by_cases c18 : (wrap64 (rd l0 x12_1)) ≥ 192
         ·rw [if_pos c18] at H
          have c18b0 : decide (192 ≤ (wrap64 (rd l0 x12_1))) = true := decide_eq_true c18
          clear c18
          by_cases c19 : (wrap64 (x12_1 + 1)) ≥ (l0.length : Int)
          ·rw [if_pos c19] at H
           have c19b0 : decide ((l0.length : Int) ≤ (wrap64 (x12_1 + 1))) = true := decide_eq_true c19
           clear c19
           simp only [Option.some.injEq, Prod.mk.injEq] at H
           obtain ⟨rfl, rfl, rfl, rfl⟩ := H
           have p545 : 0 ≤ (x12_1 : Int) := of_decide_eq_true jC
           have q545 : x12_1 < (l0.length : Int) := of_decide_eq_true jC
           obtain ⟨ad545, e545, hx545_0⟩ := Kd.at_int HR0.out x12_1 p545 q545
           cases e545
           try replace hx545_0 := (HB.out.cell (World.block_lt_of_cell? w _ hx545_0)).trans hx545_0
           replace p545 := eq_true p545
           replace q545 := eq_true q545
           go_wp2
           refine bodyPost_ret (results_list (rs := [.tmp 4, .tmp 5, .tmp 6, .tmp 7]) rfl (by simp) (.tmp (.tmp (.tmp (.tmp .nil))))) rfl ?_
           exact ⟨jE, by repeat (first | (with_reducible first | exact HB.out | apply below_alloc | apply pw_below_drewN | apply below_drew1) | exact HB.out)⟩
          ·rw [if_neg c19] at H
           have c19b0 : decide ((l0.length : Int) ≤ (wrap64 (x12_1 + 1))) = false := decide_eq_false c19
           clear c19
           obtain ⟨ji20, hji20⟩ : ∃ j_ : Int, (wrap64 (x12_1 + 1)) = j_ := ⟨_, rfl⟩
           replace H : (if 0 ≤ (ji20) then (if (ji20) < (l0.length : Int) then (if (wrap64 ((wrap64 (256 * (wrap64 ((wrap64 (rd l0 x12_1)) - 192)))) + (wrap64 (rd l0 (ji20))))) ≥ x10_1 then (some ((⟨#[]⟩ : ByteArray), 0, 3, x11_1)) else (if x9_1 < 0 then (impl_read.l0 kj4 l0 x8_1 (wrap64 (x12_1 + 2)) (wrap64 ((wrap64 (256 * (wrap64 ((wrap64 (rd l0 x12_1)) - 192)))) + (wrap64 (rd l0 (ji20))))) (wrap64 (x11_1 + 1)) (wrap64 ((wrap64 (256 * (wrap64 ((wrap64 (rd l0 x12_1)) - 192)))) + (wrap64 (rd l0 (ji20)))))) else (impl_read.l0 kj4 l0 x8_1 x9_1 (wrap64 ((wrap64 (256 * (wrap64 ((wrap64 (rd l0 x12_1)) - 192)))) + (wrap64 (rd l0 (ji20))))) (wrap64 (x11_1 + 1)) (wrap64 ((wrap64 (256 * (wrap64 ((wrap64 (rd l0 x12_1)) - 192)))) + (wrap64 (rd l0 (ji20)))))))) else (none)) else (none)) = some (r1, r2, r3, r4) := by first | (rw [hji20] at H; exact H) | (simp only [hji20] at H ⊢; exact H)
           (try rw [hji20] at c19b0)
           have hji20w : (IntKind.i64.wrap (x12_1 + 1)) = ji20 := (i64_w _).trans hji20
           by_cases c21 : 0 ≤ (ji20)
           ·rw [if_pos c21] at H
            have c21b0 : decide (0 ≤ (ji20)) = true := decide_eq_true c21
            clear c21
            by_cases c22 : (ji20) < (l0.length : Int)
            ·rw [if_pos c22] at H
             have c22b0 : decide ((ji20) < (l0.length : Int)) = true := decide_eq_true c22
             clear c22
             by_cases c23 : (wrap64 ((wrap64 (256 * (wrap64 ((wrap64 (rd l0 x12_1)) - 192)))) + (wrap64 (rd l0 (ji20))))) ≥ x10_1
             ·rw [if_pos c23] at H
              have c23b0 : decide (x10_1 ≤ (wrap64 ((wrap64 (256 * (wrap64 ((wrap64 (rd l0 x12_1)) - 192)))) + (wrap64 (rd l0 (ji20)))))) = true := decide_eq_true c23
              clear c23
              simp only [Option.some.injEq, Prod.mk.injEq] at H
              obtain ⟨rfl, rfl, rfl, rfl⟩ := H
              have p545 : 0 ≤ (x12_1 : Int) := of_decide_eq_true jC
              have q545 : x12_1 < (l0.length : Int) := of_decide_eq_true jC
              obtain ⟨ad545, e545, hx545_0⟩ := Kd.at_int HR0.out x12_1 p545 q545
              cases e545
              try replace hx545_0 := (HB.out.cell (World.block_lt_of_cell? w _ hx545_0)).trans hx545_0
              replace p545 := eq_true p545
              replace q545 := eq_true q545
              have p548 : 0 ≤ ((ji20) : Int) := of_decide_eq_true jC
              have q548 : (ji20) < (l0.length : Int) := of_decide_eq_true jC
              obtain ⟨ad548, e548, hx548_0⟩ := Kd.at_int HR0.out (ji20) p548 q548
              obtain rfl : ad545 = ad548 := (by injection e548)
              try replace hx548_0 := (HB.out.cell (World.block_lt_of_cell? w _ hx548_0)).trans hx548_0
              replace p548 := eq_true p548
              replace q548 := eq_true q548
              go_wp2
              refine bodyPost_ret (results_list (rs := [.tmp 4, .tmp 5, .tmp 6, .tmp 7]) rfl (by simp) (.tmp (.tmp (.tmp (.tmp .nil))))) rfl ?_
              exact ⟨by first | rfl | (simp [errW_none, errW_some] <;> rfl) | (simp only [← hji20]; first | rfl | (simp [errW_none, errW_some] <;> rfl)) | (simp [*, errW_none, errW_some] <;> rfl), by repeat (first | (with_reducible first | exact HB.out | apply below_alloc | apply pw_below_drewN | apply below_drew1) | exact HB.out)⟩
             ·rw [if_neg c23] at H
              have c23b0 : decide (x10_1 ≤ (wrap64 ((wrap64 (256 * (wrap64 ((wrap64 (rd l0 x12_1)) - 192)))) + (wrap64 (rd l0 (ji20)))))) = false := decide_eq_false c23
              clear c23
              by_cases c24 : x9_1 < 0
              ·rw [if_pos c24] at H
               have c24b0 : decide (x9_1 < 0) = true := decide_eq_true c24
               clear c24
               have H' := aS H
               clear H
               have p545 : 0 ≤ (x12_1 : Int) := of_decide_eq_true jC
               have q545 : x12_1 < (l0.length : Int) := of_decide_eq_true jC
               obtain ⟨ad545, e545, hx545_0⟩ := Kd.at_int HR0.out x12_1 p545 q545
               cases e545
               try replace hx545_0 := (HB.out.cell (World.block_lt_of_cell? w _ hx545_0)).trans hx545_0
               replace p545 := eq_true p545
               replace q545 := eq_true q545
               have p548 : 0 ≤ ((ji20) : Int) := of_decide_eq_true jC
               have q548 : (ji20) < (l0.length : Int) := of_decide_eq_true jC
               obtain ⟨ad548, e548, hx548_0⟩ := Kd.at_int HR0.out (ji20) p548 q548
               obtain rfl : ad545 = ad548 := (by injection e548)
               try replace hx548_0 := (HB.out.cell (World.block_lt_of_cell? w _ hx548_0)).trans hx548_0
               replace p548 := eq_true p548
               replace q548 := eq_true q548
               go_wp2
               go_roundg kj4
               case measure => have := HK1.out; have := HJ4.out; omega
               case rel => exact ⟨(x8_1), (wrap64 (x12_1 + 2)), (wrap64 ((wrap64 (256 * (wrap64 ((wrap64 (rd l0 x12_1)) - 192)))) + (wrap64 (rd l0 (ji20))))), (wrap64 (x11_1 + 1)), (wrap64 ((wrap64 (256 * (wrap64 ((wrap64 (rd l0 x12_1)) - 192)))) + (wrap64 (rd l0 (ji20))))), jB, (by first | rfl | (simp; done) | (simp only [← hji20] <;> (first | rfl | simp)) | (simp [*]; done)), jB, (by first | rfl | (simp; done) | (simp only [← hji20] <;> (first | rfl | simp)) | (simp [*]; done)), H', ⟨by have := HK1.out; have := HJ4.out; omega⟩, ⟨by (with_reducible repeat (first | apply Kd.R_alloc | apply Kd.R_drewN | apply Kd.R_drew)); exact HO_8.out⟩, ⟨by repeat (first | (with_reducible first | exact HB.out | apply below_alloc | apply pw_below_drewN | apply below_drew1) | exact HB.out)⟩⟩
              ·rw [if_neg c24] at H
               have c24b0 : decide (x9_1 < 0) = false := decide_eq_false c24
               clear c24
               have H' := aS H
               clear H
               have p545 : 0 ≤ (x12_1 : Int) := of_decide_eq_true jC
               have q545 : x12_1 < (l0.length : Int) := of_decide_eq_true jC
               obtain ⟨ad545, e545, hx545_0⟩ := Kd.at_int HR0.out x12_1 p545 q545
               cases e545
               try replace hx545_0 := (HB.out.cell (World.block_lt_of_cell? w _ hx545_0)).trans hx545_0
               replace p545 := eq_true p545
               replace q545 := eq_true q545
               have p548 : 0 ≤ ((ji20) : Int) := of_decide_eq_true jC
               have q548 : (ji20) < (l0.length : Int) := of_decide_eq_true jC
               obtain ⟨ad548, e548, hx548_0⟩ := Kd.at_int HR0.out (ji20) p548 q548
               obtain rfl : ad545 = ad548 := (by injection e548)
               try replace hx548_0 := (HB.out.cell (World.block_lt_of_cell? w _ hx548_0)).trans hx548_0
               replace p548 := eq_true p548
               replace q548 := eq_true q548
               go_wp2
               go_roundg kj4
               case measure => have := HK1.out; have := HJ4.out; omega
               case rel => exact ⟨(x8_1), (x9_1), (wrap64 ((wrap64 (256 * (wrap64 ((wrap64 (rd l0 x12_1)) - 192)))) + (wrap64 (rd l0 (ji20))))), (wrap64 (x11_1 + 1)), (wrap64 ((wrap64 (256 * (wrap64 ((wrap64 (rd l0 x12_1)) - 192)))) + (wrap64 (rd l0 (ji20))))), jB, (by first | rfl | (simp; done) | (simp only [← hji20] <;> (first | rfl | simp)) | (simp [*]; done)), jB, (by first | rfl | (simp; done) | (simp only [← hji20] <;> (first | rfl | simp)) | (simp [*]; done)), H', ⟨by have := HK1.out; have := HJ4.out; omega⟩, ⟨by (with_reducible repeat (first | apply Kd.R_alloc | apply Kd.R_drewN | apply Kd.R_drew)); exact HO_8.out⟩, ⟨by repeat (first | (with_reducible first | exact HB.out | apply below_alloc | apply pw_below_drewN | apply below_drew1) | exact HB.out)⟩⟩
            ·rw [if_neg c22] at H
             exact absurd H (by simp)
           ·rw [if_neg c21] at H
            exact absurd H (by simp)
         ·rw [if_neg c18] at H
          have c18b0 : decide (192 ≤ (wrap64 (rd l0 x12_1))) = false := decide_eq_false c18
          clear c18
          by_cases c25 : (wrap64 (rd l0 x12_1)) > 12
          ·rw [if_pos c25] at H
           have c25b0 : decide (12 < (wrap64 (rd l0 x12_1))) = true := decide_eq_true c25
           clear c25
           simp only [Option.some.injEq, Prod.mk.injEq] at H
           obtain ⟨rfl, rfl, rfl, rfl⟩ := H
           have p545 : 0 ≤ (x12_1 : Int) := of_decide_eq_true jC
           have q545 : x12_1 < (l0.length : Int) := of_decide_eq_true jC
           obtain ⟨ad545, e545, hx545_0⟩ := Kd.at_int HR0.out x12_1 p545 q545
           cases e545
           try replace hx545_0 := (HB.out.cell (World.block_lt_of_cell? w _ hx545_0)).trans hx545_0
           replace p545 := eq_true p545
           replace q545 := eq_true q545
           go_wp2
           refine bodyPost_ret (results_list (rs := [.tmp 4, .tmp 5, .tmp 6, .tmp 7]) rfl (by simp) (.tmp (.tmp (.tmp (.tmp .nil))))) rfl ?_
           exact ⟨jE, by repeat (first | (with_reducible first | exact HB.out | apply below_alloc | apply pw_below_drewN | apply below_drew1) | exact HB.out)⟩
          ·rw [if_neg c25] at H
           have c25b0 : decide (12 < (wrap64 (rd l0 x12_1))) = false := decide_eq_false c25
           clear c25
           by_cases c26 : (wrap64 (rd l0 x12_1)) ≥ (wrap64 ((l0.length : Int) - x12_1))
           ·rw [if_pos c26] at H
            have c26b0 : decide ((wrap64 ((l0.length : Int) - x12_1)) ≤ (wrap64 (rd l0 x12_1))) = true := decide_eq_true c26
            clear c26
            simp only [Option.some.injEq, Prod.mk.injEq] at H
            obtain ⟨rfl, rfl, rfl, rfl⟩ := H
            have p545 : 0 ≤ (x12_1 : Int) := of_decide_eq_true jC
            have q545 : x12_1 < (l0.length : Int) := of_decide_eq_true jC
            obtain ⟨ad545, e545, hx545_0⟩ := Kd.at_int HR0.out x12_1 p545 q545
            cases e545
            try replace hx545_0 := (HB.out.cell (World.block_lt_of_cell? w _ hx545_0)).trans hx545_0
            replace p545 := eq_true p545
            replace q545 := eq_true q545
            go_wp2
            refine bodyPost_ret (results_list (rs := [.tmp 4, .tmp 5, .tmp 6, .tmp 7]) rfl (by simp) (.tmp (.tmp (.tmp (.tmp .nil))))) rfl ?_
            exact ⟨jE, by repeat (first | (with_reducible first | exact HB.out | apply below_alloc | apply pw_below_drewN | apply below_drew1) | exact HB.out)⟩
           ·rw [if_neg c26] at H
            have c26b0 : decide ((wrap64 ((l0.length : Int) - x12_1)) ≤ (wrap64 (rd l0 x12_1))) = false := decide_eq_false c26
            clear c26
            replace H := Option.bind_eq_some_iff.mp H
            obtain ⟨⟨t549, t550, t551⟩, A27, H⟩ := H
            try dsimp only at H
            replace A27 := aS A27
            by_cases c28 : t551 = true
            ·subst c28
             have H1 : (if x8_1.length < 8796093022208 then ((some (x8_1 ++ [t549] : List ByteArray)).bind fun y552 => ((impl_JoinLabels.f y552).bind fun t555 => ((impl_NameOk.f kj4 t555).bind fun t556 => (if t556 = true then (impl_read.l0 kj4 l0 y552 x9_1 x10_1 x11_1 t550) else (some ((⟨#[]⟩ : ByteArray), 0, 4, x11_1)))))) else (none)) = some (r1, r2, r3, r4) := by rw [if_pos rfl] at H; exact H
             clear H
             have H := H1
             clear H1
             by_cases c29 : x8_1.length < 8796093022208
             ·rw [if_pos c29] at H
              have LMc29 := aS c29
              clear c29
              obtain ⟨y552, hy_⟩ : ∃ y_ : List ByteArray, y_ = (x8_1 ++ [t549]) := ⟨_, rfl⟩
              replace H : ((impl_JoinLabels.f y552).bind fun t555 => ((impl_NameOk.f kj4 t555).bind fun t556 => (if t556 = true then (impl_read.l0 kj4 l0 y552 x9_1 x10_1 x11_1 t550) else (some ((⟨#[]⟩ : ByteArray), 0, 4, x11_1))))) = some (r1, r2, r3, r4) := jD
              have Ny552 := aS hy_
              clear hy_
              replace H := Option.bind_eq_some_iff.mp H
              obtain ⟨t555, A30, H⟩ := H
              try dsimp only at H
              replace A30 := aS A30
              replace H := Option.bind_eq_some_iff.mp H
              obtain ⟨t556, A31, H⟩ := H
              try dsimp only at H
              replace A31 := aS A31
              have HC32 := aS H
              clear H
              have p545 : 0 ≤ (x12_1 : Int) := of_decide_eq_true jC
              have q545 : x12_1 < (l0.length : Int) := of_decide_eq_true jC
              obtain ⟨ad545, e545, hx545_0⟩ := Kd.at_int HR0.out x12_1 p545 q545
              cases e545
              try replace hx545_0 := (HB.out.cell (World.block_lt_of_cell? w _ hx545_0)).trans hx545_0
              replace p545 := eq_true p545
              replace q545 := eq_true q545
              go_upto_if 106 with (first | ((with_reducible refine gate_callee (f := 149) rfl ?_); refine goesL_ (some 92) rfl rfl Tryd.func149 jK rfl #[.slice (some ad545) l0.length c0, .int .i64 x12_1] rfl jA ?_; (with_reducible refine (impl_GetLabel.calls kj4 _ _ l0 x12_1 t549 t550 true _ ?side1 ?side2 A27.out).mono ?_); (case side1 => exact cU ((Kd.C_below HR0.out HB.out))); (case side2 => exact HC0.out); rintro e w33 ⟨rfl, hb⟩; refine ⟨_, rfl, ?_⟩; have n0_ := aS (Kd.R_below (rU HO_8.out) hb); have n1_ := aS (below_step (wU HB.out) hb); clear HO_8 HB; revert n0_ n1_; intro HO_8 HB; clear hb) | ((with_reducible refine gate_builtin (b := .append) (xs := #[.tmp 99, .tmp 101]) rfl ?_); (try (refine gate_guard (by rfl) ?_; dsimp only)); at_builtin; refine Kd.R_append Kd.string (w0 := w) w.heap.size rfl (.tmp 99) (.tmp 101) 108 9 (.string ⟨#[]⟩) 16 rfl Tryd.underlying108 info9 rfl (by decide) (by omega) u8 x8_1 t549 [.string t549] (fun _ => True) (fun _ => False) rfl rfl ?aP (fun _ hk => hk.elim) ?aF ?aO ?aB ?aS ?aL ?_; (case aP => exact rfl); (case aB => exact (wU HB.out)); (case aF => exact (fun _ _ => trivial)); (case aO => exact (rU HO_8.out)); (case aS => exact (below_size (wU HB.out))); (case aL => have := LMc29.out; omega); intro v553 w34 ho hb hg hat; rw [← Ny552.out] at ho; have n0_ := aS (hb); have n1_ := aS (ho); clear HB HO_8; revert n0_ n1_; intro HB HO554; clear ho hb hg hat; obtain ⟨Ao35, co35, eo35⟩ := Kd.R_slice HO554.out; subst eo35) | ((with_reducible refine gate_callee (f := 146) rfl ?_); refine goesL_ (some 104) rfl rfl Tryd.func146 jK rfl #[.slice Ao35 y552.length co35] rfl jA ?_; (with_reducible refine (impl_JoinLabels.calls _ _ y552 t555 _ ?side1 ?side2 A30.out).mono ?_); (case side1 => exact cU ((Kd.R_reads' HO554.out).2.2)); (case side2 => exact (Kd.R_reads' HO554.out).2.1); rintro e w36 ⟨rfl, hb⟩; refine ⟨_, rfl, ?_⟩; have n0_ := aS (Kd.R_below (rU HO554.out) hb); have n1_ := aS (below_step (wU HB.out) hb); clear HO554 HB; revert n0_ n1_; intro HO554 HB; clear hb) | ((with_reducible refine gate_callee (f := 67) rfl ?_); refine goesL_ (some 105) rfl rfl Tryd.func67 jK rfl #[.string t555] rfl jA ?_; (with_reducible refine (impl_NameOk.calls kj4 t555 t556 _ A31.out).mono ?_); rintro e w37 ⟨rfl, hb⟩; refine ⟨_, rfl, ?_⟩; have n0_ := aS (Kd.R_below (rU HO554.out) hb); have n1_ := aS (below_step (wU HB.out) hb); clear HO554 HB; revert n0_ n1_; intro HO554 HB; clear hb))
              (try simp only [Act.put, List.setIfInBounds_toArray, List.set_cons_zero, List.set_cons_succ])
              have H := HC32.out
              clear HC32
              by_cases c38 : t556 = true
              ·subst c38
               have H1 : (impl_read.l0 kj4 l0 y552 x9_1 x10_1 x11_1 t550) = some (r1, r2, r3, r4) := by rw [if_pos rfl] at H; exact H
               clear H
               have H := H1
               clear H1
               have H' := aS H
               clear H
               go_wp2
               go_roundg kj4
               case measure => have := HK1.out; have := HJ4.out; omega
               case rel => exact ⟨(y552), (x9_1), (x10_1), (x11_1), (t550), jB, jB, jB, jB, H', ⟨by have := HK1.out; have := HJ4.out; omega⟩, ⟨by (with_reducible repeat (first | apply Kd.R_alloc | apply Kd.R_drewN | apply Kd.R_drew)); exact HO554.out⟩, ⟨by repeat (first | (with_reducible first | exact HB.out | apply below_alloc | apply pw_below_drewN | apply below_drew1) | exact HB.out)⟩⟩
              ·replace c38 := Bool.eq_false_iff.mpr c38
               subst c38
               have H1 : (some ((⟨#[]⟩ : ByteArray), 0, 4, x11_1)) = some (r1, r2, r3, r4) := by rw [if_neg (show ¬ (false = true) by decide)] at H; exact H
               clear H
               have H := H1
               clear H1
               simp only [Option.some.injEq, Prod.mk.injEq] at H
               obtain ⟨rfl, rfl, rfl, rfl⟩ := H
               go_wp2
               refine bodyPost_ret (results_list (rs := [.tmp 4, .tmp 5, .tmp 6, .tmp 7]) rfl (by simp) (.tmp (.tmp (.tmp (.tmp .nil))))) rfl ?_
               exact ⟨jE, by repeat (first | (with_reducible first | exact HB.out | apply below_alloc | apply pw_below_drewN | apply below_drew1) | exact HB.out)⟩
             ·rw [if_neg c29] at H
              exact absurd H (by simp)
            ·replace c28 := Bool.eq_false_iff.mpr c28
             subst c28
             have H1 : (some ((⟨#[]⟩ : ByteArray), 0, 2, x11_1)) = some (r1, r2, r3, r4) := by rw [if_neg (show ¬ (false = true) by decide)] at H; exact H
             clear H
             have H := H1
             clear H1
             simp only [Option.some.injEq, Prod.mk.injEq] at H
             obtain ⟨rfl, rfl, rfl, rfl⟩ := H
             have p545 : 0 ≤ (x12_1 : Int) := of_decide_eq_true jC
             have q545 : x12_1 < (l0.length : Int) := of_decide_eq_true jC
             obtain ⟨ad545, e545, hx545_0⟩ := Kd.at_int HR0.out x12_1 p545 q545
             cases e545
             try replace hx545_0 := (HB.out.cell (World.block_lt_of_cell? w _ hx545_0)).trans hx545_0
             replace p545 := eq_true p545
             replace q545 := eq_true q545
             go_wp2_with (first | ((with_reducible refine gate_callee (f := 149) rfl ?_); refine goesL_ (some 92) rfl rfl Tryd.func149 jK rfl #[.slice (some ad545) l0.length c0, .int .i64 x12_1] rfl jA ?_; (with_reducible refine (impl_GetLabel.calls kj4 _ _ l0 x12_1 t549 t550 false _ ?side1 ?side2 A27.out).mono ?_); (case side1 => exact cU ((Kd.C_below HR0.out HB.out))); (case side2 => exact HC0.out); rintro e w39 ⟨rfl, hb⟩; refine ⟨_, rfl, ?_⟩; have n0_ := aS (Kd.R_below (rU HO_8.out) hb); have n1_ := aS (below_step (wU HB.out) hb); clear HO_8 HB; revert n0_ n1_; intro HO_8 HB; clear hb))
             refine bodyPost_ret (results_list (rs := [.tmp 4, .tmp 5, .tmp 6, .tmp 7]) rfl (by simp) (.tmp (.tmp (.tmp (.tmp .nil))))) rfl ?_
             exact ⟨jE, by repeat (first | (with_reducible first | exact HB.out | apply below_alloc | apply pw_below_drewN | apply below_drew1) | exact HB.out)⟩
       ·rw [if_neg c9] at H
        exact absurd H (by simp)
      ·rw [if_neg c8] at H
       exact absurd H (by simp)

/-! ### impl_GetName: function 71 -/
def impl_GetName.f (k : Nat) (l0 : List Int) (a1 : Int) : Option (ByteArray × Int × Int) := (impl_read.f k l0 a1).bind fun bt557 => (some (bt557.1, bt557.2.1, bt557.2.2.1))
theorem impl_GetName.mono : ∀ a0 a1 k, LeO (impl_GetName.f k a0 a1) (impl_GetName.f (k + 1) a0 a1) := by
 intro a0 a1 k
 unfold impl_GetName.f
 repeat' first
   | (with_reducible first | exact impl_read.mono _ _ _ | exact LeO.refl _ | exact LeO.none _ | refine LeO.ite ?_ ?_ | refine LeO.bind ?_ (fun _ => ?_))
   | exact impl_read.mono _ _ _
   | exact LeO.none _
   | refine LeO.ite ?_ ?_
   | refine LeO.bind ?_ (fun _ => ?_)
set_option maxHeartbeats 8000000 in
set_option maxRecDepth 100000 in
theorem impl_GetName.calls (k : Nat) (A0 : Option Addr) (c0 : Nat) (l0 : List Int) (a1 : Int) (r1 : ByteArray) (r2 : Int) (r3 : Int) (w : World) (hr0 : Kd.C (Kd.int .u8) w A0 l0.length l0) (hc0 : l0.length ≤ c0) (h : impl_GetName.f k l0 a1 = some (r1, r2, r3)) :
  Calls Tryd.prog 71 #[.slice A0 l0.length c0, .int .i64 a1] w fun e w' => e = .returned (.tuple #[.string r1, .int .i64 r2, .int .i64 r3]) ∧ Below w.heap.size w w' := by
 have HR0 := aS hr0
 have HC0 := aS hc0
 clear hr0 hc0
 have HB := aS (Below.refl w.heap.size w)
 have H : ((impl_read.f k l0 a1).bind fun bt557 => (some (bt557.1, bt557.2.1, bt557.2.2.1))) = some (r1, r2, r3) := h
 clear h
 replace H := Option.bind_eq_some_iff.mp H
 obtain ⟨⟨t557, t558, t559, t560⟩, A3, H⟩ := H
 try dsimp only at H
 replace A3 := aS A3
 simp only [Option.some.injEq, Prod.mk.injEq] at H
 obtain ⟨rfl, rfl, rfl⟩ := H
 go_enter Tryd.func71, Tryd.ntmps71
 go_wp2_with (first | ((with_reducible refine gate_callee (f := 127) rfl ?_); refine goesL_ (some 14) rfl rfl Tryd.func127 jK rfl #[.slice A0 l0.length c0, .int .i64 a1] rfl jA ?_; (with_reducible refine (impl_read.calls k _ _ l0 a1 t557 t558 t559 t560 _ ?side1 ?side2 A3.out).mono ?_); (case side1 => exact cU (HR0.out)); (case side2 => exact HC0.out); rintro e w4 ⟨rfl, hb⟩; refine ⟨_, rfl, ?_⟩; have n0_ := aS (below_step (wU HB.out) hb); clear HB; revert n0_; intro HB; clear hb))
 go_ret3
 exact ⟨jE, by repeat (first | (with_reducible first | exact HB.out | apply below_alloc | apply pw_below_drewN | apply below_drew1) | exact HB.out)⟩

end Go.Proofs.YtdigilidomimdaaDoor.Pr
