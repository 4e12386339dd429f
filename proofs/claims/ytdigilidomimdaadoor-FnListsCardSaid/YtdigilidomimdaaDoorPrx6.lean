-- Written for this claim by a program of this session (wip/tool/pr.py, over the kit's printer).
-- half
import Derived.Test.YtdigilidomimdaaDoorPrx0
import Derived.Test.YtdigilidomimdaaDoorPrx2
import Derived.Test.YtdigilidomimdaaDoorPrx5
namespace Go.Proofs.YtdigilidomimdaaDoor.Pr
open Go.RowKit Go.Proofs.YtdigilidomimdaaDoorW.PrintWords Go.Proofs.YtdigilidomimdaaDoorW.PrintLast Go.Proofs.YtdigilidomimdaaDoorW.PrintMore
attribute [local go_sem] max2_int min2_int max_two min_two max_three min_three max_four min_four   -- for this text's walks alone
set_option linter.unusedVariables false
set_option linter.unusedSimpArgs false

/-! ### impl_Fold: function 161 -/
def impl_Fold.f (a0 : ByteArray) : Option (ByteArray) := if a0.size ≤ 140737488355328 then some (strOfNums ((bytesOf a0).map X.foldB)) else none
set_option maxHeartbeats 1000000 in
theorem impl_Fold.calls (a0 : ByteArray) (r : ByteArray) (w : World) (h : impl_Fold.f a0 = some r) :
  Calls Tryd.prog 161 #[.string a0] w fun e w' => e = .returned (.string r) ∧ Below w.heap.size w w' := by
 have hs : a0.size ≤ 140737488355328 := by
  rcases Nat.lt_or_ge 140737488355328 a0.size with q | q
  ·rw [impl_Fold.f, if_neg (by omega)] at h; cases h
  ·exact q
 have hr : strOfNums ((bytesOf a0).map X.foldB) = r := by rw [impl_Fold.f, if_pos hs] at h; exact Option.some.inj h
 clear h
 have hconv : ∀ (W : World) (s : ByteArray), (convert 9 22 (.string s)).run Tryd.prog W = .ok (.slice (some ⟨W.heap.size, 0, none⟩) s.size (grownCap W s.size 0 5)) (Lib.bytesWorld W 5 s) := fun W s => Lib.run_convert_string_bytes (P := Tryd.prog) W 9 22 5 s Tryd.underlying9 Tryd.underlying22 Tryd.underlying5
 have H1 := Aside0.mk (X.Row8.new w 5 a0)
 have HB := Aside0.mk (X.below_bytesWorld w 5 a0)
 have HR := Aside0.mk hr
 have HL := Aside0.mk (bytesOf_length a0)
 clear hr
 go_enter Tryd.func161, Tryd.ntmps161
 go_wp2
 go_loopw [4, 5, 10] (fun v4 v5 v10 wr => ∃ i : Nat, i ≤ a0.size ∧ v10 = .int .i64 i ∧ Aside0 (X.Row8 wr w.heap.size a0.size (X.foldTo (bytesOf a0) i)) ∧ Aside0 (Below w.heap.size w wr)) (fun _ _ v10 _ => a0.size - (intOf v10).toNat)
 case atStart => exact ⟨0, Nat.zero_le _, rfl, ⟨by simpa [X.foldTo] using H1.out⟩, HB⟩
 case round =>
  obtain ⟨i, hi, rfl, HI, HB⟩ := hrel
  by_cases hlt : i < a0.size
  ·obtain ⟨c, hc⟩ : ∃ c, rd (bytesOf a0) i = c := ⟨_, rfl⟩
   have hcell := HI.out.cell i hlt
   rw [X.foldTo_rd _ _ (by rw [HL.out]; exact hlt), hc] at hcell
   have hfree := HI.out.free i hlt
   have hcb := X.rd_byte (X.bytes_bytesOf a0) (i : Int)
   rw [hc] at hcb
   obtain ⟨hc0, hc1⟩ := hcb
   have HC := Aside0.mk hc
   clear hc
   by_cases h65 : 65 ≤ c
   ·by_cases h90 : c ≤ 90
    ·skip
     have HE := Aside0.mk (show X.foldB c = c + 32 from if_pos ⟨h65, h90⟩)
     go_wp2
     go_roundw
     case rel => exact ⟨i + 1, by omega, by go_num, ⟨X.Row8.fold HI.out HL.out hlt HC.out (HE.out.trans (by omega))⟩, ⟨HB.out.setCell (Nat.le_refl _) _⟩⟩
     case measure => simp [intOf]; omega
    ·have HE := Aside0.mk (X.foldTo_same (bytesOf a0) i (by rw [HL.out]; exact hlt) (by rw [HC.out]; exact if_neg (fun q => h90 q.2)))
     go_wp2
     go_roundw
     case rel => exact ⟨i + 1, by omega, by go_num, ⟨by rw [← HE.out]; exact HI.out⟩, HB⟩
     case measure => simp [intOf]; omega
   ·have HE := Aside0.mk (X.foldTo_same (bytesOf a0) i (by rw [HL.out]; exact hlt) (by rw [HC.out]; exact if_neg (fun q => h65 q.1)))
    go_wp2
    go_roundw
    case rel => exact ⟨i + 1, by omega, by go_num, ⟨by rw [← HE.out]; exact HI.out⟩, HB⟩
    case measure => simp [intOf]; omega
  ·obtain rfl : i = a0.size := by omega
   have hback := run_convert_bytes_arg (P := Tryd.prog) wr 22 5 Tryd.underlying22 Tryd.underlying5 w.heap.size 0 a0.size (grownCap w a0.size 0 5) (X.foldTo (bytesOf a0) a0.size) HI.out.len (fun j hj => by rw [Nat.zero_add, HI.out.cell j hj]; rfl) 9 Tryd.underlying9
   go_wp2
   go_ret
   exact ⟨by rw [← HR.out, ← HL.out, X.foldTo_all]; rfl, HB.out⟩


/-! ### impl_GetLabel: function 149 -/
def impl_GetLabel.j0 : Nat → List Int → Int → Bool → Option (ByteArray × Int × Bool)
 | 0, _, _, _ => none
 | k + 1, x0, x1, x35 => if x35 = true then (some ((⟨#[]⟩ : ByteArray), 0, false)) else (if 0 ≤ x1 then (if x1 < (x0.length : Int) then (if 0 ≤ (wrap64 (x1 + 1)) then (if (wrap64 (x1 + 1)) ≤ (wrap64 ((wrap64 (x1 + 1)) + (wrap64 (rd x0 x1)))) then (if (wrap64 ((wrap64 (x1 + 1)) + (wrap64 (rd x0 x1)))) ≤ (x0.length : Int) then ((impl_Fold.f (strOfNums ((x0.take ((wrap64 ((wrap64 (x1 + 1)) + (wrap64 (rd x0 x1)))) : Int).toNat).drop ((wrap64 (x1 + 1)) : Int).toNat))).bind fun t400 => ((impl_LabelOk.f k t400).bind fun t401 => (if t401 = true then (some (t400, wrap64 ((wrap64 (x1 + 1)) + (wrap64 (rd x0 x1))), true)) else (some ((⟨#[]⟩ : ByteArray), 0, false))))) else (none)) else (none)) else (none)) else (none)) else (none))
def impl_GetLabel.f (k : Nat) (l0 : List Int) (a1 : Int) : Option (ByteArray × Int × Bool) := if a1 < 0 then (impl_GetLabel.j0 k l0 a1 true) else (if a1 ≥ (l0.length : Int) then (impl_GetLabel.j0 k l0 a1 true) else (if 0 ≤ a1 then (if a1 < (l0.length : Int) then (if (rd l0 a1) > 12 then (impl_GetLabel.j0 k l0 a1 true) else (impl_GetLabel.j0 k l0 a1 (decide ((wrap64 (rd l0 a1)) ≥ (wrap64 ((l0.length : Int) - a1)))))) else (none)) else (none)))
theorem impl_GetLabel.mono_l : ∀ k, (∀ y0 y1 y2, LeO (impl_GetLabel.j0 k y0 y1 y2) (impl_GetLabel.j0 (k + 1) y0 y1 y2))
 | 0 => fun _ _ _ r h => by simp [impl_GetLabel.j0] at h
 | k + 1 => by
  have ih0 := impl_GetLabel.mono_l k
  ·intro y0 y1 y2
   unfold impl_GetLabel.j0
   repeat' first
   | (with_reducible first | exact ih0 _ _ _ | exact impl_LabelOk.mono _ _ | exact LeO.refl _ | exact LeO.none _ | refine LeO.ite ?_ ?_ | refine LeO.bind ?_ (fun _ => ?_))
   | exact ih0 _ _ _
   | exact impl_LabelOk.mono _ _
   | exact LeO.none _
   | refine LeO.ite ?_ ?_
   | refine LeO.bind ?_ (fun _ => ?_)
theorem impl_GetLabel.mono : ∀ a0 a1 k, LeO (impl_GetLabel.f k a0 a1) (impl_GetLabel.f (k + 1) a0 a1) := by
 intro a0 a1 k
 have ih0 := impl_GetLabel.mono_l k
 unfold impl_GetLabel.f
 repeat' first
   | (with_reducible first | exact ih0 _ _ _ | exact impl_LabelOk.mono _ _ | exact LeO.refl _ | exact LeO.none _ | refine LeO.ite ?_ ?_ | refine LeO.bind ?_ (fun _ => ?_))
   | exact ih0 _ _ _
   | exact impl_LabelOk.mono _ _
   | exact LeO.none _
   | refine LeO.ite ?_ ?_
   | refine LeO.bind ?_ (fun _ => ?_)
set_option maxHeartbeats 8000000 in
set_option maxRecDepth 100000 in
theorem impl_GetLabel.calls (k : Nat) (A0 : Option Addr) (c0 : Nat) (l0 : List Int) (a1 : Int) (r1 : ByteArray) (r2 : Int) (r3 : Bool) (w : World) (hr0 : Kd.C (Kd.int .u8) w A0 l0.length l0) (hc0 : l0.length ≤ c0) (h : impl_GetLabel.f k l0 a1 = some (r1, r2, r3)) :
  Calls Tryd.prog 149 #[.slice A0 l0.length c0, .int .i64 a1] w fun e w' => e = .returned (.tuple #[.string r1, .int .i64 r2, .bool r3]) ∧ Below w.heap.size w w' := by
 have HR0 := aS hr0
 have HC0 := aS hc0
 clear hr0 hc0
 have HB := aS (Below.refl w.heap.size w)
 have H : (if a1 < 0 then (impl_GetLabel.j0 k l0 a1 true) else (if a1 ≥ (l0.length : Int) then (impl_GetLabel.j0 k l0 a1 true) else (if 0 ≤ a1 then (if a1 < (l0.length : Int) then (if (rd l0 a1) > 12 then (impl_GetLabel.j0 k l0 a1 true) else (impl_GetLabel.j0 k l0 a1 (decide ((wrap64 (rd l0 a1)) ≥ (wrap64 ((l0.length : Int) - a1)))))) else (none)) else (none)))) = some (r1, r2, r3) := h
 clear h
 have HC3 := aS H
 clear H
 go_enter Tryd.func149, Tryd.ntmps149
 go_upto_region 1 with (fail)
 go_cut [35] (fun v35 wc => ∃ (kq : Nat) (x35_2 : Bool), v35 = .bool x35_2 ∧ Aside0 (impl_GetLabel.j0 kq l0 a1 x35_2 = some (r1, r2, r3)) ∧ Aside0 (kq ≤ k) ∧ Aside0 (Below w.heap.size w wc))
 case first =>
  have H := HC3.out
  clear HC3
  by_cases c4 : a1 < 0
  ·rw [if_pos c4] at H
   have c4b0 := decide_eq_true c4
   clear c4
   (first | rw [c4b0] | (simp only [i64_w, i32_w]; rw [c4b0]) | skip)
   have H' := aS H
   clear H
   go_wp2
   go_meet
   case rel => exact ⟨_, (true), jB, H', ⟨by first | omega | exact Nat.le_refl _⟩, ⟨by exact wU HB.out⟩⟩
  ·rw [if_neg c4] at H
   have c4b0 := decide_eq_false c4
   clear c4
   (first | rw [c4b0] | (simp only [i64_w, i32_w]; rw [c4b0]) | skip)
   by_cases c5 : a1 ≥ (l0.length : Int)
   ·rw [if_pos c5] at H
    have c5b0 := decide_eq_true c5
    clear c5
    have H' := aS H
    clear H
    go_wp2
    go_meet
    case rel => exact ⟨_, (true), jB, H', ⟨by first | omega | exact Nat.le_refl _⟩, ⟨by exact wU HB.out⟩⟩
   ·rw [if_neg c5] at H
    have c5b0 := decide_eq_false c5
    clear c5
    by_cases c6 : 0 ≤ a1
    ·rw [if_pos c6] at H
     have c6b0 := decide_eq_true c6
     clear c6
     by_cases c7 : a1 < (l0.length : Int)
     ·rw [if_pos c7] at H
      have c7b0 := decide_eq_true c7
      clear c7
      by_cases c8 : (rd l0 a1) > 12
      ·rw [if_pos c8] at H
       have c8b0 := decide_eq_true c8
       clear c8
       have H' := aS H
       clear H
       have p393 : 0 ≤ (a1 : Int) := of_decide_eq_true jC
       have q393 : a1 < (l0.length : Int) := of_decide_eq_true jC
       obtain ⟨ad393, e393, hx393_0⟩ := Kd.at_int HR0.out a1 p393 q393
       cases e393
       try replace hx393_0 := (HB.out.cell (World.block_lt_of_cell? w _ hx393_0)).trans hx393_0
       replace p393 := eq_true p393
       replace q393 := eq_true q393
       go_wp2
       go_meet
       case rel => exact ⟨_, (true), jB, H', ⟨by first | omega | exact Nat.le_refl _⟩, ⟨by exact wU HB.out⟩⟩
      ·rw [if_neg c8] at H
       have c8b0 := decide_eq_false c8
       clear c8
       have H' := aS H
       clear H
       have p393 : 0 ≤ (a1 : Int) := of_decide_eq_true jC
       have q393 : a1 < (l0.length : Int) := of_decide_eq_true jC
       obtain ⟨ad393, e393, hx393_0⟩ := Kd.at_int HR0.out a1 p393 q393
       cases e393
       try replace hx393_0 := (HB.out.cell (World.block_lt_of_cell? w _ hx393_0)).trans hx393_0
       replace p393 := eq_true p393
       replace q393 := eq_true q393
       have p394 : 0 ≤ (a1 : Int) := of_decide_eq_true jC
       have q394 : a1 < (l0.length : Int) := of_decide_eq_true jC
       obtain ⟨ad394, e394, hx394_0⟩ := Kd.at_int HR0.out a1 p394 q394
       obtain rfl : ad393 = ad394 := (by injection e394)
       try replace hx394_0 := (HB.out.cell (World.block_lt_of_cell? w _ hx394_0)).trans hx394_0
       replace p394 := eq_true p394
       replace q394 := eq_true q394
       go_wp2
       go_meet
       case rel => exact ⟨_, (decide ((wrap64 (rd l0 a1)) ≥ (wrap64 ((l0.length : Int) - a1)))), jB, H', ⟨by first | omega | exact Nat.le_refl _⟩, ⟨by exact wU HB.out⟩⟩
     ·rw [if_neg c7] at H
      exact absurd H (by simp)
    ·rw [if_neg c6] at H
     exact absurd H (by simp)
 case rest =>
  clear HC3
  try clear c1
  try clear p2
  try clear p3
  try clear q3
  try clear hx3
  try clear c4
  try clear c4b0
  try clear c5
  try clear c5b0
  try clear c6
  try clear c6b0
  try clear p6
  try clear c7
  try clear c7b0
  try clear c8
  try clear c8b0
  try clear hx393_0
  try clear hx394_0
  try clear p393
  try clear p394
  try clear q393
  try clear q394
  obtain ⟨kq, x35_2, rfl, HA, HJ2, HB⟩ := hcut
  cases kq with
  | zero => exact absurd HA.out (by simp [impl_GetLabel.j0])
  | succ kj2 =>
   have H := HA.out
   clear HA
   simp only [impl_GetLabel.j0] at H
   by_cases c9 : x35_2 = true
   ·subst c9
    rw [if_pos rfl] at H
    simp only [Option.some.injEq, Prod.mk.injEq] at H
    obtain ⟨rfl, rfl, rfl⟩ := H
    go_wp2
    go_ret3
    exact ⟨jE, by exact wU HB.out⟩
   ·replace c9 := Bool.eq_false_iff.mpr c9
    subst c9
    rw [if_neg Bool.false_ne_true] at H
    by_cases c10 : 0 ≤ a1
    ·rw [if_pos c10] at H
     have c10b0 := decide_eq_true c10
     clear c10
     by_cases c11 : a1 < (l0.length : Int)
     ·rw [if_pos c11] at H
      have c11b0 := decide_eq_true c11
      clear c11
      obtain ⟨ji12, hji12⟩ : ∃ j_ : Int, (wrap64 (a1 + 1)) = j_ := ⟨_, rfl⟩
      replace H : (if 0 ≤ (ji12) then (if (ji12) ≤ (wrap64 ((ji12) + (wrap64 (rd l0 a1)))) then (if (wrap64 ((ji12) + (wrap64 (rd l0 a1)))) ≤ (l0.length : Int) then ((impl_Fold.f (strOfNums ((l0.take ((wrap64 ((ji12) + (wrap64 (rd l0 a1)))) : Int).toNat).drop ((ji12) : Int).toNat))).bind fun t400 => ((impl_LabelOk.f kj2 t400).bind fun t401 => (if t401 = true then (some (t400, wrap64 ((ji12) + (wrap64 (rd l0 a1))), true)) else (some ((⟨#[]⟩ : ByteArray), 0, false))))) else (none)) else (none)) else (none)) = some (r1, r2, r3) := by first | (rw [hji12] at H; exact H) | (simp only [hji12] at H ⊢; exact H)
      have hji12w : (IntKind.i64.wrap (a1 + 1)) = ji12 := (i64_w _).trans hji12
      by_cases c13 : 0 ≤ (ji12)
      ·rw [if_pos c13] at H
       have c13b0 := eq_true c13
       have c13b1 := decide_eq_true c13
       clear c13
       by_cases c14 : (ji12) ≤ (wrap64 ((ji12) + (wrap64 (rd l0 a1))))
       ·rw [if_pos c14] at H
        have c14b0 := eq_true c14
        have c14b1 := decide_eq_true c14
        by_cases c15 : (wrap64 ((ji12) + (wrap64 (rd l0 a1)))) ≤ (l0.length : Int)
        ·rw [if_pos c15] at H
         have c15b0 := eq_true c15
         have c15b1 := decide_eq_true c15
         obtain ⟨y396, hy_⟩ : ∃ y_ : List Int, y_ = ((l0.take ((wrap64 ((ji12) + (wrap64 (rd l0 a1)))) : Int).toNat).drop ((ji12) : Int).toNat) := ⟨_, rfl⟩
         replace H : ((impl_Fold.f (strOfNums y396)).bind fun t400 => ((impl_LabelOk.f kj2 t400).bind fun t401 => (if t401 = true then (some (t400, wrap64 ((ji12) + (wrap64 (rd l0 a1))), true)) else (some ((⟨#[]⟩ : ByteArray), 0, false))))) = some (r1, r2, r3) := jD
         have Ny396 := aS hy_
         clear hy_
         obtain ⟨t400, A16, H⟩ := bM H
         try dsimp only at H
         obtain ⟨t401, A17, H⟩ := bM H
         try dsimp only at H
         by_cases c18 : t401 = true
         ·subst c18
          rw [if_pos rfl] at H
          simp only [Option.some.injEq, Prod.mk.injEq] at H
          obtain ⟨rfl, rfl, rfl⟩ := H
          have p395 : 0 ≤ (a1 : Int) := of_decide_eq_true jC
          have q395 : a1 < (l0.length : Int) := of_decide_eq_true jC
          obtain ⟨ad395, e395, hx395_0⟩ := Kd.at_int HR0.out a1 p395 q395
          cases e395
          try replace hx395_0 := (HB.out.cell (World.block_lt_of_cell? w _ hx395_0)).trans hx395_0
          replace p395 := eq_true p395
          replace q395 := eq_true q395
          have q19 : ((wrap64 ((ji12) + (wrap64 (rd l0 a1)))) : Int) ≤ ((l0.length : Int) : Int) := of_decide_eq_true jC
          obtain ⟨i019, hi019, _, hsz19, _⟩ := info_parts info5
          have hroom19 : l0.length ≤ c0 := HC0.out
          have hC19 : Kd.C (Kd.int .u8) _ (some ad395) l0.length l0 := HR0.out
          have ql19 : ((ji12) : Int) ≤ ((wrap64 ((ji12) + (wrap64 (rd l0 a1)))) : Int) := of_decide_eq_true jC
          have q019 : (0 : Int) ≤ ((ji12) : Int) := of_decide_eq_true jC
          have hcut19 := cut_mid (P := Tryd.prog) 22 5 .i64 .i64 Tryd.underlying22 hi019 1 hsz19 (some ad395) l0.length c0 (ji12) (wrap64 ((ji12) + (wrap64 (rd l0 a1)))) q019 ql19 q19 hroom19
          have hr19 := Kd.C_mid (lo := ((ji12) : Int).toNat) (hi := ((wrap64 ((ji12) + (wrap64 (rd l0 a1)))) : Int).toNat) (c := c0) hC19 (by omega) (by omega) hroom19
          obtain ⟨A19, hA19⟩ : ∃ A1, A1 = (if c0 = ((ji12) : Int).toNat then (some ad395) else ((some ad395) : Option Addr).map (·.add (((ji12) : Int).toNat * 1))) := ⟨_, rfl⟩
          obtain ⟨c19, hc19⟩ : ∃ c1, c1 = c0 - ((ji12) : Int).toNat := ⟨_, rfl⟩
          have hy19 : y396.length = ((wrap64 ((ji12) + (wrap64 (rd l0 a1)))) : Int).toNat - ((ji12) : Int).toNat := (by rw [Ny396.out, List.length_drop, List.length_take] <;> omega)
          rw [show ((l0).take ((wrap64 ((ji12) + (wrap64 (rd l0 a1)))) : Int).toNat).drop ((ji12) : Int).toNat = y396 from Ny396.out.symm] at hr19
          replace hr19 : Kd.C (Kd.int .u8) _ A19 y396.length y396 := (by rw [hA19]; exact hr19)
          rw [← hy19, ← hA19, ← hc19] at hcut19
          have HR399 := aS hr19
          have HC399 := aS (show y396.length ≤ c19 from by rw [hy19, hc19]; exact Nat.sub_le_sub_right (Nat.le_trans (by omega) hroom19) _)
          clear hr19 hC19 hroom19 hi019 hsz19 hc19
          have KY19 := aS hy19
          have KA19 := aS hA19
          clear hy19 hA19
          replace q19 := eq_true q19
          have hcv20 := Kd.C_string (P := Tryd.prog) (A := A19) (c := c19) Tryd.underlying22 Tryd.underlying5 Tryd.underlying9 (Kd.C_below HR399.out HB.out)
          go_wp2_with (first | ((with_reducible refine gate_callee (f := 161) rfl ?_); refine goesL_ (some 50) rfl rfl Tryd.func161 jK rfl #[.string (strOfNums y396)] rfl jA ?_; (with_reducible refine (impl_Fold.calls (strOfNums y396) t400 _ A16.out).mono ?_); rintro e w21 ⟨rfl, hb⟩; refine ⟨_, rfl, ?_⟩; replace HB := aS (below_step (wU HB.out) hb); clear hb) | ((with_reducible refine gate_callee (f := 126) rfl ?_); refine goesL_ (some 52) rfl rfl Tryd.func126 jK rfl #[.string t400] rfl jA ?_; (with_reducible refine (impl_LabelOk.calls kj2 t400 true _ A17.out).mono ?_); rintro e w' ⟨rfl, ⟨nd, rfl⟩⟩; refine ⟨_, rfl, ?_⟩))
          go_ret3
          exact ⟨by first | rfl | (simp [errW_none, errW_some] <;> rfl) | (simp only [← hji12]; first | rfl | (simp [errW_none, errW_some] <;> rfl)) | (simp [*, errW_none, errW_some] <;> rfl), by exact wU HB.out⟩
         ·replace c18 := Bool.eq_false_iff.mpr c18
          subst c18
          rw [if_neg Bool.false_ne_true] at H
          simp only [Option.some.injEq, Prod.mk.injEq] at H
          obtain ⟨rfl, rfl, rfl⟩ := H
          have p395 : 0 ≤ (a1 : Int) := of_decide_eq_true jC
          have q395 : a1 < (l0.length : Int) := of_decide_eq_true jC
          obtain ⟨ad395, e395, hx395_0⟩ := Kd.at_int HR0.out a1 p395 q395
          cases e395
          try replace hx395_0 := (HB.out.cell (World.block_lt_of_cell? w _ hx395_0)).trans hx395_0
          replace p395 := eq_true p395
          replace q395 := eq_true q395
          have q22 : ((wrap64 ((ji12) + (wrap64 (rd l0 a1)))) : Int) ≤ ((l0.length : Int) : Int) := of_decide_eq_true jC
          obtain ⟨i022, hi022, _, hsz22, _⟩ := info_parts info5
          have hroom22 : l0.length ≤ c0 := HC0.out
          have hC22 : Kd.C (Kd.int .u8) _ (some ad395) l0.length l0 := HR0.out
          have ql22 : ((ji12) : Int) ≤ ((wrap64 ((ji12) + (wrap64 (rd l0 a1)))) : Int) := of_decide_eq_true jC
          have q022 : (0 : Int) ≤ ((ji12) : Int) := of_decide_eq_true jC
          have hcut22 := cut_mid (P := Tryd.prog) 22 5 .i64 .i64 Tryd.underlying22 hi022 1 hsz22 (some ad395) l0.length c0 (ji12) (wrap64 ((ji12) + (wrap64 (rd l0 a1)))) q022 ql22 q22 hroom22
          have hr22 := Kd.C_mid (lo := ((ji12) : Int).toNat) (hi := ((wrap64 ((ji12) + (wrap64 (rd l0 a1)))) : Int).toNat) (c := c0) hC22 (by omega) (by omega) hroom22
          obtain ⟨A22, hA22⟩ : ∃ A1, A1 = (if c0 = ((ji12) : Int).toNat then (some ad395) else ((some ad395) : Option Addr).map (·.add (((ji12) : Int).toNat * 1))) := ⟨_, rfl⟩
          obtain ⟨c22, hc22⟩ : ∃ c1, c1 = c0 - ((ji12) : Int).toNat := ⟨_, rfl⟩
          have hy22 : y396.length = ((wrap64 ((ji12) + (wrap64 (rd l0 a1)))) : Int).toNat - ((ji12) : Int).toNat := (by rw [Ny396.out, List.length_drop, List.length_take] <;> omega)
          rw [show ((l0).take ((wrap64 ((ji12) + (wrap64 (rd l0 a1)))) : Int).toNat).drop ((ji12) : Int).toNat = y396 from Ny396.out.symm] at hr22
          replace hr22 : Kd.C (Kd.int .u8) _ A22 y396.length y396 := (by rw [hA22]; exact hr22)
          rw [← hy22, ← hA22, ← hc22] at hcut22
          have HR399 := aS hr22
          have HC399 := aS (show y396.length ≤ c22 from by rw [hy22, hc22]; exact Nat.sub_le_sub_right (Nat.le_trans (by omega) hroom22) _)
          clear hr22 hC22 hroom22 hi022 hsz22 hc22
          have KY22 := aS hy22
          have KA22 := aS hA22
          clear hy22 hA22
          replace q22 := eq_true q22
          have hcv23 := Kd.C_string (P := Tryd.prog) (A := A22) (c := c22) Tryd.underlying22 Tryd.underlying5 Tryd.underlying9 (Kd.C_below HR399.out HB.out)
          go_wp2_with (first | ((with_reducible refine gate_callee (f := 161) rfl ?_); refine goesL_ (some 50) rfl rfl Tryd.func161 jK rfl #[.string (strOfNums y396)] rfl jA ?_; (with_reducible refine (impl_Fold.calls (strOfNums y396) t400 _ A16.out).mono ?_); rintro e w24 ⟨rfl, hb⟩; refine ⟨_, rfl, ?_⟩; replace HB := aS (below_step (wU HB.out) hb); clear hb) | ((with_reducible refine gate_callee (f := 126) rfl ?_); refine goesL_ (some 52) rfl rfl Tryd.func126 jK rfl #[.string t400] rfl jA ?_; (with_reducible refine (impl_LabelOk.calls kj2 t400 false _ A17.out).mono ?_); rintro e w' ⟨rfl, ⟨nd, rfl⟩⟩; refine ⟨_, rfl, ?_⟩))
          go_ret3
          exact ⟨by first | rfl | (simp [errW_none, errW_some] <;> rfl) | (simp only [← hji12]; first | rfl | (simp [errW_none, errW_some] <;> rfl)) | (simp [*, errW_none, errW_some] <;> rfl), by exact wU HB.out⟩
        ·rw [if_neg c15] at H
         exact absurd H (by simp)
       ·rw [if_neg c14] at H
        exact absurd H (by simp)
      ·rw [if_neg c13] at H
       exact absurd H (by simp)
     ·rw [if_neg c11] at H
      exact absurd H (by simp)
    ·rw [if_neg c10] at H
     exact absurd H (by simp)

/-! ### impl_read: function 127 -/
mutual
def impl_read.l0 : Nat → List Int → List ByteArray → Int → Int → Int → Int → Option (ByteArray × Int × Int × Int)
 | 0, _, _, _, _, _, _ => none
 | k + 1, x0, x8, x9, x10, x11, x12 => if x12 < 0 then (impl_read.j1 k x0 x8 x9 x10 x11 x12 true) else (impl_read.j1 k x0 x8 x9 x10 x11 x12 (decide (x12 ≥ (x0.length : Int))))
def impl_read.j1 : Nat → List Int → List ByteArray → Int → Int → Int → Int → Bool → Option (ByteArray × Int × Int × Int)
 | 0, _, _, _, _, _, _, _ => none
 | k + 1, x0, x8, x9, x10, x11, x12, x28 => if x28 = true then (some ((⟨#[]⟩ : ByteArray), 0, 1, x11)) else (if 0 ≤ x12 then (if x12 < (x0.length : Int) then (if (wrap64 (rd x0 x12)) = 0 then (if x9 < 0 then ((impl_JoinLabels.f x8).bind fun t406 => (some (t406, wrap64 (x12 + 1), 0, x11))) else ((impl_JoinLabels.f x8).bind fun t407 => (some (t407, x9, 0, x11)))) else (if (wrap64 (rd x0 x12)) ≥ 192 then (if (wrap64 (x12 + 1)) ≥ (x0.length : Int) then (some ((⟨#[]⟩ : ByteArray), 0, 1, x11)) else (if 0 ≤ (wrap64 (x12 + 1)) then (if (wrap64 (x12 + 1)) < (x0.length : Int) then (if (wrap64 ((wrap64 (256 * (wrap64 ((wrap64 (rd x0 x12)) - 192)))) + (wrap64 (rd x0 (wrap64 (x12 + 1)))))) ≥ x10 then (some ((⟨#[]⟩ : ByteArray), 0, 3, x11)) else (if x9 < 0 then (impl_read.l0 k x0 x8 (wrap64 (x12 + 2)) (wrap64 ((wrap64 (256 * (wrap64 ((wrap64 (rd x0 x12)) - 192)))) + (wrap64 (rd x0 (wrap64 (x12 + 1)))))) (wrap64 (x11 + 1)) (wrap64 ((wrap64 (256 * (wrap64 ((wrap64 (rd x0 x12)) - 192)))) + (wrap64 (rd x0 (wrap64 (x12 + 1))))))) else (impl_read.l0 k x0 x8 x9 (wrap64 ((wrap64 (256 * (wrap64 ((wrap64 (rd x0 x12)) - 192)))) + (wrap64 (rd x0 (wrap64 (x12 + 1)))))) (wrap64 (x11 + 1)) (wrap64 ((wrap64 (256 * (wrap64 ((wrap64 (rd x0 x12)) - 192)))) + (wrap64 (rd x0 (wrap64 (x12 + 1))))))))) else (none)) else (none))) else (if (wrap64 (rd x0 x12)) > 12 then (some ((⟨#[]⟩ : ByteArray), 0, 2, x11)) else (if (wrap64 (rd x0 x12)) ≥ (wrap64 ((x0.length : Int) - x12)) then (some ((⟨#[]⟩ : ByteArray), 0, 1, x11)) else ((impl_GetLabel.f k x0 x12).bind fun bt409 => (if bt409.2.2 = true then (if x8.length < 8796093022208 then ((some (x8 ++ [bt409.1] : List ByteArray)).bind fun y412 => ((impl_JoinLabels.f y412).bind fun t415 => ((impl_NameOk.f k t415).bind fun t416 => (if t416 = true then (impl_read.l0 k x0 y412 x9 x10 x11 bt409.2.1) else (some ((⟨#[]⟩ : ByteArray), 0, 4, x11)))))) else (none)) else (some ((⟨#[]⟩ : ByteArray), 0, 2, x11)))))))) else (none)) else (none))
end
def impl_read.f (k : Nat) (l0 : List Int) (a1 : Int) : Option (ByteArray × Int × Int × Int) := impl_read.l0 k l0 (([] : List ByteArray)) (-1) a1 0 a1
theorem impl_read.mono_l : ∀ k, (∀ y0 y1 y2 y3 y4 y5, LeO (impl_read.l0 k y0 y1 y2 y3 y4 y5) (impl_read.l0 (k + 1) y0 y1 y2 y3 y4 y5)) ∧ (∀ y0 y1 y2 y3 y4 y5 y6, LeO (impl_read.j1 k y0 y1 y2 y3 y4 y5 y6) (impl_read.j1 (k + 1) y0 y1 y2 y3 y4 y5 y6))
 | 0 => ⟨fun _ _ _ _ _ _ r h => by simp [impl_read.l0] at h, fun _ _ _ _ _ _ _ r h => by simp [impl_read.j1] at h⟩
 | k + 1 => by
  obtain ⟨ih0, ih1⟩ := impl_read.mono_l k
  refine ⟨?_, ?_⟩
  ·intro y0 y1 y2 y3 y4 y5
   unfold impl_read.l0
   repeat' first
   | (with_reducible first | exact ih0 _ _ _ _ _ _ | exact ih1 _ _ _ _ _ _ _ | exact impl_GetLabel.mono _ _ _ | exact impl_NameOk.mono _ _ | exact LeO.refl _ | exact LeO.none _ | refine LeO.ite ?_ ?_ | refine LeO.bind ?_ (fun _ => ?_))
   | exact ih0 _ _ _ _ _ _
   | exact ih1 _ _ _ _ _ _ _
   | exact impl_GetLabel.mono _ _ _
   | exact impl_NameOk.mono _ _
   | exact LeO.none _
   | refine LeO.ite ?_ ?_
   | refine LeO.bind ?_ (fun _ => ?_)
  ·intro y0 y1 y2 y3 y4 y5 y6
   unfold impl_read.j1
   repeat' first
   | (with_reducible first | exact ih0 _ _ _ _ _ _ | exact ih1 _ _ _ _ _ _ _ | exact impl_GetLabel.mono _ _ _ | exact impl_NameOk.mono _ _ | exact LeO.refl _ | exact LeO.none _ | refine LeO.ite ?_ ?_ | refine LeO.bind ?_ (fun _ => ?_))
   | exact ih0 _ _ _ _ _ _
   | exact ih1 _ _ _ _ _ _ _
   | exact impl_GetLabel.mono _ _ _
   | exact impl_NameOk.mono _ _
   | exact LeO.none _
   | refine LeO.ite ?_ ?_
   | refine LeO.bind ?_ (fun _ => ?_)
theorem impl_read.mono : ∀ a0 a1 k, LeO (impl_read.f k a0 a1) (impl_read.f (k + 1) a0 a1) := by
 intro a0 a1 k
 obtain ⟨ih0, ih1⟩ := impl_read.mono_l k
 unfold impl_read.f
 repeat' first
   | (with_reducible first | exact ih0 _ _ _ _ _ _ | exact ih1 _ _ _ _ _ _ _ | exact impl_GetLabel.mono _ _ _ | exact impl_NameOk.mono _ _ | exact LeO.refl _ | exact LeO.none _ | refine LeO.ite ?_ ?_ | refine LeO.bind ?_ (fun _ => ?_))
   | exact ih0 _ _ _ _ _ _
   | exact ih1 _ _ _ _ _ _ _
   | exact impl_GetLabel.mono _ _ _
   | exact impl_NameOk.mono _ _
   | exact LeO.none _
   | refine LeO.ite ?_ ?_
   | refine LeO.bind ?_ (fun _ => ?_)
set_option maxHeartbeats 8000000 in
set_option maxRecDepth 100000 in
theorem impl_read.calls (k : Nat) (A0 : Option Addr) (c0 : Nat) (l0 : List Int) (a1 : Int) (r1 : ByteArray) (r2 : Int) (r3 : Int) (r4 : Int) (w : World) (hr0 : Kd.C (Kd.int .u8) w A0 l0.length l0) (hc0 : l0.length ≤ c0) (h : impl_read.f k l0 a1 = some (r1, r2, r3, r4)) :
  Calls Tryd.prog 127 #[.slice A0 l0.length c0, .int .i64 a1] w fun e w' => e = .returned (.tuple #[.string r1, .int .i64 r2, .int .i64 r3, .int .i64 r4]) ∧ Below w.heap.size w w' := by
 have HR0 := aS hr0
 have HC0 := aS hc0
 clear hr0 hc0
 have HB := aS (Below.refl w.heap.size w)
 have H : (impl_read.l0 k l0 (([] : List ByteArray)) (-1) a1 0 a1) = some (r1, r2, r3, r4) := h
 clear h
 obtain ⟨y402, hy_⟩ : ∃ y_ : List ByteArray, y_ = (([] : List ByteArray)) := ⟨_, rfl⟩
 replace H : (impl_read.l0 k l0 y402 (-1) a1 0 a1) = some (r1, r2, r3, r4) := jD
 have Ny402 := aS hy_
 clear hy_
 have H' := aS H
 clear H
 go_enter Tryd.func127, Tryd.ntmps127
 go_wp2_with (first | ((with_reducible refine gate_dst (N := 18) rfl ?_); (try (refine gate_guard (by rfl) ?_; dsimp only)); refine Kd.R_lit Kd.string _ 9 ?hg (N := 18) ?hd (xs := ([] : List ByteArray)) (inner := []) (ok := fun _ => True) (okp := fun _ => True) ?hr ?hp (fun _ hk => hk) trivial (Below.refl _ _) (Nat.le_refl _) (by simp) ?_; (case hd => rfl); (case hg => rfl); (case hr => first | (go_simp; done) | (go_simp; rfl)); (case hp => exact (Reps.none _ _)); intro v403 w3 ho4 hb hg_ hnew_; clear hg_ hnew_; (first | rw [← Ny402.out] at ho4 | (simp only [Int.reduceToNat] at ho4; rw [← Ny402.out] at ho4)); have HO404 := aS (Kd.R_lower ho4 (below_size (wU HB.out))); replace HB := aS (below_step (wU HB.out) hb); clear hb ho4))
 go_loopg [8, 9, 10, 11, 12] k (fun kq v8 v9 v10 v11 v12 w' => ∃ (x8_1 : List ByteArray) (x9_1 : Int) (x10_1 : Int) (x11_1 : Int) (x12_1 : Int), v9 = .int .i64 x9_1 ∧ v10 = .int .i64 x10_1 ∧ v11 = .int .i64 x11_1 ∧ v12 = .int .i64 x12_1 ∧ Aside0 (impl_read.l0 kq l0 x8_1 x9_1 x10_1 x11_1 x12_1 = some (r1, r2, r3, r4)) ∧ Aside0 (kq ≤ k) ∧ Aside0 (Kd.R Kd.string 9 w' w.heap.size (fun _ => True) v8 x8_1) ∧ Aside0 (Below w.heap.size w w'))
 case atStart => exact ⟨(y402), ((-1)), (a1), (0), (a1), jB, jB, jB, jB, H', ⟨Nat.le_refl _⟩, ⟨by exact rU HO404.out⟩, ⟨by exact wU HB.out⟩⟩
 case round =>
  clear H'
  try clear c1
  try clear p2
  obtain ⟨x8_1, x9_1, x10_1, x11_1, x12_1, rfl, rfl, rfl, rfl, HA, HK1, HO_8, HB⟩ := hrel
  cases gk with
  | zero => exact absurd HA.out (by simp [impl_read.l0])
  | succ k1 =>
   have H := HA.out
   clear HA
   simp only [impl_read.l0] at H
   have HC5 := aS H
   clear H
   go_upto_region 6 with (fail)
   go_cut [28] (fun v28 wc => ∃ (kq : Nat) (x28_4 : Bool), v28 = .bool x28_4 ∧ Aside0 (impl_read.j1 kq l0 x8_1 x9_1 x10_1 x11_1 x12_1 x28_4 = some (r1, r2, r3, r4)) ∧ Aside0 (kq ≤ k1) ∧ Aside0 (Kd.R Kd.string 9 wc w.heap.size (fun _ => True) u8 x8_1) ∧ Aside0 (Below w.heap.size w wc))
   case first =>
    have H := HC5.out
    clear HC5
    by_cases c6 : x12_1 < 0
    ·rw [if_pos c6] at H
     have c6b0 := decide_eq_true c6
     clear c6
     (first | rw [c6b0] | (simp only [i64_w, i32_w]; rw [c6b0]) | skip)
     have H' := aS H
     clear H
     go_wp2
     go_meet
     case rel => exact ⟨_, (true), jB, H', ⟨by have := HK1.out; first | omega | exact Nat.le_refl _⟩, ⟨by exact rU HO_8.out⟩, ⟨by exact wU HB.out⟩⟩
    ·rw [if_neg c6] at H
     have c6b0 := decide_eq_false c6
     clear c6
     (first | rw [c6b0] | (simp only [i64_w, i32_w]; rw [c6b0]) | skip)
     have H' := aS H
     clear H
     go_wp2
     go_meet
     case rel => exact ⟨_, (decide (x12_1 ≥ (l0.length : Int))), jB, H', ⟨by have := HK1.out; first | omega | exact Nat.le_refl _⟩, ⟨by exact rU HO_8.out⟩, ⟨by exact wU HB.out⟩⟩
   case rest =>
    clear HC5
    try clear c1
    try clear p2
    try clear c6
    try clear c6b0
    try clear p2
    obtain ⟨kq, x28_4, rfl, HA, HJ4, HO_8, HB⟩ := hcut
    cases kq with
    | zero => exact absurd HA.out (by simp [impl_read.j1])
    | succ kj4 =>
     have H := HA.out
     clear HA
     simp only [impl_read.j1] at H
     by_cases c7 : x28_4 = true
     ·subst c7
      rw [if_pos rfl] at H
      simp only [Option.some.injEq, Prod.mk.injEq] at H
      obtain ⟨rfl, rfl, rfl, rfl⟩ := H
      go_wp2
      refine bodyPost_ret (results_list (rs := [.tmp 4, .tmp 5, .tmp 6, .tmp 7]) rfl (by simp) (.tmp (.tmp (.tmp (.tmp .nil))))) rfl ?_
      exact ⟨jE, by exact wU HB.out⟩
     ·replace c7 := Bool.eq_false_iff.mpr c7
      subst c7
      rw [if_neg Bool.false_ne_true] at H
      by_cases c8 : 0 ≤ x12_1
      ·rw [if_pos c8] at H
       have c8b0 := decide_eq_true c8
       clear c8
       by_cases c9 : x12_1 < (l0.length : Int)
       ·rw [if_pos c9] at H
        have c9b0 := decide_eq_true c9
        clear c9
        by_cases c10 : (wrap64 (rd l0 x12_1)) = 0
        ·rw [if_pos c10] at H
         have c10b0 := beq_iff_eq.mpr c10
         have c10b1 := bne_eq_false_iff_eq.mpr c10
         clear c10
         by_cases c11 : x9_1 < 0
         ·rw [if_pos c11] at H
          have c11b0 := decide_eq_true c11
          clear c11
          obtain ⟨t406, A12, H⟩ := bM H
          try dsimp only at H
          simp only [Option.some.injEq, Prod.mk.injEq] at H
          obtain ⟨rfl, rfl, rfl, rfl⟩ := H
          have p405 : 0 ≤ (x12_1 : Int) := of_decide_eq_true jC
          have q405 : x12_1 < (l0.length : Int) := of_decide_eq_true jC
          obtain ⟨ad405, e405, hx405_0⟩ := Kd.at_int HR0.out x12_1 p405 q405
          cases e405
          try replace hx405_0 := (HB.out.cell (World.block_lt_of_cell? w _ hx405_0)).trans hx405_0
          replace p405 := eq_true p405
          replace q405 := eq_true q405
          obtain ⟨Ao13, co13, eo13⟩ := Kd.R_slice HO_8.out
          subst eo13
          go_wp2_with (first | ((with_reducible refine gate_callee (f := 146) rfl ?_); refine goesL_ (some 43) rfl rfl Tryd.func146 jK rfl #[.slice Ao13 x8_1.length co13] rfl jA ?_; (with_reducible refine (impl_JoinLabels.calls _ _ x8_1 t406 _ ?side1 ?side2 A12.out).mono ?_); (case side1 => exact cU ((Kd.R_reads' HO_8.out).2.2)); (case side2 => exact (Kd.R_reads' HO_8.out).2.1); rintro e w14 ⟨rfl, hb⟩; refine ⟨_, rfl, ?_⟩; replace HO_8 := aS (Kd.R_below (rU HO_8.out) hb); replace HB := aS (below_step (wU HB.out) hb); clear hb))
          refine bodyPost_ret (results_list (rs := [.tmp 4, .tmp 5, .tmp 6, .tmp 7]) rfl (by simp) (.tmp (.tmp (.tmp (.tmp .nil))))) rfl ?_
          exact ⟨jE, by exact wU HB.out⟩
         ·rw [if_neg c11] at H
          have c11b0 := decide_eq_false c11
          clear c11
          obtain ⟨t407, A15, H⟩ := bM H
          try dsimp only at H
          simp only [Option.some.injEq, Prod.mk.injEq] at H
          obtain ⟨rfl, rfl, rfl, rfl⟩ := H
          have p405 : 0 ≤ (x12_1 : Int) := of_decide_eq_true jC
          have q405 : x12_1 < (l0.length : Int) := of_decide_eq_true jC
          obtain ⟨ad405, e405, hx405_0⟩ := Kd.at_int HR0.out x12_1 p405 q405
          cases e405
          try replace hx405_0 := (HB.out.cell (World.block_lt_of_cell? w _ hx405_0)).trans hx405_0
          replace p405 := eq_true p405
          replace q405 := eq_true q405
          obtain ⟨Ao16, co16, eo16⟩ := Kd.R_slice HO_8.out
          subst eo16
          go_wp2_with (first | ((with_reducible refine gate_callee (f := 146) rfl ?_); refine goesL_ (some 43) rfl rfl Tryd.func146 jK rfl #[.slice Ao16 x8_1.length co16] rfl jA ?_; (with_reducible refine (impl_JoinLabels.calls _ _ x8_1 t407 _ ?side1 ?side2 A15.out).mono ?_); (case side1 => exact cU ((Kd.R_reads' HO_8.out).2.2)); (case side2 => exact (Kd.R_reads' HO_8.out).2.1); rintro e w17 ⟨rfl, hb⟩; refine ⟨_, rfl, ?_⟩; replace HO_8 := aS (Kd.R_below (rU HO_8.out) hb); replace HB := aS (below_step (wU HB.out) hb); clear hb))
          refine bodyPost_ret (results_list (rs := [.tmp 4, .tmp 5, .tmp 6, .tmp 7]) rfl (by simp) (.tmp (.tmp (.tmp (.tmp .nil))))) rfl ?_
          exact ⟨jE, by exact wU HB.out⟩
        ·rw [if_neg c10] at H
         have c10b0 := beq_eq_false_iff_ne.mpr c10
         have c10b1 := bne_iff_ne.mpr c10
         by_cases c18 : (wrap64 (rd l0 x12_1)) ≥ 192
         ·rw [if_pos c18] at H
          have c18b0 := decide_eq_true c18
          clear c18
          by_cases c19 : (wrap64 (x12_1 + 1)) ≥ (l0.length : Int)
          ·rw [if_pos c19] at H
           have c19b0 := decide_eq_true c19
           clear c19
           simp only [Option.some.injEq, Prod.mk.injEq] at H
           obtain ⟨rfl, rfl, rfl, rfl⟩ := H
           have p405 : 0 ≤ (x12_1 : Int) := of_decide_eq_true jC
           have q405 : x12_1 < (l0.length : Int) := of_decide_eq_true jC
           obtain ⟨ad405, e405, hx405_0⟩ := Kd.at_int HR0.out x12_1 p405 q405
           cases e405
           try replace hx405_0 := (HB.out.cell (World.block_lt_of_cell? w _ hx405_0)).trans hx405_0
           replace p405 := eq_true p405
           replace q405 := eq_true q405
           go_wp2
           refine bodyPost_ret (results_list (rs := [.tmp 4, .tmp 5, .tmp 6, .tmp 7]) rfl (by simp) (.tmp (.tmp (.tmp (.tmp .nil))))) rfl ?_
           exact ⟨jE, by exact wU HB.out⟩
          ·rw [if_neg c19] at H
           have c19b0 := decide_eq_false c19
           clear c19
           obtain ⟨ji20, hji20⟩ : ∃ j_ : Int, (wrap64 (x12_1 + 1)) = j_ := ⟨_, rfl⟩
           replace H : (if 0 ≤ (ji20) then (if (ji20) < (l0.length : Int) then (if (wrap64 ((wrap64 (256 * (wrap64 ((wrap64 (rd l0 x12_1)) - 192)))) + (wrap64 (rd l0 (ji20))))) ≥ x10_1 then (some ((⟨#[]⟩ : ByteArray), 0, 3, x11_1)) else (if x9_1 < 0 then (impl_read.l0 kj4 l0 x8_1 (wrap64 (x12_1 + 2)) (wrap64 ((wrap64 (256 * (wrap64 ((wrap64 (rd l0 x12_1)) - 192)))) + (wrap64 (rd l0 (ji20))))) (wrap64 (x11_1 + 1)) (wrap64 ((wrap64 (256 * (wrap64 ((wrap64 (rd l0 x12_1)) - 192)))) + (wrap64 (rd l0 (ji20)))))) else (impl_read.l0 kj4 l0 x8_1 x9_1 (wrap64 ((wrap64 (256 * (wrap64 ((wrap64 (rd l0 x12_1)) - 192)))) + (wrap64 (rd l0 (ji20))))) (wrap64 (x11_1 + 1)) (wrap64 ((wrap64 (256 * (wrap64 ((wrap64 (rd l0 x12_1)) - 192)))) + (wrap64 (rd l0 (ji20)))))))) else (none)) else (none)) = some (r1, r2, r3, r4) := by first | (rw [hji20] at H; exact H) | (simp only [hji20] at H ⊢; exact H)
           (try rw [hji20] at c19b0)
           have hji20w : (IntKind.i64.wrap (x12_1 + 1)) = ji20 := (i64_w _).trans hji20
           by_cases c21 : 0 ≤ (ji20)
           ·rw [if_pos c21] at H
            have c21b0 := decide_eq_true c21
            clear c21
            by_cases c22 : (ji20) < (l0.length : Int)
            ·rw [if_pos c22] at H
             have c22b0 := decide_eq_true c22
             clear c22
             by_cases c23 : (wrap64 ((wrap64 (256 * (wrap64 ((wrap64 (rd l0 x12_1)) - 192)))) + (wrap64 (rd l0 (ji20))))) ≥ x10_1
             ·rw [if_pos c23] at H
              have c23b0 := decide_eq_true c23
              clear c23
              simp only [Option.some.injEq, Prod.mk.injEq] at H
              obtain ⟨rfl, rfl, rfl, rfl⟩ := H
              have p405 : 0 ≤ (x12_1 : Int) := of_decide_eq_true jC
              have q405 : x12_1 < (l0.length : Int) := of_decide_eq_true jC
              obtain ⟨ad405, e405, hx405_0⟩ := Kd.at_int HR0.out x12_1 p405 q405
              cases e405
              try replace hx405_0 := (HB.out.cell (World.block_lt_of_cell? w _ hx405_0)).trans hx405_0
              replace p405 := eq_true p405
              replace q405 := eq_true q405
              have p408 : 0 ≤ ((ji20) : Int) := of_decide_eq_true jC
              have q408 : (ji20) < (l0.length : Int) := of_decide_eq_true jC
              obtain ⟨ad408, e408, hx408_0⟩ := Kd.at_int HR0.out (ji20) p408 q408
              obtain rfl : ad405 = ad408 := (by injection e408)
              try replace hx408_0 := (HB.out.cell (World.block_lt_of_cell? w _ hx408_0)).trans hx408_0
              replace p408 := eq_true p408
              replace q408 := eq_true q408
              go_wp2
              refine bodyPost_ret (results_list (rs := [.tmp 4, .tmp 5, .tmp 6, .tmp 7]) rfl (by simp) (.tmp (.tmp (.tmp (.tmp .nil))))) rfl ?_
              exact ⟨by first | rfl | (simp [errW_none, errW_some] <;> rfl) | (simp only [← hji20]; first | rfl | (simp [errW_none, errW_some] <;> rfl)) | (simp [*, errW_none, errW_some] <;> rfl), by exact wU HB.out⟩
             ·rw [if_neg c23] at H
              have c23b0 := decide_eq_false c23
              clear c23
              by_cases c24 : x9_1 < 0
              ·rw [if_pos c24] at H
               have c24b0 := decide_eq_true c24
               clear c24
               have H' := aS H
               clear H
               have p405 : 0 ≤ (x12_1 : Int) := of_decide_eq_true jC
               have q405 : x12_1 < (l0.length : Int) := of_decide_eq_true jC
               obtain ⟨ad405, e405, hx405_0⟩ := Kd.at_int HR0.out x12_1 p405 q405
               cases e405
               try replace hx405_0 := (HB.out.cell (World.block_lt_of_cell? w _ hx405_0)).trans hx405_0
               replace p405 := eq_true p405
               replace q405 := eq_true q405
               have p408 : 0 ≤ ((ji20) : Int) := of_decide_eq_true jC
               have q408 : (ji20) < (l0.length : Int) := of_decide_eq_true jC
               obtain ⟨ad408, e408, hx408_0⟩ := Kd.at_int HR0.out (ji20) p408 q408
               obtain rfl : ad405 = ad408 := (by injection e408)
               try replace hx408_0 := (HB.out.cell (World.block_lt_of_cell? w _ hx408_0)).trans hx408_0
               replace p408 := eq_true p408
               replace q408 := eq_true q408
               go_wp2
               go_roundg kj4
               case measure => have := HK1.out; have := HJ4.out; omega
               case rel => exact ⟨(x8_1), (wrap64 (x12_1 + 2)), (wrap64 ((wrap64 (256 * (wrap64 ((wrap64 (rd l0 x12_1)) - 192)))) + (wrap64 (rd l0 (ji20))))), (wrap64 (x11_1 + 1)), (wrap64 ((wrap64 (256 * (wrap64 ((wrap64 (rd l0 x12_1)) - 192)))) + (wrap64 (rd l0 (ji20))))), jB, (by first | rfl | (simp; done) | (simp only [← hji20] <;> (first | rfl | simp)) | (simp [*]; done)), jB, (by first | rfl | (simp; done) | (simp only [← hji20] <;> (first | rfl | simp)) | (simp [*]; done)), H', ⟨by have := HK1.out; have := HJ4.out; omega⟩, ⟨by exact rU HO_8.out⟩, ⟨by exact wU HB.out⟩⟩
              ·rw [if_neg c24] at H
               have c24b0 := decide_eq_false c24
               clear c24
               have H' := aS H
               clear H
               have p405 : 0 ≤ (x12_1 : Int) := of_decide_eq_true jC
               have q405 : x12_1 < (l0.length : Int) := of_decide_eq_true jC
               obtain ⟨ad405, e405, hx405_0⟩ := Kd.at_int HR0.out x12_1 p405 q405
               cases e405
               try replace hx405_0 := (HB.out.cell (World.block_lt_of_cell? w _ hx405_0)).trans hx405_0
               replace p405 := eq_true p405
               replace q405 := eq_true q405
               have p408 : 0 ≤ ((ji20) : Int) := of_decide_eq_true jC
               have q408 : (ji20) < (l0.length : Int) := of_decide_eq_true jC
               obtain ⟨ad408, e408, hx408_0⟩ := Kd.at_int HR0.out (ji20) p408 q408
               obtain rfl : ad405 = ad408 := (by injection e408)
               try replace hx408_0 := (HB.out.cell (World.block_lt_of_cell? w _ hx408_0)).trans hx408_0
               replace p408 := eq_true p408
               replace q408 := eq_true q408
               go_wp2
               go_roundg kj4
               case measure => have := HK1.out; have := HJ4.out; omega
               case rel => exact ⟨(x8_1), (x9_1), (wrap64 ((wrap64 (256 * (wrap64 ((wrap64 (rd l0 x12_1)) - 192)))) + (wrap64 (rd l0 (ji20))))), (wrap64 (x11_1 + 1)), (wrap64 ((wrap64 (256 * (wrap64 ((wrap64 (rd l0 x12_1)) - 192)))) + (wrap64 (rd l0 (ji20))))), jB, (by first | rfl | (simp; done) | (simp only [← hji20] <;> (first | rfl | simp)) | (simp [*]; done)), jB, (by first | rfl | (simp; done) | (simp only [← hji20] <;> (first | rfl | simp)) | (simp [*]; done)), H', ⟨by have := HK1.out; have := HJ4.out; omega⟩, ⟨by exact rU HO_8.out⟩, ⟨by exact wU HB.out⟩⟩
            ·rw [if_neg c22] at H
             exact absurd H (by simp)
           ·rw [if_neg c21] at H
            exact absurd H (by simp)
         ·rw [if_neg c18] at H
          have c18b0 := decide_eq_false c18
          clear c18
          by_cases c25 : (wrap64 (rd l0 x12_1)) > 12
          ·rw [if_pos c25] at H
           have c25b0 := decide_eq_true c25
           clear c25
           simp only [Option.some.injEq, Prod.mk.injEq] at H
           obtain ⟨rfl, rfl, rfl, rfl⟩ := H
           have p405 : 0 ≤ (x12_1 : Int) := of_decide_eq_true jC
           have q405 : x12_1 < (l0.length : Int) := of_decide_eq_true jC
           obtain ⟨ad405, e405, hx405_0⟩ := Kd.at_int HR0.out x12_1 p405 q405
           cases e405
           try replace hx405_0 := (HB.out.cell (World.block_lt_of_cell? w _ hx405_0)).trans hx405_0
           replace p405 := eq_true p405
           replace q405 := eq_true q405
           go_wp2
           refine bodyPost_ret (results_list (rs := [.tmp 4, .tmp 5, .tmp 6, .tmp 7]) rfl (by simp) (.tmp (.tmp (.tmp (.tmp .nil))))) rfl ?_
           exact ⟨jE, by exact wU HB.out⟩
          ·rw [if_neg c25] at H
           have c25b0 := decide_eq_false c25
           clear c25
           by_cases c26 : (wrap64 (rd l0 x12_1)) ≥ (wrap64 ((l0.length : Int) - x12_1))
           ·rw [if_pos c26] at H
            have c26b0 := decide_eq_true c26
            clear c26
            simp only [Option.some.injEq, Prod.mk.injEq] at H
            obtain ⟨rfl, rfl, rfl, rfl⟩ := H
            have p405 : 0 ≤ (x12_1 : Int) := of_decide_eq_true jC
            have q405 : x12_1 < (l0.length : Int) := of_decide_eq_true jC
            obtain ⟨ad405, e405, hx405_0⟩ := Kd.at_int HR0.out x12_1 p405 q405
            cases e405
            try replace hx405_0 := (HB.out.cell (World.block_lt_of_cell? w _ hx405_0)).trans hx405_0
            replace p405 := eq_true p405
            replace q405 := eq_true q405
            go_wp2
            refine bodyPost_ret (results_list (rs := [.tmp 4, .tmp 5, .tmp 6, .tmp 7]) rfl (by simp) (.tmp (.tmp (.tmp (.tmp .nil))))) rfl ?_
            exact ⟨jE, by exact wU HB.out⟩
           ·rw [if_neg c26] at H
            have c26b0 := decide_eq_false c26
            clear c26
            obtain ⟨⟨t409, t410, t411⟩, A27, H⟩ := bM H
            try dsimp only at H
            by_cases c28 : t411 = true
            ·subst c28
             rw [if_pos rfl] at H
             by_cases c29 : x8_1.length < 8796093022208
             ·rw [if_pos c29] at H
              have LMc29 := aS c29
              clear c29
              obtain ⟨y412, hy_⟩ : ∃ y_ : List ByteArray, y_ = (x8_1 ++ [t409]) := ⟨_, rfl⟩
              replace H : ((impl_JoinLabels.f y412).bind fun t415 => ((impl_NameOk.f kj4 t415).bind fun t416 => (if t416 = true then (impl_read.l0 kj4 l0 y412 x9_1 x10_1 x11_1 t410) else (some ((⟨#[]⟩ : ByteArray), 0, 4, x11_1))))) = some (r1, r2, r3, r4) := jD
              have Ny412 := aS hy_
              clear hy_
              obtain ⟨t415, A30, H⟩ := bM H
              try dsimp only at H
              obtain ⟨t416, A31, H⟩ := bM H
              try dsimp only at H
              have HC32 := aS H
              clear H
              have p405 : 0 ≤ (x12_1 : Int) := of_decide_eq_true jC
              have q405 : x12_1 < (l0.length : Int) := of_decide_eq_true jC
              obtain ⟨ad405, e405, hx405_0⟩ := Kd.at_int HR0.out x12_1 p405 q405
              cases e405
              try replace hx405_0 := (HB.out.cell (World.block_lt_of_cell? w _ hx405_0)).trans hx405_0
              replace p405 := eq_true p405
              replace q405 := eq_true q405
              go_upto_if 106 with (first | ((with_reducible refine gate_callee (f := 149) rfl ?_); refine goesL_ (some 92) rfl rfl Tryd.func149 jK rfl #[.slice (some ad405) l0.length c0, .int .i64 x12_1] rfl jA ?_; (with_reducible refine (impl_GetLabel.calls kj4 _ _ l0 x12_1 t409 t410 true _ ?side1 ?side2 A27.out).mono ?_); (case side1 => exact cU ((Kd.C_below HR0.out HB.out))); (case side2 => exact HC0.out); rintro e w33 ⟨rfl, hb⟩; refine ⟨_, rfl, ?_⟩; replace HO_8 := aS (Kd.R_below (rU HO_8.out) hb); replace HB := aS (below_step (wU HB.out) hb); clear hb) | ((with_reducible refine gate_builtin (b := .append) (xs := #[.tmp 99, .tmp 101]) rfl ?_); (try (refine gate_guard (by rfl) ?_; dsimp only)); at_builtin; refine Kd.R_append Kd.string (w0 := w) w.heap.size rfl (.tmp 99) (.tmp 101) 108 9 (.string ⟨#[]⟩) 16 rfl Tryd.underlying108 info9 rfl (by decide) (by omega) u8 x8_1 t409 [.string t409] (fun _ => True) (fun _ => False) rfl rfl ?aP (fun _ hk => hk.elim) ?aF ?aO ?aB ?aS ?aL ?_; (case aP => exact rfl); (case aB => exact (wU HB.out)); (case aF => exact (fun _ _ => trivial)); (case aO => exact (rU HO_8.out)); (case aS => exact (below_size (wU HB.out))); (case aL => have := LMc29.out; omega); intro v413 w34 ho hb hg hat; rw [← Ny412.out] at ho; replace HB := aS (hb); have HO414 := aS (ho); clear HO_8; clear ho hb hg hat; obtain ⟨Ao35, co35, eo35⟩ := Kd.R_slice HO414.out; subst eo35) | ((with_reducible refine gate_callee (f := 146) rfl ?_); refine goesL_ (some 104) rfl rfl Tryd.func146 jK rfl #[.slice Ao35 y412.length co35] rfl jA ?_; (with_reducible refine (impl_JoinLabels.calls _ _ y412 t415 _ ?side1 ?side2 A30.out).mono ?_); (case side1 => exact cU ((Kd.R_reads' HO414.out).2.2)); (case side2 => exact (Kd.R_reads' HO414.out).2.1); rintro e w36 ⟨rfl, hb⟩; refine ⟨_, rfl, ?_⟩; replace HO414 := aS (Kd.R_below (rU HO414.out) hb); replace HB := aS (below_step (wU HB.out) hb); clear hb) | ((with_reducible refine gate_callee (f := 67) rfl ?_); refine goesL_ (some 105) rfl rfl Tryd.func67 jK rfl #[.string t415] rfl jA ?_; (with_reducible refine (impl_NameOk.calls kj4 t415 t416 _ A31.out).mono ?_); rintro e w37 ⟨rfl, hb⟩; refine ⟨_, rfl, ?_⟩; replace HO414 := aS (Kd.R_below (rU HO414.out) hb); replace HB := aS (below_step (wU HB.out) hb); clear hb))
              (try simp only [Act.put, List.setIfInBounds_toArray, List.set_cons_zero, List.set_cons_succ])
              have H := HC32.out
              clear HC32
              by_cases c38 : t416 = true
              ·subst c38
               rw [if_pos rfl] at H
               have H' := aS H
               clear H
               go_wp2
               go_roundg kj4
               case measure => have := HK1.out; have := HJ4.out; omega
               case rel => exact ⟨(y412), (x9_1), (x10_1), (x11_1), (t410), jB, jB, jB, jB, H', ⟨by have := HK1.out; have := HJ4.out; omega⟩, ⟨by exact rU HO414.out⟩, ⟨by exact wU HB.out⟩⟩
              ·replace c38 := Bool.eq_false_iff.mpr c38
               subst c38
               rw [if_neg Bool.false_ne_true] at H
               simp only [Option.some.injEq, Prod.mk.injEq] at H
               obtain ⟨rfl, rfl, rfl, rfl⟩ := H
               go_wp2
               refine bodyPost_ret (results_list (rs := [.tmp 4, .tmp 5, .tmp 6, .tmp 7]) rfl (by simp) (.tmp (.tmp (.tmp (.tmp .nil))))) rfl ?_
               exact ⟨jE, by exact wU HB.out⟩
             ·rw [if_neg c29] at H
              exact absurd H (by simp)
            ·replace c28 := Bool.eq_false_iff.mpr c28
             subst c28
             rw [if_neg Bool.false_ne_true] at H
             simp only [Option.some.injEq, Prod.mk.injEq] at H
             obtain ⟨rfl, rfl, rfl, rfl⟩ := H
             have p405 : 0 ≤ (x12_1 : Int) := of_decide_eq_true jC
             have q405 : x12_1 < (l0.length : Int) := of_decide_eq_true jC
             obtain ⟨ad405, e405, hx405_0⟩ := Kd.at_int HR0.out x12_1 p405 q405
             cases e405
             try replace hx405_0 := (HB.out.cell (World.block_lt_of_cell? w _ hx405_0)).trans hx405_0
             replace p405 := eq_true p405
             replace q405 := eq_true q405
             go_wp2_with (first | ((with_reducible refine gate_callee (f := 149) rfl ?_); refine goesL_ (some 92) rfl rfl Tryd.func149 jK rfl #[.slice (some ad405) l0.length c0, .int .i64 x12_1] rfl jA ?_; (with_reducible refine (impl_GetLabel.calls kj4 _ _ l0 x12_1 t409 t410 false _ ?side1 ?side2 A27.out).mono ?_); (case side1 => exact cU ((Kd.C_below HR0.out HB.out))); (case side2 => exact HC0.out); rintro e w39 ⟨rfl, hb⟩; refine ⟨_, rfl, ?_⟩; replace HO_8 := aS (Kd.R_below (rU HO_8.out) hb); replace HB := aS (below_step (wU HB.out) hb); clear hb))
             refine bodyPost_ret (results_list (rs := [.tmp 4, .tmp 5, .tmp 6, .tmp 7]) rfl (by simp) (.tmp (.tmp (.tmp (.tmp .nil))))) rfl ?_
             exact ⟨jE, by exact wU HB.out⟩
       ·rw [if_neg c9] at H
        exact absurd H (by simp)
      ·rw [if_neg c8] at H
       exact absurd H (by simp)

/-! ### impl_GetName: function 71 -/
def impl_GetName.f (k : Nat) (l0 : List Int) (a1 : Int) : Option (ByteArray × Int × Int) := (impl_read.f k l0 a1).bind fun bt417 => (some (bt417.1, bt417.2.1, bt417.2.2.1))
theorem impl_GetName.mono : ∀ a0 a1 k, LeO (impl_GetName.f k a0 a1) (impl_GetName.f (k + 1) a0 a1) := by
 intro a0 a1 k
 unfold impl_GetName.f
 repeat' first
   | (with_reducible first | exact impl_read.mono _ _ _ | exact LeO.refl _ | exact LeO.none _ | refine LeO.ite ?_ ?_ | refine LeO.bind ?_ (fun _ => ?_))
   | exact impl_read.mono _ _ _
   | exact LeO.none _
   | refine LeO.ite ?_ ?_
   | refine LeO.bind ?_ (fun _ => ?_)
set_option maxHeartbeats 8000000 in
set_option maxRecDepth 100000 in
theorem impl_GetName.calls (k : Nat) (A0 : Option Addr) (c0 : Nat) (l0 : List Int) (a1 : Int) (r1 : ByteArray) (r2 : Int) (r3 : Int) (w : World) (hr0 : Kd.C (Kd.int .u8) w A0 l0.length l0) (hc0 : l0.length ≤ c0) (h : impl_GetName.f k l0 a1 = some (r1, r2, r3)) :
  Calls Tryd.prog 71 #[.slice A0 l0.length c0, .int .i64 a1] w fun e w' => e = .returned (.tuple #[.string r1, .int .i64 r2, .int .i64 r3]) ∧ Below w.heap.size w w' := by
 have HR0 := aS hr0
 have HC0 := aS hc0
 clear hr0 hc0
 have HB := aS (Below.refl w.heap.size w)
 have H : ((impl_read.f k l0 a1).bind fun bt417 => (some (bt417.1, bt417.2.1, bt417.2.2.1))) = some (r1, r2, r3) := h
 clear h
 obtain ⟨⟨t417, t418, t419, t420⟩, A3, H⟩ := bM H
 try dsimp only at H
 simp only [Option.some.injEq, Prod.mk.injEq] at H
 obtain ⟨rfl, rfl, rfl⟩ := H
 go_enter Tryd.func71, Tryd.ntmps71
 go_wp2_with (first | ((with_reducible refine gate_callee (f := 127) rfl ?_); refine goesL_ (some 14) rfl rfl Tryd.func127 jK rfl #[.slice A0 l0.length c0, .int .i64 a1] rfl jA ?_; (with_reducible refine (impl_read.calls k _ _ l0 a1 t417 t418 t419 t420 _ ?side1 ?side2 A3.out).mono ?_); (case side1 => exact cU (HR0.out)); (case side2 => exact HC0.out); rintro e w4 ⟨rfl, hb⟩; refine ⟨_, rfl, ?_⟩; replace HB := aS (below_step (wU HB.out) hb); clear hb))
 go_ret3
 exact ⟨jE, by exact wU HB.out⟩

end Go.Proofs.YtdigilidomimdaaDoor.Pr
