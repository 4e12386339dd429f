-- Written for this claim by a program of this session (wip/tool/pr.py, over the kit's printer).
-- half
import Derived.Test.YtdigilidomimdaaDoorPrx0
import Derived.Test.YtdigilidomimdaaDoorPrx2
import Derived.Test.YtdigilidomimdaaDoorPrx3
namespace Go.Proofs.YtdigilidomimdaaDoor.Pr
open Go.RowKit Go.Proofs.YtdigilidomimdaaDoorW.PrintWords Go.Proofs.YtdigilidomimdaaDoorW.PrintLast Go.Proofs.YtdigilidomimdaaDoorW.PrintMore
attribute [local go_sem] max2_int min2_int max_two min_two max_three min_three max_four min_four   -- for this text's walks alone
set_option linter.unusedVariables false
set_option linter.unusedSimpArgs false

/-! ### spec_l4Walk: function 131 -/
mutual
def spec_l4Walk.l0 : Nat → List Int → Int → ByteArray → Int → Int → Int → Option (ByteArray × Int × Int × Int)
 | 0, _, _, _, _, _, _ => none
 | k + 1, x0, x1, x8, x9, x10, x11 => if x1 < 0 then (spec_l4Walk.j1 k x0 x1 x8 x9 x10 x11 true) else (spec_l4Walk.j1 k x0 x1 x8 x9 x10 x11 (decide (x1 ≥ (x0.length : Int))))
def spec_l4Walk.j1 : Nat → List Int → Int → ByteArray → Int → Int → Int → Bool → Option (ByteArray × Int × Int × Int)
 | 0, _, _, _, _, _, _, _ => none
 | k + 1, x0, x1, x8, x9, x10, x11, x25 => if x25 = true then (some ((⟨#[]⟩ : ByteArray), 0, 1, x11)) else (if 0 ≤ x1 then (if x1 < (x0.length : Int) then (if (wrap64 (rd x0 x1)) = 0 then (if x9 < 0 then (some (x8, wrap64 (x1 + 1), 0, x11)) else (some (x8, x9, 0, x11))) else (if (wrap64 (rd x0 x1)) ≥ 192 then (if (wrap64 (x1 + 1)) ≥ (x0.length : Int) then (some ((⟨#[]⟩ : ByteArray), 0, 1, x11)) else (if 0 ≤ (wrap64 (x1 + 1)) then (if (wrap64 (x1 + 1)) < (x0.length : Int) then (if (wrap64 ((wrap64 (256 * (wrap64 ((wrap64 (rd x0 x1)) - 192)))) + (wrap64 (rd x0 (wrap64 (x1 + 1)))))) ≥ x10 then (some ((⟨#[]⟩ : ByteArray), 0, 3, x11)) else (if x9 < 0 then (spec_l4Walk.l0 k x0 (wrap64 ((wrap64 (256 * (wrap64 ((wrap64 (rd x0 x1)) - 192)))) + (wrap64 (rd x0 (wrap64 (x1 + 1)))))) x8 (wrap64 (x1 + 2)) (wrap64 ((wrap64 (256 * (wrap64 ((wrap64 (rd x0 x1)) - 192)))) + (wrap64 (rd x0 (wrap64 (x1 + 1)))))) (wrap64 (x11 + 1))) else (spec_l4Walk.l0 k x0 (wrap64 ((wrap64 (256 * (wrap64 ((wrap64 (rd x0 x1)) - 192)))) + (wrap64 (rd x0 (wrap64 (x1 + 1)))))) x8 x9 (wrap64 ((wrap64 (256 * (wrap64 ((wrap64 (rd x0 x1)) - 192)))) + (wrap64 (rd x0 (wrap64 (x1 + 1)))))) (wrap64 (x11 + 1))))) else (none)) else (none))) else (if (wrap64 (rd x0 x1)) ≤ 12 then (spec_l4Walk.j2 k x0 x1 x8 x9 x10 x11 (decide ((wrap64 (rd x0 x1)) > (wrap64 ((wrap64 ((x0.length : Int) - x1)) - 1))))) else (spec_l4Walk.j2 k x0 x1 x8 x9 x10 x11 false)))) else (none)) else (none))
def spec_l4Walk.j2 : Nat → List Int → Int → ByteArray → Int → Int → Int → Bool → Option (ByteArray × Int × Int × Int)
 | 0, _, _, _, _, _, _, _ => none
 | k + 1, x0, x1, x8, x9, x10, x11, x81 => if x81 = true then (some ((⟨#[]⟩ : ByteArray), 0, 1, x11)) else ((spec_GetLabel.f k x0 x1).bind fun bt148 => (if bt148.2.2 = true then (if x8.toList = ([] : List UInt8) then (if x8.size + bt148.1.size ≤ 9223372036854775807 then ((spec_NameOk.f k (x8 ++ bt148.1)).bind fun t151 => (if t151 = true then (spec_l4Walk.l0 k x0 bt148.2.1 (x8 ++ bt148.1) x9 x10 x11) else (some ((⟨#[]⟩ : ByteArray), 0, 4, x11)))) else (none)) else (if x8.size + 1 ≤ 9223372036854775807 then (if (x8 ++ (⟨#[46]⟩ : ByteArray)).size + bt148.1.size ≤ 9223372036854775807 then ((spec_NameOk.f k ((x8 ++ (⟨#[46]⟩ : ByteArray)) ++ bt148.1)).bind fun t152 => (if t152 = true then (spec_l4Walk.l0 k x0 bt148.2.1 ((x8 ++ (⟨#[46]⟩ : ByteArray)) ++ bt148.1) x9 x10 x11) else (some ((⟨#[]⟩ : ByteArray), 0, 4, x11)))) else (none)) else (none))) else (some ((⟨#[]⟩ : ByteArray), 0, 2, x11))))
end
def spec_l4Walk.f (k : Nat) (l0 : List Int) (a1 : Int) : Option (ByteArray × Int × Int × Int) := spec_l4Walk.l0 k l0 a1 (⟨#[]⟩ : ByteArray) (-1) a1 0
theorem spec_l4Walk.mono_l : ∀ k, (∀ y0 y1 y2 y3 y4 y5, LeO (spec_l4Walk.l0 k y0 y1 y2 y3 y4 y5) (spec_l4Walk.l0 (k + 1) y0 y1 y2 y3 y4 y5)) ∧ (∀ y0 y1 y2 y3 y4 y5 y6, LeO (spec_l4Walk.j1 k y0 y1 y2 y3 y4 y5 y6) (spec_l4Walk.j1 (k + 1) y0 y1 y2 y3 y4 y5 y6)) ∧ (∀ y0 y1 y2 y3 y4 y5 y6, LeO (spec_l4Walk.j2 k y0 y1 y2 y3 y4 y5 y6) (spec_l4Walk.j2 (k + 1) y0 y1 y2 y3 y4 y5 y6))
 | 0 => ⟨fun _ _ _ _ _ _ r h => by simp [spec_l4Walk.l0] at h, fun _ _ _ _ _ _ _ r h => by simp [spec_l4Walk.j1] at h, fun _ _ _ _ _ _ _ r h => by simp [spec_l4Walk.j2] at h⟩
 | k + 1 => by
  obtain ⟨ih0, ih1, ih2⟩ := spec_l4Walk.mono_l k
  refine ⟨?_, ?_, ?_⟩
  ·intro y0 y1 y2 y3 y4 y5
   unfold spec_l4Walk.l0
   repeat' first
   | (with_reducible first | exact ih0 _ _ _ _ _ _ | exact ih1 _ _ _ _ _ _ _ | exact ih2 _ _ _ _ _ _ _ | exact spec_GetLabel.mono _ _ _ | exact spec_NameOk.mono _ _ | exact LeO.refl _ | exact LeO.none _ | refine LeO.ite ?_ ?_ | refine LeO.bind ?_ (fun _ => ?_))
   | exact ih0 _ _ _ _ _ _
   | exact ih1 _ _ _ _ _ _ _
   | exact ih2 _ _ _ _ _ _ _
   | exact spec_GetLabel.mono _ _ _
   | exact spec_NameOk.mono _ _
   | exact LeO.none _
   | refine LeO.ite ?_ ?_
   | refine LeO.bind ?_ (fun _ => ?_)
  ·intro y0 y1 y2 y3 y4 y5 y6
   unfold spec_l4Walk.j1
   repeat' first
   | (with_reducible first | exact ih0 _ _ _ _ _ _ | exact ih1 _ _ _ _ _ _ _ | exact ih2 _ _ _ _ _ _ _ | exact spec_GetLabel.mono _ _ _ | exact spec_NameOk.mono _ _ | exact LeO.refl _ | exact LeO.none _ | refine LeO.ite ?_ ?_ | refine LeO.bind ?_ (fun _ => ?_))
   | exact ih0 _ _ _ _ _ _
   | exact ih1 _ _ _ _ _ _ _
   | exact ih2 _ _ _ _ _ _ _
   | exact spec_GetLabel.mono _ _ _
   | exact spec_NameOk.mono _ _
   | exact LeO.none _
   | refine LeO.ite ?_ ?_
   | refine LeO.bind ?_ (fun _ => ?_)
  ·intro y0 y1 y2 y3 y4 y5 y6
   unfold spec_l4Walk.j2
   repeat' first
   | (with_reducible first | exact ih0 _ _ _ _ _ _ | exact ih1 _ _ _ _ _ _ _ | exact ih2 _ _ _ _ _ _ _ | exact spec_GetLabel.mono _ _ _ | exact spec_NameOk.mono _ _ | exact LeO.refl _ | exact LeO.none _ | refine LeO.ite ?_ ?_ | refine LeO.bind ?_ (fun _ => ?_))
   | exact ih0 _ _ _ _ _ _
   | exact ih1 _ _ _ _ _ _ _
   | exact ih2 _ _ _ _ _ _ _
   | exact spec_GetLabel.mono _ _ _
   | exact spec_NameOk.mono _ _
   | exact LeO.none _
   | refine LeO.ite ?_ ?_
   | refine LeO.bind ?_ (fun _ => ?_)
theorem spec_l4Walk.mono : ∀ a0 a1 k, LeO (spec_l4Walk.f k a0 a1) (spec_l4Walk.f (k + 1) a0 a1) := by
 intro a0 a1 k
 obtain ⟨ih0, ih1, ih2⟩ := spec_l4Walk.mono_l k
 unfold spec_l4Walk.f
 repeat' first
   | (with_reducible first | exact ih0 _ _ _ _ _ _ | exact ih1 _ _ _ _ _ _ _ | exact ih2 _ _ _ _ _ _ _ | exact spec_GetLabel.mono _ _ _ | exact spec_NameOk.mono _ _ | exact LeO.refl _ | exact LeO.none _ | refine LeO.ite ?_ ?_ | refine LeO.bind ?_ (fun _ => ?_))
   | exact ih0 _ _ _ _ _ _
   | exact ih1 _ _ _ _ _ _ _
   | exact ih2 _ _ _ _ _ _ _
   | exact spec_GetLabel.mono _ _ _
   | exact spec_NameOk.mono _ _
   | exact LeO.none _
   | refine LeO.ite ?_ ?_
   | refine LeO.bind ?_ (fun _ => ?_)
set_option maxHeartbeats 8000000 in
set_option maxRecDepth 100000 in
theorem spec_l4Walk.calls (k : Nat) (A0 : Option Addr) (c0 : Nat) (l0 : List Int) (a1 : Int) (r1 : ByteArray) (r2 : Int) (r3 : Int) (r4 : Int) (w : World) (hr0 : Kd.C (Kd.int .u8) w A0 l0.length l0) (hc0 : l0.length ≤ c0) (h : spec_l4Walk.f k l0 a1 = some (r1, r2, r3, r4)) :
  Calls Tryd.prog 131 #[.slice A0 l0.length c0, .int .i64 a1] w fun e w' => e = .returned (.tuple #[.string r1, .int .i64 r2, .int .i64 r3, .int .i64 r4]) ∧ Below w.heap.size w w' := by
 have HR0 := aS hr0
 have HC0 := aS hc0
 clear hr0 hc0
 have HB := aS (Below.refl w.heap.size w)
 have H : (spec_l4Walk.l0 k l0 a1 (⟨#[]⟩ : ByteArray) (-1) a1 0) = some (r1, r2, r3, r4) := h
 clear h
 have H' := aS H
 clear H
 go_enter Tryd.func131, Tryd.ntmps131
 go_wp2
 go_loopg [1, 8, 9, 10, 11] k (fun kq v1 v8 v9 v10 v11 w' => ∃ (x1_1 : Int) (x8_1 : ByteArray) (x9_1 : Int) (x10_1 : Int) (x11_1 : Int), v1 = .int .i64 x1_1 ∧ v8 = .string x8_1 ∧ v9 = .int .i64 x9_1 ∧ v10 = .int .i64 x10_1 ∧ v11 = .int .i64 x11_1 ∧ Aside0 (spec_l4Walk.l0 kq l0 x1_1 x8_1 x9_1 x10_1 x11_1 = some (r1, r2, r3, r4)) ∧ Aside0 (kq ≤ k) ∧ Aside0 (Below w.heap.size w w'))
 case atStart => exact ⟨(a1), ((⟨#[]⟩ : ByteArray)), ((-1)), (a1), (0), jB, jB, jB, jB, jB, H', ⟨Nat.le_refl _⟩, ⟨by repeat (first | (with_reducible first | exact HB.out | apply below_alloc | apply pw_below_drewN | apply below_drew1) | exact HB.out)⟩⟩
 case round =>
  clear H'
  try clear c1
  try clear p2
  obtain ⟨x1_1, x8_1, x9_1, x10_1, x11_1, rfl, rfl, rfl, rfl, rfl, HA, HK1, HB⟩ := hrel
  cases gk with
  | zero => exact absurd HA.out (by simp [spec_l4Walk.l0])
  | succ k1 =>
   have H := HA.out
   clear HA
   simp only [spec_l4Walk.l0] at H
   have HC3 := aS H
   clear H
   go_upto_region 5 with (fail)
   go_cut [25] (fun v25 wc => ∃ (kq : Nat) (x25_2 : Bool), v25 = .bool x25_2 ∧ Aside0 (spec_l4Walk.j1 kq l0 x1_1 x8_1 x9_1 x10_1 x11_1 x25_2 = some (r1, r2, r3, r4)) ∧ Aside0 (kq ≤ k1) ∧ Aside0 (Below w.heap.size w wc))
   case first =>
    have H := HC3.out
    clear HC3
    by_cases c4 : x1_1 < 0
    ·rw [if_pos c4] at H
     have c4b0 : decide (x1_1 < 0) = true := decide_eq_true c4
     clear c4
     (first | rw [c4b0] | (simp only [i64_w, i32_w]; rw [c4b0]) | skip)
     have H' := aS H
     clear H
     go_wp2
     go_meet
     case rel => exact ⟨_, (true), jB, H', ⟨by have := HK1.out; first | omega | exact Nat.le_refl _⟩, ⟨by repeat (first | (with_reducible first | exact HB.out | apply below_alloc | apply pw_below_drewN | apply below_drew1) | exact HB.out)⟩⟩
    ·rw [if_neg c4] at H
     have c4b0 : decide (x1_1 < 0) = false := decide_eq_false c4
     clear c4
     (first | rw [c4b0] | (simp only [i64_w, i32_w]; rw [c4b0]) | skip)
     have H' := aS H
     clear H
     go_wp2
     go_meet
     case rel => exact ⟨_, (decide (x1_1 ≥ (l0.length : Int))), jB, H', ⟨by have := HK1.out; first | omega | exact Nat.le_refl _⟩, ⟨by repeat (first | (with_reducible first | exact HB.out | apply below_alloc | apply pw_below_drewN | apply below_drew1) | exact HB.out)⟩⟩
   case rest =>
    clear HC3
    try clear c1
    try clear p2
    try clear c4
    try clear c4b0
    try clear p2
    obtain ⟨kq, x25_2, rfl, HA, HJ2, HB⟩ := hcut
    cases kq with
    | zero => exact absurd HA.out (by simp [spec_l4Walk.j1])
    | succ kj2 =>
     have H := HA.out
     clear HA
     simp only [spec_l4Walk.j1] at H
     by_cases c5 : x25_2 = true
     ·subst c5
      have H1 : (some ((⟨#[]⟩ : ByteArray), 0, 1, x11_1)) = some (r1, r2, r3, r4) := by rw [if_pos rfl] at H; exact H
      clear H
      have H := H1
      clear H1
      simp only [Option.some.injEq, Prod.mk.injEq] at H
      obtain ⟨rfl, rfl, rfl, rfl⟩ := H
      go_wp2
      refine bodyPost_ret (results_list (rs := [.tmp 4, .tmp 5, .tmp 6, .tmp 7]) rfl (by simp) (.tmp (.tmp (.tmp (.tmp .nil))))) rfl ?_
      exact ⟨jE, by repeat (first | (with_reducible first | exact HB.out | apply below_alloc | apply pw_below_drewN | apply below_drew1) | exact HB.out)⟩
     ·replace c5 := Bool.eq_false_iff.mpr c5
      subst c5
      have H1 : (if 0 ≤ x1_1 then (if x1_1 < (l0.length : Int) then (if (wrap64 (rd l0 x1_1)) = 0 then (if x9_1 < 0 then (some (x8_1, wrap64 (x1_1 + 1), 0, x11_1)) else (some (x8_1, x9_1, 0, x11_1))) else (if (wrap64 (rd l0 x1_1)) ≥ 192 then (if (wrap64 (x1_1 + 1)) ≥ (l0.length : Int) then (some ((⟨#[]⟩ : ByteArray), 0, 1, x11_1)) else (if 0 ≤ (wrap64 (x1_1 + 1)) then (if (wrap64 (x1_1 + 1)) < (l0.length : Int) then (if (wrap64 ((wrap64 (256 * (wrap64 ((wrap64 (rd l0 x1_1)) - 192)))) + (wrap64 (rd l0 (wrap64 (x1_1 + 1)))))) ≥ x10_1 then (some ((⟨#[]⟩ : ByteArray), 0, 3, x11_1)) else (if x9_1 < 0 then (spec_l4Walk.l0 kj2 l0 (wrap64 ((wrap64 (256 * (wrap64 ((wrap64 (rd l0 x1_1)) - 192)))) + (wrap64 (rd l0 (wrap64 (x1_1 + 1)))))) x8_1 (wrap64 (x1_1 + 2)) (wrap64 ((wrap64 (256 * (wrap64 ((wrap64 (rd l0 x1_1)) - 192)))) + (wrap64 (rd l0 (wrap64 (x1_1 + 1)))))) (wrap64 (x11_1 + 1))) else (spec_l4Walk.l0 kj2 l0 (wrap64 ((wrap64 (256 * (wrap64 ((wrap64 (rd l0 x1_1)) - 192)))) + (wrap64 (rd l0 (wrap64 (x1_1 + 1)))))) x8_1 x9_1 (wrap64 ((wrap64 (256 * (wrap64 ((wrap64 (rd l0 x1_1)) - 192)))) + (wrap64 (rd l0 (wrap64 (x1_1 + 1)))))) (wrap64 (x11_1 + 1))))) else (none)) else (none))) else (if (wrap64 (rd l0 x1_1)) ≤ 12 then (spec_l4Walk.j2 kj2 l0 x1_1 x8_1 x9_1 x10_1 x11_1 (decide ((wrap64 (rd l0 x1_1)) > (wrap64 ((wrap64 ((l0.length : Int) - x1_1)) - 1))))) else (spec_l4Walk.j2 kj2 l0 x1_1 x8_1 x9_1 x10_1 x11_1 false)))) else (none)) else (none)) = some (r1, r2, r3, r4) := by rw [if_neg (show ¬ (false = true) by decide)] at H; exact H
      clear H
      have H := H1
      clear H1
      by_cases c6 : 0 ≤ x1_1
      ·rw [if_pos c6] at H
       have c6b0 : decide (0 ≤ x1_1) = true := decide_eq_true c6
       clear c6
       by_cases c7 : x1_1 < (l0.length : Int)
       ·rw [if_pos c7] at H
        have c7b0 : decide (x1_1 < (l0.length : Int)) = true := decide_eq_true c7
        clear c7
        by_cases c8 : (wrap64 (rd l0 x1_1)) = 0
        ·rw [if_pos c8] at H
         have c8b0 : ((wrap64 (rd l0 x1_1)) == 0) = true := beq_iff_eq.mpr c8
         have c8b1 : ((wrap64 (rd l0 x1_1)) != 0) = false := bne_eq_false_iff_eq.mpr c8
         clear c8
         by_cases c9 : x9_1 < 0
         ·rw [if_pos c9] at H
          have c9b0 : decide (x9_1 < 0) = true := decide_eq_true c9
          clear c9
          simp only [Option.some.injEq, Prod.mk.injEq] at H
          obtain ⟨rfl, rfl, rfl, rfl⟩ := H
          have p146 : 0 ≤ (x1_1 : Int) := of_decide_eq_true jC
          have q146 : x1_1 < (l0.length : Int) := of_decide_eq_true jC
          obtain ⟨ad146, e146, hx146_0⟩ := Kd.at_int HR0.out x1_1 p146 q146
          cases e146
          try replace hx146_0 := (HB.out.cell (World.block_lt_of_cell? w _ hx146_0)).trans hx146_0
          replace p146 := eq_true p146
          replace q146 := eq_true q146
          go_wp2
          refine bodyPost_ret (results_list (rs := [.tmp 4, .tmp 5, .tmp 6, .tmp 7]) rfl (by simp) (.tmp (.tmp (.tmp (.tmp .nil))))) rfl ?_
          exact ⟨jE, by repeat (first | (with_reducible first | exact HB.out | apply below_alloc | apply pw_below_drewN | apply below_drew1) | exact HB.out)⟩
         ·rw [if_neg c9] at H
          have c9b0 : decide (x9_1 < 0) = false := decide_eq_false c9
          clear c9
          simp only [Option.some.injEq, Prod.mk.injEq] at H
          obtain ⟨rfl, rfl, rfl, rfl⟩ := H
          have p146 : 0 ≤ (x1_1 : Int) := of_decide_eq_true jC
          have q146 : x1_1 < (l0.length : Int) := of_decide_eq_true jC
          obtain ⟨ad146, e146, hx146_0⟩ := Kd.at_int HR0.out x1_1 p146 q146
          cases e146
          try replace hx146_0 := (HB.out.cell (World.block_lt_of_cell? w _ hx146_0)).trans hx146_0
          replace p146 := eq_true p146
          replace q146 := eq_true q146
          go_wp2
          refine bodyPost_ret (results_list (rs := [.tmp 4, .tmp 5, .tmp 6, .tmp 7]) rfl (by simp) (.tmp (.tmp (.tmp (.tmp .nil))))) rfl ?_
          exact ⟨jE, by repeat (first | (with_reducible first | exact HB.out | apply below_alloc | apply pw_below_drewN | apply below_drew1) | exact HB.out)⟩
        ·rw [if_neg c8] at H
         have c8b0 : ((wrap64 (rd l0 x1_1)) == 0) = false := beq_eq_false_iff_ne.mpr c8
         have c8b1 : ((wrap64 (rd l0 x1_1)) != 0) = true := bne_iff_ne.mpr c8
         by_cases c10 : (wrap64 (rd l0 x1_1)) ≥ 192
         ·rw [if_pos c10] at H
          have c10b0 : decide (192 ≤ (wrap64 (rd l0 x1_1))) = true := decide_eq_true c10
          clear c10
          by_cases c11 : (wrap64 (x1_1 + 1)) ≥ (l0.length : Int)
          ·rw [if_pos c11] at H
           have c11b0 : decide ((l0.length : Int) ≤ (wrap64 (x1_1 + 1))) = true := decide_eq_true c11
           clear c11
           simp only [Option.some.injEq, Prod.mk.injEq] at H
           obtain ⟨rfl, rfl, rfl, rfl⟩ := H
           have p146 : 0 ≤ (x1_1 : Int) := of_decide_eq_true jC
           have q146 : x1_1 < (l0.length : Int) := of_decide_eq_true jC
           obtain ⟨ad146, e146, hx146_0⟩ := Kd.at_int HR0.out x1_1 p146 q146
           cases e146
           try replace hx146_0 := (HB.out.cell (World.block_lt_of_cell? w _ hx146_0)).trans hx146_0
           replace p146 := eq_true p146
           replace q146 := eq_true q146
           go_wp2
           refine bodyPost_ret (results_list (rs := [.tmp 4, .tmp 5, .tmp 6, .tmp 7]) rfl (by simp) (.tmp (.tmp (.tmp (.tmp .nil))))) rfl ?_
           exact ⟨jE, by repeat (first | (with_reducible first | exact HB.out | apply below_alloc | apply pw_below_drewN | apply below_drew1) | exact HB.out)⟩
          ·rw [if_neg c11] at H
           have c11b0 : decide ((l0.length : Int) ≤ (wrap64 (x1_1 + 1))) = false := decide_eq_false c11
           clear c11
           obtain ⟨ji12, hji12⟩ : ∃ j_ : Int, (wrap64 (x1_1 + 1)) = j_ := ⟨_, rfl⟩
           replace H : (if 0 ≤ (ji12) then (if (ji12) < (l0.length : Int) then (if (wrap64 ((wrap64 (256 * (wrap64 ((wrap64 (rd l0 x1_1)) - 192)))) + (wrap64 (rd l0 (ji12))))) ≥ x10_1 then (some ((⟨#[]⟩ : ByteArray), 0, 3, x11_1)) else (if x9_1 < 0 then (spec_l4Walk.l0 kj2 l0 (wrap64 ((wrap64 (256 * (wrap64 ((wrap64 (rd l0 x1_1)) - 192)))) + (wrap64 (rd l0 (ji12))))) x8_1 (wrap64 (x1_1 + 2)) (wrap64 ((wrap64 (256 * (wrap64 ((wrap64 (rd l0 x1_1)) - 192)))) + (wrap64 (rd l0 (ji12))))) (wrap64 (x11_1 + 1))) else (spec_l4Walk.l0 kj2 l0 (wrap64 ((wrap64 (256 * (wrap64 ((wrap64 (rd l0 x1_1)) - 192)))) + (wrap64 (rd l0 (ji12))))) x8_1 x9_1 (wrap64 ((wrap64 (256 * (wrap64 ((wrap64 (rd l0 x1_1)) - 192)))) + (wrap64 (rd l0 (ji12))))) (wrap64 (x11_1 + 1))))) else (none)) else (none)) = some (r1, r2, r3, r4) := by first | (rw [hji12] at H; exact H) | (simp only [hji12] at H ⊢; exact H)
           (try rw [hji12] at c11b0)
           have hji12w : (IntKind.i64.wrap (x1_1 + 1)) = ji12 := (i64_w _).trans hji12
           by_cases c13 : 0 ≤ (ji12)
           ·rw [if_pos c13] at H
            have c13b0 : decide (0 ≤ (ji12)) = true := decide_eq_true c13
            clear c13
            by_cases c14 : (ji12) < (l0.length : Int)
            ·rw [if_pos c14] at H
             have c14b0 : decide ((ji12) < (l0.length : Int)) = true := decide_eq_true c14
             clear c14
             by_cases c15 : (wrap64 ((wrap64 (256 * (wrap64 ((wrap64 (rd l0 x1_1)) - 192)))) + (wrap64 (rd l0 (ji12))))) ≥ x10_1
             ·rw [if_pos c15] at H
              have c15b0 : decide (x10_1 ≤ (wrap64 ((wrap64 (256 * (wrap64 ((wrap64 (rd l0 x1_1)) - 192)))) + (wrap64 (rd l0 (ji12)))))) = true := decide_eq_true c15
              clear c15
              simp only [Option.some.injEq, Prod.mk.injEq] at H
              obtain ⟨rfl, rfl, rfl, rfl⟩ := H
              have p146 : 0 ≤ (x1_1 : Int) := of_decide_eq_true jC
              have q146 : x1_1 < (l0.length : Int) := of_decide_eq_true jC
              obtain ⟨ad146, e146, hx146_0⟩ := Kd.at_int HR0.out x1_1 p146 q146
              cases e146
              try replace hx146_0 := (HB.out.cell (World.block_lt_of_cell? w _ hx146_0)).trans hx146_0
              replace p146 := eq_true p146
              replace q146 := eq_true q146
              have p147 : 0 ≤ ((ji12) : Int) := of_decide_eq_true jC
              have q147 : (ji12) < (l0.length : Int) := of_decide_eq_true jC
              obtain ⟨ad147, e147, hx147_0⟩ := Kd.at_int HR0.out (ji12) p147 q147
              obtain rfl : ad146 = ad147 := (by injection e147)
              try replace hx147_0 := (HB.out.cell (World.block_lt_of_cell? w _ hx147_0)).trans hx147_0
              replace p147 := eq_true p147
              replace q147 := eq_true q147
              go_wp2
              refine bodyPost_ret (results_list (rs := [.tmp 4, .tmp 5, .tmp 6, .tmp 7]) rfl (by simp) (.tmp (.tmp (.tmp (.tmp .nil))))) rfl ?_
              exact ⟨by first | rfl | (simp [errW_none, errW_some] <;> rfl) | (simp only [← hji12]; first | rfl | (simp [errW_none, errW_some] <;> rfl)) | (simp [*, errW_none, errW_some] <;> rfl), by repeat (first | (with_reducible first | exact HB.out | apply below_alloc | apply pw_below_drewN | apply below_drew1) | exact HB.out)⟩
             ·rw [if_neg c15] at H
              have c15b0 : decide (x10_1 ≤ (wrap64 ((wrap64 (256 * (wrap64 ((wrap64 (rd l0 x1_1)) - 192)))) + (wrap64 (rd l0 (ji12)))))) = false := decide_eq_false c15
              clear c15
              by_cases c16 : x9_1 < 0
              ·rw [if_pos c16] at H
               have c16b0 : decide (x9_1 < 0) = true := decide_eq_true c16
               clear c16
               have H' := aS H
               clear H
               have p146 : 0 ≤ (x1_1 : Int) := of_decide_eq_true jC
               have q146 : x1_1 < (l0.length : Int) := of_decide_eq_true jC
               obtain ⟨ad146, e146, hx146_0⟩ := Kd.at_int HR0.out x1_1 p146 q146
               cases e146
               try replace hx146_0 := (HB.out.cell (World.block_lt_of_cell? w _ hx146_0)).trans hx146_0
               replace p146 := eq_true p146
               replace q146 := eq_true q146
               have p147 : 0 ≤ ((ji12) : Int) := of_decide_eq_true jC
               have q147 : (ji12) < (l0.length : Int) := of_decide_eq_true jC
               obtain ⟨ad147, e147, hx147_0⟩ := Kd.at_int HR0.out (ji12) p147 q147
               obtain rfl : ad146 = ad147 := (by injection e147)
               try replace hx147_0 := (HB.out.cell (World.block_lt_of_cell? w _ hx147_0)).trans hx147_0
               replace p147 := eq_true p147
               replace q147 := eq_true q147
               go_wp2
               go_roundg kj2
               case measure => have := HK1.out; have := HJ2.out; omega
               case rel => exact ⟨(wrap64 ((wrap64 (256 * (wrap64 ((wrap64 (rd l0 x1_1)) - 192)))) + (wrap64 (rd l0 (ji12))))), (x8_1), (wrap64 (x1_1 + 2)), (wrap64 ((wrap64 (256 * (wrap64 ((wrap64 (rd l0 x1_1)) - 192)))) + (wrap64 (rd l0 (ji12))))), (wrap64 (x11_1 + 1)), (by first | rfl | (simp; done) | (simp only [← hji12] <;> (first | rfl | simp)) | (simp [*]; done)), jB, jB, (by first | rfl | (simp; done) | (simp only [← hji12] <;> (first | rfl | simp)) | (simp [*]; done)), jB, H', ⟨by have := HK1.out; have := HJ2.out; omega⟩, ⟨by repeat (first | (with_reducible first | exact HB.out | apply below_alloc | apply pw_below_drewN | apply below_drew1) | exact HB.out)⟩⟩
              ·rw [if_neg c16] at H
               have c16b0 : decide (x9_1 < 0) = false := decide_eq_false c16
               clear c16
               have H' := aS H
               clear H
               have p146 : 0 ≤ (x1_1 : Int) := of_decide_eq_true jC
               have q146 : x1_1 < (l0.length : Int) := of_decide_eq_true jC
               obtain ⟨ad146, e146, hx146_0⟩ := Kd.at_int HR0.out x1_1 p146 q146
               cases e146
               try replace hx146_0 := (HB.out.cell (World.block_lt_of_cell? w _ hx146_0)).trans hx146_0
               replace p146 := eq_true p146
               replace q146 := eq_true q146
               have p147 : 0 ≤ ((ji12) : Int) := of_decide_eq_true jC
               have q147 : (ji12) < (l0.length : Int) := of_decide_eq_true jC
               obtain ⟨ad147, e147, hx147_0⟩ := Kd.at_int HR0.out (ji12) p147 q147
               obtain rfl : ad146 = ad147 := (by injection e147)
               try replace hx147_0 := (HB.out.cell (World.block_lt_of_cell? w _ hx147_0)).trans hx147_0
               replace p147 := eq_true p147
               replace q147 := eq_true q147
               go_wp2
               go_roundg kj2
               case measure => have := HK1.out; have := HJ2.out; omega
               case rel => exact ⟨(wrap64 ((wrap64 (256 * (wrap64 ((wrap64 (rd l0 x1_1)) - 192)))) + (wrap64 (rd l0 (ji12))))), (x8_1), (x9_1), (wrap64 ((wrap64 (256 * (wrap64 ((wrap64 (rd l0 x1_1)) - 192)))) + (wrap64 (rd l0 (ji12))))), (wrap64 (x11_1 + 1)), (by first | rfl | (simp; done) | (simp only [← hji12] <;> (first | rfl | simp)) | (simp [*]; done)), jB, jB, (by first | rfl | (simp; done) | (simp only [← hji12] <;> (first | rfl | simp)) | (simp [*]; done)), jB, H', ⟨by have := HK1.out; have := HJ2.out; omega⟩, ⟨by repeat (first | (with_reducible first | exact HB.out | apply below_alloc | apply pw_below_drewN | apply below_drew1) | exact HB.out)⟩⟩
            ·rw [if_neg c14] at H
             exact absurd H (by simp)
           ·rw [if_neg c13] at H
            exact absurd H (by simp)
         ·rw [if_neg c10] at H
          have c10b0 : decide (192 ≤ (wrap64 (rd l0 x1_1))) = false := decide_eq_false c10
          clear c10
          have HC17 := aS H
          clear H
          have p146 : 0 ≤ (x1_1 : Int) := of_decide_eq_true jC
          have q146 : x1_1 < (l0.length : Int) := of_decide_eq_true jC
          obtain ⟨ad146, e146, hx146_0⟩ := Kd.at_int HR0.out x1_1 p146 q146
          cases e146
          try replace hx146_0 := (HB.out.cell (World.block_lt_of_cell? w _ hx146_0)).trans hx146_0
          replace p146 := eq_true p146
          replace q146 := eq_true q146
          go_upto_region 23 with (fail)
          go_cut [81] (fun v81 wc => ∃ (kq : Nat) (x81_16 : Bool), v81 = .bool x81_16 ∧ Aside0 (spec_l4Walk.j2 kq l0 x1_1 x8_1 x9_1 x10_1 x11_1 x81_16 = some (r1, r2, r3, r4)) ∧ Aside0 (kq ≤ kj2) ∧ Aside0 (Below w.heap.size w wc))
          case first =>
           have H := HC17.out
           clear HC17
           by_cases c18 : (wrap64 (rd l0 x1_1)) ≤ 12
           ·rw [if_pos c18] at H
            have c18b0 : decide ((wrap64 (rd l0 x1_1)) ≤ 12) = true := decide_eq_true c18
            clear c18
            (first | rw [c18b0] | (simp only [i64_w, i32_w]; rw [c18b0]) | skip)
            have H' := aS H
            clear H
            go_wp2
            go_meet
            case rel => exact ⟨_, (decide ((wrap64 (rd l0 x1_1)) > (wrap64 ((wrap64 ((l0.length : Int) - x1_1)) - 1)))), jB, H', ⟨by have := HK1.out; have := HJ2.out; first | omega | exact Nat.le_refl _⟩, ⟨by repeat (first | (with_reducible first | exact HB.out | apply below_alloc | apply pw_below_drewN | apply below_drew1) | exact HB.out)⟩⟩
           ·rw [if_neg c18] at H
            have c18b0 : decide ((wrap64 (rd l0 x1_1)) ≤ 12) = false := decide_eq_false c18
            clear c18
            (first | rw [c18b0] | (simp only [i64_w, i32_w]; rw [c18b0]) | skip)
            have H' := aS H
            clear H
            go_wp2
            go_meet
            case rel => exact ⟨_, (false), jB, H', ⟨by have := HK1.out; have := HJ2.out; first | omega | exact Nat.le_refl _⟩, ⟨by repeat (first | (with_reducible first | exact HB.out | apply below_alloc | apply pw_below_drewN | apply below_drew1) | exact HB.out)⟩⟩
          case rest =>
           clear HC17
           try clear c1
           try clear p1
           try clear q1
           try clear hx1
           try clear p2
           try clear c4
           try clear c4b0
           try clear c5
           try clear c6
           try clear c6b0
           try clear p6
           try clear c7
           try clear c7b0
           try clear c8
           try clear c8b0
           try clear c8b1
           try clear c9
           try clear c9b0
           try clear c10
           try clear c10b0
           try clear c11
           try clear c11b0
           try clear c13
           try clear c13b0
           try clear c14
           try clear c14b0
           try clear p14
           try clear q14
           try clear hx14
           try clear c15
           try clear c15b0
           try clear c16
           try clear c16b0
           try clear c18
           try clear c18b0
           try clear hx146_0
           try clear hx147_0
           try clear p146
           try clear p147
           try clear p2
           try clear q146
           try clear q147
           obtain ⟨kq, x81_16, rfl, HA, HJ16, HB⟩ := hcut
           cases kq with
           | zero => exact absurd HA.out (by simp [spec_l4Walk.j2])
           | succ kj16 =>
            have H := HA.out
            clear HA
            simp only [spec_l4Walk.j2] at H
            by_cases c19 : x81_16 = true
            ·subst c19
             have H1 : (some ((⟨#[]⟩ : ByteArray), 0, 1, x11_1)) = some (r1, r2, r3, r4) := by rw [if_pos rfl] at H; exact H
             clear H
             have H := H1
             clear H1
             simp only [Option.some.injEq, Prod.mk.injEq] at H
             obtain ⟨rfl, rfl, rfl, rfl⟩ := H
             go_wp2
             refine bodyPost_ret (results_list (rs := [.tmp 4, .tmp 5, .tmp 6, .tmp 7]) rfl (by simp) (.tmp (.tmp (.tmp (.tmp .nil))))) rfl ?_
             exact ⟨jE, by repeat (first | (with_reducible first | exact HB.out | apply below_alloc | apply pw_below_drewN | apply below_drew1) | exact HB.out)⟩
            ·replace c19 := Bool.eq_false_iff.mpr c19
             subst c19
             have H1 : ((spec_GetLabel.f kj16 l0 x1_1).bind fun bt148 => (if bt148.2.2 = true then (if x8_1.toList = ([] : List UInt8) then (if x8_1.size + bt148.1.size ≤ 9223372036854775807 then ((spec_NameOk.f kj16 (x8_1 ++ bt148.1)).bind fun t151 => (if t151 = true then (spec_l4Walk.l0 kj16 l0 bt148.2.1 (x8_1 ++ bt148.1) x9_1 x10_1 x11_1) else (some ((⟨#[]⟩ : ByteArray), 0, 4, x11_1)))) else (none)) else (if x8_1.size + 1 ≤ 9223372036854775807 then (if (x8_1 ++ (⟨#[46]⟩ : ByteArray)).size + bt148.1.size ≤ 9223372036854775807 then ((spec_NameOk.f kj16 ((x8_1 ++ (⟨#[46]⟩ : ByteArray)) ++ bt148.1)).bind fun t152 => (if t152 = true then (spec_l4Walk.l0 kj16 l0 bt148.2.1 ((x8_1 ++ (⟨#[46]⟩ : ByteArray)) ++ bt148.1) x9_1 x10_1 x11_1) else (some ((⟨#[]⟩ : ByteArray), 0, 4, x11_1)))) else (none)) else (none))) else (some ((⟨#[]⟩ : ByteArray), 0, 2, x11_1)))) = some (r1, r2, r3, r4) := by rw [if_neg (show ¬ (false = true) by decide)] at H; exact H
             clear H
             have H := H1
             clear H1
             replace H := Option.bind_eq_some_iff.mp H
             obtain ⟨⟨t148, t149, t150⟩, A20, H⟩ := H
             try dsimp only at H
             replace A20 := aS A20
             have HC21 := aS H
             clear H
             go_upto_if 91 with (first | ((with_reducible refine gate_callee (f := 150) rfl ?_); refine goesL_ (some 86) rfl rfl Tryd.func150 jK rfl #[.slice (some ad146) l0.length c0, .int .i64 x1_1] rfl jA ?_; (with_reducible refine (spec_GetLabel.calls kj16 _ _ l0 x1_1 t148 t149 t150 _ ?side1 ?side2 A20.out).mono ?_); (case side1 => exact cU ((Kd.C_below HR0.out HB.out))); (case side2 => exact HC0.out); rintro e w22 ⟨rfl, hb⟩; refine ⟨_, rfl, ?_⟩; have n0_ := aS (below_step (wU HB.out) hb); clear HB; revert n0_; intro HB; clear hb))
             (try simp only [Act.put, List.setIfInBounds_toArray, List.set_cons_zero, List.set_cons_succ])
             have H := HC21.out
             clear HC21
             by_cases c23 : t150 = true
             ·subst c23
              have H1 : (if x8_1.toList = ([] : List UInt8) then (if x8_1.size + t148.size ≤ 9223372036854775807 then ((spec_NameOk.f kj16 (x8_1 ++ t148)).bind fun t151 => (if t151 = true then (spec_l4Walk.l0 kj16 l0 t149 (x8_1 ++ t148) x9_1 x10_1 x11_1) else (some ((⟨#[]⟩ : ByteArray), 0, 4, x11_1)))) else (none)) else (if x8_1.size + 1 ≤ 9223372036854775807 then (if (x8_1 ++ (⟨#[46]⟩ : ByteArray)).size + t148.size ≤ 9223372036854775807 then ((spec_NameOk.f kj16 ((x8_1 ++ (⟨#[46]⟩ : ByteArray)) ++ t148)).bind fun t152 => (if t152 = true then (spec_l4Walk.l0 kj16 l0 t149 ((x8_1 ++ (⟨#[46]⟩ : ByteArray)) ++ t148) x9_1 x10_1 x11_1) else (some ((⟨#[]⟩ : ByteArray), 0, 4, x11_1)))) else (none)) else (none))) = some (r1, r2, r3, r4) := by rw [if_pos rfl] at H; exact H
              clear H
              have H := H1
              clear H1
              by_cases c24 : x8_1.toList = ([] : List UInt8)
              ·rw [if_pos c24] at H
               have c24b0 : (x8_1.toList == ([] : List UInt8)) = true := beq_iff_eq.mpr c24
               have c24b1 : (x8_1.toList != ([] : List UInt8)) = false := bne_eq_false_iff_eq.mpr c24
               clear c24
               (first | rw [c24b0] | (simp only [i64_w, i32_w]; rw [c24b0]) | skip)
               by_cases c25 : x8_1.size + t148.size ≤ 9223372036854775807
               ·rw [if_pos c25] at H
                have c25b0 := eq_true c25
                have c25b1 : decide (x8_1.size + t148.size ≤ 9223372036854775807) = true := decide_eq_true c25
                try have c25b2 : (9223372036854775807 < x8_1.size + t148.size) = False := eq_false (Nat.not_lt.2 c25)
                replace H := Option.bind_eq_some_iff.mp H
                obtain ⟨t151, A26, H⟩ := H
                try dsimp only at H
                replace A26 := aS A26
                by_cases c27 : t151 = true
                ·subst c27
                 have H1 : (spec_l4Walk.l0 kj16 l0 t149 (x8_1 ++ t148) x9_1 x10_1 x11_1) = some (r1, r2, r3, r4) := by rw [if_pos rfl] at H; exact H
                 clear H
                 have H := H1
                 clear H1
                 have H' := aS H
                 clear H
                 go_wp2_with (first | ((with_reducible refine gate_callee (f := 110) rfl ?_); refine goesL_ (some 101) rfl rfl Tryd.func110 jK rfl #[.string (x8_1 ++ t148)] rfl jA ?_; (with_reducible refine (spec_NameOk.calls kj16 (x8_1 ++ t148) true _ A26.out).mono ?_); rintro e w28 ⟨rfl, hb⟩; refine ⟨_, rfl, ?_⟩; have n0_ := aS (below_step (wU HB.out) hb); clear HB; revert n0_; intro HB; clear hb))
                 go_roundg kj16
                 case measure => have := HK1.out; have := HJ2.out; have := HJ16.out; omega
                 case rel => exact ⟨(t149), (x8_1 ++ t148), (x9_1), (x10_1), (x11_1), jB, jB, jB, jB, jB, H', ⟨by have := HK1.out; have := HJ2.out; have := HJ16.out; omega⟩, ⟨by repeat (first | (with_reducible first | exact HB.out | apply below_alloc | apply pw_below_drewN | apply below_drew1) | exact HB.out)⟩⟩
                ·replace c27 := Bool.eq_false_iff.mpr c27
                 subst c27
                 have H1 : (some ((⟨#[]⟩ : ByteArray), 0, 4, x11_1)) = some (r1, r2, r3, r4) := by rw [if_neg (show ¬ (false = true) by decide)] at H; exact H
                 clear H
                 have H := H1
                 clear H1
                 simp only [Option.some.injEq, Prod.mk.injEq] at H
                 obtain ⟨rfl, rfl, rfl, rfl⟩ := H
                 go_wp2_with (first | ((with_reducible refine gate_callee (f := 110) rfl ?_); refine goesL_ (some 101) rfl rfl Tryd.func110 jK rfl #[.string (x8_1 ++ t148)] rfl jA ?_; (with_reducible refine (spec_NameOk.calls kj16 (x8_1 ++ t148) false _ A26.out).mono ?_); rintro e w29 ⟨rfl, hb⟩; refine ⟨_, rfl, ?_⟩; have n0_ := aS (below_step (wU HB.out) hb); clear HB; revert n0_; intro HB; clear hb))
                 refine bodyPost_ret (results_list (rs := [.tmp 4, .tmp 5, .tmp 6, .tmp 7]) rfl (by simp) (.tmp (.tmp (.tmp (.tmp .nil))))) rfl ?_
                 exact ⟨jE, by repeat (first | (with_reducible first | exact HB.out | apply below_alloc | apply pw_below_drewN | apply below_drew1) | exact HB.out)⟩
               ·rw [if_neg c25] at H
                exact absurd H (by simp)
              ·rw [if_neg c24] at H
               have c24b0 : (x8_1.toList == ([] : List UInt8)) = false := beq_eq_false_iff_ne.mpr c24
               have c24b1 : (x8_1.toList != ([] : List UInt8)) = true := bne_iff_ne.mpr c24
               (first | rw [c24b0] | (simp only [i64_w, i32_w]; rw [c24b0]) | skip)
               by_cases c30 : x8_1.size + 1 ≤ 9223372036854775807
               ·rw [if_pos c30] at H
                have c30b0 := eq_true c30
                have c30b1 : decide (x8_1.size + 1 ≤ 9223372036854775807) = true := decide_eq_true c30
                try have c30b2 : (9223372036854775807 < x8_1.size + 1) = False := eq_false (Nat.not_lt.2 c30)
                by_cases c31 : (x8_1 ++ (⟨#[46]⟩ : ByteArray)).size + t148.size ≤ 9223372036854775807
                ·rw [if_pos c31] at H
                 have c31b0 := eq_true c31
                 have c31b1 : decide ((x8_1 ++ (⟨#[46]⟩ : ByteArray)).size + t148.size ≤ 9223372036854775807) = true := decide_eq_true c31
                 try have c31b2 : (9223372036854775807 < (x8_1 ++ (⟨#[46]⟩ : ByteArray)).size + t148.size) = False := eq_false (Nat.not_lt.2 c31)
                 try have c31b8 : (9223372036854775807 < x8_1.size + 1 + t148.size) = False := by have q_ := c31b2; simp only [ByteArray.size_append] at q_; exact q_
                 replace H := Option.bind_eq_some_iff.mp H
                 obtain ⟨t152, A32, H⟩ := H
                 try dsimp only at H
                 replace A32 := aS A32
                 by_cases c33 : t152 = true
                 ·subst c33
                  have H1 : (spec_l4Walk.l0 kj16 l0 t149 ((x8_1 ++ (⟨#[46]⟩ : ByteArray)) ++ t148) x9_1 x10_1 x11_1) = some (r1, r2, r3, r4) := by rw [if_pos rfl] at H; exact H
                  clear H
                  have H := H1
                  clear H1
                  have H' := aS H
                  clear H
                  go_wp2_with (first | ((with_reducible refine gate_callee (f := 110) rfl ?_); refine goesL_ (some 101) rfl rfl Tryd.func110 jK rfl #[.string ((x8_1 ++ (⟨#[46]⟩ : ByteArray)) ++ t148)] rfl jA ?_; (with_reducible refine (spec_NameOk.calls kj16 ((x8_1 ++ (⟨#[46]⟩ : ByteArray)) ++ t148) true _ A32.out).mono ?_); rintro e w34 ⟨rfl, hb⟩; refine ⟨_, rfl, ?_⟩; have n0_ := aS (below_step (wU HB.out) hb); clear HB; revert n0_; intro HB; clear hb))
                  go_roundg kj16
                  case measure => have := HK1.out; have := HJ2.out; have := HJ16.out; omega
                  case rel => exact ⟨(t149), ((x8_1 ++ (⟨#[46]⟩ : ByteArray)) ++ t148), (x9_1), (x10_1), (x11_1), jB, jB, jB, jB, jB, H', ⟨by have := HK1.out; have := HJ2.out; have := HJ16.out; omega⟩, ⟨by repeat (first | (with_reducible first | exact HB.out | apply below_alloc | apply pw_below_drewN | apply below_drew1) | exact HB.out)⟩⟩
                 ·replace c33 := Bool.eq_false_iff.mpr c33
                  subst c33
                  have H1 : (some ((⟨#[]⟩ : ByteArray), 0, 4, x11_1)) = some (r1, r2, r3, r4) := by rw [if_neg (show ¬ (false = true) by decide)] at H; exact H
                  clear H
                  have H := H1
                  clear H1
                  simp only [Option.some.injEq, Prod.mk.injEq] at H
                  obtain ⟨rfl, rfl, rfl, rfl⟩ := H
                  go_wp2_with (first | ((with_reducible refine gate_callee (f := 110) rfl ?_); refine goesL_ (some 101) rfl rfl Tryd.func110 jK rfl #[.string ((x8_1 ++ (⟨#[46]⟩ : ByteArray)) ++ t148)] rfl jA ?_; (with_reducible refine (spec_NameOk.calls kj16 ((x8_1 ++ (⟨#[46]⟩ : ByteArray)) ++ t148) false _ A32.out).mono ?_); rintro e w35 ⟨rfl, hb⟩; refine ⟨_, rfl, ?_⟩; have n0_ := aS (below_step (wU HB.out) hb); clear HB; revert n0_; intro HB; clear hb))
                  refine bodyPost_ret (results_list (rs := [.tmp 4, .tmp 5, .tmp 6, .tmp 7]) rfl (by simp) (.tmp (.tmp (.tmp (.tmp .nil))))) rfl ?_
                  exact ⟨jE, by repeat (first | (with_reducible first | exact HB.out | apply below_alloc | apply pw_below_drewN | apply below_drew1) | exact HB.out)⟩
                ·rw [if_neg c31] at H
                 exact absurd H (by simp)
               ·rw [if_neg c30] at H
                exact absurd H (by simp)
             ·replace c23 := Bool.eq_false_iff.mpr c23
              subst c23
              have H1 : (some ((⟨#[]⟩ : ByteArray), 0, 2, x11_1)) = some (r1, r2, r3, r4) := by rw [if_neg (show ¬ (false = true) by decide)] at H; exact H
              clear H
              have H := H1
              clear H1
              simp only [Option.some.injEq, Prod.mk.injEq] at H
              obtain ⟨rfl, rfl, rfl, rfl⟩ := H
              go_wp2
              refine bodyPost_ret (results_list (rs := [.tmp 4, .tmp 5, .tmp 6, .tmp 7]) rfl (by simp) (.tmp (.tmp (.tmp (.tmp .nil))))) rfl ?_
              exact ⟨jE, by repeat (first | (with_reducible first | exact HB.out | apply below_alloc | apply pw_below_drewN | apply below_drew1) | exact HB.out)⟩
       ·rw [if_neg c7] at H
        exact absurd H (by simp)
      ·rw [if_neg c6] at H
       exact absurd H (by simp)

/-! ### spec_GetName: function 82 -/
def spec_GetName.f (k : Nat) (l0 : List Int) (a1 : Int) : Option (ByteArray × Int × Int) := (spec_l4Walk.f k l0 a1).bind fun bt153 => (some (bt153.1, bt153.2.1, bt153.2.2.1))
theorem spec_GetName.mono : ∀ a0 a1 k, LeO (spec_GetName.f k a0 a1) (spec_GetName.f (k + 1) a0 a1) := by
 intro a0 a1 k
 unfold spec_GetName.f
 repeat' first
   | (with_reducible first | exact spec_l4Walk.mono _ _ _ | exact LeO.refl _ | exact LeO.none _ | refine LeO.ite ?_ ?_ | refine LeO.bind ?_ (fun _ => ?_))
   | exact spec_l4Walk.mono _ _ _
   | exact LeO.none _
   | refine LeO.ite ?_ ?_
   | refine LeO.bind ?_ (fun _ => ?_)
set_option maxHeartbeats 8000000 in
set_option maxRecDepth 100000 in
theorem spec_GetName.calls (k : Nat) (A0 : Option Addr) (c0 : Nat) (l0 : List Int) (a1 : Int) (r1 : ByteArray) (r2 : Int) (r3 : Int) (w : World) (hr0 : Kd.C (Kd.int .u8) w A0 l0.length l0) (hc0 : l0.length ≤ c0) (h : spec_GetName.f k l0 a1 = some (r1, r2, r3)) :
  Calls Tryd.prog 82 #[.slice A0 l0.length c0, .int .i64 a1] w fun e w' => e = .returned (.tuple #[.string r1, .int .i64 r2, .int .i64 r3]) ∧ Below w.heap.size w w' := by
 have HR0 := aS hr0
 have HC0 := aS hc0
 clear hr0 hc0
 have HB := aS (Below.refl w.heap.size w)
 have H : ((spec_l4Walk.f k l0 a1).bind fun bt153 => (some (bt153.1, bt153.2.1, bt153.2.2.1))) = some (r1, r2, r3) := h
 clear h
 replace H := Option.bind_eq_some_iff.mp H
 obtain ⟨⟨t153, t154, t155, t156⟩, A3, H⟩ := H
 try dsimp only at H
 replace A3 := aS A3
 simp only [Option.some.injEq, Prod.mk.injEq] at H
 obtain ⟨rfl, rfl, rfl⟩ := H
 go_enter Tryd.func82, Tryd.ntmps82
 go_wp2_with (first | ((with_reducible refine gate_callee (f := 131) rfl ?_); refine goesL_ (some 14) rfl rfl Tryd.func131 jK rfl #[.slice A0 l0.length c0, .int .i64 a1] rfl jA ?_; (with_reducible refine (spec_l4Walk.calls k _ _ l0 a1 t153 t154 t155 t156 _ ?side1 ?side2 A3.out).mono ?_); (case side1 => exact cU (HR0.out)); (case side2 => exact HC0.out); rintro e w4 ⟨rfl, hb⟩; refine ⟨_, rfl, ?_⟩; have n0_ := aS (below_step (wU HB.out) hb); clear HB; revert n0_; intro HB; clear hb))
 go_ret3
 exact ⟨jE, by repeat (first | (with_reducible first | exact HB.out | apply below_alloc | apply pw_below_drewN | apply below_drew1) | exact HB.out)⟩

/-! ### spec_PlaceOf: function 122 -/
mutual
def spec_PlaceOf.l0 : Nat → List Int → ByteArray → Int → Option (Int)
 | 0, _, _, _ => none
 | k + 1, x0, x1, x5 => if x5 < (x0.length : Int) then (spec_PlaceOf.j1 k x0 x1 x5 (decide (x5 ≤ 16383))) else (spec_PlaceOf.j1 k x0 x1 x5 false)
def spec_PlaceOf.j1 : Nat → List Int → ByteArray → Int → Bool → Option (Int)
 | 0, _, _, _, _ => none
 | k + 1, x0, x1, x5, x16 => if x16 = true then ((spec_GetName.f k x0 x5).bind fun bt157 => (if bt157.2.2 = 0 then (if bt157.1.toList = x1.toList then (some x5) else (spec_PlaceOf.l0 k x0 x1 (wrap64 (x5 + 1)))) else (spec_PlaceOf.l0 k x0 x1 (wrap64 (x5 + 1))))) else (some (-1))
end
def spec_PlaceOf.f (k : Nat) (l0 : List Int) (a1 : ByteArray) : Option (Int) := spec_PlaceOf.l0 k l0 a1 0
theorem spec_PlaceOf.mono_l : ∀ k, (∀ y0 y1 y2, LeO (spec_PlaceOf.l0 k y0 y1 y2) (spec_PlaceOf.l0 (k + 1) y0 y1 y2)) ∧ (∀ y0 y1 y2 y3, LeO (spec_PlaceOf.j1 k y0 y1 y2 y3) (spec_PlaceOf.j1 (k + 1) y0 y1 y2 y3))
 | 0 => ⟨fun _ _ _ r h => by simp [spec_PlaceOf.l0] at h, fun _ _ _ _ r h => by simp [spec_PlaceOf.j1] at h⟩
 | k + 1 => by
  obtain ⟨ih0, ih1⟩ := spec_PlaceOf.mono_l k
  refine ⟨?_, ?_⟩
  ·intro y0 y1 y2
   unfold spec_PlaceOf.l0
   repeat' first
   | (with_reducible first | exact ih0 _ _ _ | exact ih1 _ _ _ _ | exact spec_GetName.mono _ _ _ | exact LeO.refl _ | exact LeO.none _ | refine LeO.ite ?_ ?_ | refine LeO.bind ?_ (fun _ => ?_))
   | exact ih0 _ _ _
   | exact ih1 _ _ _ _
   | exact spec_GetName.mono _ _ _
   | exact LeO.none _
   | refine LeO.ite ?_ ?_
   | refine LeO.bind ?_ (fun _ => ?_)
  ·intro y0 y1 y2 y3
   unfold spec_PlaceOf.j1
   repeat' first
   | (with_reducible first | exact ih0 _ _ _ | exact ih1 _ _ _ _ | exact spec_GetName.mono _ _ _ | exact LeO.refl _ | exact LeO.none _ | refine LeO.ite ?_ ?_ | refine LeO.bind ?_ (fun _ => ?_))
   | exact ih0 _ _ _
   | exact ih1 _ _ _ _
   | exact spec_GetName.mono _ _ _
   | exact LeO.none _
   | refine LeO.ite ?_ ?_
   | refine LeO.bind ?_ (fun _ => ?_)
theorem spec_PlaceOf.mono : ∀ a0 a1 k, LeO (spec_PlaceOf.f k a0 a1) (spec_PlaceOf.f (k + 1) a0 a1) := by
 intro a0 a1 k
 obtain ⟨ih0, ih1⟩ := spec_PlaceOf.mono_l k
 unfold spec_PlaceOf.f
 repeat' first
   | (with_reducible first | exact ih0 _ _ _ | exact ih1 _ _ _ _ | exact spec_GetName.mono _ _ _ | exact LeO.refl _ | exact LeO.none _ | refine LeO.ite ?_ ?_ | refine LeO.bind ?_ (fun _ => ?_))
   | exact ih0 _ _ _
   | exact ih1 _ _ _ _
   | exact spec_GetName.mono _ _ _
   | exact LeO.none _
   | refine LeO.ite ?_ ?_
   | refine LeO.bind ?_ (fun _ => ?_)
set_option maxHeartbeats 8000000 in
set_option maxRecDepth 100000 in
theorem spec_PlaceOf.calls (k : Nat) (A0 : Option Addr) (c0 : Nat) (l0 : List Int) (a1 : ByteArray) (r : Int) (w : World) (hr0 : Kd.C (Kd.int .u8) w A0 l0.length l0) (hc0 : l0.length ≤ c0) (h : spec_PlaceOf.f k l0 a1 = some r) :
  Calls Tryd.prog 122 #[.slice A0 l0.length c0, .string a1] w fun e w' => e = .returned (.int .i64 r) ∧ Below w.heap.size w w' := by
 have HR0 := aS hr0
 have HC0 := aS hc0
 clear hr0 hc0
 have HB := aS (Below.refl w.heap.size w)
 have H : (spec_PlaceOf.l0 k l0 a1 0) = some r := h
 clear h
 have H' := aS H
 clear H
 go_enter Tryd.func122, Tryd.ntmps122
 go_wp2
 go_loopg [5] k (fun kq v5 w' => ∃ (x5_1 : Int), v5 = .int .i64 x5_1 ∧ Aside0 (spec_PlaceOf.l0 kq l0 a1 x5_1 = some r) ∧ Aside0 (kq ≤ k) ∧ Aside0 (Below w.heap.size w w'))
 case atStart => exact ⟨(0), jB, H', ⟨Nat.le_refl _⟩, ⟨by repeat (first | (with_reducible first | exact HB.out | apply below_alloc | apply pw_below_drewN | apply below_drew1) | exact HB.out)⟩⟩
 case round =>
  clear H'
  try clear c1
  try clear p2
  obtain ⟨x5_1, rfl, HA, HK1, HB⟩ := hrel
  cases gk with
  | zero => exact absurd HA.out (by simp [spec_PlaceOf.l0])
  | succ k1 =>
   have H := HA.out
   clear HA
   simp only [spec_PlaceOf.l0] at H
   have HC3 := aS H
   clear H
   go_upto_region 2 with (fail)
   go_cut [16] (fun v16 wc => ∃ (kq : Nat) (x16_2 : Bool), v16 = .bool x16_2 ∧ Aside0 (spec_PlaceOf.j1 kq l0 a1 x5_1 x16_2 = some r) ∧ Aside0 (kq ≤ k1) ∧ Aside0 (Below w.heap.size w wc))
   case first =>
    have H := HC3.out
    clear HC3
    by_cases c4 : x5_1 < (l0.length : Int)
    ·rw [if_pos c4] at H
     have c4b0 : decide (x5_1 < (l0.length : Int)) = true := decide_eq_true c4
     clear c4
     (first | rw [c4b0] | (simp only [i64_w, i32_w]; rw [c4b0]) | skip)
     have H' := aS H
     clear H
     go_wp2
     go_meet
     case rel => exact ⟨_, (decide (x5_1 ≤ 16383)), jB, H', ⟨by have := HK1.out; first | omega | exact Nat.le_refl _⟩, ⟨by repeat (first | (with_reducible first | exact HB.out | apply below_alloc | apply pw_below_drewN | apply below_drew1) | exact HB.out)⟩⟩
    ·rw [if_neg c4] at H
     have c4b0 : decide (x5_1 < (l0.length : Int)) = false := decide_eq_false c4
     clear c4
     (first | rw [c4b0] | (simp only [i64_w, i32_w]; rw [c4b0]) | skip)
     have H' := aS H
     clear H
     go_wp2
     go_meet
     case rel => exact ⟨_, (false), jB, H', ⟨by have := HK1.out; first | omega | exact Nat.le_refl _⟩, ⟨by repeat (first | (with_reducible first | exact HB.out | apply below_alloc | apply pw_below_drewN | apply below_drew1) | exact HB.out)⟩⟩
   case rest =>
    clear HC3
    try clear c1
    try clear p2
    try clear c4
    try clear c4b0
    try clear p2
    obtain ⟨kq, x16_2, rfl, HA, HJ2, HB⟩ := hcut
    cases kq with
    | zero => exact absurd HA.out (by simp [spec_PlaceOf.j1])
    | succ kj2 =>
     have H := HA.out
     clear HA
     simp only [spec_PlaceOf.j1] at H
     by_cases c5 : x16_2 = true
     ·subst c5
      have H1 : ((spec_GetName.f kj2 l0 x5_1).bind fun bt157 => (if bt157.2.2 = 0 then (if bt157.1.toList = a1.toList then (some x5_1) else (spec_PlaceOf.l0 kj2 l0 a1 (wrap64 (x5_1 + 1)))) else (spec_PlaceOf.l0 kj2 l0 a1 (wrap64 (x5_1 + 1))))) = some r := by rw [if_pos rfl] at H; exact H
      clear H
      have H := H1
      clear H1
      replace H := Option.bind_eq_some_iff.mp H
      obtain ⟨⟨t157, t158, t159⟩, A6, H⟩ := H
      try dsimp only at H
      replace A6 := aS A6
      by_cases c7 : t159 = 0
      ·rw [if_pos c7] at H
       have c7b0 : (t159 == 0) = true := beq_iff_eq.mpr c7
       have c7b1 : (t159 != 0) = false := bne_eq_false_iff_eq.mpr c7
       clear c7
       by_cases c8 : t157.toList = a1.toList
       ·rw [if_pos c8] at H
        have c8b0 : (t157.toList == a1.toList) = true := beq_iff_eq.mpr c8
        have c8b1 : (t157.toList != a1.toList) = false := bne_eq_false_iff_eq.mpr c8
        clear c8
        obtain rfl := Option.some.inj H
        go_wp2_with (first | ((with_reducible refine gate_callee (f := 82) rfl ?_); refine goesL_ (some 22) rfl rfl Tryd.func82 jK rfl #[.slice A0 l0.length c0, .int .i64 x5_1] rfl jA ?_; (with_reducible refine (spec_GetName.calls kj2 _ _ l0 x5_1 t157 t158 t159 _ ?side1 ?side2 A6.out).mono ?_); (case side1 => exact cU ((Kd.C_below HR0.out HB.out))); (case side2 => exact HC0.out); rintro e w9 ⟨rfl, hb⟩; refine ⟨_, rfl, ?_⟩; have n0_ := aS (below_step (wU HB.out) hb); clear HB; revert n0_; intro HB; clear hb))
        go_ret
        exact ⟨jE, by repeat (first | (with_reducible first | exact HB.out | apply below_alloc | apply pw_below_drewN | apply below_drew1) | exact HB.out)⟩
       ·rw [if_neg c8] at H
        have c8b0 : (t157.toList == a1.toList) = false := beq_eq_false_iff_ne.mpr c8
        have c8b1 : (t157.toList != a1.toList) = true := bne_iff_ne.mpr c8
        have H' := aS H
        clear H
        go_wp2_with (first | ((with_reducible refine gate_callee (f := 82) rfl ?_); refine goesL_ (some 22) rfl rfl Tryd.func82 jK rfl #[.slice A0 l0.length c0, .int .i64 x5_1] rfl jA ?_; (with_reducible refine (spec_GetName.calls kj2 _ _ l0 x5_1 t157 t158 t159 _ ?side1 ?side2 A6.out).mono ?_); (case side1 => exact cU ((Kd.C_below HR0.out HB.out))); (case side2 => exact HC0.out); rintro e w10 ⟨rfl, hb⟩; refine ⟨_, rfl, ?_⟩; have n0_ := aS (below_step (wU HB.out) hb); clear HB; revert n0_; intro HB; clear hb))
        go_roundg kj2
        case measure => have := HK1.out; have := HJ2.out; omega
        case rel => exact ⟨(wrap64 (x5_1 + 1)), jB, H', ⟨by have := HK1.out; have := HJ2.out; omega⟩, ⟨by repeat (first | (with_reducible first | exact HB.out | apply below_alloc | apply pw_below_drewN | apply below_drew1) | exact HB.out)⟩⟩
      ·rw [if_neg c7] at H
       have c7b0 : (t159 == 0) = false := beq_eq_false_iff_ne.mpr c7
       have c7b1 : (t159 != 0) = true := bne_iff_ne.mpr c7
       have H' := aS H
       clear H
       go_wp2_with (first | ((with_reducible refine gate_callee (f := 82) rfl ?_); refine goesL_ (some 22) rfl rfl Tryd.func82 jK rfl #[.slice A0 l0.length c0, .int .i64 x5_1] rfl jA ?_; (with_reducible refine (spec_GetName.calls kj2 _ _ l0 x5_1 t157 t158 t159 _ ?side1 ?side2 A6.out).mono ?_); (case side1 => exact cU ((Kd.C_below HR0.out HB.out))); (case side2 => exact HC0.out); rintro e w11 ⟨rfl, hb⟩; refine ⟨_, rfl, ?_⟩; have n0_ := aS (below_step (wU HB.out) hb); clear HB; revert n0_; intro HB; clear hb))
       go_roundg kj2
       case measure => have := HK1.out; have := HJ2.out; omega
       case rel => exact ⟨(wrap64 (x5_1 + 1)), jB, H', ⟨by have := HK1.out; have := HJ2.out; omega⟩, ⟨by repeat (first | (with_reducible first | exact HB.out | apply below_alloc | apply pw_below_drewN | apply below_drew1) | exact HB.out)⟩⟩
     ·replace c5 := Bool.eq_false_iff.mpr c5
      subst c5
      have H1 : (some (-1)) = some r := by rw [if_neg (show ¬ (false = true) by decide)] at H; exact H
      clear H
      have H := H1
      clear H1
      obtain rfl := Option.some.inj H
      go_wp2
      go_ret
      exact ⟨jE, by repeat (first | (with_reducible first | exact HB.out | apply below_alloc | apply pw_below_drewN | apply below_drew1) | exact HB.out)⟩

/-! ### spec_PutLabel: function 123 -/
def spec_PutLabel.f (k : Nat) (l0 : List Int) (a1 : ByteArray) : Option (List Int) := (some (([] : List Int) : List Int)).bind fun y160 => (if y160.length + l0.length < 140737488355328 then ((some (y160 ++ l0 : List Int)).bind fun y163 => ((spec_LabelOk.f k a1).bind fun t166 => (if t166 = true then (if y163.length < 140737488355328 then ((some (y163 ++ [((a1.size : Int)) % 256] : List Int)).bind fun y167 => (if y167.length + a1.size < 140737488355328 then (some (y167 ++ bytesOf a1)) else (none))) else (none)) else (some y163)))) else (none))
theorem spec_PutLabel.mono : ∀ a0 a1 k, LeO (spec_PutLabel.f k a0 a1) (spec_PutLabel.f (k + 1) a0 a1) := by
 intro a0 a1 k
 unfold spec_PutLabel.f
 repeat' first
   | (with_reducible first | exact spec_LabelOk.mono _ _ | exact LeO.refl _ | exact LeO.none _ | refine LeO.ite ?_ ?_ | refine LeO.bind ?_ (fun _ => ?_))
   | exact spec_LabelOk.mono _ _
   | exact LeO.none _
   | refine LeO.ite ?_ ?_
   | refine LeO.bind ?_ (fun _ => ?_)
set_option maxHeartbeats 8000000 in
set_option maxRecDepth 100000 in
theorem spec_PutLabel.calls (k : Nat) (A0 : Option Addr) (c0 : Nat) (l0 : List Int) (a1 : ByteArray) (r : List Int) (w : World) (hr0 : Kd.C (Kd.int .u8) w A0 l0.length l0) (hc0 : l0.length ≤ c0) (h : spec_PutLabel.f k l0 a1 = some r) :
  Calls Tryd.prog 123 #[.slice A0 l0.length c0, .string a1] w fun e w' => ∃ v0_ : Value, e = .returned (v0_) ∧ Kd.R (Kd.int .u8) 5 w' w.heap.size (fun _ => True) v0_ r ∧ Below w.heap.size w w' := by
 have HR0 := aS hr0
 have HC0 := aS hc0
 clear hr0 hc0
 have HB := aS (Below.refl w.heap.size w)
 have H : ((some (([] : List Int) : List Int)).bind fun y160 => (if y160.length + l0.length < 140737488355328 then ((some (y160 ++ l0 : List Int)).bind fun y163 => ((spec_LabelOk.f k a1).bind fun t166 => (if t166 = true then (if y163.length < 140737488355328 then ((some (y163 ++ [((a1.size : Int)) % 256] : List Int)).bind fun y167 => (if y167.length + a1.size < 140737488355328 then (some (y167 ++ bytesOf a1)) else (none))) else (none)) else (some y163)))) else (none))) = some r := h
 clear h
 obtain ⟨y160, hy_⟩ : ∃ y_ : List Int, y_ = (([] : List Int)) := ⟨_, rfl⟩
 replace H : (if y160.length + l0.length < 140737488355328 then ((some (y160 ++ l0 : List Int)).bind fun y163 => ((spec_LabelOk.f k a1).bind fun t166 => (if t166 = true then (if y163.length < 140737488355328 then ((some (y163 ++ [((a1.size : Int)) % 256] : List Int)).bind fun y167 => (if y167.length + a1.size < 140737488355328 then (some (y167 ++ bytesOf a1)) else (none))) else (none)) else (some y163)))) else (none)) = some r := jD
 have Ny160 := aS hy_
 clear hy_
 by_cases c3 : y160.length + l0.length < 140737488355328
 ·rw [if_pos c3] at H
  have LMc3 := aS c3
  clear c3
  obtain ⟨y163, hy_⟩ : ∃ y_ : List Int, y_ = (y160 ++ l0) := ⟨_, rfl⟩
  replace H : ((spec_LabelOk.f k a1).bind fun t166 => (if t166 = true then (if y163.length < 140737488355328 then ((some (y163 ++ [((a1.size : Int)) % 256] : List Int)).bind fun y167 => (if y167.length + a1.size < 140737488355328 then (some (y167 ++ bytesOf a1)) else (none))) else (none)) else (some y163))) = some r := jD
  have Ny163 := aS hy_
  clear hy_
  replace H := Option.bind_eq_some_iff.mp H
  obtain ⟨t166, A4, H⟩ := H
  try dsimp only at H
  replace A4 := aS A4
  have HC5 := aS H
  clear H
  go_enter Tryd.func123, Tryd.ntmps123
  go_upto_if 11 with (first | ((with_reducible refine gate_dst (N := 6) rfl ?_); refine Kd.R_lit (Kd.int .u8) _ 5 ?hg (N := 6) ?hd (xs := ([] : List Int)) (inner := []) (ok := fun _ => True) (okp := fun _ => True) ?hr ?hp (fun _ hk => hk) trivial (Below.refl _ _) (Nat.le_refl _) (by simp) ?_; (case hd => rfl); (case hg => rfl); (case hr => first | (go_simp; done) | (go_simp; rfl)); (case hp => exact (Reps.none _ _)); intro v161 w6 ho7 hb hg_ hnew_; clear hg_ hnew_; (first | rw [← Ny160.out] at ho7 | (simp only [Int.reduceToNat] at ho7; rw [← Ny160.out] at ho7)); have n0_ := aS (Kd.R_lower ho7 (below_size (wU HB.out))); have n1_ := aS (below_step (wU HB.out) hb); clear HB; revert n0_ n1_; intro HO162 HB; clear hb ho7) | ((with_reducible refine gate_builtin (b := .append) (xs := #[.tmp 6, .tmp 7]) rfl ?_); at_builtin; refine Kd.R_append_rows (Kd.int .u8) (w0 := w) w.heap.size rfl (.tmp 6) (.tmp 7) 22 5 (.int .u8 0) 1 rfl Tryd.underlying22 info5 rfl (by decide) (by omega) v161 y160 l0 _ _ _ (fun _ => True) (fun _ => False) rfl rfl ?aO ?aR (fun _ _ h => h) (fun _ h => h.elim) ?aF ?aB ?aS ?aL ?_; (case aR => exact cU ((Kd.C_below HR0.out HB.out))); (case aB => exact (wU HB.out)); (case aF => exact (fun _ _ => trivial)); (case aO => exact (rU HO162.out)); (case aS => exact (below_size (wU HB.out))); (case aL => have := LMc3.out; omega); intro v164 w8 ho hb hg hat; rw [← Ny163.out] at ho; have n0_ := aS (hb); have n1_ := aS (ho); clear HB HO162; revert n0_ n1_; intro HB HO165; clear ho hb hg hat) | ((with_reducible refine gate_callee (f := 144) rfl ?_); refine goesL_ (some 10) rfl rfl Tryd.func144 jK rfl #[.string a1] rfl jA ?_; (with_reducible refine (spec_LabelOk.calls k a1 t166 _ A4.out).mono ?_); rintro e w' ⟨rfl, ⟨nd, rfl⟩⟩; refine ⟨_, rfl, ?_⟩))
  (try simp only [Act.put, List.setIfInBounds_toArray, List.set_cons_zero, List.set_cons_succ])
  have H := HC5.out
  clear HC5
  by_cases c9 : t166 = true
  ·subst c9
   have H1 : (if y163.length < 140737488355328 then ((some (y163 ++ [((a1.size : Int)) % 256] : List Int)).bind fun y167 => (if y167.length + a1.size < 140737488355328 then (some (y167 ++ bytesOf a1)) else (none))) else (none)) = some r := by rw [if_pos rfl] at H; exact H
   clear H
   have H := H1
   clear H1
   by_cases c10 : y163.length < 140737488355328
   ·rw [if_pos c10] at H
    have LMc10 := aS c10
    clear c10
    obtain ⟨y167, hy_⟩ : ∃ y_ : List Int, y_ = (y163 ++ [((a1.size : Int)) % 256]) := ⟨_, rfl⟩
    replace H : (if y167.length + a1.size < 140737488355328 then (some (y167 ++ bytesOf a1)) else (none)) = some r := jD
    have Ny167 := aS hy_
    clear hy_
    by_cases c11 : y167.length + a1.size < 140737488355328
    ·rw [if_pos c11] at H
     have LMc11 := aS c11
     clear c11
     obtain ⟨y170, hy_⟩ : ∃ y_ : List Int, y_ = (y167 ++ bytesOf a1) := ⟨_, rfl⟩
     replace H : (some y170) = some r := jD
     have Ny170 := aS hy_
     clear hy_
     obtain rfl := Option.some.inj H
     go_wp2_with (first | ((with_reducible refine gate_builtin (b := .append) (xs := #[.tmp 13, .tmp 17]) rfl ?_); at_builtin; refine Kd.R_append (Kd.int .u8) (w0 := w) w.heap.size rfl (.tmp 13) (.tmp 17) 22 5 (.int .u8 0) 1 rfl Tryd.underlying22 info5 rfl (by decide) (by omega) v164 y163 (((a1.size : Int)) % 256) [.int .u8 (((a1.size : Int)) % 256)] (fun _ => True) (fun _ => False) rfl rfl ?aP (fun _ hk => hk.elim) ?aF ?aO ?aB ?aS ?aL ?_; (case aP => exact rfl); (case aB => exact (wU HB.out)); (case aF => exact (fun _ _ => trivial)); (case aO => exact (rU HO165.out)); (case aS => exact (below_size (wU HB.out))); (case aL => have := LMc10.out; omega); intro v168 w12 ho hb hg hat; rw [← Ny167.out] at ho; have n0_ := aS (hb); have n1_ := aS (ho); clear HB HO165; revert n0_ n1_; intro HB HO169; clear ho hb hg hat) | (at_builtin; refine print_append_str (w0 := w) w.heap.size rfl (.tmp 18) _ 22 9 5 rfl Tryd.underlying22 Tryd.underlying9 info5 v168 y167 a1 rfl rfl ?aO ?aB ?aS ?aL ?_; (case aB => exact (wU HB.out)); (case aO => exact (Kd.own_of_R (rU HO169.out))); (case aS => exact (below_size (wU HB.out))); (case aL => have := LMc11.out; omega); intro v171 w13 ho0 hb hg; have ho := Kd.R_of_own (h1 := fun _ => rfl) (ok := fun _ => True) ho0 (fun _ _ => trivial); clear ho0; have hat := True.intro; rw [← Ny170.out] at ho; change Kd.R (Kd.int .u8) 5 w13 w.heap.size (fun _ => True) v171 y170 at ho; have n0_ := aS (hb); have n1_ := aS (ho); clear HB HO169; revert n0_ n1_; intro HB HO172; clear ho hb hg hat))
     go_ret
     exact ⟨_, jE, by (with_reducible repeat (first | apply Kd.R_alloc | apply Kd.R_drewN | apply Kd.R_drew)); exact HO172.out, by repeat (first | (with_reducible first | exact HB.out | apply below_alloc | apply pw_below_drewN | apply below_drew1) | exact HB.out)⟩
    ·rw [if_neg c11] at H
     exact absurd H (by simp)
   ·rw [if_neg c10] at H
    exact absurd H (by simp)
  ·replace c9 := Bool.eq_false_iff.mpr c9
   subst c9
   have H1 : (some y163) = some r := by rw [if_neg (show ¬ (false = true) by decide)] at H; exact H
   clear H
   have H := H1
   clear H1
   obtain rfl := Option.some.inj H
   go_wp2
   go_ret
   exact ⟨_, jE, by (with_reducible repeat (first | apply Kd.R_alloc | apply Kd.R_drewN | apply Kd.R_drew)); exact HO165.out, by repeat (first | (with_reducible first | exact HB.out | apply below_alloc | apply pw_below_drewN | apply below_drew1) | exact HB.out)⟩
 ·rw [if_neg c3] at H
  exact absurd H (by simp)

end Go.Proofs.YtdigilidomimdaaDoor.Pr
