-- Written for this claim by a program of this session (wip/tool/pr.py, over the kit's printer).
-- half
import Derived.Test.YtdigilidomimdaaDoorPrx0
import Derived.Test.YtdigilidomimdaaDoorPrx2
import Derived.Test.YtdigilidomimdaaDoorPrx4
namespace Go.Proofs.YtdigilidomimdaaDoor.Pr
open Go.RowKit Go.Proofs.YtdigilidomimdaaDoorW.PrintWords Go.Proofs.YtdigilidomimdaaDoorW.PrintLast Go.Proofs.YtdigilidomimdaaDoorW.PrintMore
attribute [local go_sem] max2_int min2_int max_two min_two max_three min_three max_four min_four   -- for this text's walks alone
set_option linter.unusedVariables false
set_option linter.unusedSimpArgs false

/-! ### laws_same: function 12 -/
def laws_same.l0 : Nat → List Int → List Int → Int → Option (Bool)
 | 0, _, _, _ => none
 | k + 1, x0, x1, x5 => if x5 < (x0.length : Int) then (if 0 ≤ x5 then (if x5 < (x1.length : Int) then (if (rd x0 x5) = (rd x1 x5) then (laws_same.l0 k x0 x1 (wrap64 (x5 + 1))) else (some false)) else (none)) else (none)) else (some true)
def laws_same.f (k : Nat) (l0 : List Int) (l1 : List Int) : Option (Bool) := if (l0.length : Int) = (l1.length : Int) then (laws_same.l0 k l0 l1 0) else (some false)
theorem laws_same.mono_l : ∀ k, (∀ y0 y1 y2, LeO (laws_same.l0 k y0 y1 y2) (laws_same.l0 (k + 1) y0 y1 y2))
 | 0 => fun _ _ _ r h => by simp [laws_same.l0] at h
 | k + 1 => by
  have ih0 := laws_same.mono_l k
  ·intro y0 y1 y2
   unfold laws_same.l0
   repeat' first
   | (with_reducible first | exact ih0 _ _ _ | exact LeO.refl _ | exact LeO.none _ | refine LeO.ite ?_ ?_ | refine LeO.bind ?_ (fun _ => ?_))
   | exact ih0 _ _ _
   | exact LeO.none _
   | refine LeO.ite ?_ ?_
   | refine LeO.bind ?_ (fun _ => ?_)
theorem laws_same.mono : ∀ a0 a1 k, LeO (laws_same.f k a0 a1) (laws_same.f (k + 1) a0 a1) := by
 intro a0 a1 k
 have ih0 := laws_same.mono_l k
 unfold laws_same.f
 repeat' first
   | (with_reducible first | exact ih0 _ _ _ | exact LeO.refl _ | exact LeO.none _ | refine LeO.ite ?_ ?_ | refine LeO.bind ?_ (fun _ => ?_))
   | exact ih0 _ _ _
   | exact LeO.none _
   | refine LeO.ite ?_ ?_
   | refine LeO.bind ?_ (fun _ => ?_)
set_option maxHeartbeats 8000000 in
set_option maxRecDepth 100000 in
theorem laws_same.calls (k : Nat) (A0 : Option Addr) (c0 : Nat) (l0 : List Int) (A1 : Option Addr) (c1 : Nat) (l1 : List Int) (r : Bool) (w : World) (hr0 : Kd.C (Kd.int .u8) w A0 l0.length l0) (hc0 : l0.length ≤ c0) (hr1 : Kd.C (Kd.int .u8) w A1 l1.length l1) (hc1 : l1.length ≤ c1) (h : laws_same.f k l0 l1 = some r) :
  Calls Tryd.prog 12 #[.slice A0 l0.length c0, .slice A1 l1.length c1] w fun e w' => e = .returned (.bool r) ∧ Drawn0 w w' := by
 have HR0 := aS hr0
 have HC0 := aS hc0
 clear hr0 hc0
 have HR1 := aS hr1
 have HC1 := aS hc1
 clear hr1 hc1
 have H : (if (l0.length : Int) = (l1.length : Int) then (laws_same.l0 k l0 l1 0) else (some false)) = some r := h
 clear h
 by_cases c3 : (l0.length : Int) = (l1.length : Int)
 ·rw [if_pos c3] at H
  have c3b0 : ((l0.length : Int) == (l1.length : Int)) = true := beq_iff_eq.mpr c3
  have c3b1 : ((l0.length : Int) != (l1.length : Int)) = false := bne_eq_false_iff_eq.mpr c3
  have c3b2 : (l0.length == l1.length) = true := by first | simpa using c3 | (simp at c3 ⊢; omega)
  clear c3
  have H' := aS H
  clear H
  go_enter Tryd.func12, Tryd.ntmps12
  go_wp2
  repeat (go_quiet (fail); try go_wp2)
  go_loopg [5] k (fun kq v5 w' => ∃ (x5_1 : Int), v5 = .int .i64 x5_1 ∧ Aside0 (laws_same.l0 kq l0 l1 x5_1 = some r) ∧ Aside0 (kq ≤ k) ∧ Drawn0 w w')
  case atStart => exact ⟨(0), jB, H', ⟨Nat.le_refl _⟩, by repeat (first | exact Drawn0.refl _ | apply Drawn0.step)⟩
  case round =>
   clear H'
   try clear c1
   try clear p2
   try clear c3
   try clear c3b0
   try clear c3b1
   try clear c3b2
   obtain ⟨x5_1, rfl, HA, HK1, ⟨m1, rfl⟩⟩ := hrel
   cases gk with
   | zero => exact absurd HA.out (by simp [laws_same.l0])
   | succ k1 =>
    have H := HA.out
    clear HA
    simp only [laws_same.l0] at H
    by_cases c4 : x5_1 < (l0.length : Int)
    ·rw [if_pos c4] at H
     have c4b0 : decide (x5_1 < (l0.length : Int)) = true := decide_eq_true c4
     clear c4
     by_cases c5 : 0 ≤ x5_1
     ·rw [if_pos c5] at H
      have c5b0 : decide (0 ≤ x5_1) = true := decide_eq_true c5
      clear c5
      by_cases c6 : x5_1 < (l1.length : Int)
      ·rw [if_pos c6] at H
       have c6b0 : decide (x5_1 < (l1.length : Int)) = true := decide_eq_true c6
       clear c6
       by_cases c7 : (rd l0 x5_1) = (rd l1 x5_1)
       ·rw [if_pos c7] at H
        have c7b0 : ((rd l0 x5_1) == (rd l1 x5_1)) = true := beq_iff_eq.mpr c7
        have c7b1 : ((rd l0 x5_1) != (rd l1 x5_1)) = false := bne_eq_false_iff_eq.mpr c7
        clear c7
        have H' := aS H
        clear H
        have p625 : 0 ≤ (x5_1 : Int) := of_decide_eq_true jC
        have q625 : x5_1 < (l0.length : Int) := of_decide_eq_true jC
        obtain ⟨ad625, e625, hx625_0⟩ := Kd.at_int HR0.out x5_1 p625 q625
        cases e625
        replace p625 := eq_true p625
        replace q625 := eq_true q625
        have p626 : 0 ≤ (x5_1 : Int) := of_decide_eq_true jC
        have q626 : x5_1 < (l1.length : Int) := of_decide_eq_true jC
        obtain ⟨ad626, e626, hx626_0⟩ := Kd.at_int HR1.out x5_1 p626 q626
        cases e626
        replace p626 := eq_true p626
        replace q626 := eq_true q626
        go_wp2
        repeat (go_quiet (fail); try go_wp2)
        go_roundg k1
        case measure => have := HK1.out; omega
        case rel => exact ⟨(wrap64 (x5_1 + 1)), jB, H', ⟨by have := HK1.out; omega⟩, by repeat (first | exact Drawn0.refl _ | apply Drawn0.step)⟩
       ·rw [if_neg c7] at H
        have c7b0 : ((rd l0 x5_1) == (rd l1 x5_1)) = false := beq_eq_false_iff_ne.mpr c7
        have c7b1 : ((rd l0 x5_1) != (rd l1 x5_1)) = true := bne_iff_ne.mpr c7
        obtain rfl := Option.some.inj H
        have p625 : 0 ≤ (x5_1 : Int) := of_decide_eq_true jC
        have q625 : x5_1 < (l0.length : Int) := of_decide_eq_true jC
        obtain ⟨ad625, e625, hx625_0⟩ := Kd.at_int HR0.out x5_1 p625 q625
        cases e625
        replace p625 := eq_true p625
        replace q625 := eq_true q625
        have p626 : 0 ≤ (x5_1 : Int) := of_decide_eq_true jC
        have q626 : x5_1 < (l1.length : Int) := of_decide_eq_true jC
        obtain ⟨ad626, e626, hx626_0⟩ := Kd.at_int HR1.out x5_1 p626 q626
        cases e626
        replace p626 := eq_true p626
        replace q626 := eq_true q626
        go_wp2
        repeat (go_quiet (fail); try go_wp2)
        go_ret
        exact ⟨by first | rfl | (simp; done) | (simp [*]; done) | (simp [X.bne_nil, X.beq_nil]; done) | (simp [*, X.bne_nil, X.beq_nil]; done) | (simp [X.bne_nil, X.beq_nil]; done), by repeat (first | exact Drawn0.refl _ | apply Drawn0.step)⟩
      ·rw [if_neg c6] at H
       exact absurd H (by simp)
     ·rw [if_neg c5] at H
      exact absurd H (by simp)
    ·rw [if_neg c4] at H
     have c4b0 : decide (x5_1 < (l0.length : Int)) = false := decide_eq_false c4
     clear c4
     obtain rfl := Option.some.inj H
     go_wp2
     repeat (go_quiet (fail); try go_wp2)
     go_ret
     exact ⟨by first | rfl | (simp; done) | (simp [*]; done) | (simp [X.bne_nil, X.beq_nil]; done) | (simp [*, X.bne_nil, X.beq_nil]; done) | (simp [X.bne_nil, X.beq_nil]; done), by repeat (first | exact Drawn0.refl _ | apply Drawn0.step)⟩
 ·rw [if_neg c3] at H
  have c3b0 : ((l0.length : Int) == (l1.length : Int)) = false := beq_eq_false_iff_ne.mpr c3
  have c3b1 : ((l0.length : Int) != (l1.length : Int)) = true := bne_iff_ne.mpr c3
  have c3b2 : (l0.length == l1.length) = false := by first | simpa using c3 | (simp at c3 ⊢; omega)
  obtain rfl := Option.some.inj H
  go_enter Tryd.func12, Tryd.ntmps12
  go_wp2
  repeat (go_quiet (fail); try go_wp2)
  go_ret
  exact ⟨by first | rfl | (simp; done) | (simp [*]; done) | (simp [X.bne_nil, X.beq_nil]; done) | (simp [*, X.bne_nil, X.beq_nil]; done) | (simp [X.bne_nil, X.beq_nil]; done), by repeat (first | exact Drawn0.refl _ | apply Drawn0.step)⟩

/-! ### spec_l5Text: function 88 -/
def spec_l5Text.l0 : Nat → ByteArray → Int → Option (Bool)
 | 0, _, _ => none
 | k + 1, x0, x3 => if x3 < (x0.size : Int) then (if 0 ≤ x3 then ((spec_l1In.f (wrap64 (bt x0 x3)) 33 126).bind fun t627 => (if t627 = true then (spec_l5Text.l0 k x0 (wrap64 (x3 + 1))) else (some false))) else (none)) else (some (decide ((x0.size : Int) ≤ 12)))
def spec_l5Text.f (k : Nat) (a0 : ByteArray) : Option (Bool) := spec_l5Text.l0 k a0 0
theorem spec_l5Text.mono_l : ∀ k, (∀ y0 y1, LeO (spec_l5Text.l0 k y0 y1) (spec_l5Text.l0 (k + 1) y0 y1))
 | 0 => fun _ _ r h => by simp [spec_l5Text.l0] at h
 | k + 1 => by
  have ih0 := spec_l5Text.mono_l k
  ·intro y0 y1
   unfold spec_l5Text.l0
   repeat' first
   | (with_reducible first | exact ih0 _ _ | exact LeO.refl _ | exact LeO.none _ | refine LeO.ite ?_ ?_ | refine LeO.bind ?_ (fun _ => ?_))
   | exact ih0 _ _
   | exact LeO.none _
   | refine LeO.ite ?_ ?_
   | refine LeO.bind ?_ (fun _ => ?_)
theorem spec_l5Text.mono : ∀ a0 k, LeO (spec_l5Text.f k a0) (spec_l5Text.f (k + 1) a0) := by
 intro a0 k
 have ih0 := spec_l5Text.mono_l k
 unfold spec_l5Text.f
 repeat' first
   | (with_reducible first | exact ih0 _ _ | exact LeO.refl _ | exact LeO.none _ | refine LeO.ite ?_ ?_ | refine LeO.bind ?_ (fun _ => ?_))
   | exact ih0 _ _
   | exact LeO.none _
   | refine LeO.ite ?_ ?_
   | refine LeO.bind ?_ (fun _ => ?_)
set_option maxHeartbeats 8000000 in
set_option maxRecDepth 100000 in
theorem spec_l5Text.calls (k : Nat) (a0 : ByteArray) (r : Bool) (w : World) (h : spec_l5Text.f k a0 = some r) :
  Calls Tryd.prog 88 #[.string a0] w fun e w' => e = .returned (.bool r) ∧ Drawn0 w w' := by
 have H : (spec_l5Text.l0 k a0 0) = some r := h
 clear h
 have H' := aS H
 clear H
 go_enter Tryd.func88, Tryd.ntmps88
 go_wp2
 go_loopg [3] k (fun kq v3 w' => ∃ (x3_1 : Int), v3 = .int .i64 x3_1 ∧ Aside0 (spec_l5Text.l0 kq a0 x3_1 = some r) ∧ Aside0 (kq ≤ k) ∧ Drawn0 w w')
 case atStart => exact ⟨(0), jB, H', ⟨Nat.le_refl _⟩, by repeat (first | exact Drawn0.refl _ | apply Drawn0.step)⟩
 case round =>
  clear H'
  obtain ⟨x3_1, rfl, HA, HK1, ⟨m1, rfl⟩⟩ := hrel
  cases gk with
  | zero => exact absurd HA.out (by simp [spec_l5Text.l0])
  | succ k1 =>
   have H := HA.out
   clear HA
   simp only [spec_l5Text.l0] at H
   by_cases c2 : x3_1 < (a0.size : Int)
   ·rw [if_pos c2] at H
    have c2b0 : decide (x3_1 < (a0.size : Int)) = true := decide_eq_true c2
    clear c2
    by_cases c3 : 0 ≤ x3_1
    ·rw [if_pos c3] at H
     have c3b0 : decide (0 ≤ x3_1) = true := decide_eq_true c3
     clear c3
     replace H := Option.bind_eq_some_iff.mp H
     obtain ⟨t627, A5, H⟩ := H
     try dsimp only at H
     replace A5 := aS A5
     by_cases c6 : t627 = true
     ·subst c6
      have H1 : (spec_l5Text.l0 k1 a0 (wrap64 (x3_1 + 1))) = some r := by rw [if_pos rfl] at H; exact H
      clear H
      have H := H1
      clear H1
      have H' := aS H
      clear H
      have p4 : 0 ≤ (x3_1 : Int) := of_decide_eq_true jC
      have q4 : x3_1 < (a0.size : Int) := of_decide_eq_true jC
      have hx4 := bt_at a0 x3_1
      replace p4 := eq_true p4
      replace q4 := eq_true q4
      go_wp2_with (first | ((with_reducible refine gate_callee (f := 86) rfl ?_); refine goesL_ (some 14) rfl rfl Tryd.func86 jK rfl #[.int .i64 (wrap64 (bt a0 x3_1)), .int .i64 33, .int .i64 126] rfl jA ?_; (with_reducible refine (spec_l1In.calls (wrap64 (bt a0 x3_1)) 33 126 true _ A5.out).mono ?_); rintro e w' ⟨rfl, ⟨nd, rfl⟩⟩; refine ⟨_, rfl, ?_⟩))
      go_roundg k1
      case measure => have := HK1.out; omega
      case rel => exact ⟨(wrap64 (x3_1 + 1)), jB, H', ⟨by have := HK1.out; omega⟩, by repeat (first | exact Drawn0.refl _ | apply Drawn0.step)⟩
     ·replace c6 := Bool.eq_false_iff.mpr c6
      subst c6
      have H1 : (some false) = some r := by rw [if_neg (show ¬ (false = true) by decide)] at H; exact H
      clear H
      have H := H1
      clear H1
      obtain rfl := Option.some.inj H
      have p4 : 0 ≤ (x3_1 : Int) := of_decide_eq_true jC
      have q4 : x3_1 < (a0.size : Int) := of_decide_eq_true jC
      have hx4 := bt_at a0 x3_1
      replace p4 := eq_true p4
      replace q4 := eq_true q4
      go_wp2_with (first | ((with_reducible refine gate_callee (f := 86) rfl ?_); refine goesL_ (some 14) rfl rfl Tryd.func86 jK rfl #[.int .i64 (wrap64 (bt a0 x3_1)), .int .i64 33, .int .i64 126] rfl jA ?_; (with_reducible refine (spec_l1In.calls (wrap64 (bt a0 x3_1)) 33 126 false _ A5.out).mono ?_); rintro e w' ⟨rfl, ⟨nd, rfl⟩⟩; refine ⟨_, rfl, ?_⟩))
      go_ret
      exact ⟨by first | rfl | (simp; done) | (simp [*]; done) | (simp [X.bne_nil, X.beq_nil]; done) | (simp [*, X.bne_nil, X.beq_nil]; done) | (simp [X.bne_nil, X.beq_nil]; done), by repeat (first | exact Drawn0.refl _ | apply Drawn0.step)⟩
    ·rw [if_neg c3] at H
     exact absurd H (by simp)
   ·rw [if_neg c2] at H
    have c2b0 : decide (x3_1 < (a0.size : Int)) = false := decide_eq_false c2
    clear c2
    obtain rfl := Option.some.inj H
    go_wp2
    go_ret
    exact ⟨by first | rfl | (simp; done) | (simp [*]; done) | (simp [X.bne_nil, X.beq_nil]; done) | (simp [*, X.bne_nil, X.beq_nil]; done) | (simp [X.bne_nil, X.beq_nil]; done), by repeat (first | exact Drawn0.refl _ | apply Drawn0.step)⟩

/-! ### spec_RecordOk: function 54 -/
mutual
def spec_RecordOk.j0 : Nat → Bool → ByteArray → Int → Int → Int → ByteArray → ByteArray → Option (Bool)
 | 0, _, _, _, _, _, _, _ => none
 | k + 1, x12, x629000, x629001, x629002, x629003, x629004, x629005 => if x12 = true then (some false) else (if x629001 = 1 then ((spec_l1In.f x629003 0 2147483647).bind fun t631 => (if t631 = true then (if x629004.toList = ([] : List UInt8) then (some (x629005.toList == ([] : List UInt8))) else (some false)) else (some false))) else (if x629001 = 2 then (spec_RecordOk.j1 k x629001 (x629001 == 2) x629000 x629001 x629002 x629003 x629004 x629005) else (spec_RecordOk.j1 k x629001 (x629001 == 5) x629000 x629001 x629002 x629003 x629004 x629005)))
def spec_RecordOk.j1 : Nat → Int → Bool → ByteArray → Int → Int → Int → ByteArray → ByteArray → Option (Bool)
 | 0, _, _, _, _, _, _, _, _ => none
 | k + 1, x14, x30, x629000, x629001, x629002, x629003, x629004, x629005 => if x30 = true then (if x629003 = 0 then ((spec_NameOk.f k x629004).bind fun t632 => (if t632 = true then (some (x629005.toList == ([] : List UInt8))) else (some false))) else (some false)) else (if x14 = 6 then ((spec_l1In.f x629003 0 100000).bind fun t633 => (if t633 = true then ((spec_NameOk.f k x629004).bind fun t634 => (if t634 = true then (some (x629005.toList == ([] : List UInt8))) else (some false))) else (some false))) else (if x629001 = 16 then (if x629003 = 0 then (if x629004.toList = ([] : List UInt8) then ((spec_l5Text.f k x629005).bind fun t635 => (some t635)) else (some false)) else (some false)) else (some false)))
end
def spec_RecordOk.f (k : Nat) (a0_0 : ByteArray) (a0_1 : Int) (a0_2 : Int) (a0_3 : Int) (a0_4 : ByteArray) (a0_5 : ByteArray) : Option (Bool) := (spec_NameOk.f k a0_0).bind fun t629 => (if t629 = true then ((spec_l1In.f a0_2 0 100000).bind fun t630 => (spec_RecordOk.j0 k (!t630) a0_0 a0_1 a0_2 a0_3 a0_4 a0_5)) else (spec_RecordOk.j0 k true a0_0 a0_1 a0_2 a0_3 a0_4 a0_5))
theorem spec_RecordOk.mono_l : ∀ k, (∀ y0 y1 y2 y3 y4 y5 y6, LeO (spec_RecordOk.j0 k y0 y1 y2 y3 y4 y5 y6) (spec_RecordOk.j0 (k + 1) y0 y1 y2 y3 y4 y5 y6)) ∧ (∀ y0 y1 y2 y3 y4 y5 y6 y7, LeO (spec_RecordOk.j1 k y0 y1 y2 y3 y4 y5 y6 y7) (spec_RecordOk.j1 (k + 1) y0 y1 y2 y3 y4 y5 y6 y7))
 | 0 => ⟨fun _ _ _ _ _ _ _ r h => by simp [spec_RecordOk.j0] at h, fun _ _ _ _ _ _ _ _ r h => by simp [spec_RecordOk.j1] at h⟩
 | k + 1 => by
  obtain ⟨ih0, ih1⟩ := spec_RecordOk.mono_l k
  refine ⟨?_, ?_⟩
  ·intro y0 y1 y2 y3 y4 y5 y6
   unfold spec_RecordOk.j0
   repeat' first
   | (with_reducible first | exact ih0 _ _ _ _ _ _ _ | exact ih1 _ _ _ _ _ _ _ _ | exact spec_NameOk.mono _ _ | exact spec_l5Text.mono _ _ | exact LeO.refl _ | exact LeO.none _ | refine LeO.ite ?_ ?_ | refine LeO.bind ?_ (fun _ => ?_))
   | exact ih0 _ _ _ _ _ _ _
   | exact ih1 _ _ _ _ _ _ _ _
   | exact spec_NameOk.mono _ _
   | exact spec_l5Text.mono _ _
   | exact LeO.none _
   | refine LeO.ite ?_ ?_
   | refine LeO.bind ?_ (fun _ => ?_)
  ·intro y0 y1 y2 y3 y4 y5 y6 y7
   unfold spec_RecordOk.j1
   repeat' first
   | (with_reducible first | exact ih0 _ _ _ _ _ _ _ | exact ih1 _ _ _ _ _ _ _ _ | exact spec_NameOk.mono _ _ | exact spec_l5Text.mono _ _ | exact LeO.refl _ | exact LeO.none _ | refine LeO.ite ?_ ?_ | refine LeO.bind ?_ (fun _ => ?_))
   | exact ih0 _ _ _ _ _ _ _
   | exact ih1 _ _ _ _ _ _ _ _
   | exact spec_NameOk.mono _ _
   | exact spec_l5Text.mono _ _
   | exact LeO.none _
   | refine LeO.ite ?_ ?_
   | refine LeO.bind ?_ (fun _ => ?_)
theorem spec_RecordOk.mono : ∀ a0 a1 a2 a3 a4 a5 k, LeO (spec_RecordOk.f k a0 a1 a2 a3 a4 a5) (spec_RecordOk.f (k + 1) a0 a1 a2 a3 a4 a5) := by
 intro a0 a1 a2 a3 a4 a5 k
 obtain ⟨ih0, ih1⟩ := spec_RecordOk.mono_l k
 unfold spec_RecordOk.f
 repeat' first
   | (with_reducible first | exact ih0 _ _ _ _ _ _ _ | exact ih1 _ _ _ _ _ _ _ _ | exact spec_NameOk.mono _ _ | exact spec_l5Text.mono _ _ | exact LeO.refl _ | exact LeO.none _ | refine LeO.ite ?_ ?_ | refine LeO.bind ?_ (fun _ => ?_))
   | exact ih0 _ _ _ _ _ _ _
   | exact ih1 _ _ _ _ _ _ _ _
   | exact spec_NameOk.mono _ _
   | exact spec_l5Text.mono _ _
   | exact LeO.none _
   | refine LeO.ite ?_ ?_
   | refine LeO.bind ?_ (fun _ => ?_)
set_option maxHeartbeats 8000000 in
set_option maxRecDepth 100000 in
theorem spec_RecordOk.calls (k : Nat) (a0_0 : ByteArray) (a0_1 : Int) (a0_2 : Int) (a0_3 : Int) (a0_4 : ByteArray) (a0_5 : ByteArray) (r : Bool) (w : World) (h : spec_RecordOk.f k a0_0 a0_1 a0_2 a0_3 a0_4 a0_5 = some r) :
  Calls Tryd.prog 54 #[.agg #[.string a0_0, .int .i64 a0_1, .int .i64 a0_2, .int .i64 a0_3, .string a0_4, .string a0_5]] w fun e w' => e = .returned (.bool r) ∧ Below w.heap.size w w' := by
 have hu25 := Tryd.underlying25
 have HB := aS (Below.refl w.heap.size w)
 have H : ((spec_NameOk.f k a0_0).bind fun t629 => (if t629 = true then ((spec_l1In.f a0_2 0 100000).bind fun t630 => (spec_RecordOk.j0 k (!t630) a0_0 a0_1 a0_2 a0_3 a0_4 a0_5)) else (spec_RecordOk.j0 k true a0_0 a0_1 a0_2 a0_3 a0_4 a0_5))) = some r := h
 clear h
 have HC2 := aS H
 clear H
 go_enter Tryd.func54, Tryd.ntmps54
 go_upto_region 1 with (first | ((with_reducible refine gate_dst (N := 1) rfl ?_); refine box_event ?hg (N := 1) ?hd (cs := #[.string a0_0, .int .i64 a0_1, .int .i64 a0_2, .int .i64 a0_3, .string a0_4, .string a0_5]) (t := 25) ?hr ?_; (case hd => rfl); (case hg => rfl); (case hr => first | (go_simp; done) | (go_simp; rfl)); intro gb628 hg w3 hbox hb; have n0_ := aS (below_step (wU HB.out) hb); have n1_ := aS (hbox); have n2_ := aS ((by rw [hg]; exact (below_size (wU HB.out)) : w.heap.size ≤ gb628)); have n3_ := aS ((by rw [hg]; exact (below_size (wU HB.out)) : w.heap.size ≤ gb628)); clear HB; revert n0_ n1_ n2_ n3_; intro HB BK628 GW628 GE628; clear hb hbox hg))
 (try simp only [Act.put, List.setIfInBounds_toArray, List.set_cons_zero, List.set_cons_succ])
 go_cut [12] (fun v12 wc => ∃ (kq : Nat) (x12_1 : Bool), v12 = .bool x12_1 ∧ Aside0 (spec_RecordOk.j0 kq x12_1 a0_0 a0_1 a0_2 a0_3 a0_4 a0_5 = some r) ∧ Aside0 (kq ≤ k) ∧ Aside0 (wc.heap[gb628]? = some (.cells #[.string a0_0, .int .i64 a0_1, .int .i64 a0_2, .int .i64 a0_3, .string a0_4, .string a0_5] 25 (0, 0))) ∧ Aside0 (Below w.heap.size w wc))
 case first =>
  have H := HC2.out
  clear HC2
  replace H := Option.bind_eq_some_iff.mp H
  obtain ⟨t629, A4, H⟩ := H
  try dsimp only at H
  replace A4 := aS A4
  by_cases c5 : t629 = true
  ·subst c5
   have H1 : ((spec_l1In.f a0_2 0 100000).bind fun t630 => (spec_RecordOk.j0 k (!t630) a0_0 a0_1 a0_2 a0_3 a0_4 a0_5)) = some r := by rw [if_pos rfl] at H; exact H
   clear H
   have H := H1
   clear H1
   replace H := Option.bind_eq_some_iff.mp H
   obtain ⟨t630, A6, H⟩ := H
   try dsimp only at H
   replace A6 := aS A6
   have H' := aS H
   clear H
   have hcz7 := cells6f BK628.out
   go_wp2_with (first | ((with_reducible refine gate_callee (f := 110) rfl ?_); refine goesL_ (some 5) rfl rfl Tryd.func110 jK rfl #[.string a0_0] rfl jA ?_; (with_reducible refine (spec_NameOk.calls k a0_0 true _ A4.out).mono ?_); rintro e w8 ⟨rfl, hb⟩; refine ⟨_, rfl, ?_⟩; have n0_ := aS (blk_below (bU BK628.out) hb); have n1_ := aS (below_step (wS1 HB.out GE628.out) hb); clear BK628 HB; revert n0_ n1_; intro BK628 HB; clear hb; have hcz9 := cells6f BK628.out) | (go_at_call 86; (with_reducible refine (spec_l1In.calls a0_2 0 100000 t630 _ A6.out).mono ?_); rintro e w' ⟨rfl, ⟨nd, rfl⟩⟩))
   go_meet
   case rel => exact ⟨_, (!t630), jB, H', ⟨by first | omega | exact Nat.le_refl _⟩, ⟨by (with_reducible repeat (first | refine blk_drewN ?_ _ | refine blk_drew ?_ | refine blk_alloc ?_ _)); exact BK628.out⟩, ⟨by exact wS1 HB.out GE628.out⟩⟩
  ·replace c5 := Bool.eq_false_iff.mpr c5
   subst c5
   have H1 : (spec_RecordOk.j0 k true a0_0 a0_1 a0_2 a0_3 a0_4 a0_5) = some r := by rw [if_neg (show ¬ (false = true) by decide)] at H; exact H
   clear H
   have H := H1
   clear H1
   have H' := aS H
   clear H
   have hcz10 := cells6f BK628.out
   go_wp2_with (first | ((with_reducible refine gate_callee (f := 110) rfl ?_); refine goesL_ (some 5) rfl rfl Tryd.func110 jK rfl #[.string a0_0] rfl jA ?_; (with_reducible refine (spec_NameOk.calls k a0_0 false _ A4.out).mono ?_); rintro e w11 ⟨rfl, hb⟩; refine ⟨_, rfl, ?_⟩; have n0_ := aS (blk_below (bU BK628.out) hb); have n1_ := aS (below_step (wS1 HB.out GE628.out) hb); clear BK628 HB; revert n0_ n1_; intro BK628 HB; clear hb))
   go_meet
   case rel => exact ⟨_, (true), jB, H', ⟨by first | omega | exact Nat.le_refl _⟩, ⟨by (with_reducible repeat (first | refine blk_drewN ?_ _ | refine blk_drew ?_ | refine blk_alloc ?_ _)); exact BK628.out⟩, ⟨by exact wS1 HB.out GE628.out⟩⟩
 case rest =>
  clear HC2
  try clear c1
  try clear p2
  try clear c5
  try clear c11
  try clear hcz10
  try clear hcz7
  try clear hcz9
  obtain ⟨kq, x12_1, rfl, HA, HJ1, BK628, HB⟩ := hcut
  cases kq with
  | zero => exact absurd HA.out (by simp [spec_RecordOk.j0])
  | succ kj1 =>
   have H := HA.out
   clear HA
   simp only [spec_RecordOk.j0] at H
   by_cases c12 : x12_1 = true
   ·subst c12
    have H1 : (some false) = some r := by rw [if_pos rfl] at H; exact H
    clear H
    have H := H1
    clear H1
    obtain rfl := Option.some.inj H
    go_wp2
    go_ret
    exact ⟨jE, by exact wS1 HB.out GE628.out⟩
   ·replace c12 := Bool.eq_false_iff.mpr c12
    subst c12
    have H1 : (if a0_1 = 1 then ((spec_l1In.f a0_3 0 2147483647).bind fun t631 => (if t631 = true then (if a0_4.toList = ([] : List UInt8) then (some (a0_5.toList == ([] : List UInt8))) else (some false)) else (some false))) else (if a0_1 = 2 then (spec_RecordOk.j1 kj1 a0_1 (a0_1 == 2) a0_0 a0_1 a0_2 a0_3 a0_4 a0_5) else (spec_RecordOk.j1 kj1 a0_1 (a0_1 == 5) a0_0 a0_1 a0_2 a0_3 a0_4 a0_5))) = some r := by rw [if_neg (show ¬ (false = true) by decide)] at H; exact H
    clear H
    have H := H1
    clear H1
    by_cases c13 : a0_1 = 1
    ·rw [if_pos c13] at H
     have c13b0 : (a0_1 == 1) = true := beq_iff_eq.mpr c13
     have c13b1 : (a0_1 != 1) = false := bne_eq_false_iff_eq.mpr c13
     clear c13
     replace H := Option.bind_eq_some_iff.mp H
     obtain ⟨t631, A14, H⟩ := H
     try dsimp only at H
     replace A14 := aS A14
     by_cases c15 : t631 = true
     ·subst c15
      have H1 : (if a0_4.toList = ([] : List UInt8) then (some (a0_5.toList == ([] : List UInt8))) else (some false)) = some r := by rw [if_pos rfl] at H; exact H
      clear H
      have H := H1
      clear H1
      by_cases c16 : a0_4.toList = ([] : List UInt8)
      ·rw [if_pos c16] at H
       have c16b0 : (a0_4.toList == ([] : List UInt8)) = true := beq_iff_eq.mpr c16
       have c16b1 : (a0_4.toList != ([] : List UInt8)) = false := bne_eq_false_iff_eq.mpr c16
       clear c16
       obtain rfl := Option.some.inj H
       have hcz17 := cells6f BK628.out
       go_wp2_with (first | ((with_reducible refine gate_callee (f := 86) rfl ?_); refine goesL_ (some 19) rfl rfl Tryd.func86 jK rfl #[.int .i64 a0_3, .int .i64 0, .int .i64 2147483647] rfl jA ?_; (with_reducible refine (spec_l1In.calls a0_3 0 2147483647 true _ A14.out).mono ?_); rintro e w' ⟨rfl, ⟨nd, rfl⟩⟩; refine ⟨_, rfl, ?_⟩))
       go_ret
       exact ⟨jE, by exact wS1 HB.out GE628.out⟩
      ·rw [if_neg c16] at H
       have c16b0 : (a0_4.toList == ([] : List UInt8)) = false := beq_eq_false_iff_ne.mpr c16
       have c16b1 : (a0_4.toList != ([] : List UInt8)) = true := bne_iff_ne.mpr c16
       obtain rfl := Option.some.inj H
       have hcz18 := cells6f BK628.out
       go_wp2_with (first | ((with_reducible refine gate_callee (f := 86) rfl ?_); refine goesL_ (some 19) rfl rfl Tryd.func86 jK rfl #[.int .i64 a0_3, .int .i64 0, .int .i64 2147483647] rfl jA ?_; (with_reducible refine (spec_l1In.calls a0_3 0 2147483647 true _ A14.out).mono ?_); rintro e w' ⟨rfl, ⟨nd, rfl⟩⟩; refine ⟨_, rfl, ?_⟩))
       go_ret
       exact ⟨jE, by exact wS1 HB.out GE628.out⟩
     ·replace c15 := Bool.eq_false_iff.mpr c15
      subst c15
      have H1 : (some false) = some r := by rw [if_neg (show ¬ (false = true) by decide)] at H; exact H
      clear H
      have H := H1
      clear H1
      obtain rfl := Option.some.inj H
      have hcz19 := cells6f BK628.out
      go_wp2_with (first | ((with_reducible refine gate_callee (f := 86) rfl ?_); refine goesL_ (some 19) rfl rfl Tryd.func86 jK rfl #[.int .i64 a0_3, .int .i64 0, .int .i64 2147483647] rfl jA ?_; (with_reducible refine (spec_l1In.calls a0_3 0 2147483647 false _ A14.out).mono ?_); rintro e w' ⟨rfl, ⟨nd, rfl⟩⟩; refine ⟨_, rfl, ?_⟩))
      go_ret
      exact ⟨jE, by exact wS1 HB.out GE628.out⟩
    ·rw [if_neg c13] at H
     have c13b0 : (a0_1 == 1) = false := beq_eq_false_iff_ne.mpr c13
     have c13b1 : (a0_1 != 1) = true := bne_iff_ne.mpr c13
     have HC20 := aS H
     clear H
     have hcz21 := cells6f BK628.out
     go_upto_if 30 with (fail)
     go_cut [30] (fun v30 wc => ∃ (kq : Nat) (x30_19 : Bool), v30 = .bool x30_19 ∧ Aside0 (spec_RecordOk.j1 kq a0_1 x30_19 a0_0 a0_1 a0_2 a0_3 a0_4 a0_5 = some r) ∧ Aside0 (kq ≤ kj1) ∧ Aside0 (wc.heap[gb628]? = some (.cells #[.string a0_0, .int .i64 a0_1, .int .i64 a0_2, .int .i64 a0_3, .string a0_4, .string a0_5] 25 (0, 0))) ∧ Aside0 (Below w.heap.size w wc))
     case first =>
      have H := HC20.out
      clear HC20
      by_cases c22 : a0_1 = 2
      ·rw [if_pos c22] at H
       have c22b0 : (a0_1 == 2) = true := beq_iff_eq.mpr c22
       have c22b1 : (a0_1 != 2) = false := bne_eq_false_iff_eq.mpr c22
       clear c22
       (first | rw [c22b0] | (simp only [i64_w, i32_w]; rw [c22b0]) | skip)
       have H' := aS H
       clear H
       go_wp2
       go_meet
       case rel => exact ⟨_, ((a0_1 == 2)), jB, H', ⟨by have := HJ1.out; first | omega | exact Nat.le_refl _⟩, ⟨by (with_reducible repeat (first | refine blk_drewN ?_ _ | refine blk_drew ?_ | refine blk_alloc ?_ _)); exact BK628.out⟩, ⟨by exact wS1 HB.out GE628.out⟩⟩
      ·rw [if_neg c22] at H
       have c22b0 : (a0_1 == 2) = false := beq_eq_false_iff_ne.mpr c22
       have c22b1 : (a0_1 != 2) = true := bne_iff_ne.mpr c22
       (first | rw [c22b0] | (simp only [i64_w, i32_w]; rw [c22b0]) | skip)
       have H' := aS H
       clear H
       go_wp2
       go_meet
       case rel => exact ⟨_, ((a0_1 == 5)), jB, H', ⟨by have := HJ1.out; first | omega | exact Nat.le_refl _⟩, ⟨by (with_reducible repeat (first | refine blk_drewN ?_ _ | refine blk_drew ?_ | refine blk_alloc ?_ _)); exact BK628.out⟩, ⟨by exact wS1 HB.out GE628.out⟩⟩
     case rest =>
      clear HC20
      try clear c1
      try clear c2
      try clear p2
      try clear c5
      try clear c8
      try clear c11
      try clear c12
      try clear c13
      try clear c13b0
      try clear c13b1
      try clear c15
      try clear c16
      try clear c16b0
      try clear c16b1
      try clear c22
      try clear c22b0
      try clear c22b1
      try clear hcz10
      try clear hcz17
      try clear hcz18
      try clear hcz19
      try clear hcz21
      try clear hcz7
      try clear hcz9
      try clear p2
      obtain ⟨kq, x30_19, rfl, HA, HJ19, BK628, HB⟩ := hcut
      cases kq with
      | zero => exact absurd HA.out (by simp [spec_RecordOk.j1])
      | succ kj19 =>
       have H := HA.out
       clear HA
       simp only [spec_RecordOk.j1] at H
       by_cases c23 : x30_19 = true
       ·subst c23
        have H1 : (if a0_3 = 0 then ((spec_NameOk.f kj19 a0_4).bind fun t632 => (if t632 = true then (some (a0_5.toList == ([] : List UInt8))) else (some false))) else (some false)) = some r := by rw [if_pos rfl] at H; exact H
        clear H
        have H := H1
        clear H1
        by_cases c24 : a0_3 = 0
        ·rw [if_pos c24] at H
         have c24b0 : (a0_3 == 0) = true := beq_iff_eq.mpr c24
         have c24b1 : (a0_3 != 0) = false := bne_eq_false_iff_eq.mpr c24
         clear c24
         replace H := Option.bind_eq_some_iff.mp H
         obtain ⟨t632, A25, H⟩ := H
         try dsimp only at H
         replace A25 := aS A25
         by_cases c26 : t632 = true
         ·subst c26
          have H1 : (some (a0_5.toList == ([] : List UInt8))) = some r := by rw [if_pos rfl] at H; exact H
          clear H
          have H := H1
          clear H1
          obtain rfl := Option.some.inj H
          have hcz27 := cells6f BK628.out
          go_wp2_with (first | (go_at_call 110; (with_reducible refine (spec_NameOk.calls kj19 a0_4 true _ A25.out).mono ?_); rintro e w28 ⟨rfl, hb⟩; have n0_ := aS (blk_below (bU BK628.out) hb); have n1_ := aS (below_step (wS1 HB.out GE628.out) hb); clear BK628 HB; revert n0_ n1_; intro BK628 HB; clear hb; have hcz29 := cells6f BK628.out))
          go_ret
          exact ⟨jE, by exact wS1 HB.out GE628.out⟩
         ·replace c26 := Bool.eq_false_iff.mpr c26
          subst c26
          have H1 : (some false) = some r := by rw [if_neg (show ¬ (false = true) by decide)] at H; exact H
          clear H
          have H := H1
          clear H1
          obtain rfl := Option.some.inj H
          have hcz30 := cells6f BK628.out
          go_wp2_with (first | (go_at_call 110; (with_reducible refine (spec_NameOk.calls kj19 a0_4 false _ A25.out).mono ?_); rintro e w31 ⟨rfl, hb⟩; have n0_ := aS (blk_below (bU BK628.out) hb); have n1_ := aS (below_step (wS1 HB.out GE628.out) hb); clear BK628 HB; revert n0_ n1_; intro BK628 HB; clear hb))
          go_ret
          exact ⟨jE, by exact wS1 HB.out GE628.out⟩
        ·rw [if_neg c24] at H
         have c24b0 : (a0_3 == 0) = false := beq_eq_false_iff_ne.mpr c24
         have c24b1 : (a0_3 != 0) = true := bne_iff_ne.mpr c24
         obtain rfl := Option.some.inj H
         have hcz32 := cells6f BK628.out
         go_wp2
         go_ret
         exact ⟨jE, by exact wS1 HB.out GE628.out⟩
       ·replace c23 := Bool.eq_false_iff.mpr c23
        subst c23
        have H1 : (if a0_1 = 6 then ((spec_l1In.f a0_3 0 100000).bind fun t633 => (if t633 = true then ((spec_NameOk.f kj19 a0_4).bind fun t634 => (if t634 = true then (some (a0_5.toList == ([] : List UInt8))) else (some false))) else (some false))) else (if a0_1 = 16 then (if a0_3 = 0 then (if a0_4.toList = ([] : List UInt8) then ((spec_l5Text.f kj19 a0_5).bind fun t635 => (some t635)) else (some false)) else (some false)) else (some false))) = some r := by rw [if_neg (show ¬ (false = true) by decide)] at H; exact H
        clear H
        have H := H1
        clear H1
        by_cases c33 : a0_1 = 6
        ·rw [if_pos c33] at H
         have c33b0 : (a0_1 == 6) = true := beq_iff_eq.mpr c33
         have c33b1 : (a0_1 != 6) = false := bne_eq_false_iff_eq.mpr c33
         clear c33
         replace H := Option.bind_eq_some_iff.mp H
         obtain ⟨t633, A34, H⟩ := H
         try dsimp only at H
         replace A34 := aS A34
         by_cases c35 : t633 = true
         ·subst c35
          have H1 : ((spec_NameOk.f kj19 a0_4).bind fun t634 => (if t634 = true then (some (a0_5.toList == ([] : List UInt8))) else (some false))) = some r := by rw [if_pos rfl] at H; exact H
          clear H
          have H := H1
          clear H1
          replace H := Option.bind_eq_some_iff.mp H
          obtain ⟨t634, A36, H⟩ := H
          try dsimp only at H
          replace A36 := aS A36
          by_cases c37 : t634 = true
          ·subst c37
           have H1 : (some (a0_5.toList == ([] : List UInt8))) = some r := by rw [if_pos rfl] at H; exact H
           clear H
           have H := H1
           clear H1
           obtain rfl := Option.some.inj H
           have hcz38 := cells6f BK628.out
           go_wp2_with (first | ((with_reducible refine gate_callee (f := 86) rfl ?_); refine goesL_ (some 50) rfl rfl Tryd.func86 jK rfl #[.int .i64 a0_3, .int .i64 0, .int .i64 100000] rfl jA ?_; (with_reducible refine (spec_l1In.calls a0_3 0 100000 true _ A34.out).mono ?_); rintro e w' ⟨rfl, ⟨nd, rfl⟩⟩; refine ⟨_, rfl, ?_⟩) | (go_at_call 110; (with_reducible refine (spec_NameOk.calls kj19 a0_4 true _ A36.out).mono ?_); rintro e w39 ⟨rfl, hb⟩; have n0_ := aS (blk_below (bU BK628.out) hb); have n1_ := aS (below_step (wS1 HB.out GE628.out) hb); clear BK628 HB; revert n0_ n1_; intro BK628 HB; clear hb; have hcz40 := cells6f BK628.out))
           go_ret
           exact ⟨jE, by exact wS1 HB.out GE628.out⟩
          ·replace c37 := Bool.eq_false_iff.mpr c37
           subst c37
           have H1 : (some false) = some r := by rw [if_neg (show ¬ (false = true) by decide)] at H; exact H
           clear H
           have H := H1
           clear H1
           obtain rfl := Option.some.inj H
           have hcz41 := cells6f BK628.out
           go_wp2_with (first | ((with_reducible refine gate_callee (f := 86) rfl ?_); refine goesL_ (some 50) rfl rfl Tryd.func86 jK rfl #[.int .i64 a0_3, .int .i64 0, .int .i64 100000] rfl jA ?_; (with_reducible refine (spec_l1In.calls a0_3 0 100000 true _ A34.out).mono ?_); rintro e w' ⟨rfl, ⟨nd, rfl⟩⟩; refine ⟨_, rfl, ?_⟩) | (go_at_call 110; (with_reducible refine (spec_NameOk.calls kj19 a0_4 false _ A36.out).mono ?_); rintro e w42 ⟨rfl, hb⟩; have n0_ := aS (blk_below (bU BK628.out) hb); have n1_ := aS (below_step (wS1 HB.out GE628.out) hb); clear BK628 HB; revert n0_ n1_; intro BK628 HB; clear hb))
           go_ret
           exact ⟨jE, by exact wS1 HB.out GE628.out⟩
         ·replace c35 := Bool.eq_false_iff.mpr c35
          subst c35
          have H1 : (some false) = some r := by rw [if_neg (show ¬ (false = true) by decide)] at H; exact H
          clear H
          have H := H1
          clear H1
          obtain rfl := Option.some.inj H
          have hcz43 := cells6f BK628.out
          go_wp2_with (first | ((with_reducible refine gate_callee (f := 86) rfl ?_); refine goesL_ (some 50) rfl rfl Tryd.func86 jK rfl #[.int .i64 a0_3, .int .i64 0, .int .i64 100000] rfl jA ?_; (with_reducible refine (spec_l1In.calls a0_3 0 100000 false _ A34.out).mono ?_); rintro e w' ⟨rfl, ⟨nd, rfl⟩⟩; refine ⟨_, rfl, ?_⟩))
          go_ret
          exact ⟨jE, by exact wS1 HB.out GE628.out⟩
        ·rw [if_neg c33] at H
         have c33b0 : (a0_1 == 6) = false := beq_eq_false_iff_ne.mpr c33
         have c33b1 : (a0_1 != 6) = true := bne_iff_ne.mpr c33
         by_cases c44 : a0_1 = 16
         ·rw [if_pos c44] at H
          have c44b0 : (a0_1 == 16) = true := beq_iff_eq.mpr c44
          have c44b1 : (a0_1 != 16) = false := bne_eq_false_iff_eq.mpr c44
          clear c44
          by_cases c45 : a0_3 = 0
          ·rw [if_pos c45] at H
           have c45b0 : (a0_3 == 0) = true := beq_iff_eq.mpr c45
           have c45b1 : (a0_3 != 0) = false := bne_eq_false_iff_eq.mpr c45
           clear c45
           by_cases c46 : a0_4.toList = ([] : List UInt8)
           ·rw [if_pos c46] at H
            have c46b0 : (a0_4.toList == ([] : List UInt8)) = true := beq_iff_eq.mpr c46
            have c46b1 : (a0_4.toList != ([] : List UInt8)) = false := bne_eq_false_iff_eq.mpr c46
            clear c46
            replace H := Option.bind_eq_some_iff.mp H
            obtain ⟨t635, A47, H⟩ := H
            try dsimp only at H
            replace A47 := aS A47
            obtain rfl := Option.some.inj H
            have hcz48 := cells6f BK628.out
            go_wp2_with (first | (go_at_call 88; (with_reducible refine (spec_l5Text.calls kj19 a0_5 t635 _ A47.out).mono ?_); rintro e w' ⟨rfl, ⟨nd, rfl⟩⟩))
            go_ret
            exact ⟨jE, by exact wS1 HB.out GE628.out⟩
           ·rw [if_neg c46] at H
            have c46b0 : (a0_4.toList == ([] : List UInt8)) = false := beq_eq_false_iff_ne.mpr c46
            have c46b1 : (a0_4.toList != ([] : List UInt8)) = true := bne_iff_ne.mpr c46
            obtain rfl := Option.some.inj H
            have hcz49 := cells6f BK628.out
            go_wp2
            go_ret
            exact ⟨jE, by exact wS1 HB.out GE628.out⟩
          ·rw [if_neg c45] at H
           have c45b0 : (a0_3 == 0) = false := beq_eq_false_iff_ne.mpr c45
           have c45b1 : (a0_3 != 0) = true := bne_iff_ne.mpr c45
           obtain rfl := Option.some.inj H
           have hcz50 := cells6f BK628.out
           go_wp2
           go_ret
           exact ⟨jE, by exact wS1 HB.out GE628.out⟩
         ·rw [if_neg c44] at H
          have c44b0 : (a0_1 == 16) = false := beq_eq_false_iff_ne.mpr c44
          have c44b1 : (a0_1 != 16) = true := bne_iff_ne.mpr c44
          obtain rfl := Option.some.inj H
          have hcz51 := cells6f BK628.out
          go_wp2
          go_ret
          exact ⟨jE, by exact wS1 HB.out GE628.out⟩

/-! ### spec_Put4: function 63 -/
def spec_Put4.f (l0 : List Int) (a1 : Int) : Option (List Int) := (some (([] : List Int) : List Int)).bind fun y636 => (if y636.length + l0.length < 140737488355328 then ((some (y636 ++ l0 : List Int)).bind fun y639 => ((spec_l1In.f a1 0 2147483647).bind fun t642 => (if t642 = true then ((some (([(a1 / 16777216) % 256, (Go.bits .and .i64 (a1 / 65536) 255) % 256, (Go.bits .and .i64 (a1 / 256) 255) % 256, (Go.bits .and .i64 a1 255) % 256] : List Int) : List Int)).bind fun y643 => (if y639.length + y643.length < 140737488355328 then (some (y639 ++ y643)) else (none))) else (some y639)))) else (none))
set_option maxHeartbeats 8000000 in
set_option maxRecDepth 100000 in
theorem spec_Put4.calls (A0 : Option Addr) (c0 : Nat) (l0 : List Int) (a1 : Int) (r : List Int) (w : World) (hr0 : Kd.C (Kd.int .u8) w A0 l0.length l0) (hc0 : l0.length ≤ c0) (h : spec_Put4.f l0 a1 = some r) :
  Calls Tryd.prog 63 #[.slice A0 l0.length c0, .int .i64 a1] w fun e w' => ∃ v0_ : Value, e = .returned (v0_) ∧ Kd.R (Kd.int .u8) 5 w' w.heap.size (fun _ => True) v0_ r ∧ Below w.heap.size w w' := by
 have HR0 := aS hr0
 have HC0 := aS hc0
 clear hr0 hc0
 have HB := aS (Below.refl w.heap.size w)
 have H : ((some (([] : List Int) : List Int)).bind fun y636 => (if y636.length + l0.length < 140737488355328 then ((some (y636 ++ l0 : List Int)).bind fun y639 => ((spec_l1In.f a1 0 2147483647).bind fun t642 => (if t642 = true then ((some (([(a1 / 16777216) % 256, (Go.bits .and .i64 (a1 / 65536) 255) % 256, (Go.bits .and .i64 (a1 / 256) 255) % 256, (Go.bits .and .i64 a1 255) % 256] : List Int) : List Int)).bind fun y643 => (if y639.length + y643.length < 140737488355328 then (some (y639 ++ y643)) else (none))) else (some y639)))) else (none))) = some r := h
 clear h
 obtain ⟨y636, hy_⟩ : ∃ y_ : List Int, y_ = (([] : List Int)) := ⟨_, rfl⟩
 replace H : (if y636.length + l0.length < 140737488355328 then ((some (y636 ++ l0 : List Int)).bind fun y639 => ((spec_l1In.f a1 0 2147483647).bind fun t642 => (if t642 = true then ((some (([(a1 / 16777216) % 256, (Go.bits .and .i64 (a1 / 65536) 255) % 256, (Go.bits .and .i64 (a1 / 256) 255) % 256, (Go.bits .and .i64 a1 255) % 256] : List Int) : List Int)).bind fun y643 => (if y639.length + y643.length < 140737488355328 then (some (y639 ++ y643)) else (none))) else (some y639)))) else (none)) = some r := jD
 have Ny636 := aS hy_
 clear hy_
 by_cases c3 : y636.length + l0.length < 140737488355328
 ·rw [if_pos c3] at H
  have LMc3 := aS c3
  clear c3
  obtain ⟨y639, hy_⟩ : ∃ y_ : List Int, y_ = (y636 ++ l0) := ⟨_, rfl⟩
  replace H : ((spec_l1In.f a1 0 2147483647).bind fun t642 => (if t642 = true then ((some (([(a1 / 16777216) % 256, (Go.bits .and .i64 (a1 / 65536) 255) % 256, (Go.bits .and .i64 (a1 / 256) 255) % 256, (Go.bits .and .i64 a1 255) % 256] : List Int) : List Int)).bind fun y643 => (if y639.length + y643.length < 140737488355328 then (some (y639 ++ y643)) else (none))) else (some y639))) = some r := jD
  have Ny639 := aS hy_
  clear hy_
  replace H := Option.bind_eq_some_iff.mp H
  obtain ⟨t642, A4, H⟩ := H
  try dsimp only at H
  replace A4 := aS A4
  have HC5 := aS H
  clear H
  go_enter Tryd.func63, Tryd.ntmps63
  go_upto_if 11 with (first | ((with_reducible refine gate_dst (N := 6) rfl ?_); refine Kd.R_lit (Kd.int .u8) _ 5 ?hg (N := 6) ?hd (xs := ([] : List Int)) (inner := []) (ok := fun _ => True) (okp := fun _ => True) ?hr ?hp (fun _ hk => hk) trivial (Below.refl _ _) (Nat.le_refl _) (by simp) ?_; (case hd => rfl); (case hg => rfl); (case hr => first | (go_simp; done) | (go_simp; rfl)); (case hp => exact (Reps.none _ _)); intro v637 w6 ho7 hb hg_ hnew_; clear hg_ hnew_; (first | rw [← Ny636.out] at ho7 | (simp only [Int.reduceToNat] at ho7; rw [← Ny636.out] at ho7)); have n0_ := aS (Kd.R_lower ho7 (below_size (wU HB.out))); have n1_ := aS (below_step (wU HB.out) hb); clear HB; revert n0_ n1_; intro HO638 HB; clear hb ho7) | ((with_reducible refine gate_builtin (b := .append) (xs := #[.tmp 6, .tmp 7]) rfl ?_); at_builtin; refine Kd.R_append_rows (Kd.int .u8) (w0 := w) w.heap.size rfl (.tmp 6) (.tmp 7) 22 5 (.int .u8 0) 1 rfl Tryd.underlying22 info5 rfl (by decide) (by omega) v637 y636 l0 _ _ _ (fun _ => True) (fun _ => False) rfl rfl ?aO ?aR (fun _ _ h => h) (fun _ h => h.elim) ?aF ?aB ?aS ?aL ?_; (case aR => exact cU ((Kd.C_below HR0.out HB.out))); (case aB => exact (wU HB.out)); (case aF => exact (fun _ _ => trivial)); (case aO => exact (rU HO638.out)); (case aS => exact (below_size (wU HB.out))); (case aL => have := LMc3.out; omega); intro v640 w8 ho hb hg hat; rw [← Ny639.out] at ho; have n0_ := aS (hb); have n1_ := aS (ho); clear HB HO638; revert n0_ n1_; intro HB HO641; clear ho hb hg hat) | ((with_reducible refine gate_callee (f := 86) rfl ?_); refine goesL_ (some 10) rfl rfl Tryd.func86 jK rfl #[.int .i64 a1, .int .i64 0, .int .i64 2147483647] rfl jA ?_; (with_reducible refine (spec_l1In.calls a1 0 2147483647 t642 _ A4.out).mono ?_); rintro e w' ⟨rfl, ⟨nd, rfl⟩⟩; refine ⟨_, rfl, ?_⟩))
  (try simp only [Act.put, List.setIfInBounds_toArray, List.set_cons_zero, List.set_cons_succ])
  have H := HC5.out
  clear HC5
  by_cases c9 : t642 = true
  ·subst c9
   have H1 : ((some (([(a1 / 16777216) % 256, (Go.bits .and .i64 (a1 / 65536) 255) % 256, (Go.bits .and .i64 (a1 / 256) 255) % 256, (Go.bits .and .i64 a1 255) % 256] : List Int) : List Int)).bind fun y643 => (if y639.length + y643.length < 140737488355328 then (some (y639 ++ y643)) else (none))) = some r := by rw [if_pos rfl] at H; exact H
   clear H
   have H := H1
   clear H1
   obtain ⟨ji10, hji10⟩ : ∃ j_ : Int, (Go.bits .and .i64 (a1 / 65536) 255) = j_ := ⟨_, rfl⟩
   replace H : ((some (([(a1 / 16777216) % 256, (ji10) % 256, (Go.bits .and .i64 (a1 / 256) 255) % 256, (Go.bits .and .i64 a1 255) % 256] : List Int) : List Int)).bind fun y643 => (if y639.length + y643.length < 140737488355328 then (some (y639 ++ y643)) else (none))) = some r := by first | (rw [hji10] at H; exact H) | (simp only [hji10] at H ⊢; exact H)
   obtain ⟨ji11, hji11⟩ : ∃ j_ : Int, (Go.bits .and .i64 (a1 / 256) 255) = j_ := ⟨_, rfl⟩
   replace H : ((some (([(a1 / 16777216) % 256, (ji10) % 256, (ji11) % 256, (Go.bits .and .i64 a1 255) % 256] : List Int) : List Int)).bind fun y643 => (if y639.length + y643.length < 140737488355328 then (some (y639 ++ y643)) else (none))) = some r := by first | (rw [hji11] at H; exact H) | (simp only [hji11] at H ⊢; exact H)
   obtain ⟨ji12, hji12⟩ : ∃ j_ : Int, (Go.bits .and .i64 a1 255) = j_ := ⟨_, rfl⟩
   replace H : ((some (([(a1 / 16777216) % 256, (ji10) % 256, (ji11) % 256, (ji12) % 256] : List Int) : List Int)).bind fun y643 => (if y639.length + y643.length < 140737488355328 then (some (y639 ++ y643)) else (none))) = some r := by first | (rw [hji12] at H; exact H) | (simp only [hji12] at H ⊢; exact H)
   obtain ⟨y643, hy_⟩ : ∃ y_ : List Int, y_ = (([(a1 / 16777216) % 256, (ji10) % 256, (ji11) % 256, (ji12) % 256] : List Int)) := ⟨_, rfl⟩
   replace H : (if y639.length + y643.length < 140737488355328 then (some (y639 ++ y643)) else (none)) = some r := jD
   have Ny643 := aS hy_
   clear hy_
   by_cases c13 : y639.length + y643.length < 140737488355328
   ·rw [if_pos c13] at H
    have LMc13 := aS c13
    clear c13
    obtain ⟨y646, hy_⟩ : ∃ y_ : List Int, y_ = (y639 ++ y643) := ⟨_, rfl⟩
    replace H : (some y646) = some r := jD
    have Ny646 := aS hy_
    clear hy_
    obtain rfl := Option.some.inj H
    go_wp2_with (first | ((with_reducible refine gate_dst (N := 28) rfl ?_); refine Kd.R_lit (Kd.int .u8) _ 5 ?hg (N := 28) ?hd (xs := ([(a1 / 16777216) % 256, (ji10) % 256, (ji11) % 256, (ji12) % 256] : List Int)) (inner := [.int .u8 ((a1 / 16777216) % 256), .int .u8 ((ji10) % 256), .int .u8 ((ji11) % 256), .int .u8 ((ji12) % 256)]) (ok := fun _ => True) (okp := fun _ => True) ?hr ?hp (fun _ hk => hk) trivial (Below.refl _ _) (Nat.le_refl _) (by simp) ?_; (case hd => rfl); (case hg => rfl); (case hr => first | (go_simp; done) | (go_simp; rfl)); (case hp => exact (Reps.one (show Kd.M (Kd.int .u8) _ _ _ ((a1 / 16777216) % 256) [.int .u8 ((a1 / 16777216) % 256)] from rfl) (Reps.one (show Kd.M (Kd.int .u8) _ _ _ ((ji10) % 256) [.int .u8 ((ji10) % 256)] from rfl) (Reps.one (show Kd.M (Kd.int .u8) _ _ _ ((ji11) % 256) [.int .u8 ((ji11) % 256)] from rfl) (Reps.one (show Kd.M (Kd.int .u8) _ _ _ ((ji12) % 256) [.int .u8 ((ji12) % 256)] from rfl) (Reps.none _ _)))))); intro v644 w14 ho15 hb hg_ hnew_; clear hg_ hnew_; (first | rw [← Ny643.out] at ho15 | (simp only [Int.reduceToNat] at ho15; rw [← Ny643.out] at ho15)); have n0_ := aS (Kd.R_elder' (rU HO641.out) (Kd.R_base ho15) hb); have n1_ := aS (Kd.R_lower (Kd.R_new' ho15 (Kd.R_lt (rU HO641.out))) (below_size (wU HB.out))); have n2_ := aS (below_step (wU HB.out) hb); clear HO641 HB; revert n0_ n1_ n2_; intro HO641 HO645 HB; clear hb ho15; obtain ⟨Ao17, co17, eo17⟩ := Kd.R_slice HO645.out; subst eo17) | ((with_reducible refine gate_builtin (b := .append) (xs := #[.tmp 13, .tmp 28]) rfl ?_); at_builtin; refine Kd.R_append_rows (Kd.int .u8) (w0 := w) w.heap.size rfl (.tmp 13) (.tmp 28) 22 5 (.int .u8 0) 1 rfl Tryd.underlying22 info5 rfl (by decide) (by omega) v640 y639 y643 _ _ _ (fun k_ => some k_ ≠ (.slice Ao17 y643.length co17 : Value).ownBlock) (fun _ => False) rfl rfl ?aO ?aR (fun _ _ h => h) (fun _ h => h.elim) ?aF ?aB ?aS ?aL ?_; (case aR => exact cU ((Kd.R_reads' HO645.out).2.2)); (case aB => exact (wU HB.out)); (case aF => exact (fun k_ hk => Kd.fresh' (Kd.R_lt (rU HO645.out)) k_ hk)); (case aO => exact (by (with_reducible repeat (first | apply Kd.R_alloc | apply Kd.R_drewN | apply Kd.R_drew)); exact Kd.R_mono HO641.out (fun _ hk => hk.2))); (case aS => exact (below_size (wU HB.out))); (case aL => have := LMc13.out; omega); intro v647 w16 ho hb hg hat; rw [← Ny646.out] at ho; have n0_ := aS (Kd.R_after (ok := (fun _ => True)) (rU HO645.out) hg hat); have n1_ := aS (hb); have n2_ := aS (ho); clear HO645 HB HO641; revert n0_ n1_ n2_; intro HO645 HB HO648; clear ho hb hg hat))
    go_ret
    exact ⟨_, by first | rfl | (simp [errW_none, errW_some] <;> rfl) | (simp only [← hji10, ← hji11, ← hji12]; first | rfl | (simp [errW_none, errW_some] <;> rfl)) | (simp [*, errW_none, errW_some] <;> rfl), Kd.R_mono (rU HO648.out) (fun _ hk => trivial), by repeat (first | (with_reducible first | exact HB.out | apply below_alloc | apply pw_below_drewN | apply below_drew1) | exact HB.out)⟩
   ·rw [if_neg c13] at H
    exact absurd H (by simp)
  ·replace c9 := Bool.eq_false_iff.mpr c9
   subst c9
   have H1 : (some y639) = some r := by rw [if_neg (show ¬ (false = true) by decide)] at H; exact H
   clear H
   have H := H1
   clear H1
   obtain rfl := Option.some.inj H
   go_wp2
   go_ret
   exact ⟨_, jE, by (with_reducible repeat (first | apply Kd.R_alloc | apply Kd.R_drewN | apply Kd.R_drew)); exact HO641.out, by repeat (first | (with_reducible first | exact HB.out | apply below_alloc | apply pw_below_drewN | apply below_drew1) | exact HB.out)⟩
 ·rw [if_neg c3] at H
  exact absurd H (by simp)

/-! ### spec_PutPlain: function 66 -/
def spec_PutPlain.l0 : Nat → List Int → List ByteArray → Int → Option (List Int)
 | 0, _, _, _ => none
 | k + 1, x5, x6, x7 => if x7 < (x6.length : Int) then (if 0 ≤ x7 then ((spec_PutLabel.f k x5 (rdOf ByteArray.empty x6 x7)).bind fun t660 => (spec_PutPlain.l0 k t660 x6 (wrap64 (x7 + 1)))) else (none)) else (if x5.length < 140737488355328 then (some (x5 ++ [0])) else (none))
def spec_PutPlain.f (k : Nat) (l0 : List Int) (a1 : ByteArray) : Option (List Int) := (some (([] : List Int) : List Int)).bind fun y649 => (if y649.length + l0.length < 140737488355328 then ((some (y649 ++ l0 : List Int)).bind fun y652 => ((spec_NameOk.f k a1).bind fun t655 => (if t655 = true then ((spec_Labels.f k a1).bind fun t656 => (spec_PutPlain.l0 k y652 t656 0)) else (some y652)))) else (none))
theorem spec_PutPlain.mono_l : ∀ k, (∀ y0 y1 y2, LeO (spec_PutPlain.l0 k y0 y1 y2) (spec_PutPlain.l0 (k + 1) y0 y1 y2))
 | 0 => fun _ _ _ r h => by simp [spec_PutPlain.l0] at h
 | k + 1 => by
  have ih0 := spec_PutPlain.mono_l k
  ·intro y0 y1 y2
   unfold spec_PutPlain.l0
   repeat' first
   | (with_reducible first | exact ih0 _ _ _ | exact spec_Labels.mono _ _ | exact spec_NameOk.mono _ _ | exact spec_PutLabel.mono _ _ _ | exact LeO.refl _ | exact LeO.none _ | refine LeO.ite ?_ ?_ | refine LeO.bind ?_ (fun _ => ?_))
   | exact ih0 _ _ _
   | exact spec_Labels.mono _ _
   | exact spec_NameOk.mono _ _
   | exact spec_PutLabel.mono _ _ _
   | exact LeO.none _
   | refine LeO.ite ?_ ?_
   | refine LeO.bind ?_ (fun _ => ?_)
theorem spec_PutPlain.mono : ∀ a0 a1 k, LeO (spec_PutPlain.f k a0 a1) (spec_PutPlain.f (k + 1) a0 a1) := by
 intro a0 a1 k
 have ih0 := spec_PutPlain.mono_l k
 unfold spec_PutPlain.f
 repeat' first
   | (with_reducible first | exact ih0 _ _ _ | exact spec_Labels.mono _ _ | exact spec_NameOk.mono _ _ | exact spec_PutLabel.mono _ _ _ | exact LeO.refl _ | exact LeO.none _ | refine LeO.ite ?_ ?_ | refine LeO.bind ?_ (fun _ => ?_))
   | exact ih0 _ _ _
   | exact spec_Labels.mono _ _
   | exact spec_NameOk.mono _ _
   | exact spec_PutLabel.mono _ _ _
   | exact LeO.none _
   | refine LeO.ite ?_ ?_
   | refine LeO.bind ?_ (fun _ => ?_)
set_option maxHeartbeats 8000000 in
set_option maxRecDepth 100000 in
theorem spec_PutPlain.calls (k : Nat) (A0 : Option Addr) (c0 : Nat) (l0 : List Int) (a1 : ByteArray) (r : List Int) (w : World) (hr0 : Kd.C (Kd.int .u8) w A0 l0.length l0) (hc0 : l0.length ≤ c0) (h : spec_PutPlain.f k l0 a1 = some r) :
  Calls Tryd.prog 66 #[.slice A0 l0.length c0, .string a1] w fun e w' => ∃ v0_ : Value, e = .returned (v0_) ∧ Kd.R (Kd.int .u8) 5 w' w.heap.size (fun _ => True) v0_ r ∧ Below w.heap.size w w' := by
 have HR0 := aS hr0
 have HC0 := aS hc0
 clear hr0 hc0
 have HB := aS (Below.refl w.heap.size w)
 have H : ((some (([] : List Int) : List Int)).bind fun y649 => (if y649.length + l0.length < 140737488355328 then ((some (y649 ++ l0 : List Int)).bind fun y652 => ((spec_NameOk.f k a1).bind fun t655 => (if t655 = true then ((spec_Labels.f k a1).bind fun t656 => (spec_PutPlain.l0 k y652 t656 0)) else (some y652)))) else (none))) = some r := h
 clear h
 obtain ⟨y649, hy_⟩ : ∃ y_ : List Int, y_ = (([] : List Int)) := ⟨_, rfl⟩
 replace H : (if y649.length + l0.length < 140737488355328 then ((some (y649 ++ l0 : List Int)).bind fun y652 => ((spec_NameOk.f k a1).bind fun t655 => (if t655 = true then ((spec_Labels.f k a1).bind fun t656 => (spec_PutPlain.l0 k y652 t656 0)) else (some y652)))) else (none)) = some r := jD
 have Ny649 := aS hy_
 clear hy_
 by_cases c3 : y649.length + l0.length < 140737488355328
 ·rw [if_pos c3] at H
  have LMc3 := aS c3
  clear c3
  obtain ⟨y652, hy_⟩ : ∃ y_ : List Int, y_ = (y649 ++ l0) := ⟨_, rfl⟩
  replace H : ((spec_NameOk.f k a1).bind fun t655 => (if t655 = true then ((spec_Labels.f k a1).bind fun t656 => (spec_PutPlain.l0 k y652 t656 0)) else (some y652))) = some r := jD
  have Ny652 := aS hy_
  clear hy_
  replace H := Option.bind_eq_some_iff.mp H
  obtain ⟨t655, A4, H⟩ := H
  try dsimp only at H
  replace A4 := aS A4
  have HC5 := aS H
  clear H
  go_enter Tryd.func66, Tryd.ntmps66
  go_upto_if 13 with (first | ((with_reducible refine gate_dst (N := 8) rfl ?_); refine Kd.R_lit (Kd.int .u8) _ 5 ?hg (N := 8) ?hd (xs := ([] : List Int)) (inner := []) (ok := fun _ => True) (okp := fun _ => True) ?hr ?hp (fun _ hk => hk) trivial (Below.refl _ _) (Nat.le_refl _) (by simp) ?_; (case hd => rfl); (case hg => rfl); (case hr => first | (go_simp; done) | (go_simp; rfl)); (case hp => exact (Reps.none _ _)); intro v650 w6 ho7 hb hg_ hnew_; clear hg_ hnew_; (first | rw [← Ny649.out] at ho7 | (simp only [Int.reduceToNat] at ho7; rw [← Ny649.out] at ho7)); have n0_ := aS (Kd.R_lower ho7 (below_size (wU HB.out))); have n1_ := aS (below_step (wU HB.out) hb); clear HB; revert n0_ n1_; intro HO651 HB; clear hb ho7) | ((with_reducible refine gate_builtin (b := .append) (xs := #[.tmp 8, .tmp 9]) rfl ?_); at_builtin; refine Kd.R_append_rows (Kd.int .u8) (w0 := w) w.heap.size rfl (.tmp 8) (.tmp 9) 22 5 (.int .u8 0) 1 rfl Tryd.underlying22 info5 rfl (by decide) (by omega) v650 y649 l0 _ _ _ (fun _ => True) (fun _ => False) rfl rfl ?aO ?aR (fun _ _ h => h) (fun _ h => h.elim) ?aF ?aB ?aS ?aL ?_; (case aR => exact cU ((Kd.C_below HR0.out HB.out))); (case aB => exact (wU HB.out)); (case aF => exact (fun _ _ => trivial)); (case aO => exact (rU HO651.out)); (case aS => exact (below_size (wU HB.out))); (case aL => have := LMc3.out; omega); intro v653 w8 ho hb hg hat; rw [← Ny652.out] at ho; have n0_ := aS (hb); have n1_ := aS (ho); clear HB HO651; revert n0_ n1_; intro HB HO654; clear ho hb hg hat) | ((with_reducible refine gate_callee (f := 110) rfl ?_); refine goesL_ (some 12) rfl rfl Tryd.func110 jK rfl #[.string a1] rfl jA ?_; (with_reducible refine (spec_NameOk.calls k a1 t655 _ A4.out).mono ?_); rintro e w9 ⟨rfl, hb⟩; refine ⟨_, rfl, ?_⟩; have n0_ := aS (Kd.R_below (rU HO654.out) hb); have n1_ := aS (below_step (wU HB.out) hb); clear HO654 HB; revert n0_ n1_; intro HO654 HB; clear hb))
  (try simp only [Act.put, List.setIfInBounds_toArray, List.set_cons_zero, List.set_cons_succ])
  have H := HC5.out
  clear HC5
  by_cases c10 : t655 = true
  ·subst c10
   have H1 : ((spec_Labels.f k a1).bind fun t656 => (spec_PutPlain.l0 k y652 t656 0)) = some r := by rw [if_pos rfl] at H; exact H
   clear H
   have H := H1
   clear H1
   replace H := Option.bind_eq_some_iff.mp H
   obtain ⟨t656, A11, H⟩ := H
   try dsimp only at H
   replace A11 := aS A11
   have H' := aS H
   clear H
   go_wp2_with (first | ((with_reducible refine gate_callee (f := 121) rfl ?_); refine goesL_ (some 16) rfl rfl Tryd.func121 jK rfl #[.string a1] rfl jA ?_; (with_reducible refine (spec_Labels.calls k a1 t656 _ A11.out).mono ?_); rintro e w12 ⟨v657, rfl, ho0, hb⟩; refine ⟨_, rfl, ?_⟩; have n0_ := aS (Kd.R_below (rU HO654.out) hb); have n1_ := aS (Kd.R_lower ho0 (below_size (wU HB.out))); have n2_ := aS (below_step (wU HB.out) hb); clear HO654 HB; revert n0_ n1_ n2_; intro HO654 HO658 HB; clear hb; (try clear ho0)))
   go_loopg [5, 7] k (fun kq v5 v7 w' => ∃ (x5_1 : List Int) (x7_1 : Int), v7 = .int .i64 x7_1 ∧ Aside0 (spec_PutPlain.l0 kq x5_1 t656 x7_1 = some r) ∧ Aside0 (kq ≤ k) ∧ Aside0 (Kd.R (Kd.int .u8) 5 w' w.heap.size (fun _ => True) v5 x5_1) ∧ Aside0 (Kd.R Kd.string 9 w' w.heap.size (fun _ => True) v657 t656) ∧ Aside0 (Below w.heap.size w w'))
   case atStart => exact ⟨(y652), (0), jB, H', ⟨Nat.le_refl _⟩, ⟨by (with_reducible repeat (first | apply Kd.R_alloc | apply Kd.R_drewN | apply Kd.R_drew)); exact HO654.out⟩, ⟨by (with_reducible repeat (first | apply Kd.R_alloc | apply Kd.R_drewN | apply Kd.R_drew)); exact HO658.out⟩, ⟨by repeat (first | (with_reducible first | exact HB.out | apply below_alloc | apply pw_below_drewN | apply below_drew1) | exact HB.out)⟩⟩
   case round =>
    clear H'
    try clear c1
    try clear p2
    try clear c3
    try clear c6
    try clear c10
    try clear c11
    try clear c12
    obtain ⟨x5_1, x7_1, rfl, HA, HK1, HO_5, HO_6, HB⟩ := hrel
    cases gk with
    | zero => exact absurd HA.out (by simp [spec_PutPlain.l0])
    | succ k1 =>
     have H := HA.out
     clear HA
     simp only [spec_PutPlain.l0] at H
     by_cases c13 : x7_1 < (t656.length : Int)
     ·rw [if_pos c13] at H
      have c13b0 : decide (x7_1 < (t656.length : Int)) = true := decide_eq_true c13
      clear c13
      (first | rw [c13b0] | (simp only [i64_w, i32_w]; rw [c13b0]) | skip)
      by_cases c14 : 0 ≤ x7_1
      ·rw [if_pos c14] at H
       have c14b0 : decide (0 ≤ x7_1) = true := decide_eq_true c14
       clear c14
       replace H := Option.bind_eq_some_iff.mp H
       obtain ⟨t660, A15, H⟩ := H
       try dsimp only at H
       replace A15 := aS A15
       have H' := aS H
       clear H
       obtain ⟨Ao16, co16, eo16⟩ := Kd.R_slice HO_6.out
       subst eo16
       have p659 : 0 ≤ (x7_1 : Int) := of_decide_eq_true jC
       have q659 : x7_1 < (t656.length : Int) := of_decide_eq_true jC
       obtain ⟨ad659, e659, hx659_0⟩ := Kd.at_string (Kd.R_reads' HO_6.out).2.2 x7_1 p659 q659
       cases e659
       replace p659 := eq_true p659
       replace q659 := eq_true q659
       obtain ⟨Ao17, co17, eo17⟩ := Kd.R_slice HO_5.out
       subst eo17
       go_wp2_with (first | ((with_reducible refine gate_callee (f := 123) rfl ?_); refine goesL_ (some 28) rfl rfl Tryd.func123 jK rfl #[.slice Ao17 x5_1.length co17, .string (rdOf ByteArray.empty t656 x7_1)] rfl jA ?_; (with_reducible refine (spec_PutLabel.calls k1 _ _ x5_1 (rdOf ByteArray.empty t656 x7_1) t660 _ ?side1 ?side2 A15.out).mono ?_); (case side1 => exact cU ((Kd.R_reads' HO_5.out).2.2)); (case side2 => exact (Kd.R_reads' HO_5.out).2.1); rintro e w18 ⟨v661, rfl, ho0, hb⟩; refine ⟨_, rfl, ?_⟩; have n0_ := aS (Kd.R_elder' (rU HO_5.out) (Kd.R_base ho0) hb); have n1_ := aS (Kd.R_below (rU HO_6.out) hb); have n2_ := aS (Kd.R_lower (Kd.R_new' ho0 (Kd.R_lt (rU HO_5.out))) (below_size (wU HB.out))); have n3_ := aS (below_step (wU HB.out) hb); clear HO_5 HO_6 HB; revert n0_ n1_ n2_ n3_; intro HO_5 HO_6 HO662 HB; clear hb; (try clear ho0)))
       go_roundg k1
       case measure => have := HK1.out; omega
       case rel => exact ⟨(t660), (wrap64 (x7_1 + 1)), jB, H', ⟨by have := HK1.out; omega⟩, ⟨Kd.R_mono (rU HO662.out) (fun _ hk => trivial)⟩, ⟨by (with_reducible repeat (first | apply Kd.R_alloc | apply Kd.R_drewN | apply Kd.R_drew)); exact HO_6.out⟩, ⟨by repeat (first | (with_reducible first | exact HB.out | apply below_alloc | apply pw_below_drewN | apply below_drew1) | exact HB.out)⟩⟩
      ·rw [if_neg c14] at H
       exact absurd H (by simp)
     ·rw [if_neg c13] at H
      have c13b0 : decide (x7_1 < (t656.length : Int)) = false := decide_eq_false c13
      clear c13
      (first | rw [c13b0] | (simp only [i64_w, i32_w]; rw [c13b0]) | skip)
      by_cases c19 : x5_1.length < 140737488355328
      ·rw [if_pos c19] at H
       have LMc19 := aS c19
       clear c19
       obtain ⟨y663, hy_⟩ : ∃ y_ : List Int, y_ = (x5_1 ++ [0]) := ⟨_, rfl⟩
       replace H : (some y663) = some r := jD
       have Ny663 := aS hy_
       clear hy_
       obtain rfl := Option.some.inj H
       obtain ⟨Ao20, co20, eo20⟩ := Kd.R_slice HO_6.out
       subst eo20
       go_wp2_with (first | ((with_reducible refine gate_builtin (b := .append) (xs := #[.tmp 29, .tmp 30]) rfl ?_); at_builtin; refine Kd.R_append (Kd.int .u8) (w0 := w) w.heap.size rfl (.tmp 29) (.tmp 30) 22 5 (.int .u8 0) 1 rfl Tryd.underlying22 info5 rfl (by decide) (by omega) u5 x5_1 0 [.int .u8 0] (fun _ => True) (fun _ => False) rfl rfl ?aP (fun _ hk => hk.elim) ?aF ?aO ?aB ?aS ?aL ?_; (case aP => exact rfl); (case aB => exact (wU HB.out)); (case aF => exact (fun _ _ => trivial)); (case aO => exact (rU HO_5.out)); (case aS => exact (below_size (wU HB.out))); (case aL => have := LMc19.out; omega); intro v664 w21 ho hb hg hat; rw [← Ny663.out] at ho; have n0_ := aS (Kd.R_over' (rU HO_6.out) (Kd.R_typed (rU HO_5.out)) (by decide) hg); have n1_ := aS (hb); have n2_ := aS (ho); clear HO_6 HB HO_5; revert n0_ n1_ n2_; intro HO_6 HB HO665; clear ho hb hg hat))
       go_ret
       exact ⟨_, jE, by (with_reducible repeat (first | apply Kd.R_alloc | apply Kd.R_drewN | apply Kd.R_drew)); exact HO665.out, by repeat (first | (with_reducible first | exact HB.out | apply below_alloc | apply pw_below_drewN | apply below_drew1) | exact HB.out)⟩
      ·rw [if_neg c19] at H
       exact absurd H (by simp)
  ·replace c10 := Bool.eq_false_iff.mpr c10
   subst c10
   have H1 : (some y652) = some r := by rw [if_neg (show ¬ (false = true) by decide)] at H; exact H
   clear H
   have H := H1
   clear H1
   obtain rfl := Option.some.inj H
   go_wp2
   go_ret
   exact ⟨_, jE, by (with_reducible repeat (first | apply Kd.R_alloc | apply Kd.R_drewN | apply Kd.R_drew)); exact HO654.out, by repeat (first | (with_reducible first | exact HB.out | apply below_alloc | apply pw_below_drewN | apply below_drew1) | exact HB.out)⟩
 ·rw [if_neg c3] at H
  exact absurd H (by simp)

end Go.Proofs.YtdigilidomimdaaDoor.Pr
