-- Written for this claim by a program of this session (wip/tool/pr.py, over the kit's printer).
-- half
import Derived.Test.YtdigilidomimdaaDoorPrx0
import Derived.Test.YtdigilidomimdaaDoorPrx6
namespace Go.Proofs.YtdigilidomimdaaDoor.Pr
open Go.RowKit Go.Proofs.YtdigilidomimdaaDoorW.PrintWords Go.Proofs.YtdigilidomimdaaDoorW.PrintLast Go.Proofs.YtdigilidomimdaaDoorW.PrintMore
attribute [local go_sem] max2_int min2_int max_two min_two max_three min_three max_four min_four   -- for this text's walks alone
set_option linter.unusedVariables false
set_option linter.unusedSimpArgs false

/-! ### spec_LabelOk: function 144 -/
def spec_LabelOk.l0 : Nat → ByteArray → Int → Option (Bool)
 | 0, _, _ => none
 | k + 1, x0, x3 => if x3 < (x0.size : Int) then (if 0 ≤ x3 then ((spec_l2Byte.f (bt x0 x3)).bind fun t225 => (if t225 = true then (spec_LabelOk.l0 k x0 (wrap64 (x3 + 1))) else (some false))) else (none)) else ((spec_l1In.f (x0.size : Int) 1 12).bind fun t226 => (some t226))
def spec_LabelOk.f (k : Nat) (a0 : ByteArray) : Option (Bool) := spec_LabelOk.l0 k a0 0
theorem spec_LabelOk.mono_l : ∀ k, (∀ y0 y1, LeO (spec_LabelOk.l0 k y0 y1) (spec_LabelOk.l0 (k + 1) y0 y1))
 | 0 => fun _ _ r h => by simp [spec_LabelOk.l0] at h
 | k + 1 => by
  have ih0 := spec_LabelOk.mono_l k
  ·intro y0 y1
   unfold spec_LabelOk.l0
   repeat' first
   | (with_reducible first | exact ih0 _ _ | exact LeO.refl _ | exact LeO.none _ | refine LeO.ite ?_ ?_ | refine LeO.bind ?_ (fun _ => ?_))
   | exact ih0 _ _
   | exact LeO.none _
   | refine LeO.ite ?_ ?_
   | refine LeO.bind ?_ (fun _ => ?_)
theorem spec_LabelOk.mono : ∀ a0 k, LeO (spec_LabelOk.f k a0) (spec_LabelOk.f (k + 1) a0) := by
 intro a0 k
 have ih0 := spec_LabelOk.mono_l k
 unfold spec_LabelOk.f
 repeat' first
   | (with_reducible first | exact ih0 _ _ | exact LeO.refl _ | exact LeO.none _ | refine LeO.ite ?_ ?_ | refine LeO.bind ?_ (fun _ => ?_))
   | exact ih0 _ _
   | exact LeO.none _
   | refine LeO.ite ?_ ?_
   | refine LeO.bind ?_ (fun _ => ?_)
set_option maxHeartbeats 8000000 in
set_option maxRecDepth 100000 in
theorem spec_LabelOk.calls (k : Nat) (a0 : ByteArray) (r : Bool) (w : World) (h : spec_LabelOk.f k a0 = some r) :
  Calls Tryd.prog 144 #[.string a0] w fun e w' => e = .returned (.bool r) ∧ Drawn0 w w' := by
 have H : (spec_LabelOk.l0 k a0 0) = some r := h
 clear h
 have H' := aS H
 clear H
 go_enter Tryd.func144, Tryd.ntmps144
 go_wp2
 go_loopg [3] k (fun kq v3 w' => ∃ (x3_1 : Int), v3 = .int .i64 x3_1 ∧ Aside0 (spec_LabelOk.l0 kq a0 x3_1 = some r) ∧ Aside0 (kq ≤ k) ∧ Drawn0 w w')
 case atStart => exact ⟨(0), jB, H', ⟨Nat.le_refl _⟩, by repeat (first | exact Drawn0.refl _ | apply Drawn0.step)⟩
 case round =>
  clear H'
  try clear c1
  obtain ⟨x3_1, rfl, HA, HK1, ⟨m1, rfl⟩⟩ := hrel
  cases gk with
  | zero => exact absurd HA.out (by simp [spec_LabelOk.l0])
  | succ k1 =>
   have H := HA.out
   clear HA
   simp only [spec_LabelOk.l0] at H
   by_cases c2 : x3_1 < (a0.size : Int)
   ·rw [if_pos c2] at H
    have c2b0 := decide_eq_true c2
    clear c2
    by_cases c3 : 0 ≤ x3_1
    ·rw [if_pos c3] at H
     have c3b0 := decide_eq_true c3
     clear c3
     obtain ⟨t225, A5, H⟩ := bM H
     try dsimp only at H
     by_cases c6 : t225 = true
     ·subst c6
      rw [if_pos rfl] at H
      have H' := aS H
      clear H
      have p4 : 0 ≤ (x3_1 : Int) := of_decide_eq_true jC
      have q4 : x3_1 < (a0.size : Int) := of_decide_eq_true jC
      have hx4 := bt_at a0 x3_1
      replace p4 := eq_true p4
      replace q4 := eq_true q4
      go_wp2_with (first | ((with_reducible refine gate_callee (f := 159) rfl ?_); refine goesL_ (some 13) rfl rfl Tryd.func159 jK rfl #[.int .u8 (bt a0 x3_1)] rfl jA ?_; (with_reducible refine (spec_l2Byte.calls (bt a0 x3_1) true _ A5.out).mono ?_); rintro e w' ⟨rfl, ⟨nd, rfl⟩⟩; refine ⟨_, rfl, ?_⟩))
      go_roundg k1
      case measure => have := HK1.out; omega
      case rel => exact ⟨(wrap64 (x3_1 + 1)), jB, H', ⟨by have := HK1.out; omega⟩, by repeat (first | exact Drawn0.refl _ | apply Drawn0.step)⟩
     ·replace c6 := Bool.eq_false_iff.mpr c6
      subst c6
      rw [if_neg Bool.false_ne_true] at H
      obtain rfl := Option.some.inj H
      have p4 : 0 ≤ (x3_1 : Int) := of_decide_eq_true jC
      have q4 : x3_1 < (a0.size : Int) := of_decide_eq_true jC
      have hx4 := bt_at a0 x3_1
      replace p4 := eq_true p4
      replace q4 := eq_true q4
      go_wp2_with (first | ((with_reducible refine gate_callee (f := 159) rfl ?_); refine goesL_ (some 13) rfl rfl Tryd.func159 jK rfl #[.int .u8 (bt a0 x3_1)] rfl jA ?_; (with_reducible refine (spec_l2Byte.calls (bt a0 x3_1) false _ A5.out).mono ?_); rintro e w' ⟨rfl, ⟨nd, rfl⟩⟩; refine ⟨_, rfl, ?_⟩))
      go_ret
      exact ⟨by first | rfl | (simp; done) | (simp [*]; done) | (simp [X.bne_nil, X.beq_nil]; done) | (simp [*, X.bne_nil, X.beq_nil]; done) | (simp [X.bne_nil, X.beq_nil]; done), by repeat (first | exact Drawn0.refl _ | apply Drawn0.step)⟩
    ·rw [if_neg c3] at H
     exact absurd H (by simp)
   ·rw [if_neg c2] at H
    have c2b0 := decide_eq_false c2
    clear c2
    obtain ⟨t226, A7, H⟩ := bM H
    try dsimp only at H
    obtain rfl := Option.some.inj H
    go_wp2_with (first | ((with_reducible refine gate_callee (f := 86) rfl ?_); refine goesL_ (some 17) rfl rfl Tryd.func86 jK rfl #[.int .i64 (a0.size : Int), .int .i64 1, .int .i64 12] rfl jA ?_; (with_reducible refine (spec_l1In.calls (a0.size : Int) 1 12 t226 _ A7.out).mono ?_); rintro e w' ⟨rfl, ⟨nd, rfl⟩⟩; refine ⟨_, rfl, ?_⟩))
    go_ret
    exact ⟨by first | rfl | (simp; done) | (simp [*]; done) | (simp [X.bne_nil, X.beq_nil]; done) | (simp [*, X.bne_nil, X.beq_nil]; done) | (simp [X.bne_nil, X.beq_nil]; done), by repeat (first | exact Drawn0.refl _ | apply Drawn0.step)⟩

/-! ### spec_NameOk: function 110 -/
def spec_NameOk.l0 : Nat → ByteArray → List ByteArray → Int → Option (Bool)
 | 0, _, _, _ => none
 | k + 1, x0, x3, x4 => if x4 < (x3.length : Int) then (if 0 ≤ x4 then ((spec_LabelOk.f k (rdOf ByteArray.empty x3 x4)).bind fun t231 => (if t231 = true then (spec_NameOk.l0 k x0 x3 (wrap64 (x4 + 1))) else (some false))) else (none)) else (if (x0.size : Int) ≤ 50 then (some (decide ((x3.length : Int) ≤ 6))) else (some false))
def spec_NameOk.f (k : Nat) (a0 : ByteArray) : Option (Bool) := (spec_Labels.f k a0).bind fun t227 => (spec_NameOk.l0 k a0 t227 0)
theorem spec_NameOk.mono_l : ∀ k, (∀ y0 y1 y2, LeO (spec_NameOk.l0 k y0 y1 y2) (spec_NameOk.l0 (k + 1) y0 y1 y2))
 | 0 => fun _ _ _ r h => by simp [spec_NameOk.l0] at h
 | k + 1 => by
  have ih0 := spec_NameOk.mono_l k
  ·intro y0 y1 y2
   unfold spec_NameOk.l0
   repeat' first
   | (with_reducible first | exact ih0 _ _ _ | exact spec_LabelOk.mono _ _ | exact spec_Labels.mono _ _ | exact LeO.refl _ | exact LeO.none _ | refine LeO.ite ?_ ?_ | refine LeO.bind ?_ (fun _ => ?_))
   | exact ih0 _ _ _
   | exact spec_LabelOk.mono _ _
   | exact spec_Labels.mono _ _
   | exact LeO.none _
   | refine LeO.ite ?_ ?_
   | refine LeO.bind ?_ (fun _ => ?_)
theorem spec_NameOk.mono : ∀ a0 k, LeO (spec_NameOk.f k a0) (spec_NameOk.f (k + 1) a0) := by
 intro a0 k
 have ih0 := spec_NameOk.mono_l k
 unfold spec_NameOk.f
 repeat' first
   | (with_reducible first | exact ih0 _ _ _ | exact spec_LabelOk.mono _ _ | exact spec_Labels.mono _ _ | exact LeO.refl _ | exact LeO.none _ | refine LeO.ite ?_ ?_ | refine LeO.bind ?_ (fun _ => ?_))
   | exact ih0 _ _ _
   | exact spec_LabelOk.mono _ _
   | exact spec_Labels.mono _ _
   | exact LeO.none _
   | refine LeO.ite ?_ ?_
   | refine LeO.bind ?_ (fun _ => ?_)
set_option maxHeartbeats 8000000 in
set_option maxRecDepth 100000 in
theorem spec_NameOk.calls (k : Nat) (a0 : ByteArray) (r : Bool) (w : World) (h : spec_NameOk.f k a0 = some r) :
  Calls Tryd.prog 110 #[.string a0] w fun e w' => e = .returned (.bool r) ∧ Below w.heap.size w w' := by
 have HB := aS (Below.refl w.heap.size w)
 have H : ((spec_Labels.f k a0).bind fun t227 => (spec_NameOk.l0 k a0 t227 0)) = some r := h
 clear h
 obtain ⟨t227, A2, H⟩ := bM H
 try dsimp only at H
 have H' := aS H
 clear H
 go_enter Tryd.func110, Tryd.ntmps110
 go_wp2_with (first | ((with_reducible refine gate_callee (f := 121) rfl ?_); refine goesL_ (some 6) rfl rfl Tryd.func121 jK rfl #[.string a0] rfl jA ?_; (with_reducible refine (spec_Labels.calls k a0 t227 _ A2.out).mono ?_); rintro e w3 ⟨v228, rfl, ho0, hb⟩; refine ⟨_, rfl, ?_⟩; have HO229 := aS (Kd.R_lower ho0 (below_size (wU HB.out))); replace HB := aS (below_step (wU HB.out) hb); clear hb; (try clear ho0)))
 go_loopg [4] k (fun kq v4 w' => ∃ (x4_1 : Int), v4 = .int .i64 x4_1 ∧ Aside0 (spec_NameOk.l0 kq a0 t227 x4_1 = some r) ∧ Aside0 (kq ≤ k) ∧ Aside0 (Kd.R Kd.string 9 w' w.heap.size (fun _ => True) v228 t227) ∧ Aside0 (Below w.heap.size w w'))
 case atStart => exact ⟨(0), jB, H', ⟨Nat.le_refl _⟩, ⟨by exact rU HO229.out⟩, ⟨by exact wU HB.out⟩⟩
 case round =>
  clear H'
  try clear c1
  try clear p2
  obtain ⟨x4_1, rfl, HA, HK1, HO_3, HB⟩ := hrel
  cases gk with
  | zero => exact absurd HA.out (by simp [spec_NameOk.l0])
  | succ k1 =>
   have H := HA.out
   clear HA
   simp only [spec_NameOk.l0] at H
   by_cases c4 : x4_1 < (t227.length : Int)
   ·rw [if_pos c4] at H
    have c4b0 := decide_eq_true c4
    clear c4
    by_cases c5 : 0 ≤ x4_1
    ·rw [if_pos c5] at H
     have c5b0 := decide_eq_true c5
     clear c5
     obtain ⟨t231, A6, H⟩ := bM H
     try dsimp only at H
     by_cases c7 : t231 = true
     ·subst c7
      rw [if_pos rfl] at H
      have H' := aS H
      clear H
      obtain ⟨Ao8, co8, eo8⟩ := Kd.R_slice HO_3.out
      subst eo8
      have p230 : 0 ≤ (x4_1 : Int) := of_decide_eq_true jC
      have q230 : x4_1 < (t227.length : Int) := of_decide_eq_true jC
      obtain ⟨ad230, e230, hx230_0⟩ := Kd.at_string (Kd.R_reads' HO_3.out).2.2 x4_1 p230 q230
      cases e230
      replace p230 := eq_true p230
      replace q230 := eq_true q230
      go_wp2_with (first | ((with_reducible refine gate_callee (f := 144) rfl ?_); refine goesL_ (some 17) rfl rfl Tryd.func144 jK rfl #[.string (rdOf ByteArray.empty t227 x4_1)] rfl jA ?_; (with_reducible refine (spec_LabelOk.calls k1 (rdOf ByteArray.empty t227 x4_1) true _ A6.out).mono ?_); rintro e w' ⟨rfl, ⟨nd, rfl⟩⟩; refine ⟨_, rfl, ?_⟩))
      go_roundg k1
      case measure => have := HK1.out; omega
      case rel => exact ⟨(wrap64 (x4_1 + 1)), jB, H', ⟨by have := HK1.out; omega⟩, ⟨by exact rU HO_3.out⟩, ⟨by exact wU HB.out⟩⟩
     ·replace c7 := Bool.eq_false_iff.mpr c7
      subst c7
      rw [if_neg Bool.false_ne_true] at H
      obtain rfl := Option.some.inj H
      obtain ⟨Ao9, co9, eo9⟩ := Kd.R_slice HO_3.out
      subst eo9
      have p230 : 0 ≤ (x4_1 : Int) := of_decide_eq_true jC
      have q230 : x4_1 < (t227.length : Int) := of_decide_eq_true jC
      obtain ⟨ad230, e230, hx230_0⟩ := Kd.at_string (Kd.R_reads' HO_3.out).2.2 x4_1 p230 q230
      cases e230
      replace p230 := eq_true p230
      replace q230 := eq_true q230
      go_wp2_with (first | ((with_reducible refine gate_callee (f := 144) rfl ?_); refine goesL_ (some 17) rfl rfl Tryd.func144 jK rfl #[.string (rdOf ByteArray.empty t227 x4_1)] rfl jA ?_; (with_reducible refine (spec_LabelOk.calls k1 (rdOf ByteArray.empty t227 x4_1) false _ A6.out).mono ?_); rintro e w' ⟨rfl, ⟨nd, rfl⟩⟩; refine ⟨_, rfl, ?_⟩))
      go_ret
      exact ⟨jE, by exact wU HB.out⟩
    ·rw [if_neg c5] at H
     exact absurd H (by simp)
   ·rw [if_neg c4] at H
    have c4b0 := decide_eq_false c4
    clear c4
    by_cases c10 : (a0.size : Int) ≤ 50
    ·rw [if_pos c10] at H
     have c10b0 := decide_eq_true c10
     have c10b1 : decide (a0.size ≤ 50) = true := decide_eq_true (by omega)
     clear c10
     obtain rfl := Option.some.inj H
     obtain ⟨Ao11, co11, eo11⟩ := Kd.R_slice HO_3.out
     subst eo11
     go_wp2
     go_ret
     exact ⟨jE, by exact wU HB.out⟩
    ·rw [if_neg c10] at H
     have c10b0 := decide_eq_false c10
     have c10b1 : decide (a0.size ≤ 50) = false := decide_eq_false (by omega)
     clear c10
     obtain rfl := Option.some.inj H
     obtain ⟨Ao12, co12, eo12⟩ := Kd.R_slice HO_3.out
     subst eo12
     go_wp2
     go_ret
     exact ⟨jE, by exact wU HB.out⟩

/-! ### spec_RecordOk: function 54 -/
mutual
def spec_RecordOk.j0 : Nat → Bool → ByteArray → Int → Int → Int → ByteArray → ByteArray → Option (Bool)
 | 0, _, _, _, _, _, _, _ => none
 | k + 1, x12, x233000, x233001, x233002, x233003, x233004, x233005 => if x12 = true then (some false) else (if x233001 = 1 then ((spec_l1In.f x233003 0 2147483647).bind fun t235 => (if t235 = true then (if x233004.toList = ([] : List UInt8) then (some (x233005.toList == ([] : List UInt8))) else (some false)) else (some false))) else (if x233001 = 2 then (spec_RecordOk.j1 k x233001 (x233001 == 2) x233000 x233001 x233002 x233003 x233004 x233005) else (spec_RecordOk.j1 k x233001 (x233001 == 5) x233000 x233001 x233002 x233003 x233004 x233005)))
def spec_RecordOk.j1 : Nat → Int → Bool → ByteArray → Int → Int → Int → ByteArray → ByteArray → Option (Bool)
 | 0, _, _, _, _, _, _, _, _ => none
 | k + 1, x14, x30, x233000, x233001, x233002, x233003, x233004, x233005 => if x30 = true then (if x233003 = 0 then ((spec_NameOk.f k x233004).bind fun t236 => (if t236 = true then (some (x233005.toList == ([] : List UInt8))) else (some false))) else (some false)) else (if x14 = 6 then ((spec_l1In.f x233003 0 100000).bind fun t237 => (if t237 = true then ((spec_NameOk.f k x233004).bind fun t238 => (if t238 = true then (some (x233005.toList == ([] : List UInt8))) else (some false))) else (some false))) else (if x233001 = 16 then (if x233003 = 0 then (if x233004.toList = ([] : List UInt8) then ((spec_l5Text.f k x233005).bind fun t239 => (some t239)) else (some false)) else (some false)) else (some false)))
end
def spec_RecordOk.f (k : Nat) (a0_0 : ByteArray) (a0_1 : Int) (a0_2 : Int) (a0_3 : Int) (a0_4 : ByteArray) (a0_5 : ByteArray) : Option (Bool) := (spec_NameOk.f k a0_0).bind fun t233 => (if t233 = true then ((spec_l1In.f a0_2 0 100000).bind fun t234 => (spec_RecordOk.j0 k (!t234) a0_0 a0_1 a0_2 a0_3 a0_4 a0_5)) else (spec_RecordOk.j0 k true a0_0 a0_1 a0_2 a0_3 a0_4 a0_5))
theorem spec_RecordOk.mono_l : ∀ k, (∀ y0 y1 y2 y3 y4 y5 y6, LeO (spec_RecordOk.j0 k y0 y1 y2 y3 y4 y5 y6) (spec_RecordOk.j0 (k + 1) y0 y1 y2 y3 y4 y5 y6)) ∧ (∀ y0 y1 y2 y3 y4 y5 y6 y7, LeO (spec_RecordOk.j1 k y0 y1 y2 y3 y4 y5 y6 y7) (spec_RecordOk.j1 (k + 1) y0 y1 y2 y3 y4 y5 y6 y7))
 | 0 => ⟨fun _ _ _ _ _ _ _ r h => by simp [spec_RecordOk.j0] at h, fun _ _ _ _ _ _ _ _ r h => by simp [spec_RecordOk.j1] at h⟩
 | k + 1 => by
  obtain ⟨ih0, ih1⟩ := spec_RecordOk.mono_l k
  refine ⟨?_, ?_⟩
  ·intro y0 y1 y2 y3 y4 y5 y6
   unfold spec_RecordOk.j0
   repeat' first
   | (with_reducible first | exact ih0 _ _ _ _ _ _ _ | exact ih1 _ _ _ _ _ _ _ _ | exact spec_NameOk.mono _ _ | exact spec_l5Text.mono _ _ | exact LeO.refl _ | exact LeO.none _ | refine LeO.ite ?_ ?_ | refine LeO.bind ?_ (fun _ => ?_))
   | exact ih0 _ _ _ _ _ _ _
   | exact ih1 _ _ _ _ _ _ _ _
   | exact spec_NameOk.mono _ _
   | exact spec_l5Text.mono _ _
   | exact LeO.none _
   | refine LeO.ite ?_ ?_
   | refine LeO.bind ?_ (fun _ => ?_)
  ·intro y0 y1 y2 y3 y4 y5 y6 y7
   unfold spec_RecordOk.j1
   repeat' first
   | (with_reducible first | exact ih0 _ _ _ _ _ _ _ | exact ih1 _ _ _ _ _ _ _ _ | exact spec_NameOk.mono _ _ | exact spec_l5Text.mono _ _ | exact LeO.refl _ | exact LeO.none _ | refine LeO.ite ?_ ?_ | refine LeO.bind ?_ (fun _ => ?_))
   | exact ih0 _ _ _ _ _ _ _
   | exact ih1 _ _ _ _ _ _ _ _
   | exact spec_NameOk.mono _ _
   | exact spec_l5Text.mono _ _
   | exact LeO.none _
   | refine LeO.ite ?_ ?_
   | refine LeO.bind ?_ (fun _ => ?_)
theorem spec_RecordOk.mono : ∀ a0 a1 a2 a3 a4 a5 k, LeO (spec_RecordOk.f k a0 a1 a2 a3 a4 a5) (spec_RecordOk.f (k + 1) a0 a1 a2 a3 a4 a5) := by
 intro a0 a1 a2 a3 a4 a5 k
 obtain ⟨ih0, ih1⟩ := spec_RecordOk.mono_l k
 unfold spec_RecordOk.f
 repeat' first
   | (with_reducible first | exact ih0 _ _ _ _ _ _ _ | exact ih1 _ _ _ _ _ _ _ _ | exact spec_NameOk.mono _ _ | exact spec_l5Text.mono _ _ | exact LeO.refl _ | exact LeO.none _ | refine LeO.ite ?_ ?_ | refine LeO.bind ?_ (fun _ => ?_))
   | exact ih0 _ _ _ _ _ _ _
   | exact ih1 _ _ _ _ _ _ _ _
   | exact spec_NameOk.mono _ _
   | exact spec_l5Text.mono _ _
   | exact LeO.none _
   | refine LeO.ite ?_ ?_
   | refine LeO.bind ?_ (fun _ => ?_)
set_option maxHeartbeats 8000000 in
set_option maxRecDepth 100000 in
theorem spec_RecordOk.calls (k : Nat) (a0_0 : ByteArray) (a0_1 : Int) (a0_2 : Int) (a0_3 : Int) (a0_4 : ByteArray) (a0_5 : ByteArray) (r : Bool) (w : World) (h : spec_RecordOk.f k a0_0 a0_1 a0_2 a0_3 a0_4 a0_5 = some r) :
  Calls Tryd.prog 54 #[.agg #[.string a0_0, .int .i64 a0_1, .int .i64 a0_2, .int .i64 a0_3, .string a0_4, .string a0_5]] w fun e w' => e = .returned (.bool r) ∧ Below w.heap.size w w' := by
 have hu25 := Tryd.underlying25
 have HB := aS (Below.refl w.heap.size w)
 have H : ((spec_NameOk.f k a0_0).bind fun t233 => (if t233 = true then ((spec_l1In.f a0_2 0 100000).bind fun t234 => (spec_RecordOk.j0 k (!t234) a0_0 a0_1 a0_2 a0_3 a0_4 a0_5)) else (spec_RecordOk.j0 k true a0_0 a0_1 a0_2 a0_3 a0_4 a0_5))) = some r := h
 clear h
 have HC2 := aS H
 clear H
 go_enter Tryd.func54, Tryd.ntmps54
 go_upto_region 1 with (first | ((with_reducible refine gate_dst (N := 1) rfl ?_); refine box_event ?hg (N := 1) ?hd (cs := #[.string a0_0, .int .i64 a0_1, .int .i64 a0_2, .int .i64 a0_3, .string a0_4, .string a0_5]) (t := 25) ?hr ?_; (case hd => rfl); (case hg => rfl); (case hr => first | (go_simp; done) | (go_simp; rfl)); intro gb232 hg w3 hbox hb; have BK232 := aS (hbox); have GW232 := aS ((by rw [hg]; exact (below_size (wU HB.out)) : w.heap.size ≤ gb232)); have GE232 := aS ((by rw [hg]; exact (below_size (wU HB.out)) : w.heap.size ≤ gb232)); replace HB := aS (below_step (wU HB.out) hb); clear hb hbox hg))
 (try simp only [Act.put, List.setIfInBounds_toArray, List.set_cons_zero, List.set_cons_succ])
 go_cut [12] (fun v12 wc => ∃ (kq : Nat) (x12_1 : Bool), v12 = .bool x12_1 ∧ Aside0 (spec_RecordOk.j0 kq x12_1 a0_0 a0_1 a0_2 a0_3 a0_4 a0_5 = some r) ∧ Aside0 (kq ≤ k) ∧ Aside0 (wc.heap[gb232]? = some (.cells #[.string a0_0, .int .i64 a0_1, .int .i64 a0_2, .int .i64 a0_3, .string a0_4, .string a0_5] 25 (0, 0))) ∧ Aside0 (Below w.heap.size w wc))
 case first =>
  have H := HC2.out
  clear HC2
  obtain ⟨t233, A4, H⟩ := bM H
  try dsimp only at H
  by_cases c5 : t233 = true
  ·subst c5
   rw [if_pos rfl] at H
   obtain ⟨t234, A6, H⟩ := bM H
   try dsimp only at H
   have H' := aS H
   clear H
   have hcz7 := cells6f BK232.out
   go_wp2_with (first | ((with_reducible refine gate_callee (f := 110) rfl ?_); refine goesL_ (some 5) rfl rfl Tryd.func110 jK rfl #[.string a0_0] rfl jA ?_; (with_reducible refine (spec_NameOk.calls k a0_0 true _ A4.out).mono ?_); rintro e w8 ⟨rfl, hb⟩; refine ⟨_, rfl, ?_⟩; replace BK232 := aS (blk_below (bU BK232.out) hb); replace HB := aS (below_step (wS1 HB.out GE232.out) hb); clear hb; have hcz9 := cells6f BK232.out) | (go_at_call 86; (with_reducible refine (spec_l1In.calls a0_2 0 100000 t234 _ A6.out).mono ?_); rintro e w' ⟨rfl, ⟨nd, rfl⟩⟩))
   go_meet
   case rel => exact ⟨_, (!t234), jB, H', ⟨by first | omega | exact Nat.le_refl _⟩, ⟨by exact bU BK232.out⟩, ⟨by exact wS1 HB.out GE232.out⟩⟩
  ·replace c5 := Bool.eq_false_iff.mpr c5
   subst c5
   rw [if_neg Bool.false_ne_true] at H
   have H' := aS H
   clear H
   have hcz10 := cells6f BK232.out
   go_wp2_with (first | ((with_reducible refine gate_callee (f := 110) rfl ?_); refine goesL_ (some 5) rfl rfl Tryd.func110 jK rfl #[.string a0_0] rfl jA ?_; (with_reducible refine (spec_NameOk.calls k a0_0 false _ A4.out).mono ?_); rintro e w11 ⟨rfl, hb⟩; refine ⟨_, rfl, ?_⟩; replace BK232 := aS (blk_below (bU BK232.out) hb); replace HB := aS (below_step (wS1 HB.out GE232.out) hb); clear hb))
   go_meet
   case rel => exact ⟨_, (true), jB, H', ⟨by first | omega | exact Nat.le_refl _⟩, ⟨by exact bU BK232.out⟩, ⟨by exact wS1 HB.out GE232.out⟩⟩
 case rest =>
  clear HC2
  try clear c1
  try clear p2
  try clear c5
  try clear c11
  try clear hcz10
  try clear hcz7
  try clear hcz9
  obtain ⟨kq, x12_1, rfl, HA, HJ1, BK232, HB⟩ := hcut
  cases kq with
  | zero => exact absurd HA.out (by simp [spec_RecordOk.j0])
  | succ kj1 =>
   have H := HA.out
   clear HA
   simp only [spec_RecordOk.j0] at H
   by_cases c12 : x12_1 = true
   ·subst c12
    rw [if_pos rfl] at H
    obtain rfl := Option.some.inj H
    go_wp2
    go_ret
    exact ⟨jE, by exact wS1 HB.out GE232.out⟩
   ·replace c12 := Bool.eq_false_iff.mpr c12
    subst c12
    rw [if_neg Bool.false_ne_true] at H
    by_cases c13 : a0_1 = 1
    ·rw [if_pos c13] at H
     have c13b0 := beq_iff_eq.mpr c13
     have c13b1 := bne_eq_false_iff_eq.mpr c13
     clear c13
     obtain ⟨t235, A14, H⟩ := bM H
     try dsimp only at H
     by_cases c15 : t235 = true
     ·subst c15
      rw [if_pos rfl] at H
      by_cases c16 : a0_4.toList = ([] : List UInt8)
      ·rw [if_pos c16] at H
       have c16b0 := beq_iff_eq.mpr c16
       have c16b1 := bne_eq_false_iff_eq.mpr c16
       clear c16
       obtain rfl := Option.some.inj H
       have hcz17 := cells6f BK232.out
       go_wp2_with (first | ((with_reducible refine gate_callee (f := 86) rfl ?_); refine goesL_ (some 19) rfl rfl Tryd.func86 jK rfl #[.int .i64 a0_3, .int .i64 0, .int .i64 2147483647] rfl jA ?_; (with_reducible refine (spec_l1In.calls a0_3 0 2147483647 true _ A14.out).mono ?_); rintro e w' ⟨rfl, ⟨nd, rfl⟩⟩; refine ⟨_, rfl, ?_⟩))
       go_ret
       exact ⟨jE, by exact wS1 HB.out GE232.out⟩
      ·rw [if_neg c16] at H
       have c16b0 := beq_eq_false_iff_ne.mpr c16
       have c16b1 := bne_iff_ne.mpr c16
       obtain rfl := Option.some.inj H
       have hcz18 := cells6f BK232.out
       go_wp2_with (first | ((with_reducible refine gate_callee (f := 86) rfl ?_); refine goesL_ (some 19) rfl rfl Tryd.func86 jK rfl #[.int .i64 a0_3, .int .i64 0, .int .i64 2147483647] rfl jA ?_; (with_reducible refine (spec_l1In.calls a0_3 0 2147483647 true _ A14.out).mono ?_); rintro e w' ⟨rfl, ⟨nd, rfl⟩⟩; refine ⟨_, rfl, ?_⟩))
       go_ret
       exact ⟨jE, by exact wS1 HB.out GE232.out⟩
     ·replace c15 := Bool.eq_false_iff.mpr c15
      subst c15
      rw [if_neg Bool.false_ne_true] at H
      obtain rfl := Option.some.inj H
      have hcz19 := cells6f BK232.out
      go_wp2_with (first | ((with_reducible refine gate_callee (f := 86) rfl ?_); refine goesL_ (some 19) rfl rfl Tryd.func86 jK rfl #[.int .i64 a0_3, .int .i64 0, .int .i64 2147483647] rfl jA ?_; (with_reducible refine (spec_l1In.calls a0_3 0 2147483647 false _ A14.out).mono ?_); rintro e w' ⟨rfl, ⟨nd, rfl⟩⟩; refine ⟨_, rfl, ?_⟩))
      go_ret
      exact ⟨jE, by exact wS1 HB.out GE232.out⟩
    ·rw [if_neg c13] at H
     have c13b0 := beq_eq_false_iff_ne.mpr c13
     have c13b1 := bne_iff_ne.mpr c13
     have HC20 := aS H
     clear H
     have hcz21 := cells6f BK232.out
     go_upto_if 30 with (fail)
     go_cut [30] (fun v30 wc => ∃ (kq : Nat) (x30_19 : Bool), v30 = .bool x30_19 ∧ Aside0 (spec_RecordOk.j1 kq a0_1 x30_19 a0_0 a0_1 a0_2 a0_3 a0_4 a0_5 = some r) ∧ Aside0 (kq ≤ kj1) ∧ Aside0 (wc.heap[gb232]? = some (.cells #[.string a0_0, .int .i64 a0_1, .int .i64 a0_2, .int .i64 a0_3, .string a0_4, .string a0_5] 25 (0, 0))) ∧ Aside0 (Below w.heap.size w wc))
     case first =>
      have H := HC20.out
      clear HC20
      by_cases c22 : a0_1 = 2
      ·rw [if_pos c22] at H
       have c22b0 := beq_iff_eq.mpr c22
       have c22b1 := bne_eq_false_iff_eq.mpr c22
       clear c22
       (first | rw [c22b0] | (simp only [i64_w, i32_w]; rw [c22b0]) | skip)
       have H' := aS H
       clear H
       go_wp2
       go_meet
       case rel => exact ⟨_, ((a0_1 == 2)), jB, H', ⟨by have := HJ1.out; first | omega | exact Nat.le_refl _⟩, ⟨by exact bU BK232.out⟩, ⟨by exact wS1 HB.out GE232.out⟩⟩
      ·rw [if_neg c22] at H
       have c22b0 := beq_eq_false_iff_ne.mpr c22
       have c22b1 := bne_iff_ne.mpr c22
       (first | rw [c22b0] | (simp only [i64_w, i32_w]; rw [c22b0]) | skip)
       have H' := aS H
       clear H
       go_wp2
       go_meet
       case rel => exact ⟨_, ((a0_1 == 5)), jB, H', ⟨by have := HJ1.out; first | omega | exact Nat.le_refl _⟩, ⟨by exact bU BK232.out⟩, ⟨by exact wS1 HB.out GE232.out⟩⟩
     case rest =>
      clear HC20
      try clear c1
      try clear c2
      try clear p2
      try clear c5
      try clear c8
      try clear c11
      try clear c12
      try clear c13
      try clear c13b0
      try clear c13b1
      try clear c15
      try clear c16
      try clear c16b0
      try clear c16b1
      try clear c22
      try clear c22b0
      try clear c22b1
      try clear hcz10
      try clear hcz17
      try clear hcz18
      try clear hcz19
      try clear hcz21
      try clear hcz7
      try clear hcz9
      try clear p2
      obtain ⟨kq, x30_19, rfl, HA, HJ19, BK232, HB⟩ := hcut
      cases kq with
      | zero => exact absurd HA.out (by simp [spec_RecordOk.j1])
      | succ kj19 =>
       have H := HA.out
       clear HA
       simp only [spec_RecordOk.j1] at H
       by_cases c23 : x30_19 = true
       ·subst c23
        rw [if_pos rfl] at H
        by_cases c24 : a0_3 = 0
        ·rw [if_pos c24] at H
         have c24b0 := beq_iff_eq.mpr c24
         have c24b1 := bne_eq_false_iff_eq.mpr c24
         clear c24
         obtain ⟨t236, A25, H⟩ := bM H
         try dsimp only at H
         by_cases c26 : t236 = true
         ·subst c26
          rw [if_pos rfl] at H
          obtain rfl := Option.some.inj H
          have hcz27 := cells6f BK232.out
          go_wp2_with (first | (go_at_call 110; (with_reducible refine (spec_NameOk.calls kj19 a0_4 true _ A25.out).mono ?_); rintro e w28 ⟨rfl, hb⟩; replace BK232 := aS (blk_below (bU BK232.out) hb); replace HB := aS (below_step (wS1 HB.out GE232.out) hb); clear hb; have hcz29 := cells6f BK232.out))
          go_ret
          exact ⟨jE, by exact wS1 HB.out GE232.out⟩
         ·replace c26 := Bool.eq_false_iff.mpr c26
          subst c26
          rw [if_neg Bool.false_ne_true] at H
          obtain rfl := Option.some.inj H
          have hcz30 := cells6f BK232.out
          go_wp2_with (first | (go_at_call 110; (with_reducible refine (spec_NameOk.calls kj19 a0_4 false _ A25.out).mono ?_); rintro e w31 ⟨rfl, hb⟩; replace BK232 := aS (blk_below (bU BK232.out) hb); replace HB := aS (below_step (wS1 HB.out GE232.out) hb); clear hb))
          go_ret
          exact ⟨jE, by exact wS1 HB.out GE232.out⟩
        ·rw [if_neg c24] at H
         have c24b0 := beq_eq_false_iff_ne.mpr c24
         have c24b1 := bne_iff_ne.mpr c24
         obtain rfl := Option.some.inj H
         have hcz32 := cells6f BK232.out
         go_wp2
         go_ret
         exact ⟨jE, by exact wS1 HB.out GE232.out⟩
       ·replace c23 := Bool.eq_false_iff.mpr c23
        subst c23
        rw [if_neg Bool.false_ne_true] at H
        by_cases c33 : a0_1 = 6
        ·rw [if_pos c33] at H
         have c33b0 := beq_iff_eq.mpr c33
         have c33b1 := bne_eq_false_iff_eq.mpr c33
         clear c33
         obtain ⟨t237, A34, H⟩ := bM H
         try dsimp only at H
         by_cases c35 : t237 = true
         ·subst c35
          rw [if_pos rfl] at H
          obtain ⟨t238, A36, H⟩ := bM H
          try dsimp only at H
          by_cases c37 : t238 = true
          ·subst c37
           rw [if_pos rfl] at H
           obtain rfl := Option.some.inj H
           have hcz38 := cells6f BK232.out
           go_wp2_with (first | ((with_reducible refine gate_callee (f := 86) rfl ?_); refine goesL_ (some 50) rfl rfl Tryd.func86 jK rfl #[.int .i64 a0_3, .int .i64 0, .int .i64 100000] rfl jA ?_; (with_reducible refine (spec_l1In.calls a0_3 0 100000 true _ A34.out).mono ?_); rintro e w' ⟨rfl, ⟨nd, rfl⟩⟩; refine ⟨_, rfl, ?_⟩) | (go_at_call 110; (with_reducible refine (spec_NameOk.calls kj19 a0_4 true _ A36.out).mono ?_); rintro e w39 ⟨rfl, hb⟩; replace BK232 := aS (blk_below (bU BK232.out) hb); replace HB := aS (below_step (wS1 HB.out GE232.out) hb); clear hb; have hcz40 := cells6f BK232.out))
           go_ret
           exact ⟨jE, by exact wS1 HB.out GE232.out⟩
          ·replace c37 := Bool.eq_false_iff.mpr c37
           subst c37
           rw [if_neg Bool.false_ne_true] at H
           obtain rfl := Option.some.inj H
           have hcz41 := cells6f BK232.out
           go_wp2_with (first | ((with_reducible refine gate_callee (f := 86) rfl ?_); refine goesL_ (some 50) rfl rfl Tryd.func86 jK rfl #[.int .i64 a0_3, .int .i64 0, .int .i64 100000] rfl jA ?_; (with_reducible refine (spec_l1In.calls a0_3 0 100000 true _ A34.out).mono ?_); rintro e w' ⟨rfl, ⟨nd, rfl⟩⟩; refine ⟨_, rfl, ?_⟩) | (go_at_call 110; (with_reducible refine (spec_NameOk.calls kj19 a0_4 false _ A36.out).mono ?_); rintro e w42 ⟨rfl, hb⟩; replace BK232 := aS (blk_below (bU BK232.out) hb); replace HB := aS (below_step (wS1 HB.out GE232.out) hb); clear hb))
           go_ret
           exact ⟨jE, by exact wS1 HB.out GE232.out⟩
         ·replace c35 := Bool.eq_false_iff.mpr c35
          subst c35
          rw [if_neg Bool.false_ne_true] at H
          obtain rfl := Option.some.inj H
          have hcz43 := cells6f BK232.out
          go_wp2_with (first | ((with_reducible refine gate_callee (f := 86) rfl ?_); refine goesL_ (some 50) rfl rfl Tryd.func86 jK rfl #[.int .i64 a0_3, .int .i64 0, .int .i64 100000] rfl jA ?_; (with_reducible refine (spec_l1In.calls a0_3 0 100000 false _ A34.out).mono ?_); rintro e w' ⟨rfl, ⟨nd, rfl⟩⟩; refine ⟨_, rfl, ?_⟩))
          go_ret
          exact ⟨jE, by exact wS1 HB.out GE232.out⟩
        ·rw [if_neg c33] at H
         have c33b0 := beq_eq_false_iff_ne.mpr c33
         have c33b1 := bne_iff_ne.mpr c33
         by_cases c44 : a0_1 = 16
         ·rw [if_pos c44] at H
          have c44b0 := beq_iff_eq.mpr c44
          have c44b1 := bne_eq_false_iff_eq.mpr c44
          clear c44
          by_cases c45 : a0_3 = 0
          ·rw [if_pos c45] at H
           have c45b0 := beq_iff_eq.mpr c45
           have c45b1 := bne_eq_false_iff_eq.mpr c45
           clear c45
           by_cases c46 : a0_4.toList = ([] : List UInt8)
           ·rw [if_pos c46] at H
            have c46b0 := beq_iff_eq.mpr c46
            have c46b1 := bne_eq_false_iff_eq.mpr c46
            clear c46
            obtain ⟨t239, A47, H⟩ := bM H
            try dsimp only at H
            obtain rfl := Option.some.inj H
            have hcz48 := cells6f BK232.out
            go_wp2_with (first | (go_at_call 88; (with_reducible refine (spec_l5Text.calls kj19 a0_5 t239 _ A47.out).mono ?_); rintro e w' ⟨rfl, ⟨nd, rfl⟩⟩))
            go_ret
            exact ⟨jE, by exact wS1 HB.out GE232.out⟩
           ·rw [if_neg c46] at H
            have c46b0 := beq_eq_false_iff_ne.mpr c46
            have c46b1 := bne_iff_ne.mpr c46
            obtain rfl := Option.some.inj H
            have hcz49 := cells6f BK232.out
            go_wp2
            go_ret
            exact ⟨jE, by exact wS1 HB.out GE232.out⟩
          ·rw [if_neg c45] at H
           have c45b0 := beq_eq_false_iff_ne.mpr c45
           have c45b1 := bne_iff_ne.mpr c45
           obtain rfl := Option.some.inj H
           have hcz50 := cells6f BK232.out
           go_wp2
           go_ret
           exact ⟨jE, by exact wS1 HB.out GE232.out⟩
         ·rw [if_neg c44] at H
          have c44b0 := beq_eq_false_iff_ne.mpr c44
          have c44b1 := bne_iff_ne.mpr c44
          obtain rfl := Option.some.inj H
          have hcz51 := cells6f BK232.out
          go_wp2
          go_ret
          exact ⟨jE, by exact wS1 HB.out GE232.out⟩

/-! ### spec_Put4: function 63 -/
def spec_Put4.f (l0 : List Int) (a1 : Int) : Option (List Int) := (some (([] : List Int) : List Int)).bind fun y240 => (if y240.length + l0.length < 140737488355328 then ((some (y240 ++ l0 : List Int)).bind fun y243 => ((spec_l1In.f a1 0 2147483647).bind fun t246 => (if t246 = true then ((some (([(a1 / 16777216) % 256, (Go.bits .and .i64 (a1 / 65536) 255) % 256, (Go.bits .and .i64 (a1 / 256) 255) % 256, (Go.bits .and .i64 a1 255) % 256] : List Int) : List Int)).bind fun y247 => (if y243.length + y247.length < 140737488355328 then (some (y243 ++ y247)) else (none))) else (some y243)))) else (none))
set_option maxHeartbeats 8000000 in
set_option maxRecDepth 100000 in
theorem spec_Put4.calls (A0 : Option Addr) (c0 : Nat) (l0 : List Int) (a1 : Int) (r : List Int) (w : World) (hr0 : Kd.C (Kd.int .u8) w A0 l0.length l0) (hc0 : l0.length ≤ c0) (h : spec_Put4.f l0 a1 = some r) :
  Calls Tryd.prog 63 #[.slice A0 l0.length c0, .int .i64 a1] w fun e w' => ∃ v0_ : Value, e = .returned (v0_) ∧ Kd.R (Kd.int .u8) 5 w' w.heap.size (fun _ => True) v0_ r ∧ Below w.heap.size w w' := by
 have HR0 := aS hr0
 have HC0 := aS hc0
 clear hr0 hc0
 have HB := aS (Below.refl w.heap.size w)
 have H : ((some (([] : List Int) : List Int)).bind fun y240 => (if y240.length + l0.length < 140737488355328 then ((some (y240 ++ l0 : List Int)).bind fun y243 => ((spec_l1In.f a1 0 2147483647).bind fun t246 => (if t246 = true then ((some (([(a1 / 16777216) % 256, (Go.bits .and .i64 (a1 / 65536) 255) % 256, (Go.bits .and .i64 (a1 / 256) 255) % 256, (Go.bits .and .i64 a1 255) % 256] : List Int) : List Int)).bind fun y247 => (if y243.length + y247.length < 140737488355328 then (some (y243 ++ y247)) else (none))) else (some y243)))) else (none))) = some r := h
 clear h
 obtain ⟨y240, hy_⟩ : ∃ y_ : List Int, y_ = (([] : List Int)) := ⟨_, rfl⟩
 replace H : (if y240.length + l0.length < 140737488355328 then ((some (y240 ++ l0 : List Int)).bind fun y243 => ((spec_l1In.f a1 0 2147483647).bind fun t246 => (if t246 = true then ((some (([(a1 / 16777216) % 256, (Go.bits .and .i64 (a1 / 65536) 255) % 256, (Go.bits .and .i64 (a1 / 256) 255) % 256, (Go.bits .and .i64 a1 255) % 256] : List Int) : List Int)).bind fun y247 => (if y243.length + y247.length < 140737488355328 then (some (y243 ++ y247)) else (none))) else (some y243)))) else (none)) = some r := jD
 have Ny240 := aS hy_
 clear hy_
 by_cases c3 : y240.length + l0.length < 140737488355328
 ·rw [if_pos c3] at H
  have LMc3 := aS c3
  clear c3
  obtain ⟨y243, hy_⟩ : ∃ y_ : List Int, y_ = (y240 ++ l0) := ⟨_, rfl⟩
  replace H : ((spec_l1In.f a1 0 2147483647).bind fun t246 => (if t246 = true then ((some (([(a1 / 16777216) % 256, (Go.bits .and .i64 (a1 / 65536) 255) % 256, (Go.bits .and .i64 (a1 / 256) 255) % 256, (Go.bits .and .i64 a1 255) % 256] : List Int) : List Int)).bind fun y247 => (if y243.length + y247.length < 140737488355328 then (some (y243 ++ y247)) else (none))) else (some y243))) = some r := jD
  have Ny243 := aS hy_
  clear hy_
  obtain ⟨t246, A4, H⟩ := bM H
  try dsimp only at H
  have HC5 := aS H
  clear H
  go_enter Tryd.func63, Tryd.ntmps63
  go_upto_if 11 with (first | ((with_reducible refine gate_dst (N := 6) rfl ?_); refine Kd.R_lit (Kd.int .u8) _ 5 ?hg (N := 6) ?hd (xs := ([] : List Int)) (inner := []) (ok := fun _ => True) (okp := fun _ => True) ?hr ?hp (fun _ hk => hk) trivial (Below.refl _ _) (Nat.le_refl _) (by simp) ?_; (case hd => rfl); (case hg => rfl); (case hr => first | (go_simp; done) | (go_simp; rfl)); (case hp => exact (Reps.none _ _)); intro v241 w6 ho7 hb hg_ hnew_; clear hg_ hnew_; (first | rw [← Ny240.out] at ho7 | (simp only [Int.reduceToNat] at ho7; rw [← Ny240.out] at ho7)); have HO242 := aS (Kd.R_lower ho7 (below_size (wU HB.out))); replace HB := aS (below_step (wU HB.out) hb); clear hb ho7) | ((with_reducible refine gate_builtin (b := .append) (xs := #[.tmp 6, .tmp 7]) rfl ?_); at_builtin; refine Kd.R_append_rows (Kd.int .u8) (w0 := w) w.heap.size rfl (.tmp 6) (.tmp 7) 22 5 (.int .u8 0) 1 rfl Tryd.underlying22 info5 rfl (by decide) (by omega) v241 y240 l0 _ _ _ (fun _ => True) (fun _ => False) rfl rfl ?aO ?aR (fun _ _ h => h) (fun _ h => h.elim) ?aF ?aB ?aS ?aL ?_; (case aR => exact cU ((Kd.C_below HR0.out HB.out))); (case aB => exact (wU HB.out)); (case aF => exact (fun _ _ => trivial)); (case aO => exact (rU HO242.out)); (case aS => exact (below_size (wU HB.out))); (case aL => have := LMc3.out; omega); intro v244 w8 ho hb hg hat; rw [← Ny243.out] at ho; replace HB := aS (hb); have HO245 := aS (ho); clear HO242; clear ho hb hg hat) | ((with_reducible refine gate_callee (f := 86) rfl ?_); refine goesL_ (some 10) rfl rfl Tryd.func86 jK rfl #[.int .i64 a1, .int .i64 0, .int .i64 2147483647] rfl jA ?_; (with_reducible refine (spec_l1In.calls a1 0 2147483647 t246 _ A4.out).mono ?_); rintro e w' ⟨rfl, ⟨nd, rfl⟩⟩; refine ⟨_, rfl, ?_⟩))
  (try simp only [Act.put, List.setIfInBounds_toArray, List.set_cons_zero, List.set_cons_succ])
  have H := HC5.out
  clear HC5
  by_cases c9 : t246 = true
  ·subst c9
   rw [if_pos rfl] at H
   obtain ⟨ji10, hji10⟩ : ∃ j_ : Int, (Go.bits .and .i64 (a1 / 65536) 255) = j_ := ⟨_, rfl⟩
   replace H : ((some (([(a1 / 16777216) % 256, (ji10) % 256, (Go.bits .and .i64 (a1 / 256) 255) % 256, (Go.bits .and .i64 a1 255) % 256] : List Int) : List Int)).bind fun y247 => (if y243.length + y247.length < 140737488355328 then (some (y243 ++ y247)) else (none))) = some r := by first | (rw [hji10] at H; exact H) | (simp only [hji10] at H ⊢; exact H)
   obtain ⟨ji11, hji11⟩ : ∃ j_ : Int, (Go.bits .and .i64 (a1 / 256) 255) = j_ := ⟨_, rfl⟩
   replace H : ((some (([(a1 / 16777216) % 256, (ji10) % 256, (ji11) % 256, (Go.bits .and .i64 a1 255) % 256] : List Int) : List Int)).bind fun y247 => (if y243.length + y247.length < 140737488355328 then (some (y243 ++ y247)) else (none))) = some r := by first | (rw [hji11] at H; exact H) | (simp only [hji11] at H ⊢; exact H)
   obtain ⟨ji12, hji12⟩ : ∃ j_ : Int, (Go.bits .and .i64 a1 255) = j_ := ⟨_, rfl⟩
   replace H : ((some (([(a1 / 16777216) % 256, (ji10) % 256, (ji11) % 256, (ji12) % 256] : List Int) : List Int)).bind fun y247 => (if y243.length + y247.length < 140737488355328 then (some (y243 ++ y247)) else (none))) = some r := by first | (rw [hji12] at H; exact H) | (simp only [hji12] at H ⊢; exact H)
   obtain ⟨y247, hy_⟩ : ∃ y_ : List Int, y_ = (([(a1 / 16777216) % 256, (ji10) % 256, (ji11) % 256, (ji12) % 256] : List Int)) := ⟨_, rfl⟩
   replace H : (if y243.length + y247.length < 140737488355328 then (some (y243 ++ y247)) else (none)) = some r := jD
   have Ny247 := aS hy_
   clear hy_
   by_cases c13 : y243.length + y247.length < 140737488355328
   ·rw [if_pos c13] at H
    have LMc13 := aS c13
    clear c13
    obtain ⟨y250, hy_⟩ : ∃ y_ : List Int, y_ = (y243 ++ y247) := ⟨_, rfl⟩
    replace H : (some y250) = some r := jD
    have Ny250 := aS hy_
    clear hy_
    obtain rfl := Option.some.inj H
    go_wp2_with (first | ((with_reducible refine gate_dst (N := 28) rfl ?_); refine Kd.R_lit (Kd.int .u8) _ 5 ?hg (N := 28) ?hd (xs := ([(a1 / 16777216) % 256, (ji10) % 256, (ji11) % 256, (ji12) % 256] : List Int)) (inner := [.int .u8 ((a1 / 16777216) % 256), .int .u8 ((ji10) % 256), .int .u8 ((ji11) % 256), .int .u8 ((ji12) % 256)]) (ok := fun _ => True) (okp := fun _ => True) ?hr ?hp (fun _ hk => hk) trivial (Below.refl _ _) (Nat.le_refl _) (by simp) ?_; (case hd => rfl); (case hg => rfl); (case hr => first | (go_simp; done) | (go_simp; rfl)); (case hp => exact (Reps.one (show Kd.M (Kd.int .u8) _ _ _ ((a1 / 16777216) % 256) [.int .u8 ((a1 / 16777216) % 256)] from rfl) (Reps.one (show Kd.M (Kd.int .u8) _ _ _ ((ji10) % 256) [.int .u8 ((ji10) % 256)] from rfl) (Reps.one (show Kd.M (Kd.int .u8) _ _ _ ((ji11) % 256) [.int .u8 ((ji11) % 256)] from rfl) (Reps.one (show Kd.M (Kd.int .u8) _ _ _ ((ji12) % 256) [.int .u8 ((ji12) % 256)] from rfl) (Reps.none _ _)))))); intro v248 w14 ho15 hb hg_ hnew_; clear hg_ hnew_; (first | rw [← Ny247.out] at ho15 | (simp only [Int.reduceToNat] at ho15; rw [← Ny247.out] at ho15)); have HO249 := aS (Kd.R_lower (Kd.R_new' ho15 (Kd.R_lt (rU HO245.out))) (below_size (wU HB.out))); replace HO245 := aS (Kd.R_elder' (rU HO245.out) (Kd.R_base ho15) hb); replace HB := aS (below_step (wU HB.out) hb); clear hb ho15; obtain ⟨Ao17, co17, eo17⟩ := Kd.R_slice HO249.out; subst eo17) | ((with_reducible refine gate_builtin (b := .append) (xs := #[.tmp 13, .tmp 28]) rfl ?_); at_builtin; refine Kd.R_append_rows (Kd.int .u8) (w0 := w) w.heap.size rfl (.tmp 13) (.tmp 28) 22 5 (.int .u8 0) 1 rfl Tryd.underlying22 info5 rfl (by decide) (by omega) v244 y243 y247 _ _ _ (fun k_ => some k_ ≠ (.slice Ao17 y247.length co17 : Value).ownBlock) (fun _ => False) rfl rfl ?aO ?aR (fun _ _ h => h) (fun _ h => h.elim) ?aF ?aB ?aS ?aL ?_; (case aR => exact cU ((Kd.R_reads' HO249.out).2.2)); (case aB => exact (wU HB.out)); (case aF => exact (fun k_ hk => Kd.fresh' (Kd.R_lt (rU HO249.out)) k_ hk)); (case aO => exact (by (with_reducible repeat (first | apply Kd.R_alloc | apply Kd.R_drewN | apply Kd.R_drew)); exact Kd.R_mono HO245.out (fun _ hk => hk.2))); (case aS => exact (below_size (wU HB.out))); (case aL => have := LMc13.out; omega); intro v251 w16 ho hb hg hat; rw [← Ny250.out] at ho; replace HO249 := aS (Kd.R_after (ok := (fun _ => True)) (rU HO249.out) hg hat); replace HB := aS (hb); have HO252 := aS (ho); clear HO245; clear ho hb hg hat))
    go_ret
    exact ⟨_, by first | rfl | (simp [errW_none, errW_some] <;> rfl) | (simp only [← hji10, ← hji11, ← hji12]; first | rfl | (simp [errW_none, errW_some] <;> rfl)) | (simp [*, errW_none, errW_some] <;> rfl), Kd.R_mono (rU HO252.out) (fun _ hk => trivial), by exact wU HB.out⟩
   ·rw [if_neg c13] at H
    exact absurd H (by simp)
  ·replace c9 := Bool.eq_false_iff.mpr c9
   subst c9
   rw [if_neg Bool.false_ne_true] at H
   obtain rfl := Option.some.inj H
   go_wp2
   go_ret
   exact ⟨_, jE, by exact rU HO245.out, by exact wU HB.out⟩
 ·rw [if_neg c3] at H
  exact absurd H (by simp)

/-! ### spec_PutLabel: function 123 -/
def spec_PutLabel.f (k : Nat) (l0 : List Int) (a1 : ByteArray) : Option (List Int) := (some (([] : List Int) : List Int)).bind fun y253 => (if y253.length + l0.length < 140737488355328 then ((some (y253 ++ l0 : List Int)).bind fun y256 => ((spec_LabelOk.f k a1).bind fun t259 => (if t259 = true then (if y256.length < 140737488355328 then ((some (y256 ++ [((a1.size : Int)) % 256] : List Int)).bind fun y260 => (if y260.length + a1.size < 140737488355328 then (some (y260 ++ bytesOf a1)) else (none))) else (none)) else (some y256)))) else (none))
theorem spec_PutLabel.mono : ∀ a0 a1 k, LeO (spec_PutLabel.f k a0 a1) (spec_PutLabel.f (k + 1) a0 a1) := by
 intro a0 a1 k
 unfold spec_PutLabel.f
 repeat' first
   | (with_reducible first | exact spec_LabelOk.mono _ _ | exact LeO.refl _ | exact LeO.none _ | refine LeO.ite ?_ ?_ | refine LeO.bind ?_ (fun _ => ?_))
   | exact spec_LabelOk.mono _ _
   | exact LeO.none _
   | refine LeO.ite ?_ ?_
   | refine LeO.bind ?_ (fun _ => ?_)
set_option maxHeartbeats 8000000 in
set_option maxRecDepth 100000 in
theorem spec_PutLabel.calls (k : Nat) (A0 : Option Addr) (c0 : Nat) (l0 : List Int) (a1 : ByteArray) (r : List Int) (w : World) (hr0 : Kd.C (Kd.int .u8) w A0 l0.length l0) (hc0 : l0.length ≤ c0) (h : spec_PutLabel.f k l0 a1 = some r) :
  Calls Tryd.prog 123 #[.slice A0 l0.length c0, .string a1] w fun e w' => ∃ v0_ : Value, e = .returned (v0_) ∧ Kd.R (Kd.int .u8) 5 w' w.heap.size (fun _ => True) v0_ r ∧ Below w.heap.size w w' := by
 have HR0 := aS hr0
 have HC0 := aS hc0
 clear hr0 hc0
 have HB := aS (Below.refl w.heap.size w)
 have H : ((some (([] : List Int) : List Int)).bind fun y253 => (if y253.length + l0.length < 140737488355328 then ((some (y253 ++ l0 : List Int)).bind fun y256 => ((spec_LabelOk.f k a1).bind fun t259 => (if t259 = true then (if y256.length < 140737488355328 then ((some (y256 ++ [((a1.size : Int)) % 256] : List Int)).bind fun y260 => (if y260.length + a1.size < 140737488355328 then (some (y260 ++ bytesOf a1)) else (none))) else (none)) else (some y256)))) else (none))) = some r := h
 clear h
 obtain ⟨y253, hy_⟩ : ∃ y_ : List Int, y_ = (([] : List Int)) := ⟨_, rfl⟩
 replace H : (if y253.length + l0.length < 140737488355328 then ((some (y253 ++ l0 : List Int)).bind fun y256 => ((spec_LabelOk.f k a1).bind fun t259 => (if t259 = true then (if y256.length < 140737488355328 then ((some (y256 ++ [((a1.size : Int)) % 256] : List Int)).bind fun y260 => (if y260.length + a1.size < 140737488355328 then (some (y260 ++ bytesOf a1)) else (none))) else (none)) else (some y256)))) else (none)) = some r := jD
 have Ny253 := aS hy_
 clear hy_
 by_cases c3 : y253.length + l0.length < 140737488355328
 ·rw [if_pos c3] at H
  have LMc3 := aS c3
  clear c3
  obtain ⟨y256, hy_⟩ : ∃ y_ : List Int, y_ = (y253 ++ l0) := ⟨_, rfl⟩
  replace H : ((spec_LabelOk.f k a1).bind fun t259 => (if t259 = true then (if y256.length < 140737488355328 then ((some (y256 ++ [((a1.size : Int)) % 256] : List Int)).bind fun y260 => (if y260.length + a1.size < 140737488355328 then (some (y260 ++ bytesOf a1)) else (none))) else (none)) else (some y256))) = some r := jD
  have Ny256 := aS hy_
  clear hy_
  obtain ⟨t259, A4, H⟩ := bM H
  try dsimp only at H
  have HC5 := aS H
  clear H
  go_enter Tryd.func123, Tryd.ntmps123
  go_upto_if 11 with (first | ((with_reducible refine gate_dst (N := 6) rfl ?_); refine Kd.R_lit (Kd.int .u8) _ 5 ?hg (N := 6) ?hd (xs := ([] : List Int)) (inner := []) (ok := fun _ => True) (okp := fun _ => True) ?hr ?hp (fun _ hk => hk) trivial (Below.refl _ _) (Nat.le_refl _) (by simp) ?_; (case hd => rfl); (case hg => rfl); (case hr => first | (go_simp; done) | (go_simp; rfl)); (case hp => exact (Reps.none _ _)); intro v254 w6 ho7 hb hg_ hnew_; clear hg_ hnew_; (first | rw [← Ny253.out] at ho7 | (simp only [Int.reduceToNat] at ho7; rw [← Ny253.out] at ho7)); have HO255 := aS (Kd.R_lower ho7 (below_size (wU HB.out))); replace HB := aS (below_step (wU HB.out) hb); clear hb ho7) | ((with_reducible refine gate_builtin (b := .append) (xs := #[.tmp 6, .tmp 7]) rfl ?_); at_builtin; refine Kd.R_append_rows (Kd.int .u8) (w0 := w) w.heap.size rfl (.tmp 6) (.tmp 7) 22 5 (.int .u8 0) 1 rfl Tryd.underlying22 info5 rfl (by decide) (by omega) v254 y253 l0 _ _ _ (fun _ => True) (fun _ => False) rfl rfl ?aO ?aR (fun _ _ h => h) (fun _ h => h.elim) ?aF ?aB ?aS ?aL ?_; (case aR => exact cU ((Kd.C_below HR0.out HB.out))); (case aB => exact (wU HB.out)); (case aF => exact (fun _ _ => trivial)); (case aO => exact (rU HO255.out)); (case aS => exact (below_size (wU HB.out))); (case aL => have := LMc3.out; omega); intro v257 w8 ho hb hg hat; rw [← Ny256.out] at ho; replace HB := aS (hb); have HO258 := aS (ho); clear HO255; clear ho hb hg hat) | ((with_reducible refine gate_callee (f := 144) rfl ?_); refine goesL_ (some 10) rfl rfl Tryd.func144 jK rfl #[.string a1] rfl jA ?_; (with_reducible refine (spec_LabelOk.calls k a1 t259 _ A4.out).mono ?_); rintro e w' ⟨rfl, ⟨nd, rfl⟩⟩; refine ⟨_, rfl, ?_⟩))
  (try simp only [Act.put, List.setIfInBounds_toArray, List.set_cons_zero, List.set_cons_succ])
  have H := HC5.out
  clear HC5
  by_cases c9 : t259 = true
  ·subst c9
   rw [if_pos rfl] at H
   by_cases c10 : y256.length < 140737488355328
   ·rw [if_pos c10] at H
    have LMc10 := aS c10
    clear c10
    obtain ⟨y260, hy_⟩ : ∃ y_ : List Int, y_ = (y256 ++ [((a1.size : Int)) % 256]) := ⟨_, rfl⟩
    replace H : (if y260.length + a1.size < 140737488355328 then (some (y260 ++ bytesOf a1)) else (none)) = some r := jD
    have Ny260 := aS hy_
    clear hy_
    by_cases c11 : y260.length + a1.size < 140737488355328
    ·rw [if_pos c11] at H
     have LMc11 := aS c11
     clear c11
     obtain ⟨y263, hy_⟩ : ∃ y_ : List Int, y_ = (y260 ++ bytesOf a1) := ⟨_, rfl⟩
     replace H : (some y263) = some r := jD
     have Ny263 := aS hy_
     clear hy_
     obtain rfl := Option.some.inj H
     go_wp2_with (first | ((with_reducible refine gate_builtin (b := .append) (xs := #[.tmp 13, .tmp 17]) rfl ?_); at_builtin; refine Kd.R_append (Kd.int .u8) (w0 := w) w.heap.size rfl (.tmp 13) (.tmp 17) 22 5 (.int .u8 0) 1 rfl Tryd.underlying22 info5 rfl (by decide) (by omega) v257 y256 (((a1.size : Int)) % 256) [.int .u8 (((a1.size : Int)) % 256)] (fun _ => True) (fun _ => False) rfl rfl ?aP (fun _ hk => hk.elim) ?aF ?aO ?aB ?aS ?aL ?_; (case aP => exact rfl); (case aB => exact (wU HB.out)); (case aF => exact (fun _ _ => trivial)); (case aO => exact (rU HO258.out)); (case aS => exact (below_size (wU HB.out))); (case aL => have := LMc10.out; omega); intro v261 w12 ho hb hg hat; rw [← Ny260.out] at ho; replace HB := aS (hb); have HO262 := aS (ho); clear HO258; clear ho hb hg hat) | (at_builtin; refine print_append_str (w0 := w) w.heap.size rfl (.tmp 18) _ 22 9 5 rfl Tryd.underlying22 Tryd.underlying9 info5 v261 y260 a1 rfl rfl ?aO ?aB ?aS ?aL ?_; (case aB => exact (wU HB.out)); (case aO => exact (Kd.own_of_R (rU HO262.out))); (case aS => exact (below_size (wU HB.out))); (case aL => have := LMc11.out; omega); intro v264 w13 ho0 hb hg; have ho := Kd.R_of_own (h1 := fun _ => rfl) (ok := fun _ => True) ho0 (fun _ _ => trivial); clear ho0; have hat := True.intro; rw [← Ny263.out] at ho; change Kd.R (Kd.int .u8) 5 w13 w.heap.size (fun _ => True) v264 y263 at ho; replace HB := aS (hb); have HO265 := aS (ho); clear HO262; clear ho hb hg hat))
     go_ret
     exact ⟨_, jE, by exact rU HO265.out, by exact wU HB.out⟩
    ·rw [if_neg c11] at H
     exact absurd H (by simp)
   ·rw [if_neg c10] at H
    exact absurd H (by simp)
  ·replace c9 := Bool.eq_false_iff.mpr c9
   subst c9
   rw [if_neg Bool.false_ne_true] at H
   obtain rfl := Option.some.inj H
   go_wp2
   go_ret
   exact ⟨_, jE, by exact rU HO258.out, by exact wU HB.out⟩
 ·rw [if_neg c3] at H
  exact absurd H (by simp)

end Go.Proofs.YtdigilidomimdaaDoor.Pr
