-- Written for this claim by a program of this session (wip/tool/pr.py, over the kit's printer).
-- half
import Derived.Test.YtdigilidomimdaaDoorPrx0
import Derived.Test.YtdigilidomimdaaDoorPrx7
import Derived.Test.YtdigilidomimdaaDoorPrx8
import Derived.Test.YtdigilidomimdaaDoorPrx9
import Derived.Test.YtdigilidomimdaaDoorPrx10
namespace Go.Proofs.YtdigilidomimdaaDoor.Pr
open Go.RowKit Go.Proofs.YtdigilidomimdaaDoorW.PrintWords Go.Proofs.YtdigilidomimdaaDoorW.PrintLast Go.Proofs.YtdigilidomimdaaDoorW.PrintMore
attribute [local go_sem] max2_int min2_int max_two min_two max_three min_three max_four min_four   -- for this text's walks alone
set_option linter.unusedVariables false
set_option linter.unusedSimpArgs false

/-! ### impl_PlaceOf: function 117 -/
mutual
def impl_PlaceOf.l0 : Nat → List Int → ByteArray → Int → Option (Int)
 | 0, _, _, _ => none
 | k + 1, x0, x1, x5 => if x5 < (x0.length : Int) then (impl_PlaceOf.j1 k x0 x1 x5 (decide (x5 ≤ 16383))) else (impl_PlaceOf.j1 k x0 x1 x5 false)
def impl_PlaceOf.j1 : Nat → List Int → ByteArray → Int → Bool → Option (Int)
 | 0, _, _, _, _ => none
 | k + 1, x0, x1, x5, x16 => if x16 = true then ((impl_GetName.f k x0 x5).bind fun bt561 => (if bt561.2.2 = 0 then (if bt561.1.toList = x1.toList then (some x5) else (impl_PlaceOf.l0 k x0 x1 (wrap64 (x5 + 1)))) else (impl_PlaceOf.l0 k x0 x1 (wrap64 (x5 + 1))))) else (some (-1))
end
def impl_PlaceOf.f (k : Nat) (l0 : List Int) (a1 : ByteArray) : Option (Int) := impl_PlaceOf.l0 k l0 a1 0
theorem impl_PlaceOf.mono_l : ∀ k, (∀ y0 y1 y2, LeO (impl_PlaceOf.l0 k y0 y1 y2) (impl_PlaceOf.l0 (k + 1) y0 y1 y2)) ∧ (∀ y0 y1 y2 y3, LeO (impl_PlaceOf.j1 k y0 y1 y2 y3) (impl_PlaceOf.j1 (k + 1) y0 y1 y2 y3))
 | 0 => ⟨fun _ _ _ r h => by simp [impl_PlaceOf.l0] at h, fun _ _ _ _ r h => by simp [impl_PlaceOf.j1] at h⟩
 | k + 1 => by
  obtain ⟨ih0, ih1⟩ := impl_PlaceOf.mono_l k
  refine ⟨?_, ?_⟩
  ·intro y0 y1 y2
   unfold impl_PlaceOf.l0
   repeat' first
   | (with_reducible first | exact ih0 _ _ _ | exact ih1 _ _ _ _ | exact impl_GetName.mono _ _ _ | exact LeO.refl _ | exact LeO.none _ | refine LeO.ite ?_ ?_ | refine LeO.bind ?_ (fun _ => ?_))
   | exact ih0 _ _ _
   | exact ih1 _ _ _ _
   | exact impl_GetName.mono _ _ _
   | exact LeO.none _
   | refine LeO.ite ?_ ?_
   | refine LeO.bind ?_ (fun _ => ?_)
  ·intro y0 y1 y2 y3
   unfold impl_PlaceOf.j1
   repeat' first
   | (with_reducible first | exact ih0 _ _ _ | exact ih1 _ _ _ _ | exact impl_GetName.mono _ _ _ | exact LeO.refl _ | exact LeO.none _ | refine LeO.ite ?_ ?_ | refine LeO.bind ?_ (fun _ => ?_))
   | exact ih0 _ _ _
   | exact ih1 _ _ _ _
   | exact impl_GetName.mono _ _ _
   | exact LeO.none _
   | refine LeO.ite ?_ ?_
   | refine LeO.bind ?_ (fun _ => ?_)
theorem impl_PlaceOf.mono : ∀ a0 a1 k, LeO (impl_PlaceOf.f k a0 a1) (impl_PlaceOf.f (k + 1) a0 a1) := by
 intro a0 a1 k
 obtain ⟨ih0, ih1⟩ := impl_PlaceOf.mono_l k
 unfold impl_PlaceOf.f
 repeat' first
   | (with_reducible first | exact ih0 _ _ _ | exact ih1 _ _ _ _ | exact impl_GetName.mono _ _ _ | exact LeO.refl _ | exact LeO.none _ | refine LeO.ite ?_ ?_ | refine LeO.bind ?_ (fun _ => ?_))
   | exact ih0 _ _ _
   | exact ih1 _ _ _ _
   | exact impl_GetName.mono _ _ _
   | exact LeO.none _
   | refine LeO.ite ?_ ?_
   | refine LeO.bind ?_ (fun _ => ?_)
set_option maxHeartbeats 8000000 in
set_option maxRecDepth 100000 in
theorem impl_PlaceOf.calls (k : Nat) (A0 : Option Addr) (c0 : Nat) (l0 : List Int) (a1 : ByteArray) (r : Int) (w : World) (hr0 : Kd.C (Kd.int .u8) w A0 l0.length l0) (hc0 : l0.length ≤ c0) (h : impl_PlaceOf.f k l0 a1 = some r) :
  Calls Tryd.prog 117 #[.slice A0 l0.length c0, .string a1] w fun e w' => e = .returned (.int .i64 r) ∧ Below w.heap.size w w' := by
 have HR0 := aS hr0
 have HC0 := aS hc0
 clear hr0 hc0
 have HB := aS (Below.refl w.heap.size w)
 have H : (impl_PlaceOf.l0 k l0 a1 0) = some r := h
 clear h
 have H' := aS H
 clear H
 go_enter Tryd.func117, Tryd.ntmps117
 go_wp2
 go_loopg [5] k (fun kq v5 w' => ∃ (x5_1 : Int), v5 = .int .i64 x5_1 ∧ Aside0 (impl_PlaceOf.l0 kq l0 a1 x5_1 = some r) ∧ Aside0 (kq ≤ k) ∧ Aside0 (Below w.heap.size w w'))
 case atStart => exact ⟨(0), jB, H', ⟨Nat.le_refl _⟩, ⟨by repeat (first | (with_reducible first | exact HB.out | apply below_alloc | apply pw_below_drewN | apply below_drew1) | exact HB.out)⟩⟩
 case round =>
  clear H'
  try clear c1
  try clear p2
  obtain ⟨x5_1, rfl, HA, HK1, HB⟩ := hrel
  cases gk with
  | zero => exact absurd HA.out (by simp [impl_PlaceOf.l0])
  | succ k1 =>
   have H := HA.out
   clear HA
   simp only [impl_PlaceOf.l0] at H
   have HC3 := aS H
   clear H
   go_upto_region 2 with (fail)
   go_cut [16] (fun v16 wc => ∃ (kq : Nat) (x16_2 : Bool), v16 = .bool x16_2 ∧ Aside0 (impl_PlaceOf.j1 kq l0 a1 x5_1 x16_2 = some r) ∧ Aside0 (kq ≤ k1) ∧ Aside0 (Below w.heap.size w wc))
   case first =>
    have H := HC3.out
    clear HC3
    by_cases c4 : x5_1 < (l0.length : Int)
    ·rw [if_pos c4] at H
     have c4b0 : decide (x5_1 < (l0.length : Int)) = true := decide_eq_true c4
     clear c4
     (first | rw [c4b0] | (simp only [i64_w, i32_w]; rw [c4b0]) | skip)
     have H' := aS H
     clear H
     go_wp2
     go_meet
     case rel => exact ⟨_, (decide (x5_1 ≤ 16383)), jB, H', ⟨by have := HK1.out; first | omega | exact Nat.le_refl _⟩, ⟨by repeat (first | (with_reducible first | exact HB.out | apply below_alloc | apply pw_below_drewN | apply below_drew1) | exact HB.out)⟩⟩
    ·rw [if_neg c4] at H
     have c4b0 : decide (x5_1 < (l0.length : Int)) = false := decide_eq_false c4
     clear c4
     (first | rw [c4b0] | (simp only [i64_w, i32_w]; rw [c4b0]) | skip)
     have H' := aS H
     clear H
     go_wp2
     go_meet
     case rel => exact ⟨_, (false), jB, H', ⟨by have := HK1.out; first | omega | exact Nat.le_refl _⟩, ⟨by repeat (first | (with_reducible first | exact HB.out | apply below_alloc | apply pw_below_drewN | apply below_drew1) | exact HB.out)⟩⟩
   case rest =>
    clear HC3
    try clear c1
    try clear p2
    try clear c4
    try clear c4b0
    try clear p2
    obtain ⟨kq, x16_2, rfl, HA, HJ2, HB⟩ := hcut
    cases kq with
    | zero => exact absurd HA.out (by simp [impl_PlaceOf.j1])
    | succ kj2 =>
     have H := HA.out
     clear HA
     simp only [impl_PlaceOf.j1] at H
     by_cases c5 : x16_2 = true
     ·subst c5
      have H1 : ((impl_GetName.f kj2 l0 x5_1).bind fun bt561 => (if bt561.2.2 = 0 then (if bt561.1.toList = a1.toList then (some x5_1) else (impl_PlaceOf.l0 kj2 l0 a1 (wrap64 (x5_1 + 1)))) else (impl_PlaceOf.l0 kj2 l0 a1 (wrap64 (x5_1 + 1))))) = some r := by rw [if_pos rfl] at H; exact H
      clear H
      have H := H1
      clear H1
      replace H := Option.bind_eq_some_iff.mp H
      obtain ⟨⟨t561, t562, t563⟩, A6, H⟩ := H
      try dsimp only at H
      replace A6 := aS A6
      by_cases c7 : t563 = 0
      ·rw [if_pos c7] at H
       have c7b0 : (t563 == 0) = true := beq_iff_eq.mpr c7
       have c7b1 : (t563 != 0) = false := bne_eq_false_iff_eq.mpr c7
       clear c7
       by_cases c8 : t561.toList = a1.toList
       ·rw [if_pos c8] at H
        have c8b0 : (t561.toList == a1.toList) = true := beq_iff_eq.mpr c8
        have c8b1 : (t561.toList != a1.toList) = false := bne_eq_false_iff_eq.mpr c8
        clear c8
        obtain rfl := Option.some.inj H
        go_wp2_with (first | ((with_reducible refine gate_callee (f := 71) rfl ?_); refine goesL_ (some 22) rfl rfl Tryd.func71 jK rfl #[.slice A0 l0.length c0, .int .i64 x5_1] rfl jA ?_; (with_reducible refine (impl_GetName.calls kj2 _ _ l0 x5_1 t561 t562 t563 _ ?side1 ?side2 A6.out).mono ?_); (case side1 => exact cU ((Kd.C_below HR0.out HB.out))); (case side2 => exact HC0.out); rintro e w9 ⟨rfl, hb⟩; refine ⟨_, rfl, ?_⟩; have n0_ := aS (below_step (wU HB.out) hb); clear HB; revert n0_; intro HB; clear hb))
        go_ret
        exact ⟨jE, by repeat (first | (with_reducible first | exact HB.out | apply below_alloc | apply pw_below_drewN | apply below_drew1) | exact HB.out)⟩
       ·rw [if_neg c8] at H
        have c8b0 : (t561.toList == a1.toList) = false := beq_eq_false_iff_ne.mpr c8
        have c8b1 : (t561.toList != a1.toList) = true := bne_iff_ne.mpr c8
        have H' := aS H
        clear H
        go_wp2_with (first | ((with_reducible refine gate_callee (f := 71) rfl ?_); refine goesL_ (some 22) rfl rfl Tryd.func71 jK rfl #[.slice A0 l0.length c0, .int .i64 x5_1] rfl jA ?_; (with_reducible refine (impl_GetName.calls kj2 _ _ l0 x5_1 t561 t562 t563 _ ?side1 ?side2 A6.out).mono ?_); (case side1 => exact cU ((Kd.C_below HR0.out HB.out))); (case side2 => exact HC0.out); rintro e w10 ⟨rfl, hb⟩; refine ⟨_, rfl, ?_⟩; have n0_ := aS (below_step (wU HB.out) hb); clear HB; revert n0_; intro HB; clear hb))
        go_roundg kj2
        case measure => have := HK1.out; have := HJ2.out; omega
        case rel => exact ⟨(wrap64 (x5_1 + 1)), jB, H', ⟨by have := HK1.out; have := HJ2.out; omega⟩, ⟨by repeat (first | (with_reducible first | exact HB.out | apply below_alloc | apply pw_below_drewN | apply below_drew1) | exact HB.out)⟩⟩
      ·rw [if_neg c7] at H
       have c7b0 : (t563 == 0) = false := beq_eq_false_iff_ne.mpr c7
       have c7b1 : (t563 != 0) = true := bne_iff_ne.mpr c7
       have H' := aS H
       clear H
       go_wp2_with (first | ((with_reducible refine gate_callee (f := 71) rfl ?_); refine goesL_ (some 22) rfl rfl Tryd.func71 jK rfl #[.slice A0 l0.length c0, .int .i64 x5_1] rfl jA ?_; (with_reducible refine (impl_GetName.calls kj2 _ _ l0 x5_1 t561 t562 t563 _ ?side1 ?side2 A6.out).mono ?_); (case side1 => exact cU ((Kd.C_below HR0.out HB.out))); (case side2 => exact HC0.out); rintro e w11 ⟨rfl, hb⟩; refine ⟨_, rfl, ?_⟩; have n0_ := aS (below_step (wU HB.out) hb); clear HB; revert n0_; intro HB; clear hb))
       go_roundg kj2
       case measure => have := HK1.out; have := HJ2.out; omega
       case rel => exact ⟨(wrap64 (x5_1 + 1)), jB, H', ⟨by have := HK1.out; have := HJ2.out; omega⟩, ⟨by repeat (first | (with_reducible first | exact HB.out | apply below_alloc | apply pw_below_drewN | apply below_drew1) | exact HB.out)⟩⟩
     ·replace c5 := Bool.eq_false_iff.mpr c5
      subst c5
      have H1 : (some (-1)) = some r := by rw [if_neg (show ¬ (false = true) by decide)] at H; exact H
      clear H
      have H := H1
      clear H1
      obtain rfl := Option.some.inj H
      go_wp2
      go_ret
      exact ⟨jE, by repeat (first | (with_reducible first | exact HB.out | apply below_alloc | apply pw_below_drewN | apply below_drew1) | exact HB.out)⟩

/-! ### impl_PutName: function 59 -/
mutual
def impl_PutName.l0 : Nat → List Int → ByteArray → List Int → List ByteArray → List ByteArray → Int → Int → Option (List Int)
 | 0, _, _, _, _, _, _, _ => none
 | k + 1, x0, x1, x5, x6, x21, x22, x23 => if x23 < x22 then (if 0 ≤ x23 then (if x23 < (x21.length : Int) then ((impl_PlaceOf.f k x0 (rdOf ByteArray.empty x21 x23)).bind fun t578 => (if (rdOf ByteArray.empty x21 x23).toList = ([] : List UInt8) then (impl_PutName.j1 k x0 x1 x5 x6 x23 t578 x21 x22 x23 true) else (impl_PutName.j1 k x0 x1 x5 x6 x23 t578 x21 x22 x23 (decide (t578 < 0))))) else (none)) else (none)) else ((impl_PutPlain.f k x0 x1).bind fun t574 => (some t574))
def impl_PutName.j1 : Nat → List Int → ByteArray → List Int → List ByteArray → Int → Int → List ByteArray → Int → Int → Bool → Option (List Int)
 | 0, _, _, _, _, _, _, _, _, _, _ => none
 | k + 1, x0, x1, x5, x6, x7, x9, x21, x22, x23, x36 => if x36 = true then (impl_PutName.l0 k x0 x1 x5 x6 x21 x22 (wrap64 (x23 + 1))) else (if 0 ≤ x7 then (if x7 ≤ (x6.length : Int) then ((some (x6.take (x7 : Int).toNat : List ByteArray)).bind fun y579 => (impl_PutName.l1 k x5 x9 y579 (y579.length : Int) 0)) else (none)) else (none))
def impl_PutName.l1 : Nat → List Int → Int → List ByteArray → Int → Int → Option (List Int)
 | 0, _, _, _, _, _ => none
 | k + 1, x5, x9, x39, x40, x41 => if x41 < x40 then (if 0 ≤ x41 then (if x41 < (x39.length : Int) then ((impl_PutLabel.f k x5 (rdOf ByteArray.empty x39 x41)).bind fun t584 => (impl_PutName.l1 k t584 x9 x39 x40 (wrap64 (x41 + 1)))) else (none)) else (none)) else ((some (([(wrap64 (192 + (wrap64 (Int.tdiv x9 256)))) % 256, (Int.tmod x9 256) % 256] : List Int) : List Int)).bind fun y587 => (if x5.length + y587.length < 140737488355328 then (some (x5 ++ y587)) else (none)))
end
def impl_PutName.f (k : Nat) (l0 : List Int) (a1 : ByteArray) : Option (List Int) := (slices_Clone_byte.f l0).bind fun t564 => ((impl_NameOk.f k a1).bind fun t567 => (if t567 = true then ((impl_Labels.f a1).bind fun t568 => ((impl_Above.f k a1).bind fun t571 => (impl_PutName.l0 k l0 a1 t564 t568 t571 (t571.length : Int) 0))) else (some t564)))
theorem impl_PutName.mono_l : ∀ k, (∀ y0 y1 y2 y3 y4 y5 y6, LeO (impl_PutName.l0 k y0 y1 y2 y3 y4 y5 y6) (impl_PutName.l0 (k + 1) y0 y1 y2 y3 y4 y5 y6)) ∧ (∀ y0 y1 y2 y3 y4 y5 y6 y7 y8 y9, LeO (impl_PutName.j1 k y0 y1 y2 y3 y4 y5 y6 y7 y8 y9) (impl_PutName.j1 (k + 1) y0 y1 y2 y3 y4 y5 y6 y7 y8 y9)) ∧ (∀ y0 y1 y2 y3 y4, LeO (impl_PutName.l1 k y0 y1 y2 y3 y4) (impl_PutName.l1 (k + 1) y0 y1 y2 y3 y4))
 | 0 => ⟨fun _ _ _ _ _ _ _ r h => by simp [impl_PutName.l0] at h, fun _ _ _ _ _ _ _ _ _ _ r h => by simp [impl_PutName.j1] at h, fun _ _ _ _ _ r h => by simp [impl_PutName.l1] at h⟩
 | k + 1 => by
  obtain ⟨ih0, ih1, ih2⟩ := impl_PutName.mono_l k
  refine ⟨?_, ?_, ?_⟩
  ·intro y0 y1 y2 y3 y4 y5 y6
   unfold impl_PutName.l0
   repeat' first
   | (with_reducible first | exact ih0 _ _ _ _ _ _ _ | exact ih1 _ _ _ _ _ _ _ _ _ _ | exact ih2 _ _ _ _ _ | exact impl_Above.mono _ _ | exact impl_NameOk.mono _ _ | exact impl_PlaceOf.mono _ _ _ | exact impl_PutLabel.mono _ _ _ | exact impl_PutPlain.mono _ _ _ | exact LeO.refl _ | exact LeO.none _ | refine LeO.ite ?_ ?_ | refine LeO.bind ?_ (fun _ => ?_))
   | exact ih0 _ _ _ _ _ _ _
   | exact ih1 _ _ _ _ _ _ _ _ _ _
   | exact ih2 _ _ _ _ _
   | exact impl_Above.mono _ _
   | exact impl_NameOk.mono _ _
   | exact impl_PlaceOf.mono _ _ _
   | exact impl_PutLabel.mono _ _ _
   | exact impl_PutPlain.mono _ _ _
   | exact LeO.none _
   | refine LeO.ite ?_ ?_
   | refine LeO.bind ?_ (fun _ => ?_)
  ·intro y0 y1 y2 y3 y4 y5 y6 y7 y8 y9
   unfold impl_PutName.j1
   repeat' first
   | (with_reducible first | exact ih0 _ _ _ _ _ _ _ | exact ih1 _ _ _ _ _ _ _ _ _ _ | exact ih2 _ _ _ _ _ | exact impl_Above.mono _ _ | exact impl_NameOk.mono _ _ | exact impl_PlaceOf.mono _ _ _ | exact impl_PutLabel.mono _ _ _ | exact impl_PutPlain.mono _ _ _ | exact LeO.refl _ | exact LeO.none _ | refine LeO.ite ?_ ?_ | refine LeO.bind ?_ (fun _ => ?_))
   | exact ih0 _ _ _ _ _ _ _
   | exact ih1 _ _ _ _ _ _ _ _ _ _
   | exact ih2 _ _ _ _ _
   | exact impl_Above.mono _ _
   | exact impl_NameOk.mono _ _
   | exact impl_PlaceOf.mono _ _ _
   | exact impl_PutLabel.mono _ _ _
   | exact impl_PutPlain.mono _ _ _
   | exact LeO.none _
   | refine LeO.ite ?_ ?_
   | refine LeO.bind ?_ (fun _ => ?_)
  ·intro y0 y1 y2 y3 y4
   unfold impl_PutName.l1
   repeat' first
   | (with_reducible first | exact ih0 _ _ _ _ _ _ _ | exact ih1 _ _ _ _ _ _ _ _ _ _ | exact ih2 _ _ _ _ _ | exact impl_Above.mono _ _ | exact impl_NameOk.mono _ _ | exact impl_PlaceOf.mono _ _ _ | exact impl_PutLabel.mono _ _ _ | exact impl_PutPlain.mono _ _ _ | exact LeO.refl _ | exact LeO.none _ | refine LeO.ite ?_ ?_ | refine LeO.bind ?_ (fun _ => ?_))
   | exact ih0 _ _ _ _ _ _ _
   | exact ih1 _ _ _ _ _ _ _ _ _ _
   | exact ih2 _ _ _ _ _
   | exact impl_Above.mono _ _
   | exact impl_NameOk.mono _ _
   | exact impl_PlaceOf.mono _ _ _
   | exact impl_PutLabel.mono _ _ _
   | exact impl_PutPlain.mono _ _ _
   | exact LeO.none _
   | refine LeO.ite ?_ ?_
   | refine LeO.bind ?_ (fun _ => ?_)
theorem impl_PutName.mono : ∀ a0 a1 k, LeO (impl_PutName.f k a0 a1) (impl_PutName.f (k + 1) a0 a1) := by
 intro a0 a1 k
 obtain ⟨ih0, ih1, ih2⟩ := impl_PutName.mono_l k
 unfold impl_PutName.f
 repeat' first
   | (with_reducible first | exact ih0 _ _ _ _ _ _ _ | exact ih1 _ _ _ _ _ _ _ _ _ _ | exact ih2 _ _ _ _ _ | exact impl_Above.mono _ _ | exact impl_NameOk.mono _ _ | exact impl_PlaceOf.mono _ _ _ | exact impl_PutLabel.mono _ _ _ | exact impl_PutPlain.mono _ _ _ | exact LeO.refl _ | exact LeO.none _ | refine LeO.ite ?_ ?_ | refine LeO.bind ?_ (fun _ => ?_))
   | exact ih0 _ _ _ _ _ _ _
   | exact ih1 _ _ _ _ _ _ _ _ _ _
   | exact ih2 _ _ _ _ _
   | exact impl_Above.mono _ _
   | exact impl_NameOk.mono _ _
   | exact impl_PlaceOf.mono _ _ _
   | exact impl_PutLabel.mono _ _ _
   | exact impl_PutPlain.mono _ _ _
   | exact LeO.none _
   | refine LeO.ite ?_ ?_
   | refine LeO.bind ?_ (fun _ => ?_)
set_option maxHeartbeats 8000000 in
set_option maxRecDepth 100000 in
theorem impl_PutName.calls (k : Nat) (A0 : Option Addr) (c0 : Nat) (l0 : List Int) (a1 : ByteArray) (r : List Int) (w : World) (hr0 : Kd.C (Kd.int .u8) w A0 l0.length l0) (hc0 : l0.length ≤ c0) (h : impl_PutName.f k l0 a1 = some r) :
  Calls Tryd.prog 59 #[.slice A0 l0.length c0, .string a1] w fun e w' => ∃ v0_ : Value, e = .returned (v0_) ∧ Kd.R (Kd.int .u8) 5 w' w.heap.size (fun _ => True) v0_ r ∧ Below w.heap.size w w' := by
 have HR0 := aS hr0
 have HC0 := aS hc0
 clear hr0 hc0
 have HB := aS (Below.refl w.heap.size w)
 have H : ((slices_Clone_byte.f l0).bind fun t564 => ((impl_NameOk.f k a1).bind fun t567 => (if t567 = true then ((impl_Labels.f a1).bind fun t568 => ((impl_Above.f k a1).bind fun t571 => (impl_PutName.l0 k l0 a1 t564 t568 t571 (t571.length : Int) 0))) else (some t564)))) = some r := h
 clear h
 replace H := Option.bind_eq_some_iff.mp H
 obtain ⟨t564, A3, H⟩ := H
 try dsimp only at H
 replace A3 := aS A3
 replace H := Option.bind_eq_some_iff.mp H
 obtain ⟨t567, A4, H⟩ := H
 try dsimp only at H
 replace A4 := aS A4
 by_cases c5 : t567 = true
 ·subst c5
  have H1 : ((impl_Labels.f a1).bind fun t568 => ((impl_Above.f k a1).bind fun t571 => (impl_PutName.l0 k l0 a1 t564 t568 t571 (t571.length : Int) 0))) = some r := by rw [if_pos rfl] at H; exact H
  clear H
  have H := H1
  clear H1
  replace H := Option.bind_eq_some_iff.mp H
  obtain ⟨t568, A6, H⟩ := H
  try dsimp only at H
  replace A6 := aS A6
  replace H := Option.bind_eq_some_iff.mp H
  obtain ⟨t571, A7, H⟩ := H
  try dsimp only at H
  replace A7 := aS A7
  have H' := aS H
  clear H
  go_enter Tryd.func59, Tryd.ntmps59
  go_wp2_with (first | ((with_reducible refine gate_callee (f := 114) rfl ?_); refine goesL_ (some 13) rfl rfl Tryd.func114 jK rfl #[.slice A0 l0.length c0] rfl jA ?_; (with_reducible refine (slices_Clone_byte.calls _ _ l0 t564 _ ?side1 ?side2 A3.out).mono ?_); (case side1 => exact cU (HR0.out)); (case side2 => exact HC0.out); rintro e w8 ⟨v565, rfl, ho0, hb⟩; refine ⟨_, rfl, ?_⟩; have n0_ := aS (Kd.R_lower ho0 (below_size (wU HB.out))); have n1_ := aS (below_step (wU HB.out) hb); clear HB; revert n0_ n1_; intro HO566 HB; clear hb; (try clear ho0)) | ((with_reducible refine gate_callee (f := 67) rfl ?_); refine goesL_ (some 15) rfl rfl Tryd.func67 jK rfl #[.string a1] rfl jA ?_; (with_reducible refine (impl_NameOk.calls k a1 true _ A4.out).mono ?_); rintro e w9 ⟨rfl, hb⟩; refine ⟨_, rfl, ?_⟩; have n0_ := aS (Kd.R_below (rU HO566.out) hb); have n1_ := aS (below_step (wU HB.out) hb); clear HO566 HB; revert n0_ n1_; intro HO566 HB; clear hb) | ((with_reducible refine gate_callee (f := 115) rfl ?_); refine goesL_ (some 19) rfl rfl Tryd.func115 jK rfl #[.string a1] rfl jA ?_; (with_reducible refine (impl_Labels.calls a1 t568 _ A6.out).mono ?_); rintro e w10 ⟨v569, rfl, ho0, hb⟩; refine ⟨_, rfl, ?_⟩; have n0_ := aS (Kd.R_below (rU HO566.out) hb); have n1_ := aS (Kd.R_lower ho0 (below_size (wU HB.out))); have n2_ := aS (below_step (wU HB.out) hb); clear HO566 HB; revert n0_ n1_ n2_; intro HO566 HO570 HB; clear hb; (try clear ho0)) | ((with_reducible refine gate_callee (f := 116) rfl ?_); refine goesL_ (some 21) rfl rfl Tryd.func116 jK rfl #[.string a1] rfl jA ?_; (with_reducible refine (impl_Above.calls k a1 t571 _ A7.out).mono ?_); rintro e w11 ⟨v572, rfl, ho0, hb⟩; refine ⟨_, rfl, ?_⟩; have n0_ := aS (Kd.R_below (rU HO566.out) hb); have n1_ := aS (Kd.R_elder' (rU HO570.out) (Kd.R_base ho0) hb); have n2_ := aS (Kd.R_lower (Kd.R_new' ho0 (Kd.R_lt (rU HO570.out))) (below_size (wU HB.out))); have n3_ := aS (below_step (wU HB.out) hb); clear HO566 HO570 HB; revert n0_ n1_ n2_ n3_; intro HO566 HO570 HO573 HB; clear hb; (try clear ho0); obtain ⟨Ao12, co12, eo12⟩ := Kd.R_slice HO573.out; subst eo12))
  go_loopg [5, 23] k (fun kq v5 v23 w' => ∃ (x5_1 : List Int) (x23_1 : Int), v23 = .int .i64 x23_1 ∧ Aside0 (impl_PutName.l0 kq l0 a1 x5_1 t568 t571 (t571.length : Int) x23_1 = some r) ∧ Aside0 (kq ≤ k) ∧ Aside0 (Kd.R (Kd.int .u8) 5 w' w.heap.size (fun _ => True) v5 x5_1) ∧ Aside0 (Kd.R Kd.string 9 w' w.heap.size (fun k_ => some k_ ≠ ((.slice Ao12 t571.length co12) : Value).ownBlock) v569 t568) ∧ Aside0 (Kd.R Kd.string 9 w' w.heap.size (fun k_ => some k_ ≠ (v569 : Value).ownBlock) (.slice Ao12 t571.length co12) t571) ∧ Aside0 (Below w.heap.size w w'))
  case atStart => exact ⟨(t564), (0), jB, H', ⟨Nat.le_refl _⟩, ⟨by (with_reducible repeat (first | apply Kd.R_alloc | apply Kd.R_drewN | apply Kd.R_drew)); exact HO566.out⟩, ⟨by (with_reducible repeat (first | apply Kd.R_alloc | apply Kd.R_drewN | apply Kd.R_drew)); exact Kd.R_mono HO570.out (fun _ hk => hk.2)⟩, ⟨by (with_reducible repeat (first | apply Kd.R_alloc | apply Kd.R_drewN | apply Kd.R_drew)); exact Kd.R_mono HO573.out (fun _ hk => hk.2)⟩, ⟨by repeat (first | (with_reducible first | exact HB.out | apply below_alloc | apply pw_below_drewN | apply below_drew1) | exact HB.out)⟩⟩
  case round =>
   clear H'
   try clear c1
   try clear p2
   try clear c5
   try clear c6
   try clear c11
   obtain ⟨x5_1, x23_1, rfl, HA, HK1, HO_5, HO_6, HO_21, HB⟩ := hrel
   cases gk with
   | zero => exact absurd HA.out (by simp [impl_PutName.l0])
   | succ k1 =>
    have H := HA.out
    clear HA
    simp only [impl_PutName.l0] at H
    by_cases c13 : x23_1 < (t571.length : Int)
    ·rw [if_pos c13] at H
     have c13b0 : decide (x23_1 < (t571.length : Int)) = true := decide_eq_true c13
     clear c13
     by_cases c14 : 0 ≤ x23_1
     ·rw [if_pos c14] at H
      have c14b0 : decide (0 ≤ x23_1) = true := decide_eq_true c14
      clear c14
      by_cases c15 : x23_1 < (t571.length : Int)
      ·rw [if_pos c15] at H
       have c15b0 : decide (x23_1 < (t571.length : Int)) = true := decide_eq_true c15
       clear c15
       replace H := Option.bind_eq_some_iff.mp H
       obtain ⟨t578, A16, H⟩ := H
       try dsimp only at H
       replace A16 := aS A16
       have HC17 := aS H
       clear H
       have p577 : 0 ≤ (x23_1 : Int) := of_decide_eq_true jC
       have q577 : x23_1 < (t571.length : Int) := of_decide_eq_true jC
       obtain ⟨ad577, e577, hx577_0⟩ := Kd.at_string (Kd.R_reads' HO_21.out).2.2 x23_1 p577 q577
       cases e577
       replace p577 := eq_true p577
       replace q577 := eq_true q577
       go_upto_region 9 with (first | ((with_reducible refine gate_callee (f := 117) rfl ?_); refine goesL_ (some 30) rfl rfl Tryd.func117 jK rfl #[.slice A0 l0.length c0, .string (rdOf ByteArray.empty t571 x23_1)] rfl jA ?_; (with_reducible refine (impl_PlaceOf.calls k1 _ _ l0 (rdOf ByteArray.empty t571 x23_1) t578 _ ?side1 ?side2 A16.out).mono ?_); (case side1 => exact cU ((Kd.C_below HR0.out HB.out))); (case side2 => exact HC0.out); rintro e w18 ⟨rfl, hb⟩; refine ⟨_, rfl, ?_⟩; have n0_ := aS (Kd.R_below (rU HO_5.out) hb); have n1_ := aS (Kd.R_below (rU HO_6.out) hb); have n2_ := aS (Kd.R_below (rU HO_21.out) hb); have n3_ := aS (below_step (wU HB.out) hb); clear HO_5 HO_6 HO_21 HB; revert n0_ n1_ n2_ n3_; intro HO_5 HO_6 HO_21 HB; clear hb))
       (try simp only [Act.put, List.setIfInBounds_toArray, List.set_cons_zero, List.set_cons_succ])
       go_cut [36] (fun v36 wc => ∃ (kq : Nat) (x36_16 : Bool), v36 = .bool x36_16 ∧ Aside0 (impl_PutName.j1 kq l0 a1 x5_1 t568 x23_1 t578 t571 (t571.length : Int) x23_1 x36_16 = some r) ∧ Aside0 (kq ≤ k1) ∧ Aside0 (Kd.R (Kd.int .u8) 5 wc w.heap.size (fun _ => True) u5 x5_1) ∧ Aside0 (Kd.R Kd.string 9 wc w.heap.size (fun k_ => some k_ ≠ ((.slice (some ad577) t571.length co12) : Value).ownBlock) v569 t568) ∧ Aside0 (Kd.R Kd.string 9 wc w.heap.size (fun k_ => some k_ ≠ (v569 : Value).ownBlock) (.slice (some ad577) t571.length co12) t571) ∧ Aside0 (Below w.heap.size w wc))
       case first =>
        have H := HC17.out
        clear HC17
        by_cases c19 : (rdOf ByteArray.empty t571 x23_1).toList = ([] : List UInt8)
        ·rw [if_pos c19] at H
         have c19b0 : ((rdOf ByteArray.empty t571 x23_1).toList == ([] : List UInt8)) = true := beq_iff_eq.mpr c19
         have c19b1 : ((rdOf ByteArray.empty t571 x23_1).toList != ([] : List UInt8)) = false := bne_eq_false_iff_eq.mpr c19
         clear c19
         (first | rw [c19b0] | (simp only [i64_w, i32_w]; rw [c19b0]) | skip)
         have H' := aS H
         clear H
         go_wp2
         go_meet
         case rel => exact ⟨_, (true), jB, H', ⟨by have := HK1.out; first | omega | exact Nat.le_refl _⟩, ⟨by (with_reducible repeat (first | apply Kd.R_alloc | apply Kd.R_drewN | apply Kd.R_drew)); exact HO_5.out⟩, ⟨by (with_reducible repeat (first | apply Kd.R_alloc | apply Kd.R_drewN | apply Kd.R_drew)); exact HO_6.out⟩, ⟨by (with_reducible repeat (first | apply Kd.R_alloc | apply Kd.R_drewN | apply Kd.R_drew)); exact HO_21.out⟩, ⟨by repeat (first | (with_reducible first | exact HB.out | apply below_alloc | apply pw_below_drewN | apply below_drew1) | exact HB.out)⟩⟩
        ·rw [if_neg c19] at H
         have c19b0 : ((rdOf ByteArray.empty t571 x23_1).toList == ([] : List UInt8)) = false := beq_eq_false_iff_ne.mpr c19
         have c19b1 : ((rdOf ByteArray.empty t571 x23_1).toList != ([] : List UInt8)) = true := bne_iff_ne.mpr c19
         (first | rw [c19b0] | (simp only [i64_w, i32_w]; rw [c19b0]) | skip)
         have H' := aS H
         clear H
         go_wp2
         go_meet
         case rel => exact ⟨_, (decide (t578 < 0)), jB, H', ⟨by have := HK1.out; first | omega | exact Nat.le_refl _⟩, ⟨by (with_reducible repeat (first | apply Kd.R_alloc | apply Kd.R_drewN | apply Kd.R_drew)); exact HO_5.out⟩, ⟨by (with_reducible repeat (first | apply Kd.R_alloc | apply Kd.R_drewN | apply Kd.R_drew)); exact HO_6.out⟩, ⟨by (with_reducible repeat (first | apply Kd.R_alloc | apply Kd.R_drewN | apply Kd.R_drew)); exact HO_21.out⟩, ⟨by repeat (first | (with_reducible first | exact HB.out | apply below_alloc | apply pw_below_drewN | apply below_drew1) | exact HB.out)⟩⟩
       case rest =>
        clear HC17
        try clear c1
        try clear p2
        try clear c5
        try clear p5
        try clear q5
        try clear hx5
        try clear c6
        try clear c11
        try clear c13
        try clear c13b0
        try clear c14
        try clear c14b0
        try clear c15
        try clear c15b0
        try clear c19
        try clear c19b0
        try clear c19b1
        try clear hx577_0
        try clear p2
        try clear p577
        try clear q577
        obtain ⟨kq, x36_16, rfl, HA, HJ16, HO_5, HO_6, HO_21, HB⟩ := hcut
        cases kq with
        | zero => exact absurd HA.out (by simp [impl_PutName.j1])
        | succ kj16 =>
         have H := HA.out
         clear HA
         simp only [impl_PutName.j1] at H
         by_cases c20 : x36_16 = true
         ·subst c20
          have H1 : (impl_PutName.l0 kj16 l0 a1 x5_1 t568 t571 (t571.length : Int) (wrap64 (x23_1 + 1))) = some r := by rw [if_pos rfl] at H; exact H
          clear H
          have H := H1
          clear H1
          have H' := aS H
          clear H
          go_wp2
          go_roundg kj16
          case measure => have := HK1.out; have := HJ16.out; omega
          case rel => exact ⟨(x5_1), (wrap64 (x23_1 + 1)), jB, H', ⟨by have := HK1.out; have := HJ16.out; omega⟩, ⟨by (with_reducible repeat (first | apply Kd.R_alloc | apply Kd.R_drewN | apply Kd.R_drew)); exact HO_5.out⟩, ⟨by (with_reducible repeat (first | apply Kd.R_alloc | apply Kd.R_drewN | apply Kd.R_drew)); exact HO_6.out⟩, ⟨by (with_reducible repeat (first | apply Kd.R_alloc | apply Kd.R_drewN | apply Kd.R_drew)); exact HO_21.out⟩, ⟨by repeat (first | (with_reducible first | exact HB.out | apply below_alloc | apply pw_below_drewN | apply below_drew1) | exact HB.out)⟩⟩
         ·replace c20 := Bool.eq_false_iff.mpr c20
          subst c20
          have H1 : (if 0 ≤ x23_1 then (if x23_1 ≤ (t568.length : Int) then ((some (t568.take (x23_1 : Int).toNat : List ByteArray)).bind fun y579 => (impl_PutName.l1 kj16 x5_1 t578 y579 (y579.length : Int) 0)) else (none)) else (none)) = some r := by rw [if_neg (show ¬ (false = true) by decide)] at H; exact H
          clear H
          have H := H1
          clear H1
          by_cases c21 : 0 ≤ x23_1
          ·rw [if_pos c21] at H
           have c21b0 := eq_true c21
           have c21b1 : decide (0 ≤ x23_1) = true := decide_eq_true c21
           clear c21
           by_cases c22 : x23_1 ≤ (t568.length : Int)
           ·rw [if_pos c22] at H
            have c22b0 := eq_true c22
            have c22b1 : decide (x23_1 ≤ (t568.length : Int)) = true := decide_eq_true c22
            clear c22
            obtain ⟨y579, hy_⟩ : ∃ y_ : List ByteArray, y_ = (t568.take (x23_1 : Int).toNat) := ⟨_, rfl⟩
            replace H : (impl_PutName.l1 kj16 x5_1 t578 y579 (y579.length : Int) 0) = some r := jD
            have Ny579 := aS hy_
            clear hy_
            have H' := aS H
            clear H
            obtain ⟨Ao24, co24, eo24⟩ := Kd.R_slice HO_6.out
            subst eo24
            have q23 : (x23_1 : Int) ≤ ((t568.length : Int) : Int) := of_decide_eq_true jC
            obtain ⟨i023, hi023, _, hsz23, _⟩ := info_parts info9
            have hroom23 : t568.length ≤ co24 := (Kd.R_reads' HO_6.out).2.1
            have hC23 : Kd.C Kd.string _ Ao24 t568.length t568 := (Kd.R_reads' HO_6.out).2.2
            have hcut23 := cut_to (P := Tryd.prog) 108 9 .i64 Tryd.underlying108 hi023 Ao24 t568.length co24 x23_1 (of_decide_eq_true jC) q23 hroom23
            have hr23 := Kd.C_take (m := (x23_1 : Int).toNat) hC23 (by omega)
            have hy23 : y579.length = (x23_1 : Int).toNat := (by rw [Ny579.out, List.length_take]; omega)
            rw [← Ny579.out] at hr23
            rw [← hy23] at hcut23
            have HR582 := aS hr23
            have HC582 := aS (show y579.length ≤ co24 from by omega)
            clear hr23 hC23 hroom23 hi023 hsz23
            have KY23 := aS hy23
            clear hy23
            have KL23 := aS (show (x23_1 : Int).toNat ≤ t568.length from by omega)
            replace q23 := eq_true q23
            go_wp2
            go_loopg [5, 41] kj16 (fun kq v5 v41 w' => ∃ (x5_3 : List Int) (x41_3 : Int), v41 = .int .i64 x41_3 ∧ Aside0 (impl_PutName.l1 kq x5_3 t578 y579 (y579.length : Int) x41_3 = some r) ∧ Aside0 (kq ≤ kj16) ∧ Aside0 (Kd.R (Kd.int .u8) 5 w' w.heap.size (fun _ => True) v5 x5_3) ∧ Aside0 (Kd.C Kd.string w' Ao24 y579.length y579) ∧ Aside0 (Below w.heap.size w w'))
            case atStart => exact ⟨(x5_1), (0), jB, H', ⟨Nat.le_refl _⟩, ⟨by (with_reducible repeat (first | apply Kd.R_alloc | apply Kd.R_drewN | apply Kd.R_drew)); exact HO_5.out⟩, ⟨by repeat (first | (with_reducible exact HR582.out) | (with_reducible refine Kd.C_alloc ?_ _) | (with_reducible refine Kd.C_drewN ?_ _) | (with_reducible refine Kd.C_drew ?_) | exact HR582.out)⟩, ⟨by repeat (first | (with_reducible first | exact HB.out | apply below_alloc | apply pw_below_drewN | apply below_drew1) | exact HB.out)⟩⟩
            case round =>
             clear H'
             try clear c1
             try clear c2
             try clear p2
             try clear q2
             try clear c5
             try clear p5
             try clear q5
             try clear hx5
             try clear c6
             try clear p6
             try clear c11
             try clear c13
             try clear c13b0
             try clear c14
             try clear c14b0
             try clear c15
             try clear c15b0
             try clear c19
             try clear c19b0
             try clear c19b1
             try clear c20
             try clear c21
             try clear c21b0
             try clear c21b1
             try clear c22
             try clear c22b0
             try clear c22b1
             try clear q23
             try clear hx577_0
             try clear p2
             try clear p5
             try clear p577
             try clear q23
             try clear q5
             try clear q577
             obtain ⟨x5_3, x41_3, rfl, HA, HK3, HO_5, HR582, HB⟩ := hrel
             cases gk with
             | zero => exact absurd HA.out (by simp [impl_PutName.l1])
             | succ k3 =>
              have H := HA.out
              clear HA
              simp only [impl_PutName.l1] at H
              by_cases c25 : x41_3 < (y579.length : Int)
              ·rw [if_pos c25] at H
               have c25b0 : decide (x41_3 < (y579.length : Int)) = true := decide_eq_true c25
               clear c25
               by_cases c26 : 0 ≤ x41_3
               ·rw [if_pos c26] at H
                have c26b0 : decide (0 ≤ x41_3) = true := decide_eq_true c26
                clear c26
                by_cases c27 : x41_3 < (y579.length : Int)
                ·rw [if_pos c27] at H
                 have c27b0 : decide (x41_3 < (y579.length : Int)) = true := decide_eq_true c27
                 clear c27
                 replace H := Option.bind_eq_some_iff.mp H
                 obtain ⟨t584, A28, H⟩ := H
                 try dsimp only at H
                 replace A28 := aS A28
                 have H' := aS H
                 clear H
                 have p583 : 0 ≤ (x41_3 : Int) := of_decide_eq_true jC
                 have q583 : x41_3 < (y579.length : Int) := of_decide_eq_true jC
                 obtain ⟨ad583, e583, hx583_0⟩ := Kd.at_string HR582.out x41_3 p583 q583
                 cases e583
                 try replace hx583_0 := (HB.out.cell (World.block_lt_of_cell? w _ hx583_0)).trans hx583_0
                 replace p583 := eq_true p583
                 replace q583 := eq_true q583
                 obtain ⟨Ao29, co29, eo29⟩ := Kd.R_slice HO_5.out
                 subst eo29
                 go_wp2_with (first | ((with_reducible refine gate_callee (f := 118) rfl ?_); refine goesL_ (some 47) rfl rfl Tryd.func118 jK rfl #[.slice Ao29 x5_3.length co29, .string (rdOf ByteArray.empty y579 x41_3)] rfl jA ?_; (with_reducible refine (impl_PutLabel.calls k3 _ _ x5_3 (rdOf ByteArray.empty y579 x41_3) t584 _ ?side1 ?side2 A28.out).mono ?_); (case side1 => exact cU ((Kd.R_reads' HO_5.out).2.2)); (case side2 => exact (Kd.R_reads' HO_5.out).2.1); rintro e w30 ⟨v585, rfl, ho0, hb⟩; refine ⟨_, rfl, ?_⟩; have n0_ := aS (Kd.R_elder' (rU HO_5.out) (Kd.R_base ho0) hb); have n1_ := aS (Kd.R_lower (Kd.R_new' ho0 (Kd.R_lt (rU HO_5.out))) (below_size (wU HB.out))); have n2_ := aS (Kd.C_below (by repeat (first | (with_reducible exact HR582.out) | (with_reducible refine Kd.C_alloc ?_ _) | (with_reducible refine Kd.C_drewN ?_ _) | (with_reducible refine Kd.C_drew ?_) | exact HR582.out)) hb); have n3_ := aS (below_step (wU HB.out) hb); clear HO_5 HR582 HB; revert n0_ n1_ n2_ n3_; intro HO_5 HO586 HR582 HB; clear hb; (try clear ho0)))
                 go_roundg k3
                 case measure => have := HK1.out; have := HJ16.out; have := HK3.out; omega
                 case rel => exact ⟨(t584), (wrap64 (x41_3 + 1)), jB, H', ⟨by have := HK1.out; have := HJ16.out; have := HK3.out; omega⟩, ⟨Kd.R_mono (rU HO586.out) (fun _ hk => trivial)⟩, ⟨by repeat (first | (with_reducible exact HR582.out) | (with_reducible refine Kd.C_alloc ?_ _) | (with_reducible refine Kd.C_drewN ?_ _) | (with_reducible refine Kd.C_drew ?_) | exact HR582.out)⟩, ⟨by repeat (first | (with_reducible first | exact HB.out | apply below_alloc | apply pw_below_drewN | apply below_drew1) | exact HB.out)⟩⟩
                ·rw [if_neg c27] at H
                 exact absurd H (by simp)
               ·rw [if_neg c26] at H
                exact absurd H (by simp)
              ·rw [if_neg c25] at H
               have c25b0 : decide (x41_3 < (y579.length : Int)) = false := decide_eq_false c25
               clear c25
               obtain ⟨y587, hy_⟩ : ∃ y_ : List Int, y_ = (([(wrap64 (192 + (wrap64 (Int.tdiv t578 256)))) % 256, (Int.tmod t578 256) % 256] : List Int)) := ⟨_, rfl⟩
               replace H : (if x5_3.length + y587.length < 140737488355328 then (some (x5_3 ++ y587)) else (none)) = some r := jD
               have Ny587 := aS hy_
               clear hy_
               by_cases c31 : x5_3.length + y587.length < 140737488355328
               ·rw [if_pos c31] at H
                have LMc31 := aS c31
                clear c31
                obtain ⟨y590, hy_⟩ : ∃ y_ : List Int, y_ = (x5_3 ++ y587) := ⟨_, rfl⟩
                replace H : (some y590) = some r := jD
                have Ny590 := aS hy_
                clear hy_
                obtain rfl := Option.some.inj H
                go_wp2_with (first | ((with_reducible refine gate_dst (N := 57) rfl ?_); refine Kd.R_lit (Kd.int .u8) _ 5 ?hg (N := 57) ?hd (xs := ([(wrap64 (192 + (wrap64 (Int.tdiv t578 256)))) % 256, (Int.tmod t578 256) % 256] : List Int)) (inner := [.int .u8 ((wrap64 (192 + (wrap64 (Int.tdiv t578 256)))) % 256), .int .u8 ((Int.tmod t578 256) % 256)]) (ok := fun _ => True) (okp := fun _ => True) ?hr ?hp (fun _ hk => hk) trivial (Below.refl _ _) (Nat.le_refl _) (by simp) ?_; (case hd => rfl); (case hg => rfl); (case hr => first | (go_simp; done) | (go_simp; rfl)); (case hp => exact (Reps.one (show Kd.M (Kd.int .u8) _ _ _ ((wrap64 (192 + (wrap64 (Int.tdiv t578 256)))) % 256) [.int .u8 ((wrap64 (192 + (wrap64 (Int.tdiv t578 256)))) % 256)] from rfl) (Reps.one (show Kd.M (Kd.int .u8) _ _ _ ((Int.tmod t578 256) % 256) [.int .u8 ((Int.tmod t578 256) % 256)] from rfl) (Reps.none _ _)))); intro v588 w32 ho33 hb hg_ hnew_; clear hg_ hnew_; (first | rw [← Ny587.out] at ho33 | (simp only [Int.reduceToNat] at ho33; rw [← Ny587.out] at ho33)); have n0_ := aS (Kd.R_elder' (rU HO_5.out) (Kd.R_base ho33) hb); have n1_ := aS (Kd.R_lower (Kd.R_new' ho33 (Kd.R_lt (rU HO_5.out))) (below_size (wU HB.out))); have n2_ := aS (Kd.C_below (by repeat (first | (with_reducible exact HR582.out) | (with_reducible refine Kd.C_alloc ?_ _) | (with_reducible refine Kd.C_drewN ?_ _) | (with_reducible refine Kd.C_drew ?_) | exact HR582.out)) hb); have n3_ := aS (below_step (wU HB.out) hb); clear HO_5 HR582 HB; revert n0_ n1_ n2_ n3_; intro HO_5 HO589 HR582 HB; clear hb ho33; obtain ⟨Ao35, co35, eo35⟩ := Kd.R_slice HO589.out; subst eo35) | ((with_reducible refine gate_builtin (b := .append) (xs := #[.tmp 49, .tmp 57]) rfl ?_); at_builtin; refine Kd.R_append_rows (Kd.int .u8) (w0 := w) w.heap.size rfl (.tmp 49) (.tmp 57) 22 5 (.int .u8 0) 1 rfl Tryd.underlying22 info5 rfl (by decide) (by omega) u5 x5_3 y587 _ _ _ (fun k_ => some k_ ≠ (.slice Ao35 y587.length co35 : Value).ownBlock) (fun _ => False) rfl rfl ?aO ?aR (fun _ _ h => h) (fun _ h => h.elim) ?aF ?aB ?aS ?aL ?_; (case aR => exact cU ((Kd.R_reads' HO589.out).2.2)); (case aB => exact (wU HB.out)); (case aF => exact (fun k_ hk => Kd.fresh' (Kd.R_lt (rU HO589.out)) k_ hk)); (case aO => exact (by (with_reducible repeat (first | apply Kd.R_alloc | apply Kd.R_drewN | apply Kd.R_drew)); exact Kd.R_mono HO_5.out (fun _ hk => hk.2))); (case aS => exact (below_size (wU HB.out))); (case aL => have := LMc31.out; omega); intro v591 w34 ho hb hg hat; rw [← Ny590.out] at ho; have n0_ := aS (Kd.R_after (ok := (fun _ => True)) (rU HO589.out) hg hat); have n1_ := aS (hb); have n2_ := aS (ho); clear HO589 HB HO_5; revert n0_ n1_ n2_; intro HO589 HB HO592; clear ho hb hg hat))
                go_ret
                exact ⟨_, jE, Kd.R_mono (rU HO592.out) (fun _ hk => trivial), by repeat (first | (with_reducible first | exact HB.out | apply below_alloc | apply pw_below_drewN | apply below_drew1) | exact HB.out)⟩
               ·rw [if_neg c31] at H
                exact absurd H (by simp)
           ·rw [if_neg c22] at H
            exact absurd H (by simp)
          ·rw [if_neg c21] at H
           exact absurd H (by simp)
      ·rw [if_neg c15] at H
       exact absurd H (by simp)
     ·rw [if_neg c14] at H
      exact absurd H (by simp)
    ·rw [if_neg c13] at H
     have c13b0 : decide (x23_1 < (t571.length : Int)) = false := decide_eq_false c13
     clear c13
     replace H := Option.bind_eq_some_iff.mp H
     obtain ⟨t574, A36, H⟩ := H
     try dsimp only at H
     replace A36 := aS A36
     obtain rfl := Option.some.inj H
     go_wp2_with (first | ((with_reducible refine gate_callee (f := 62) rfl ?_); refine goesL_ (some 62) rfl rfl Tryd.func62 jK rfl #[.slice A0 l0.length c0, .string a1] rfl jA ?_; (with_reducible refine (impl_PutPlain.calls k1 _ _ l0 a1 t574 _ ?side1 ?side2 A36.out).mono ?_); (case side1 => exact cU ((Kd.C_below HR0.out HB.out))); (case side2 => exact HC0.out); rintro e w37 ⟨v575, rfl, ho0, hb⟩; refine ⟨_, rfl, ?_⟩; have n0_ := aS (Kd.R_elder' (rU HO_5.out) (Kd.R_base ho0) hb); have n1_ := aS (Kd.R_below (rU HO_6.out) hb); have n2_ := aS (Kd.R_below (rU HO_21.out) hb); have n3_ := aS (Kd.R_lower (Kd.R_new' ho0 (Kd.R_lt (rU HO_5.out))) (below_size (wU HB.out))); have n4_ := aS (below_step (wU HB.out) hb); clear HO_5 HO_6 HO_21 HB; revert n0_ n1_ n2_ n3_ n4_; intro HO_5 HO_6 HO_21 HO576 HB; clear hb; (try clear ho0)))
     go_ret
     exact ⟨_, jE, Kd.R_mono (rU HO576.out) (fun _ hk => trivial), by repeat (first | (with_reducible first | exact HB.out | apply below_alloc | apply pw_below_drewN | apply below_drew1) | exact HB.out)⟩
 ·replace c5 := Bool.eq_false_iff.mpr c5
  subst c5
  have H1 : (some t564) = some r := by rw [if_neg (show ¬ (false = true) by decide)] at H; exact H
  clear H
  have H := H1
  clear H1
  obtain rfl := Option.some.inj H
  go_enter Tryd.func59, Tryd.ntmps59
  go_wp2_with (first | ((with_reducible refine gate_callee (f := 114) rfl ?_); refine goesL_ (some 13) rfl rfl Tryd.func114 jK rfl #[.slice A0 l0.length c0] rfl jA ?_; (with_reducible refine (slices_Clone_byte.calls _ _ l0 t564 _ ?side1 ?side2 A3.out).mono ?_); (case side1 => exact cU (HR0.out)); (case side2 => exact HC0.out); rintro e w38 ⟨v565, rfl, ho0, hb⟩; refine ⟨_, rfl, ?_⟩; have n0_ := aS (Kd.R_lower ho0 (below_size (wU HB.out))); have n1_ := aS (below_step (wU HB.out) hb); clear HB; revert n0_ n1_; intro HO566 HB; clear hb; (try clear ho0)) | ((with_reducible refine gate_callee (f := 67) rfl ?_); refine goesL_ (some 15) rfl rfl Tryd.func67 jK rfl #[.string a1] rfl jA ?_; (with_reducible refine (impl_NameOk.calls k a1 false _ A4.out).mono ?_); rintro e w39 ⟨rfl, hb⟩; refine ⟨_, rfl, ?_⟩; have n0_ := aS (Kd.R_below (rU HO566.out) hb); have n1_ := aS (below_step (wU HB.out) hb); clear HO566 HB; revert n0_ n1_; intro HO566 HB; clear hb))
  go_ret
  exact ⟨_, jE, by (with_reducible repeat (first | apply Kd.R_alloc | apply Kd.R_drewN | apply Kd.R_drew)); exact HO566.out, by repeat (first | (with_reducible first | exact HB.out | apply below_alloc | apply pw_below_drewN | apply below_drew1) | exact HB.out)⟩

/-! ### impl_Put2: function 61 -/
def impl_Put2.f (k : Nat) (l0 : List Int) (a1 : Int) : Option (List Int) := (impl_putBytes.f k l0 a1 2 65535).bind fun t593 => (some t593)
theorem impl_Put2.mono : ∀ a0 a1 k, LeO (impl_Put2.f k a0 a1) (impl_Put2.f (k + 1) a0 a1) := by
 intro a0 a1 k
 unfold impl_Put2.f
 repeat' first
   | (with_reducible first | exact impl_putBytes.mono _ _ _ _ _ | exact LeO.refl _ | exact LeO.none _ | refine LeO.ite ?_ ?_ | refine LeO.bind ?_ (fun _ => ?_))
   | exact impl_putBytes.mono _ _ _ _ _
   | exact LeO.none _
   | refine LeO.ite ?_ ?_
   | refine LeO.bind ?_ (fun _ => ?_)
set_option maxHeartbeats 8000000 in
set_option maxRecDepth 100000 in
theorem impl_Put2.calls (k : Nat) (A0 : Option Addr) (c0 : Nat) (l0 : List Int) (a1 : Int) (r : List Int) (w : World) (hr0 : Kd.C (Kd.int .u8) w A0 l0.length l0) (hc0 : l0.length ≤ c0) (h : impl_Put2.f k l0 a1 = some r) :
  Calls Tryd.prog 61 #[.slice A0 l0.length c0, .int .i64 a1] w fun e w' => ∃ v0_ : Value, e = .returned (v0_) ∧ Kd.R (Kd.int .u8) 5 w' w.heap.size (fun _ => True) v0_ r ∧ Below w.heap.size w w' := by
 have HR0 := aS hr0
 have HC0 := aS hc0
 clear hr0 hc0
 have HB := aS (Below.refl w.heap.size w)
 have H : ((impl_putBytes.f k l0 a1 2 65535).bind fun t593 => (some t593)) = some r := h
 clear h
 replace H := Option.bind_eq_some_iff.mp H
 obtain ⟨t593, A3, H⟩ := H
 try dsimp only at H
 replace A3 := aS A3
 obtain rfl := Option.some.inj H
 go_enter Tryd.func61, Tryd.ntmps61
 go_wp2_with (first | ((with_reducible refine gate_callee (f := 119) rfl ?_); refine goesL_ (some 7) rfl rfl Tryd.func119 jK rfl #[.slice A0 l0.length c0, .int .i64 a1, .int .i64 2, .int .i64 65535] rfl jA ?_; (with_reducible refine (impl_putBytes.calls k _ _ l0 a1 2 65535 t593 _ ?side1 ?side2 A3.out).mono ?_); (case side1 => exact cU (HR0.out)); (case side2 => exact HC0.out); rintro e w4 ⟨v594, rfl, ho0, hb⟩; refine ⟨_, rfl, ?_⟩; have n0_ := aS (Kd.R_lower ho0 (below_size (wU HB.out))); have n1_ := aS (below_step (wU HB.out) hb); clear HB; revert n0_ n1_; intro HO595 HB; clear hb; (try clear ho0)))
 go_ret
 exact ⟨_, jE, by (with_reducible repeat (first | apply Kd.R_alloc | apply Kd.R_drewN | apply Kd.R_drew)); exact HO595.out, by repeat (first | (with_reducible first | exact HB.out | apply below_alloc | apply pw_below_drewN | apply below_drew1) | exact HB.out)⟩

/-! ### impl_PutRecord: function 10 -/
def impl_PutRecord.f (k : Nat) (l0 : List Int) (a1_0 : ByteArray) (a1_1 : Int) (a1_2 : Int) (a1_3 : Int) (a1_4 : ByteArray) (a1_5 : ByteArray) : Option (List Int) := (some (([] : List Int) : List Int)).bind fun y597 => (if y597.length + l0.length < 140737488355328 then ((some (y597 ++ l0 : List Int)).bind fun y600 => ((impl_RecordOk.f k a1_0 a1_1 a1_2 a1_3 a1_4 a1_5).bind fun t603 => (if t603 = true then ((impl_PutData.f k a1_0 a1_1 a1_2 a1_3 a1_4 a1_5).bind fun t604 => ((impl_PutName.f k y600 a1_0).bind fun t607 => ((impl_Put2.f k t607 a1_1).bind fun t610 => ((impl_Put2.f k t610 1).bind fun t613 => ((impl_Put4.f k t613 a1_2).bind fun t616 => ((impl_Put2.f k t616 (t604.length : Int)).bind fun t619 => (if t619.length + t604.length < 140737488355328 then (some (t619 ++ t604)) else (none)))))))) else (some y600)))) else (none))
theorem impl_PutRecord.mono : ∀ a0 a1 a2 a3 a4 a5 a6 k, LeO (impl_PutRecord.f k a0 a1 a2 a3 a4 a5 a6) (impl_PutRecord.f (k + 1) a0 a1 a2 a3 a4 a5 a6) := by
 intro a0 a1 a2 a3 a4 a5 a6 k
 unfold impl_PutRecord.f
 repeat' first
   | (with_reducible first | exact impl_Put2.mono _ _ _ | exact impl_Put4.mono _ _ _ | exact impl_PutData.mono _ _ _ _ _ _ _ | exact impl_PutName.mono _ _ _ | exact impl_RecordOk.mono _ _ _ _ _ _ _ | exact LeO.refl _ | exact LeO.none _ | refine LeO.ite ?_ ?_ | refine LeO.bind ?_ (fun _ => ?_))
   | exact impl_Put2.mono _ _ _
   | exact impl_Put4.mono _ _ _
   | exact impl_PutData.mono _ _ _ _ _ _ _
   | exact impl_PutName.mono _ _ _
   | exact impl_RecordOk.mono _ _ _ _ _ _ _
   | exact LeO.none _
   | refine LeO.ite ?_ ?_
   | refine LeO.bind ?_ (fun _ => ?_)
def impl_PutRecord.T6 : Bool × List (List Nat × List Nat) := (true, [([], []), ([], []), ([1], [1]), ([0, 2], [0, 2]), ([3, 3], [3]), ([], []), ([5], [5]), ([4, 6, 4], [4, 6]), ([7, 7, 0, 1, 2, 3, 4, 5, 6, 7], [0, 7])])
def impl_PutRecord.B6 : List Nat := [0, 0, 2, 7, 15, 0, 32, 127, 255]
theorem impl_PutRecord.tab6 : rtab .any (opsOf Tryd.f10 6) = impl_PutRecord.T6 := by kernel_rfl
theorem impl_PutRecord.bits6 : waitsOk impl_PutRecord.T6.2 impl_PutRecord.B6 = true := by kernel_rfl
set_option maxHeartbeats 8000000 in
set_option maxRecDepth 100000 in
theorem impl_PutRecord.calls (k : Nat) (A0 : Option Addr) (c0 : Nat) (l0 : List Int) (a1_0 : ByteArray) (a1_1 : Int) (a1_2 : Int) (a1_3 : Int) (a1_4 : ByteArray) (a1_5 : ByteArray) (r : List Int) (w : World) (hr0 : Kd.C (Kd.int .u8) w A0 l0.length l0) (hc0 : l0.length ≤ c0) (h : impl_PutRecord.f k l0 a1_0 a1_1 a1_2 a1_3 a1_4 a1_5 = some r) :
  Calls Tryd.prog 10 #[.slice A0 l0.length c0, .agg #[.string a1_0, .int .i64 a1_1, .int .i64 a1_2, .int .i64 a1_3, .string a1_4, .string a1_5]] w fun e w' => ∃ v0_ : Value, e = .returned (v0_) ∧ Kd.R (Kd.int .u8) 5 w' w.heap.size (fun _ => True) v0_ r ∧ Below w.heap.size w w' := by
 have hu25 := Tryd.underlying25
 have HR0 := aS hr0
 have HC0 := aS hc0
 clear hr0 hc0
 have HB := aS (Below.refl w.heap.size w)
 have H : ((some (([] : List Int) : List Int)).bind fun y597 => (if y597.length + l0.length < 140737488355328 then ((some (y597 ++ l0 : List Int)).bind fun y600 => ((impl_RecordOk.f k a1_0 a1_1 a1_2 a1_3 a1_4 a1_5).bind fun t603 => (if t603 = true then ((impl_PutData.f k a1_0 a1_1 a1_2 a1_3 a1_4 a1_5).bind fun t604 => ((impl_PutName.f k y600 a1_0).bind fun t607 => ((impl_Put2.f k t607 a1_1).bind fun t610 => ((impl_Put2.f k t610 1).bind fun t613 => ((impl_Put4.f k t613 a1_2).bind fun t616 => ((impl_Put2.f k t616 (t604.length : Int)).bind fun t619 => (if t619.length + t604.length < 140737488355328 then (some (t619 ++ t604)) else (none)))))))) else (some y600)))) else (none))) = some r := h
 clear h
 obtain ⟨y597, hy_⟩ : ∃ y_ : List Int, y_ = (([] : List Int)) := ⟨_, rfl⟩
 replace H : (if y597.length + l0.length < 140737488355328 then ((some (y597 ++ l0 : List Int)).bind fun y600 => ((impl_RecordOk.f k a1_0 a1_1 a1_2 a1_3 a1_4 a1_5).bind fun t603 => (if t603 = true then ((impl_PutData.f k a1_0 a1_1 a1_2 a1_3 a1_4 a1_5).bind fun t604 => ((impl_PutName.f k y600 a1_0).bind fun t607 => ((impl_Put2.f k t607 a1_1).bind fun t610 => ((impl_Put2.f k t610 1).bind fun t613 => ((impl_Put4.f k t613 a1_2).bind fun t616 => ((impl_Put2.f k t616 (t604.length : Int)).bind fun t619 => (if t619.length + t604.length < 140737488355328 then (some (t619 ++ t604)) else (none)))))))) else (some y600)))) else (none)) = some r := jD
 have Ny597 := aS hy_
 clear hy_
 by_cases c3 : y597.length + l0.length < 140737488355328
 ·rw [if_pos c3] at H
  have LMc3 := aS c3
  clear c3
  obtain ⟨y600, hy_⟩ : ∃ y_ : List Int, y_ = (y597 ++ l0) := ⟨_, rfl⟩
  replace H : ((impl_RecordOk.f k a1_0 a1_1 a1_2 a1_3 a1_4 a1_5).bind fun t603 => (if t603 = true then ((impl_PutData.f k a1_0 a1_1 a1_2 a1_3 a1_4 a1_5).bind fun t604 => ((impl_PutName.f k y600 a1_0).bind fun t607 => ((impl_Put2.f k t607 a1_1).bind fun t610 => ((impl_Put2.f k t610 1).bind fun t613 => ((impl_Put4.f k t613 a1_2).bind fun t616 => ((impl_Put2.f k t616 (t604.length : Int)).bind fun t619 => (if t619.length + t604.length < 140737488355328 then (some (t619 ++ t604)) else (none)))))))) else (some y600))) = some r := jD
  have Ny600 := aS hy_
  clear hy_
  replace H := Option.bind_eq_some_iff.mp H
  obtain ⟨t603, A4, H⟩ := H
  try dsimp only at H
  replace A4 := aS A4
  by_cases c5 : t603 = true
  ·subst c5
   have H1 : ((impl_PutData.f k a1_0 a1_1 a1_2 a1_3 a1_4 a1_5).bind fun t604 => ((impl_PutName.f k y600 a1_0).bind fun t607 => ((impl_Put2.f k t607 a1_1).bind fun t610 => ((impl_Put2.f k t610 1).bind fun t613 => ((impl_Put4.f k t613 a1_2).bind fun t616 => ((impl_Put2.f k t616 (t604.length : Int)).bind fun t619 => (if t619.length + t604.length < 140737488355328 then (some (t619 ++ t604)) else (none)))))))) = some r := by rw [if_pos rfl] at H; exact H
   clear H
   have H := H1
   clear H1
   replace H := Option.bind_eq_some_iff.mp H
   obtain ⟨t604, A6, H⟩ := H
   try dsimp only at H
   replace A6 := aS A6
   replace H := Option.bind_eq_some_iff.mp H
   obtain ⟨t607, A7, H⟩ := H
   try dsimp only at H
   replace A7 := aS A7
   replace H := Option.bind_eq_some_iff.mp H
   obtain ⟨t610, A8, H⟩ := H
   try dsimp only at H
   replace A8 := aS A8
   replace H := Option.bind_eq_some_iff.mp H
   obtain ⟨t613, A9, H⟩ := H
   try dsimp only at H
   replace A9 := aS A9
   replace H := Option.bind_eq_some_iff.mp H
   obtain ⟨t616, A10, H⟩ := H
   try dsimp only at H
   replace A10 := aS A10
   replace H := Option.bind_eq_some_iff.mp H
   obtain ⟨t619, A11, H⟩ := H
   try dsimp only at H
   replace A11 := aS A11
   by_cases c12 : t619.length + t604.length < 140737488355328
   ·rw [if_pos c12] at H
    have LMc12 := aS c12
    clear c12
    obtain ⟨y622, hy_⟩ : ∃ y_ : List Int, y_ = (t619 ++ t604) := ⟨_, rfl⟩
    replace H : (some y622) = some r := jD
    have Ny622 := aS hy_
    clear hy_
    obtain rfl := Option.some.inj H
    go_enter Tryd.func10, Tryd.ntmps10
    try go_wp2_with (first | ((with_reducible refine gate_dst (N := 3) rfl ?_); refine box_event ?hg (N := 3) ?hd (cs := #[.string a1_0, .int .i64 a1_1, .int .i64 a1_2, .int .i64 a1_3, .string a1_4, .string a1_5]) (t := 25) ?hr ?_; (case hd => rfl); (case hg => rfl); (case hr => first | (go_simp; done) | (go_simp; rfl)); intro gb596 hg w13 hbox hb; have n0_ := aS (below_step (wU HB.out) hb); have n1_ := aS (hbox); have n2_ := aS ((by rw [hg]; exact (below_size (wU HB.out)) : w.heap.size ≤ gb596)); have n3_ := aS ((by rw [hg]; exact (below_size (wU HB.out)) : w.heap.size ≤ gb596)); clear HB; revert n0_ n1_ n2_ n3_; intro HB BK596 GW596 GE596; clear hb hbox hg) | ((with_reducible refine gate_dst (N := 7) rfl ?_); refine Kd.R_lit (Kd.int .u8) _ 5 ?hg (N := 7) ?hd (xs := ([] : List Int)) (inner := []) (ok := fun _ => True) (okp := fun _ => True) ?hr ?hp (fun _ hk => hk) trivial (Below.refl _ _) (Nat.le_refl _) (by simp) ?_; (case hd => rfl); (case hg => rfl); (case hr => first | (go_simp; done) | (go_simp; rfl)); (case hp => exact (Reps.none _ _)); intro v598 w14 ho15 hb hg_ hnew_; clear hg_ hnew_; (first | rw [← Ny597.out] at ho15 | (simp only [Int.reduceToNat] at ho15; rw [← Ny597.out] at ho15)); have n0_ := aS (Kd.R_lower ho15 (below_size (wS1 HB.out GE596.out))); have n1_ := aS (blk_below (bU BK596.out) hb); have n2_ := aS (below_step (wS1 HB.out GE596.out) hb); clear BK596 HB; revert n0_ n1_ n2_; intro HO599 BK596 HB; clear hb ho15) | ((with_reducible refine gate_builtin (b := .append) (xs := #[.tmp 7, .tmp 8]) rfl ?_); at_builtin; refine Kd.R_append_rows (Kd.int .u8) (w0 := w) w.heap.size rfl (.tmp 7) (.tmp 8) 22 5 (.int .u8 0) 1 rfl Tryd.underlying22 info5 rfl (by decide) (by omega) v598 y597 l0 _ _ _ (fun _ => True) (fun _ => False) rfl rfl ?aO ?aR (fun _ _ h => h) (fun _ h => h.elim) ?aF ?aB ?aS ?aL ?_; (case aR => exact cU ((Kd.C_below HR0.out HB.out))); (case aB => exact (wS1 HB.out GE596.out)); (case aF => exact (fun _ _ => trivial)); (case aO => exact (rU HO599.out)); (case aS => exact (below_size (wS1 HB.out GE596.out))); (case aL => have := LMc3.out; omega); intro v601 w16 ho hb hg hat; rw [← Ny600.out] at ho; have n0_ := aS (blk_grown (g := gb596) (o := .cells #[.string a1_0, .int .i64 a1_1, .int .i64 a1_2, .int .i64 a1_3, .string a1_4, .string a1_5] 25 (0, 0)) (bU BK596.out) hg (Kd.R_ne HO599.out BK596.out (by decide))); have n1_ := aS (hb); have n2_ := aS (ho); clear BK596 HB HO599; revert n0_ n1_ n2_; intro BK596 HB HO602; clear ho hb hg hat; have hcz17 := cells6f BK596.out) | ((with_reducible refine gate_callee (f := 15) rfl ?_); refine goesL_ (some 11) rfl rfl Tryd.func15 jK rfl #[.agg #[.string a1_0, .int .i64 a1_1, .int .i64 a1_2, .int .i64 a1_3, .string a1_4, .string a1_5]] rfl jA ?_; (with_reducible refine (impl_RecordOk.calls k a1_0 a1_1 a1_2 a1_3 a1_4 a1_5 true _ A4.out).mono ?_); rintro e w18 ⟨rfl, hb⟩; refine ⟨_, rfl, ?_⟩; have n0_ := aS (Kd.R_below (rU HO602.out) hb); have n1_ := aS (blk_below (bU BK596.out) hb); have n2_ := aS (below_step (wS1 HB.out GE596.out) hb); clear HO602 BK596 HB; revert n0_ n1_ n2_; intro HO602 BK596 HB; clear hb; have hcz19 := cells6f BK596.out) | ((with_reducible refine gate_callee (f := 11) rfl ?_); refine goesL_ (some 15) rfl rfl Tryd.func11 jK rfl #[.agg #[.string a1_0, .int .i64 a1_1, .int .i64 a1_2, .int .i64 a1_3, .string a1_4, .string a1_5]] rfl jA ?_; (with_reducible refine (impl_PutData.calls k a1_0 a1_1 a1_2 a1_3 a1_4 a1_5 t604 _ A6.out).mono ?_); rintro e w20 ⟨v605, rfl, ho0, hb⟩; refine ⟨_, rfl, ?_⟩; have n0_ := aS (Kd.R_elder' (rU HO602.out) (Kd.R_base ho0) hb); have n1_ := aS (Kd.R_lower (Kd.R_new' ho0 (Kd.R_lt (rU HO602.out))) (below_size (wS1 HB.out GE596.out))); have n2_ := aS (blk_below (bU BK596.out) hb); have n3_ := aS (below_step (wS1 HB.out GE596.out) hb); clear HO602 BK596 HB; revert n0_ n1_ n2_ n3_; intro HO602 HO606 BK596 HB; clear hb; (try clear ho0); have hcz21 := cells6f BK596.out; obtain ⟨Ao22, co22, eo22⟩ := Kd.R_slice HO602.out; subst eo22) | ((with_reducible refine gate_callee (f := 59) rfl ?_); refine goesL_ (some 19) rfl rfl Tryd.func59 jK rfl #[.slice Ao22 y600.length co22, .string a1_0] rfl jA ?_; (with_reducible refine (impl_PutName.calls k _ _ y600 a1_0 t607 _ ?side1 ?side2 A7.out).mono ?_); (case side1 => exact cU ((Kd.R_reads' HO602.out).2.2)); (case side2 => exact (Kd.R_reads' HO602.out).2.1); rintro e w23 ⟨v608, rfl, ho0, hb⟩; refine ⟨_, rfl, ?_⟩; have n0_ := aS (Kd.R_elder' (rU HO602.out) (Kd.R_base ho0) hb); have n1_ := aS (Kd.R_elder' (rU HO606.out) (Kd.R_base ho0) hb); have n2_ := aS (Kd.R_lower (Kd.R_new' (Kd.R_new' ho0 (Kd.R_lt (rU HO602.out))) (Kd.R_lt (rU HO606.out))) (below_size (wS1 HB.out GE596.out))); have n3_ := aS (blk_below (bU BK596.out) hb); have n4_ := aS (below_step (wS1 HB.out GE596.out) hb); clear HO602 HO606 BK596 HB; revert n0_ n1_ n2_ n3_ n4_; intro HO602 HO606 HO609 BK596 HB; clear hb; (try clear ho0)))
    have n0_ := aS (Kd.R_drew HO602.out)
    have n1_ := aS (Kd.R_drew HO606.out)
    have n2_ := aS (Kd.R_drew HO609.out)
    have n3_ := aS (blk_drew BK596.out)
    have n4_ := aS (below_drew1 HB.out)
    clear HO602
    clear HO606
    clear HO609
    clear BK596
    clear HB
    have HO602 := n0_
    have HO606 := n1_
    have HO609 := n2_
    have BK596 := n3_
    have HB := n4_
    clear n0_ n1_ n2_ n3_ n4_
    obtain ⟨Ao25, co25, eo25⟩ := Kd.R_slice HO609.out
    (first | subst eo25 | (injection eo25 with f1_ f2_ f3_; have f4_ := f1_.symm; have f5_ := f3_.symm; clear f1_ f2_ f3_; subst f4_; subst f5_))
    refine start_ (n := 9) (S := fun w' => w'.cell? ⟨gb596, 0, none⟩ = some (.string a1_0) ∧ w'.cell? ⟨gb596, 1, none⟩ = some (.int .i64 a1_1) ∧ w'.cell? ⟨gb596, 2, none⟩ = some (.int .i64 a1_2) ∧ w'.cell? ⟨gb596, 3, none⟩ = some (.int .i64 a1_3) ∧ w'.cell? ⟨gb596, 4, none⟩ = some (.string a1_4) ∧ w'.cell? ⟨gb596, 5, none⟩ = some (.string a1_5)) (ds := []) #[false, false, false, false, false, false, false, false, false] jK rfl rfl ⟨(blk_cell BK596.out 0).trans rfl, (blk_cell BK596.out 1).trans rfl, (blk_cell BK596.out 2).trans rfl, (blk_cell BK596.out 3).trans rfl, (blk_cell BK596.out 4).trans rfl, (blk_cell BK596.out 5).trans rfl⟩ (fun hHeld => ?_); refine with_tabW impl_PutRecord.tab6 impl_PutRecord.bits6 (fun HT_ HW_ => ?_)
    generalize w23.drew = w24 at HO602 HO606 HO609 BK596 HB hHeld ⊢
    refine pure_ (i := 0) (N := some 20) (v := ?_) (a' := ?_) #[true, false, false, false, false, false, false, false, false] rfl rfl (any_of HT_.out jK) (fun _ _ _ h => h) (Or.inl ⟨by rfl, ?_⟩) ?_ ?_
    rotate_left
    ·intro w'
     go_simp
     with_reducible rfl
    rotate_left
    ·simp only [Act.put, List.setIfInBounds_toArray, List.set_cons_zero, List.set_cons_succ, i64_w, i32_w]
     rfl
    refine pure_ (i := 1) (N := some 21) (v := ?_) (a' := ?_) #[true, true, false, false, false, false, false, false, false] rfl rfl (any_of HT_.out jK) (fun _ _ _ h => h) (Or.inl ⟨by rfl, ?_⟩) ?_ ?_
    rotate_left
    ·intro w'
     go_simp
     with_reducible rfl
    rotate_left
    ·simp only [Act.put, List.setIfInBounds_toArray, List.set_cons_zero, List.set_cons_succ, i64_w, i32_w]
     rfl
    refine pure_ (i := 5) (N := some 25) (v := ?_) (a' := ?_) #[true, true, false, false, false, true, false, false, false] rfl rfl (any_of HT_.out jK) (fun _ _ _ h => h) (Or.inl ⟨by rfl, ?_⟩) ?_ ?_
    rotate_left
    ·intro w'
     go_simp
     with_reducible rfl
    rotate_left
    ·simp only [Act.put, List.setIfInBounds_toArray, List.set_cons_zero, List.set_cons_succ, i64_w, i32_w]
     rfl
    refine take_ (i := 2) (N := some 22) (v := ?_) (a' := ?_) #[true, true, true, false, false, true, false, false, false] rfl rfl (take_ofW HT_.out HW_.out jK) (fun _ _ _ h => h) (Or.inl ⟨by rfl, ?_⟩) hHeld ?_ ?_
    rotate_left
    ·rintro w' ⟨s0, s1, s2, s3, s4, s5⟩
     go_simp
     with_reducible rfl
    rotate_left
    ·simp only [Act.put, List.setIfInBounds_toArray, List.set_cons_zero, List.set_cons_succ, i64_w, i32_w]
     rfl
    refine take_ (i := 6) (N := some 26) (v := ?_) (a' := ?_) #[true, true, true, false, false, true, true, false, false] rfl rfl (take_ofW HT_.out HW_.out jK) (fun _ _ _ h => h) (Or.inl ⟨by rfl, ?_⟩) hHeld ?_ ?_
    rotate_left
    ·rintro w' ⟨s0, s1, s2, s3, s4, s5⟩
     go_simp
     with_reducible rfl
    rotate_left
    ·simp only [Act.put, List.setIfInBounds_toArray, List.set_cons_zero, List.set_cons_succ, i64_w, i32_w]
     rfl
    refine one_ (i := 3) (N := some 23) #[true, true, true, true, false, true, true, false, false] rfl rfl (one_of HT_.out jK) (by decide) (fun K hK => ?_)
    refine goes_ Tryd.func61 jK rfl #[.slice Ao25 t607.length co25, .int .i64 a1_1] (by rfl) rfl rfl jA ?_
    with_reducible refine (impl_Put2.calls k _ _ t607 a1_1 t610 _ ?side1 ?side2 A8.out).mono ?_
    (case side1 => exact cU ((Kd.R_reads' HO609.out).2.2))
    (case side2 => exact (Kd.R_reads' HO609.out).2.1)
    rintro e w26 ⟨v611, rfl, ho0, hb⟩
    refine ⟨_, rfl, ?_⟩
    have n0_ := aS (Kd.R_elder' (rU HO602.out) (Kd.R_base ho0) hb)
    have n1_ := aS (Kd.R_elder' (rU HO606.out) (Kd.R_base ho0) hb)
    have n2_ := aS (Kd.R_elder' (rU HO609.out) (Kd.R_base ho0) hb)
    have n3_ := aS (Kd.R_lower (Kd.R_new' (Kd.R_new' (Kd.R_new' ho0 (Kd.R_lt (rU HO602.out))) (Kd.R_lt (rU HO606.out))) (Kd.R_lt (rU HO609.out))) (below_size (wS1 HB.out GE596.out)))
    have n4_ := aS (blk_below (bU BK596.out) hb)
    have n5_ := aS (below_step (wS1 HB.out GE596.out) hb)
    clear HO602
    clear HO606
    clear HO609
    clear BK596
    clear HB
    have HO602 := n0_
    have HO606 := n1_
    have HO609 := n2_
    have HO612 := n3_
    have BK596 := n4_
    have HB := n5_
    clear n0_ n1_ n2_ n3_ n4_ n5_
    (try clear hb)
    (try clear hb2)
    (try clear hk)
    (try clear hi)
    (try clear ho0)
    obtain ⟨Ao27, co27, eo27⟩ := Kd.R_slice HO612.out
    (first | subst eo27 | (injection eo27 with f1_ f2_ f3_; have f4_ := f1_.symm; have f5_ := f3_.symm; clear f1_ f2_ f3_; subst f4_; subst f5_))
    refine hK.out _ _ ⟨(blk_cell BK596.out 0).trans rfl, (blk_cell BK596.out 1).trans rfl, (blk_cell BK596.out 2).trans rfl, (blk_cell BK596.out 3).trans rfl, (blk_cell BK596.out 4).trans rfl, (blk_cell BK596.out 5).trans rfl⟩ (fun hHeld => ?_)
    clear hK K
    refine norm_ (a' := ?_) ?_ ?_
    rotate_left
    ·show Act.put _ (some 23) _ = _
     simp only [Act.put, List.setIfInBounds_toArray, List.set_cons_zero, List.set_cons_succ, i64_w, i32_w]
     rfl
    refine one_ (i := 4) (N := some 24) #[true, true, true, true, true, true, true, false, false] rfl rfl (one_of HT_.out jK) (by decide) (fun K hK => ?_)
    refine goes_ Tryd.func61 jK rfl #[.slice Ao27 t610.length co27, .int .i64 1] (by rfl) rfl rfl jA ?_
    with_reducible refine (impl_Put2.calls k _ _ t610 1 t613 _ ?side1 ?side2 A9.out).mono ?_
    (case side1 => exact cU ((Kd.R_reads' HO612.out).2.2))
    (case side2 => exact (Kd.R_reads' HO612.out).2.1)
    rintro e w28 ⟨v614, rfl, ho0, hb⟩
    refine ⟨_, rfl, ?_⟩
    have n0_ := aS (Kd.R_elder' (rU HO602.out) (Kd.R_base ho0) hb)
    have n1_ := aS (Kd.R_elder' (rU HO606.out) (Kd.R_base ho0) hb)
    have n2_ := aS (Kd.R_elder' (rU HO609.out) (Kd.R_base ho0) hb)
    have n3_ := aS (Kd.R_elder' (rU HO612.out) (Kd.R_base ho0) hb)
    have n4_ := aS (Kd.R_lower (Kd.R_new' (Kd.R_new' (Kd.R_new' (Kd.R_new' ho0 (Kd.R_lt (rU HO602.out))) (Kd.R_lt (rU HO606.out))) (Kd.R_lt (rU HO609.out))) (Kd.R_lt (rU HO612.out))) (below_size (wS1 HB.out GE596.out)))
    have n5_ := aS (blk_below (bU BK596.out) hb)
    have n6_ := aS (below_step (wS1 HB.out GE596.out) hb)
    clear HO602
    clear HO606
    clear HO609
    clear HO612
    clear BK596
    clear HB
    have HO602 := n0_
    have HO606 := n1_
    have HO609 := n2_
    have HO612 := n3_
    have HO615 := n4_
    have BK596 := n5_
    have HB := n6_
    clear n0_ n1_ n2_ n3_ n4_ n5_ n6_
    (try clear hb)
    (try clear hb2)
    (try clear hk)
    (try clear hi)
    (try clear ho0)
    obtain ⟨Ao29, co29, eo29⟩ := Kd.R_slice HO615.out
    (first | subst eo29 | (injection eo29 with f1_ f2_ f3_; have f4_ := f1_.symm; have f5_ := f3_.symm; clear f1_ f2_ f3_; subst f4_; subst f5_))
    refine hK.out _ _ ⟨(blk_cell BK596.out 0).trans rfl, (blk_cell BK596.out 1).trans rfl, (blk_cell BK596.out 2).trans rfl, (blk_cell BK596.out 3).trans rfl, (blk_cell BK596.out 4).trans rfl, (blk_cell BK596.out 5).trans rfl⟩ (fun hHeld => ?_)
    clear hK K
    refine norm_ (a' := ?_) ?_ ?_
    rotate_left
    ·show Act.put _ (some 24) _ = _
     simp only [Act.put, List.setIfInBounds_toArray, List.set_cons_zero, List.set_cons_succ, i64_w, i32_w]
     rfl
    refine one_ (i := 7) (N := some 27) #[true, true, true, true, true, true, true, true, false] rfl rfl (one_of HT_.out jK) (by decide) (fun K hK => ?_)
    refine goes_ Tryd.func60 jK rfl #[.slice Ao29 t613.length co29, .int .i64 a1_2] (by rfl) rfl rfl jA ?_
    with_reducible refine (impl_Put4.calls k _ _ t613 a1_2 t616 _ ?side1 ?side2 A10.out).mono ?_
    (case side1 => exact cU ((Kd.R_reads' HO615.out).2.2))
    (case side2 => exact (Kd.R_reads' HO615.out).2.1)
    rintro e w30 ⟨v617, rfl, ho0, hb⟩
    refine ⟨_, rfl, ?_⟩
    have n0_ := aS (Kd.R_elder' (rU HO602.out) (Kd.R_base ho0) hb)
    have n1_ := aS (Kd.R_elder' (rU HO606.out) (Kd.R_base ho0) hb)
    have n2_ := aS (Kd.R_elder' (rU HO609.out) (Kd.R_base ho0) hb)
    have n3_ := aS (Kd.R_elder' (rU HO612.out) (Kd.R_base ho0) hb)
    have n4_ := aS (Kd.R_elder' (rU HO615.out) (Kd.R_base ho0) hb)
    have n5_ := aS (Kd.R_lower (Kd.R_new' (Kd.R_new' (Kd.R_new' (Kd.R_new' (Kd.R_new' ho0 (Kd.R_lt (rU HO602.out))) (Kd.R_lt (rU HO606.out))) (Kd.R_lt (rU HO609.out))) (Kd.R_lt (rU HO612.out))) (Kd.R_lt (rU HO615.out))) (below_size (wS1 HB.out GE596.out)))
    have n6_ := aS (blk_below (bU BK596.out) hb)
    have n7_ := aS (below_step (wS1 HB.out GE596.out) hb)
    clear HO602
    clear HO606
    clear HO609
    clear HO612
    clear HO615
    clear BK596
    clear HB
    have HO602 := n0_
    have HO606 := n1_
    have HO609 := n2_
    have HO612 := n3_
    have HO615 := n4_
    have HO618 := n5_
    have BK596 := n6_
    have HB := n7_
    clear n0_ n1_ n2_ n3_ n4_ n5_ n6_ n7_
    (try clear hb)
    (try clear hb2)
    (try clear hk)
    (try clear hi)
    (try clear ho0)
    refine hK.out _ _ ⟨(blk_cell BK596.out 0).trans rfl, (blk_cell BK596.out 1).trans rfl, (blk_cell BK596.out 2).trans rfl, (blk_cell BK596.out 3).trans rfl, (blk_cell BK596.out 4).trans rfl, (blk_cell BK596.out 5).trans rfl⟩ (fun hHeld => ?_)
    clear hK K
    refine norm_ (a' := ?_) ?_ ?_
    rotate_left
    ·show Act.put _ (some 27) _ = _
     simp only [Act.put, List.setIfInBounds_toArray, List.set_cons_zero, List.set_cons_succ, i64_w, i32_w]
     rfl
    refine pure_ (i := 8) (N := some 5) (v := ?_) (a' := ?_) #[true, true, true, true, true, true, true, true, true] rfl rfl (any_of HT_.out jK) (fun _ _ _ h => h) (Or.inl ⟨by rfl, ?_⟩) ?_ ?_
    rotate_left
    ·intro w'
     go_simp
     with_reducible rfl
    rotate_left
    ·simp only [Act.put, List.setIfInBounds_toArray, List.set_cons_zero, List.set_cons_succ, i64_w, i32_w]
     rfl
    refine done_ (done_of HT_.out jK) ?_
    obtain ⟨Ao31, co31, eo31⟩ := Kd.R_slice HO606.out
    subst eo31
    obtain ⟨Ao32, co32, eo32⟩ := Kd.R_slice HO618.out
    subst eo32
    try go_wp2_with (first | ((with_reducible refine gate_callee (f := 61) rfl ?_); refine goesL_ (some 31) rfl rfl Tryd.func61 jK rfl #[.slice Ao32 t616.length co32, .int .i64 (t604.length : Int)] rfl jA ?_; (with_reducible refine (impl_Put2.calls k _ _ t616 (t604.length : Int) t619 _ ?side1 ?side2 A11.out).mono ?_); (case side1 => exact cU ((Kd.R_reads' HO618.out).2.2)); (case side2 => exact (Kd.R_reads' HO618.out).2.1); rintro e w33 ⟨v620, rfl, ho0, hb⟩; refine ⟨_, rfl, ?_⟩; have n0_ := aS (Kd.R_elder' (rU HO602.out) (Kd.R_base ho0) hb); have n1_ := aS (Kd.R_elder' (rU HO606.out) (Kd.R_base ho0) hb); have n2_ := aS (Kd.R_elder' (rU HO609.out) (Kd.R_base ho0) hb); have n3_ := aS (Kd.R_elder' (rU HO612.out) (Kd.R_base ho0) hb); have n4_ := aS (Kd.R_elder' (rU HO615.out) (Kd.R_base ho0) hb); have n5_ := aS (Kd.R_elder' (rU HO618.out) (Kd.R_base ho0) hb); have n6_ := aS (Kd.R_lower (Kd.R_new' (Kd.R_new' (Kd.R_new' (Kd.R_new' (Kd.R_new' (Kd.R_new' ho0 (Kd.R_lt (rU HO602.out))) (Kd.R_lt (rU HO606.out))) (Kd.R_lt (rU HO609.out))) (Kd.R_lt (rU HO612.out))) (Kd.R_lt (rU HO615.out))) (Kd.R_lt (rU HO618.out))) (below_size (wS1 HB.out GE596.out))); have n7_ := aS (blk_below (bU BK596.out) hb); have n8_ := aS (below_step (wS1 HB.out GE596.out) hb); clear HO602 HO606 HO609 HO612 HO615 HO618 BK596 HB; revert n0_ n1_ n2_ n3_ n4_ n5_ n6_ n7_ n8_; intro HO602 HO606 HO609 HO612 HO615 HO618 HO621 BK596 HB; clear hb; (try clear ho0)) | ((with_reducible refine gate_builtin (b := .append) (xs := #[.tmp 31, .tmp 32]) rfl ?_); at_builtin; refine Kd.R_append_rows (Kd.int .u8) (w0 := w) w.heap.size rfl (.tmp 31) (.tmp 32) 22 5 (.int .u8 0) 1 rfl Tryd.underlying22 info5 rfl (by decide) (by omega) v620 t619 t604 _ _ _ (fun k_ => some k_ ≠ (.slice Ao22 y600.length co22 : Value).ownBlock ∧ some k_ ≠ (.slice Ao31 t604.length co31 : Value).ownBlock ∧ some k_ ≠ (.slice Ao25 t607.length co25 : Value).ownBlock ∧ some k_ ≠ (.slice Ao27 t610.length co27 : Value).ownBlock ∧ some k_ ≠ (.slice Ao29 t613.length co29 : Value).ownBlock ∧ some k_ ≠ (.slice Ao32 t616.length co32 : Value).ownBlock) (fun _ => False) rfl rfl ?aO ?aR (fun _ _ h => h) (fun _ h => h.elim) ?aF ?aB ?aS ?aL ?_; (case aR => exact cU ((Kd.R_reads' HO606.out).2.2)); (case aB => exact (wS1 HB.out GE596.out)); (case aF => exact (fun k_ hk => ⟨Kd.fresh' (Kd.R_lt (rU HO602.out)) k_ hk, Kd.fresh' (Kd.R_lt (rU HO606.out)) k_ hk, Kd.fresh' (Kd.R_lt (rU HO609.out)) k_ hk, Kd.fresh' (Kd.R_lt (rU HO612.out)) k_ hk, Kd.fresh' (Kd.R_lt (rU HO615.out)) k_ hk, Kd.fresh' (Kd.R_lt (rU HO618.out)) k_ hk⟩)); (case aO => exact (by (with_reducible repeat (first | apply Kd.R_alloc | apply Kd.R_drewN | apply Kd.R_drew)); exact Kd.R_mono HO621.out (fun _ hk => ⟨hk.1.1.1.1.1.2, ⟨hk.1.1.1.1.2, ⟨hk.1.1.1.2, ⟨hk.1.1.2, ⟨hk.1.2, hk.2⟩⟩⟩⟩⟩))); (case aS => exact (below_size (wS1 HB.out GE596.out))); (case aL => have := LMc12.out; omega); intro v623 w34 ho hb hg hat; rw [← Ny622.out] at ho; have n0_ := aS (blk_grown (g := gb596) (o := .cells #[.string a1_0, .int .i64 a1_1, .int .i64 a1_2, .int .i64 a1_3, .string a1_4, .string a1_5] 25 (0, 0)) (bU BK596.out) hg (Kd.R_ne HO621.out BK596.out (by decide))); have n1_ := aS (Kd.R_after (ok := (fun k_ => some k_ ≠ (.slice Ao31 t604.length co31 : Value).ownBlock ∧ some k_ ≠ (.slice Ao25 t607.length co25 : Value).ownBlock ∧ some k_ ≠ (.slice Ao27 t610.length co27 : Value).ownBlock ∧ some k_ ≠ (.slice Ao29 t613.length co29 : Value).ownBlock ∧ some k_ ≠ (.slice Ao32 t616.length co32 : Value).ownBlock)) (by (with_reducible repeat (first | apply Kd.R_alloc | apply Kd.R_drewN | apply Kd.R_drew)); exact Kd.R_mono HO602.out (fun _ hk => ⟨⟨hk.1.1.1.1.1.2, ⟨hk.1.1.1.1.2, ⟨hk.1.1.1.2, ⟨hk.1.1.2, hk.1.2⟩⟩⟩⟩, hk.2⟩)) hg hat); have n2_ := aS (Kd.R_after (ok := (fun k_ => some k_ ≠ (.slice Ao22 y600.length co22 : Value).ownBlock ∧ some k_ ≠ (.slice Ao25 t607.length co25 : Value).ownBlock ∧ some k_ ≠ (.slice Ao27 t610.length co27 : Value).ownBlock ∧ some k_ ≠ (.slice Ao29 t613.length co29 : Value).ownBlock ∧ some k_ ≠ (.slice Ao32 t616.length co32 : Value).ownBlock)) (by (with_reducible repeat (first | apply Kd.R_alloc | apply Kd.R_drewN | apply Kd.R_drew)); exact Kd.R_mono HO606.out (fun _ hk => ⟨⟨hk.1.1.1.1.1.2, ⟨hk.1.1.1.1.2, ⟨hk.1.1.1.2, ⟨hk.1.1.2, hk.1.2⟩⟩⟩⟩, hk.2⟩)) hg hat); have n3_ := aS (Kd.R_after (ok := (fun k_ => some k_ ≠ (.slice Ao22 y600.length co22 : Value).ownBlock ∧ some k_ ≠ (.slice Ao31 t604.length co31 : Value).ownBlock ∧ some k_ ≠ (.slice Ao27 t610.length co27 : Value).ownBlock ∧ some k_ ≠ (.slice Ao29 t613.length co29 : Value).ownBlock ∧ some k_ ≠ (.slice Ao32 t616.length co32 : Value).ownBlock)) (by (with_reducible repeat (first | apply Kd.R_alloc | apply Kd.R_drewN | apply Kd.R_drew)); exact Kd.R_mono HO609.out (fun _ hk => ⟨⟨hk.1.1.1.1.1.2, ⟨hk.1.1.1.1.2, ⟨hk.1.1.1.2, ⟨hk.1.1.2, hk.1.2⟩⟩⟩⟩, hk.2⟩)) hg hat); have n4_ := aS (Kd.R_after (ok := (fun k_ => some k_ ≠ (.slice Ao22 y600.length co22 : Value).ownBlock ∧ some k_ ≠ (.slice Ao31 t604.length co31 : Value).ownBlock ∧ some k_ ≠ (.slice Ao25 t607.length co25 : Value).ownBlock ∧ some k_ ≠ (.slice Ao29 t613.length co29 : Value).ownBlock ∧ some k_ ≠ (.slice Ao32 t616.length co32 : Value).ownBlock)) (by (with_reducible repeat (first | apply Kd.R_alloc | apply Kd.R_drewN | apply Kd.R_drew)); exact Kd.R_mono HO612.out (fun _ hk => ⟨⟨hk.1.1.1.1.1.2, ⟨hk.1.1.1.1.2, ⟨hk.1.1.1.2, ⟨hk.1.1.2, hk.1.2⟩⟩⟩⟩, hk.2⟩)) hg hat); have n5_ := aS (Kd.R_after (ok := (fun k_ => some k_ ≠ (.slice Ao22 y600.length co22 : Value).ownBlock ∧ some k_ ≠ (.slice Ao31 t604.length co31 : Value).ownBlock ∧ some k_ ≠ (.slice Ao25 t607.length co25 : Value).ownBlock ∧ some k_ ≠ (.slice Ao27 t610.length co27 : Value).ownBlock ∧ some k_ ≠ (.slice Ao32 t616.length co32 : Value).ownBlock)) (by (with_reducible repeat (first | apply Kd.R_alloc | apply Kd.R_drewN | apply Kd.R_drew)); exact Kd.R_mono HO615.out (fun _ hk => ⟨⟨hk.1.1.1.1.1.2, ⟨hk.1.1.1.1.2, ⟨hk.1.1.1.2, ⟨hk.1.1.2, hk.1.2⟩⟩⟩⟩, hk.2⟩)) hg hat); have n6_ := aS (Kd.R_after (ok := (fun k_ => some k_ ≠ (.slice Ao22 y600.length co22 : Value).ownBlock ∧ some k_ ≠ (.slice Ao31 t604.length co31 : Value).ownBlock ∧ some k_ ≠ (.slice Ao25 t607.length co25 : Value).ownBlock ∧ some k_ ≠ (.slice Ao27 t610.length co27 : Value).ownBlock ∧ some k_ ≠ (.slice Ao29 t613.length co29 : Value).ownBlock)) (by (with_reducible repeat (first | apply Kd.R_alloc | apply Kd.R_drewN | apply Kd.R_drew)); exact Kd.R_mono HO618.out (fun _ hk => ⟨⟨hk.1.1.1.1.1.2, ⟨hk.1.1.1.1.2, ⟨hk.1.1.1.2, ⟨hk.1.1.2, hk.1.2⟩⟩⟩⟩, hk.2⟩)) hg hat); have n7_ := aS (hb); have n8_ := aS (ho); clear BK596 HO602 HO606 HO609 HO612 HO615 HO618 HB HO621; revert n0_ n1_ n2_ n3_ n4_ n5_ n6_ n7_ n8_; intro BK596 HO602 HO606 HO609 HO612 HO615 HO618 HB HO624; clear ho hb hg hat))
    go_ret
    exact ⟨_, jE, Kd.R_mono (rU HO624.out) (fun _ hk => trivial), by exact wS1 HB.out GE596.out⟩
   ·rw [if_neg c12] at H
    exact absurd H (by simp)
  ·replace c5 := Bool.eq_false_iff.mpr c5
   subst c5
   have H1 : (some y600) = some r := by rw [if_neg (show ¬ (false = true) by decide)] at H; exact H
   clear H
   have H := H1
   clear H1
   obtain rfl := Option.some.inj H
   go_enter Tryd.func10, Tryd.ntmps10
   go_wp2_with (first | ((with_reducible refine gate_dst (N := 3) rfl ?_); refine box_event ?hg (N := 3) ?hd (cs := #[.string a1_0, .int .i64 a1_1, .int .i64 a1_2, .int .i64 a1_3, .string a1_4, .string a1_5]) (t := 25) ?hr ?_; (case hd => rfl); (case hg => rfl); (case hr => first | (go_simp; done) | (go_simp; rfl)); intro gb596 hg w35 hbox hb; have n0_ := aS (below_step (wU HB.out) hb); have n1_ := aS (hbox); have n2_ := aS ((by rw [hg]; exact (below_size (wU HB.out)) : w.heap.size ≤ gb596)); have n3_ := aS ((by rw [hg]; exact (below_size (wU HB.out)) : w.heap.size ≤ gb596)); clear HB; revert n0_ n1_ n2_ n3_; intro HB BK596 GW596 GE596; clear hb hbox hg) | ((with_reducible refine gate_dst (N := 7) rfl ?_); refine Kd.R_lit (Kd.int .u8) _ 5 ?hg (N := 7) ?hd (xs := ([] : List Int)) (inner := []) (ok := fun _ => True) (okp := fun _ => True) ?hr ?hp (fun _ hk => hk) trivial (Below.refl _ _) (Nat.le_refl _) (by simp) ?_; (case hd => rfl); (case hg => rfl); (case hr => first | (go_simp; done) | (go_simp; rfl)); (case hp => exact (Reps.none _ _)); intro v598 w36 ho37 hb hg_ hnew_; clear hg_ hnew_; (first | rw [← Ny597.out] at ho37 | (simp only [Int.reduceToNat] at ho37; rw [← Ny597.out] at ho37)); have n0_ := aS (Kd.R_lower ho37 (below_size (wS1 HB.out GE596.out))); have n1_ := aS (blk_below (bU BK596.out) hb); have n2_ := aS (below_step (wS1 HB.out GE596.out) hb); clear BK596 HB; revert n0_ n1_ n2_; intro HO599 BK596 HB; clear hb ho37) | ((with_reducible refine gate_builtin (b := .append) (xs := #[.tmp 7, .tmp 8]) rfl ?_); at_builtin; refine Kd.R_append_rows (Kd.int .u8) (w0 := w) w.heap.size rfl (.tmp 7) (.tmp 8) 22 5 (.int .u8 0) 1 rfl Tryd.underlying22 info5 rfl (by decide) (by omega) v598 y597 l0 _ _ _ (fun _ => True) (fun _ => False) rfl rfl ?aO ?aR (fun _ _ h => h) (fun _ h => h.elim) ?aF ?aB ?aS ?aL ?_; (case aR => exact cU ((Kd.C_below HR0.out HB.out))); (case aB => exact (wS1 HB.out GE596.out)); (case aF => exact (fun _ _ => trivial)); (case aO => exact (rU HO599.out)); (case aS => exact (below_size (wS1 HB.out GE596.out))); (case aL => have := LMc3.out; omega); intro v601 w38 ho hb hg hat; rw [← Ny600.out] at ho; have n0_ := aS (blk_grown (g := gb596) (o := .cells #[.string a1_0, .int .i64 a1_1, .int .i64 a1_2, .int .i64 a1_3, .string a1_4, .string a1_5] 25 (0, 0)) (bU BK596.out) hg (Kd.R_ne HO599.out BK596.out (by decide))); have n1_ := aS (hb); have n2_ := aS (ho); clear BK596 HB HO599; revert n0_ n1_ n2_; intro BK596 HB HO602; clear ho hb hg hat; have hcz39 := cells6f BK596.out) | ((with_reducible refine gate_callee (f := 15) rfl ?_); refine goesL_ (some 11) rfl rfl Tryd.func15 jK rfl #[.agg #[.string a1_0, .int .i64 a1_1, .int .i64 a1_2, .int .i64 a1_3, .string a1_4, .string a1_5]] rfl jA ?_; (with_reducible refine (impl_RecordOk.calls k a1_0 a1_1 a1_2 a1_3 a1_4 a1_5 false _ A4.out).mono ?_); rintro e w40 ⟨rfl, hb⟩; refine ⟨_, rfl, ?_⟩; have n0_ := aS (Kd.R_below (rU HO602.out) hb); have n1_ := aS (blk_below (bU BK596.out) hb); have n2_ := aS (below_step (wS1 HB.out GE596.out) hb); clear HO602 BK596 HB; revert n0_ n1_ n2_; intro HO602 BK596 HB; clear hb))
   go_ret
   exact ⟨_, jE, by (with_reducible repeat (first | apply Kd.R_alloc | apply Kd.R_drewN | apply Kd.R_drew)); exact HO602.out, by exact wS1 HB.out GE596.out⟩
 ·rw [if_neg c3] at H
  exact absurd H (by simp)

end Go.Proofs.YtdigilidomimdaaDoor.Pr
