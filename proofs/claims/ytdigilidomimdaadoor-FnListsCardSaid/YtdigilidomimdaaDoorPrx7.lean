-- Written for this claim by a program of this session (wip/tool/pr.py, over the kit's printer).
-- half
import Derived.Test.YtdigilidomimdaaDoorPrx0
import Derived.Test.YtdigilidomimdaaDoorPrx2
import Derived.Test.YtdigilidomimdaaDoorPrx3
import Derived.Test.YtdigilidomimdaaDoorPrx4
import Derived.Test.YtdigilidomimdaaDoorPrx5
import Derived.Test.YtdigilidomimdaaDoorPrx6
namespace Go.Proofs.YtdigilidomimdaaDoor.Pr
open Go.RowKit Go.Proofs.YtdigilidomimdaaDoorW.PrintWords Go.Proofs.YtdigilidomimdaaDoorW.PrintLast Go.Proofs.YtdigilidomimdaaDoorW.PrintMore
attribute [local go_sem] max2_int min2_int max_two min_two max_three min_three max_four min_four   -- for this text's walks alone
set_option linter.unusedVariables false
set_option linter.unusedSimpArgs false

/-! ### impl_PlaceOf: function 117 -/
mutual
def impl_PlaceOf.l0 : Nat → List Int → ByteArray → Int → Option (Int)
 | 0, _, _, _ => none
 | k + 1, x0, x1, x5 => if x5 < (x0.length : Int) then (impl_PlaceOf.j1 k x0 x1 x5 (decide (x5 ≤ 16383))) else (impl_PlaceOf.j1 k x0 x1 x5 false)
def impl_PlaceOf.j1 : Nat → List Int → ByteArray → Int → Bool → Option (Int)
 | 0, _, _, _, _ => none
 | k + 1, x0, x1, x5, x16 => if x16 = true then ((impl_GetName.f k x0 x5).bind fun bt421 => (if bt421.2.2 = 0 then (if bt421.1.toList = x1.toList then (some x5) else (impl_PlaceOf.l0 k x0 x1 (wrap64 (x5 + 1)))) else (impl_PlaceOf.l0 k x0 x1 (wrap64 (x5 + 1))))) else (some (-1))
end
def impl_PlaceOf.f (k : Nat) (l0 : List Int) (a1 : ByteArray) : Option (Int) := impl_PlaceOf.l0 k l0 a1 0
theorem impl_PlaceOf.mono_l : ∀ k, (∀ y0 y1 y2, LeO (impl_PlaceOf.l0 k y0 y1 y2) (impl_PlaceOf.l0 (k + 1) y0 y1 y2)) ∧ (∀ y0 y1 y2 y3, LeO (impl_PlaceOf.j1 k y0 y1 y2 y3) (impl_PlaceOf.j1 (k + 1) y0 y1 y2 y3))
 | 0 => ⟨fun _ _ _ r h => by simp [impl_PlaceOf.l0] at h, fun _ _ _ _ r h => by simp [impl_PlaceOf.j1] at h⟩
 | k + 1 => by
  obtain ⟨ih0, ih1⟩ := impl_PlaceOf.mono_l k
  refine ⟨?_, ?_⟩
  ·intro y0 y1 y2
   unfold impl_PlaceOf.l0
   repeat' first
   | (with_reducible first | exact ih0 _ _ _ | exact ih1 _ _ _ _ | exact impl_GetName.mono _ _ _ | exact LeO.refl _ | exact LeO.none _ | refine LeO.ite ?_ ?_ | refine LeO.bind ?_ (fun _ => ?_))
   | exact ih0 _ _ _
   | exact ih1 _ _ _ _
   | exact impl_GetName.mono _ _ _
   | exact LeO.none _
   | refine LeO.ite ?_ ?_
   | refine LeO.bind ?_ (fun _ => ?_)
  ·intro y0 y1 y2 y3
   unfold impl_PlaceOf.j1
   repeat' first
   | (with_reducible first | exact ih0 _ _ _ | exact ih1 _ _ _ _ | exact impl_GetName.mono _ _ _ | exact LeO.refl _ | exact LeO.none _ | refine LeO.ite ?_ ?_ | refine LeO.bind ?_ (fun _ => ?_))
   | exact ih0 _ _ _
   | exact ih1 _ _ _ _
   | exact impl_GetName.mono _ _ _
   | exact LeO.none _
   | refine LeO.ite ?_ ?_
   | refine LeO.bind ?_ (fun _ => ?_)
theorem impl_PlaceOf.mono : ∀ a0 a1 k, LeO (impl_PlaceOf.f k a0 a1) (impl_PlaceOf.f (k + 1) a0 a1) := by
 intro a0 a1 k
 obtain ⟨ih0, ih1⟩ := impl_PlaceOf.mono_l k
 unfold impl_PlaceOf.f
 repeat' first
   | (with_reducible first | exact ih0 _ _ _ | exact ih1 _ _ _ _ | exact impl_GetName.mono _ _ _ | exact LeO.refl _ | exact LeO.none _ | refine LeO.ite ?_ ?_ | refine LeO.bind ?_ (fun _ => ?_))
   | exact ih0 _ _ _
   | exact ih1 _ _ _ _
   | exact impl_GetName.mono _ _ _
   | exact LeO.none _
   | refine LeO.ite ?_ ?_
   | refine LeO.bind ?_ (fun _ => ?_)
set_option maxHeartbeats 8000000 in
set_option maxRecDepth 100000 in
theorem impl_PlaceOf.calls (k : Nat) (A0 : Option Addr) (c0 : Nat) (l0 : List Int) (a1 : ByteArray) (r : Int) (w : World) (hr0 : Kd.C (Kd.int .u8) w A0 l0.length l0) (hc0 : l0.length ≤ c0) (h : impl_PlaceOf.f k l0 a1 = some r) :
  Calls Tryd.prog 117 #[.slice A0 l0.length c0, .string a1] w fun e w' => e = .returned (.int .i64 r) ∧ Below w.heap.size w w' := by
 have HR0 := aS hr0
 have HC0 := aS hc0
 clear hr0 hc0
 have HB := aS (Below.refl w.heap.size w)
 have H : (impl_PlaceOf.l0 k l0 a1 0) = some r := h
 clear h
 have H' := aS H
 clear H
 go_enter Tryd.func117, Tryd.ntmps117
 go_wp2
 go_loopg [5] k (fun kq v5 w' => ∃ (x5_1 : Int), v5 = .int .i64 x5_1 ∧ Aside0 (impl_PlaceOf.l0 kq l0 a1 x5_1 = some r) ∧ Aside0 (kq ≤ k) ∧ Aside0 (Below w.heap.size w w'))
 case atStart => exact ⟨(0), jB, H', ⟨Nat.le_refl _⟩, ⟨by exact wU HB.out⟩⟩
 case round =>
  clear H'
  try clear c1
  try clear p2
  obtain ⟨x5_1, rfl, HA, HK1, HB⟩ := hrel
  cases gk with
  | zero => exact absurd HA.out (by simp [impl_PlaceOf.l0])
  | succ k1 =>
   have H := HA.out
   clear HA
   simp only [impl_PlaceOf.l0] at H
   have HC3 := aS H
   clear H
   go_upto_region 2 with (fail)
   go_cut [16] (fun v16 wc => ∃ (kq : Nat) (x16_2 : Bool), v16 = .bool x16_2 ∧ Aside0 (impl_PlaceOf.j1 kq l0 a1 x5_1 x16_2 = some r) ∧ Aside0 (kq ≤ k1) ∧ Aside0 (Below w.heap.size w wc))
   case first =>
    have H := HC3.out
    clear HC3
    by_cases c4 : x5_1 < (l0.length : Int)
    ·rw [if_pos c4] at H
     have c4b0 := decide_eq_true c4
     clear c4
     (first | rw [c4b0] | (simp only [i64_w, i32_w]; rw [c4b0]) | skip)
     have H' := aS H
     clear H
     go_wp2
     go_meet
     case rel => exact ⟨_, (decide (x5_1 ≤ 16383)), jB, H', ⟨by have := HK1.out; first | omega | exact Nat.le_refl _⟩, ⟨by exact wU HB.out⟩⟩
    ·rw [if_neg c4] at H
     have c4b0 := decide_eq_false c4
     clear c4
     (first | rw [c4b0] | (simp only [i64_w, i32_w]; rw [c4b0]) | skip)
     have H' := aS H
     clear H
     go_wp2
     go_meet
     case rel => exact ⟨_, (false), jB, H', ⟨by have := HK1.out; first | omega | exact Nat.le_refl _⟩, ⟨by exact wU HB.out⟩⟩
   case rest =>
    clear HC3
    try clear c1
    try clear p2
    try clear c4
    try clear c4b0
    try clear p2
    obtain ⟨kq, x16_2, rfl, HA, HJ2, HB⟩ := hcut
    cases kq with
    | zero => exact absurd HA.out (by simp [impl_PlaceOf.j1])
    | succ kj2 =>
     have H := HA.out
     clear HA
     simp only [impl_PlaceOf.j1] at H
     by_cases c5 : x16_2 = true
     ·subst c5
      rw [if_pos rfl] at H
      obtain ⟨⟨t421, t422, t423⟩, A6, H⟩ := bM H
      try dsimp only at H
      by_cases c7 : t423 = 0
      ·rw [if_pos c7] at H
       have c7b0 := beq_iff_eq.mpr c7
       have c7b1 := bne_eq_false_iff_eq.mpr c7
       clear c7
       by_cases c8 : t421.toList = a1.toList
       ·rw [if_pos c8] at H
        have c8b0 := beq_iff_eq.mpr c8
        have c8b1 := bne_eq_false_iff_eq.mpr c8
        clear c8
        obtain rfl := Option.some.inj H
        go_wp2_with (first | ((with_reducible refine gate_callee (f := 71) rfl ?_); refine goesL_ (some 22) rfl rfl Tryd.func71 jK rfl #[.slice A0 l0.length c0, .int .i64 x5_1] rfl jA ?_; (with_reducible refine (impl_GetName.calls kj2 _ _ l0 x5_1 t421 t422 t423 _ ?side1 ?side2 A6.out).mono ?_); (case side1 => exact cU ((Kd.C_below HR0.out HB.out))); (case side2 => exact HC0.out); rintro e w9 ⟨rfl, hb⟩; refine ⟨_, rfl, ?_⟩; replace HB := aS (below_step (wU HB.out) hb); clear hb))
        go_ret
        exact ⟨jE, by exact wU HB.out⟩
       ·rw [if_neg c8] at H
        have c8b0 := beq_eq_false_iff_ne.mpr c8
        have c8b1 := bne_iff_ne.mpr c8
        have H' := aS H
        clear H
        go_wp2_with (first | ((with_reducible refine gate_callee (f := 71) rfl ?_); refine goesL_ (some 22) rfl rfl Tryd.func71 jK rfl #[.slice A0 l0.length c0, .int .i64 x5_1] rfl jA ?_; (with_reducible refine (impl_GetName.calls kj2 _ _ l0 x5_1 t421 t422 t423 _ ?side1 ?side2 A6.out).mono ?_); (case side1 => exact cU ((Kd.C_below HR0.out HB.out))); (case side2 => exact HC0.out); rintro e w10 ⟨rfl, hb⟩; refine ⟨_, rfl, ?_⟩; replace HB := aS (below_step (wU HB.out) hb); clear hb))
        go_roundg kj2
        case measure => have := HK1.out; have := HJ2.out; omega
        case rel => exact ⟨(wrap64 (x5_1 + 1)), jB, H', ⟨by have := HK1.out; have := HJ2.out; omega⟩, ⟨by exact wU HB.out⟩⟩
      ·rw [if_neg c7] at H
       have c7b0 := beq_eq_false_iff_ne.mpr c7
       have c7b1 := bne_iff_ne.mpr c7
       have H' := aS H
       clear H
       go_wp2_with (first | ((with_reducible refine gate_callee (f := 71) rfl ?_); refine goesL_ (some 22) rfl rfl Tryd.func71 jK rfl #[.slice A0 l0.length c0, .int .i64 x5_1] rfl jA ?_; (with_reducible refine (impl_GetName.calls kj2 _ _ l0 x5_1 t421 t422 t423 _ ?side1 ?side2 A6.out).mono ?_); (case side1 => exact cU ((Kd.C_below HR0.out HB.out))); (case side2 => exact HC0.out); rintro e w11 ⟨rfl, hb⟩; refine ⟨_, rfl, ?_⟩; replace HB := aS (below_step (wU HB.out) hb); clear hb))
       go_roundg kj2
       case measure => have := HK1.out; have := HJ2.out; omega
       case rel => exact ⟨(wrap64 (x5_1 + 1)), jB, H', ⟨by have := HK1.out; have := HJ2.out; omega⟩, ⟨by exact wU HB.out⟩⟩
     ·replace c5 := Bool.eq_false_iff.mpr c5
      subst c5
      rw [if_neg Bool.false_ne_true] at H
      obtain rfl := Option.some.inj H
      go_wp2
      go_ret
      exact ⟨jE, by exact wU HB.out⟩

/-! ### impl_PutName: function 59 -/
mutual
def impl_PutName.l0 : Nat → List Int → ByteArray → List Int → List ByteArray → List ByteArray → Int → Int → Option (List Int)
 | 0, _, _, _, _, _, _, _ => none
 | k + 1, x0, x1, x5, x6, x21, x22, x23 => if x23 < x22 then (if 0 ≤ x23 then (if x23 < (x21.length : Int) then ((impl_PlaceOf.f k x0 (rdOf ByteArray.empty x21 x23)).bind fun t438 => (if (rdOf ByteArray.empty x21 x23).toList = ([] : List UInt8) then (impl_PutName.j1 k x0 x1 x5 x6 x23 t438 x21 x22 x23 true) else (impl_PutName.j1 k x0 x1 x5 x6 x23 t438 x21 x22 x23 (decide (t438 < 0))))) else (none)) else (none)) else ((impl_PutPlain.f k x0 x1).bind fun t434 => (some t434))
def impl_PutName.j1 : Nat → List Int → ByteArray → List Int → List ByteArray → Int → Int → List ByteArray → Int → Int → Bool → Option (List Int)
 | 0, _, _, _, _, _, _, _, _, _, _ => none
 | k + 1, x0, x1, x5, x6, x7, x9, x21, x22, x23, x36 => if x36 = true then (impl_PutName.l0 k x0 x1 x5 x6 x21 x22 (wrap64 (x23 + 1))) else (if 0 ≤ x7 then (if x7 ≤ (x6.length : Int) then ((some (x6.take (x7 : Int).toNat : List ByteArray)).bind fun y439 => (impl_PutName.l1 k x5 x9 y439 (y439.length : Int) 0)) else (none)) else (none))
def impl_PutName.l1 : Nat → List Int → Int → List ByteArray → Int → Int → Option (List Int)
 | 0, _, _, _, _, _ => none
 | k + 1, x5, x9, x39, x40, x41 => if x41 < x40 then (if 0 ≤ x41 then (if x41 < (x39.length : Int) then ((impl_PutLabel.f k x5 (rdOf ByteArray.empty x39 x41)).bind fun t444 => (impl_PutName.l1 k t444 x9 x39 x40 (wrap64 (x41 + 1)))) else (none)) else (none)) else ((some (([(wrap64 (192 + (wrap64 (Int.tdiv x9 256)))) % 256, (Int.tmod x9 256) % 256] : List Int) : List Int)).bind fun y447 => (if x5.length + y447.length < 140737488355328 then (some (x5 ++ y447)) else (none)))
end
def impl_PutName.f (k : Nat) (l0 : List Int) (a1 : ByteArray) : Option (List Int) := (slices_Clone_byte.f l0).bind fun t424 => ((impl_NameOk.f k a1).bind fun t427 => (if t427 = true then ((impl_Labels.f a1).bind fun t428 => ((impl_Above.f k a1).bind fun t431 => (impl_PutName.l0 k l0 a1 t424 t428 t431 (t431.length : Int) 0))) else (some t424)))
theorem impl_PutName.mono_l : ∀ k, (∀ y0 y1 y2 y3 y4 y5 y6, LeO (impl_PutName.l0 k y0 y1 y2 y3 y4 y5 y6) (impl_PutName.l0 (k + 1) y0 y1 y2 y3 y4 y5 y6)) ∧ (∀ y0 y1 y2 y3 y4 y5 y6 y7 y8 y9, LeO (impl_PutName.j1 k y0 y1 y2 y3 y4 y5 y6 y7 y8 y9) (impl_PutName.j1 (k + 1) y0 y1 y2 y3 y4 y5 y6 y7 y8 y9)) ∧ (∀ y0 y1 y2 y3 y4, LeO (impl_PutName.l1 k y0 y1 y2 y3 y4) (impl_PutName.l1 (k + 1) y0 y1 y2 y3 y4))
 | 0 => ⟨fun _ _ _ _ _ _ _ r h => by simp [impl_PutName.l0] at h, fun _ _ _ _ _ _ _ _ _ _ r h => by simp [impl_PutName.j1] at h, fun _ _ _ _ _ r h => by simp [impl_PutName.l1] at h⟩
 | k + 1 => by
  obtain ⟨ih0, ih1, ih2⟩ := impl_PutName.mono_l k
  refine ⟨?_, ?_, ?_⟩
  ·intro y0 y1 y2 y3 y4 y5 y6
   unfold impl_PutName.l0
   repeat' first
   | (with_reducible first | exact ih0 _ _ _ _ _ _ _ | exact ih1 _ _ _ _ _ _ _ _ _ _ | exact ih2 _ _ _ _ _ | exact impl_Above.mono _ _ | exact impl_NameOk.mono _ _ | exact impl_PlaceOf.mono _ _ _ | exact impl_PutLabel.mono _ _ _ | exact impl_PutPlain.mono _ _ _ | exact LeO.refl _ | exact LeO.none _ | refine LeO.ite ?_ ?_ | refine LeO.bind ?_ (fun _ => ?_))
   | exact ih0 _ _ _ _ _ _ _
   | exact ih1 _ _ _ _ _ _ _ _ _ _
   | exact ih2 _ _ _ _ _
   | exact impl_Above.mono _ _
   | exact impl_NameOk.mono _ _
   | exact impl_PlaceOf.mono _ _ _
   | exact impl_PutLabel.mono _ _ _
   | exact impl_PutPlain.mono _ _ _
   | exact LeO.none _
   | refine LeO.ite ?_ ?_
   | refine LeO.bind ?_ (fun _ => ?_)
  ·intro y0 y1 y2 y3 y4 y5 y6 y7 y8 y9
   unfold impl_PutName.j1
   repeat' first
   | (with_reducible first | exact ih0 _ _ _ _ _ _ _ | exact ih1 _ _ _ _ _ _ _ _ _ _ | exact ih2 _ _ _ _ _ | exact impl_Above.mono _ _ | exact impl_NameOk.mono _ _ | exact impl_PlaceOf.mono _ _ _ | exact impl_PutLabel.mono _ _ _ | exact impl_PutPlain.mono _ _ _ | exact LeO.refl _ | exact LeO.none _ | refine LeO.ite ?_ ?_ | refine LeO.bind ?_ (fun _ => ?_))
   | exact ih0 _ _ _ _ _ _ _
   | exact ih1 _ _ _ _ _ _ _ _ _ _
   | exact ih2 _ _ _ _ _
   | exact impl_Above.mono _ _
   | exact impl_NameOk.mono _ _
   | exact impl_PlaceOf.mono _ _ _
   | exact impl_PutLabel.mono _ _ _
   | exact impl_PutPlain.mono _ _ _
   | exact LeO.none _
   | refine LeO.ite ?_ ?_
   | refine LeO.bind ?_ (fun _ => ?_)
  ·intro y0 y1 y2 y3 y4
   unfold impl_PutName.l1
   repeat' first
   | (with_reducible first | exact ih0 _ _ _ _ _ _ _ | exact ih1 _ _ _ _ _ _ _ _ _ _ | exact ih2 _ _ _ _ _ | exact impl_Above.mono _ _ | exact impl_NameOk.mono _ _ | exact impl_PlaceOf.mono _ _ _ | exact impl_PutLabel.mono _ _ _ | exact impl_PutPlain.mono _ _ _ | exact LeO.refl _ | exact LeO.none _ | refine LeO.ite ?_ ?_ | refine LeO.bind ?_ (fun _ => ?_))
   | exact ih0 _ _ _ _ _ _ _
   | exact ih1 _ _ _ _ _ _ _ _ _ _
   | exact ih2 _ _ _ _ _
   | exact impl_Above.mono _ _
   | exact impl_NameOk.mono _ _
   | exact impl_PlaceOf.mono _ _ _
   | exact impl_PutLabel.mono _ _ _
   | exact impl_PutPlain.mono _ _ _
   | exact LeO.none _
   | refine LeO.ite ?_ ?_
   | refine LeO.bind ?_ (fun _ => ?_)
theorem impl_PutName.mono : ∀ a0 a1 k, LeO (impl_PutName.f k a0 a1) (impl_PutName.f (k + 1) a0 a1) := by
 intro a0 a1 k
 obtain ⟨ih0, ih1, ih2⟩ := impl_PutName.mono_l k
 unfold impl_PutName.f
 repeat' first
   | (with_reducible first | exact ih0 _ _ _ _ _ _ _ | exact ih1 _ _ _ _ _ _ _ _ _ _ | exact ih2 _ _ _ _ _ | exact impl_Above.mono _ _ | exact impl_NameOk.mono _ _ | exact impl_PlaceOf.mono _ _ _ | exact impl_PutLabel.mono _ _ _ | exact impl_PutPlain.mono _ _ _ | exact LeO.refl _ | exact LeO.none _ | refine LeO.ite ?_ ?_ | refine LeO.bind ?_ (fun _ => ?_))
   | exact ih0 _ _ _ _ _ _ _
   | exact ih1 _ _ _ _ _ _ _ _ _ _
   | exact ih2 _ _ _ _ _
   | exact impl_Above.mono _ _
   | exact impl_NameOk.mono _ _
   | exact impl_PlaceOf.mono _ _ _
   | exact impl_PutLabel.mono _ _ _
   | exact impl_PutPlain.mono _ _ _
   | exact LeO.none _
   | refine LeO.ite ?_ ?_
   | refine LeO.bind ?_ (fun _ => ?_)
set_option maxHeartbeats 8000000 in
set_option maxRecDepth 100000 in
theorem impl_PutName.calls (k : Nat) (A0 : Option Addr) (c0 : Nat) (l0 : List Int) (a1 : ByteArray) (r : List Int) (w : World) (hr0 : Kd.C (Kd.int .u8) w A0 l0.length l0) (hc0 : l0.length ≤ c0) (h : impl_PutName.f k l0 a1 = some r) :
  Calls Tryd.prog 59 #[.slice A0 l0.length c0, .string a1] w fun e w' => ∃ v0_ : Value, e = .returned (v0_) ∧ Kd.R (Kd.int .u8) 5 w' w.heap.size (fun _ => True) v0_ r ∧ Below w.heap.size w w' := by
 have HR0 := aS hr0
 have HC0 := aS hc0
 clear hr0 hc0
 have HB := aS (Below.refl w.heap.size w)
 have H : ((slices_Clone_byte.f l0).bind fun t424 => ((impl_NameOk.f k a1).bind fun t427 => (if t427 = true then ((impl_Labels.f a1).bind fun t428 => ((impl_Above.f k a1).bind fun t431 => (impl_PutName.l0 k l0 a1 t424 t428 t431 (t431.length : Int) 0))) else (some t424)))) = some r := h
 clear h
 obtain ⟨t424, A3, H⟩ := bM H
 try dsimp only at H
 obtain ⟨t427, A4, H⟩ := bM H
 try dsimp only at H
 by_cases c5 : t427 = true
 ·subst c5
  rw [if_pos rfl] at H
  obtain ⟨t428, A6, H⟩ := bM H
  try dsimp only at H
  obtain ⟨t431, A7, H⟩ := bM H
  try dsimp only at H
  have H' := aS H
  clear H
  go_enter Tryd.func59, Tryd.ntmps59
  go_wp2_with (first | ((with_reducible refine gate_callee (f := 114) rfl ?_); refine goesL_ (some 13) rfl rfl Tryd.func114 jK rfl #[.slice A0 l0.length c0] rfl jA ?_; (with_reducible refine (slices_Clone_byte.calls _ _ l0 t424 _ ?side1 ?side2 A3.out).mono ?_); (case side1 => exact cU (HR0.out)); (case side2 => exact HC0.out); rintro e w8 ⟨v425, rfl, ho0, hb⟩; refine ⟨_, rfl, ?_⟩; have HO426 := aS (Kd.R_lower ho0 (below_size (wU HB.out))); replace HB := aS (below_step (wU HB.out) hb); clear hb; (try clear ho0)) | ((with_reducible refine gate_callee (f := 67) rfl ?_); refine goesL_ (some 15) rfl rfl Tryd.func67 jK rfl #[.string a1] rfl jA ?_; (with_reducible refine (impl_NameOk.calls k a1 true _ A4.out).mono ?_); rintro e w9 ⟨rfl, hb⟩; refine ⟨_, rfl, ?_⟩; replace HO426 := aS (Kd.R_below (rU HO426.out) hb); replace HB := aS (below_step (wU HB.out) hb); clear hb) | ((with_reducible refine gate_callee (f := 115) rfl ?_); refine goesL_ (some 19) rfl rfl Tryd.func115 jK rfl #[.string a1] rfl jA ?_; (with_reducible refine (impl_Labels.calls a1 t428 _ A6.out).mono ?_); rintro e w10 ⟨v429, rfl, ho0, hb⟩; refine ⟨_, rfl, ?_⟩; replace HO426 := aS (Kd.R_below (rU HO426.out) hb); have HO430 := aS (Kd.R_lower ho0 (below_size (wU HB.out))); replace HB := aS (below_step (wU HB.out) hb); clear hb; (try clear ho0)) | ((with_reducible refine gate_callee (f := 116) rfl ?_); refine goesL_ (some 21) rfl rfl Tryd.func116 jK rfl #[.string a1] rfl jA ?_; (with_reducible refine (impl_Above.calls k a1 t431 _ A7.out).mono ?_); rintro e w11 ⟨v432, rfl, ho0, hb⟩; refine ⟨_, rfl, ?_⟩; replace HO426 := aS (Kd.R_below (rU HO426.out) hb); have HO433 := aS (Kd.R_lower (Kd.R_new' ho0 (Kd.R_lt (rU HO430.out))) (below_size (wU HB.out))); replace HO430 := aS (Kd.R_elder' (rU HO430.out) (Kd.R_base ho0) hb); replace HB := aS (below_step (wU HB.out) hb); clear hb; (try clear ho0); obtain ⟨Ao12, co12, eo12⟩ := Kd.R_slice HO433.out; subst eo12))
  go_loopg [5, 23] k (fun kq v5 v23 w' => ∃ (x5_1 : List Int) (x23_1 : Int), v23 = .int .i64 x23_1 ∧ Aside0 (impl_PutName.l0 kq l0 a1 x5_1 t428 t431 (t431.length : Int) x23_1 = some r) ∧ Aside0 (kq ≤ k) ∧ Aside0 (Kd.R (Kd.int .u8) 5 w' w.heap.size (fun _ => True) v5 x5_1) ∧ Aside0 (Kd.R Kd.string 9 w' w.heap.size (fun k_ => some k_ ≠ ((.slice Ao12 t431.length co12) : Value).ownBlock) v429 t428) ∧ Aside0 (Kd.R Kd.string 9 w' w.heap.size (fun k_ => some k_ ≠ (v429 : Value).ownBlock) (.slice Ao12 t431.length co12) t431) ∧ Aside0 (Below w.heap.size w w'))
  case atStart => exact ⟨(t424), (0), jB, H', ⟨Nat.le_refl _⟩, ⟨by exact rU HO426.out⟩, ⟨by (with_reducible repeat (first | apply Kd.R_alloc | apply Kd.R_drewN | apply Kd.R_drew)); exact Kd.R_mono HO430.out (fun _ hk => hk.2)⟩, ⟨by (with_reducible repeat (first | apply Kd.R_alloc | apply Kd.R_drewN | apply Kd.R_drew)); exact Kd.R_mono HO433.out (fun _ hk => hk.2)⟩, ⟨by exact wU HB.out⟩⟩
  case round =>
   clear H'
   try clear c1
   try clear p2
   try clear c5
   try clear c6
   try clear c11
   obtain ⟨x5_1, x23_1, rfl, HA, HK1, HO_5, HO_6, HO_21, HB⟩ := hrel
   cases gk with
   | zero => exact absurd HA.out (by simp [impl_PutName.l0])
   | succ k1 =>
    have H := HA.out
    clear HA
    simp only [impl_PutName.l0] at H
    by_cases c13 : x23_1 < (t431.length : Int)
    ·rw [if_pos c13] at H
     have c13b0 := decide_eq_true c13
     clear c13
     by_cases c14 : 0 ≤ x23_1
     ·rw [if_pos c14] at H
      have c14b0 := decide_eq_true c14
      clear c14
      by_cases c15 : x23_1 < (t431.length : Int)
      ·rw [if_pos c15] at H
       have c15b0 := decide_eq_true c15
       clear c15
       obtain ⟨t438, A16, H⟩ := bM H
       try dsimp only at H
       have HC17 := aS H
       clear H
       have p437 : 0 ≤ (x23_1 : Int) := of_decide_eq_true jC
       have q437 : x23_1 < (t431.length : Int) := of_decide_eq_true jC
       obtain ⟨ad437, e437, hx437_0⟩ := Kd.at_string (Kd.R_reads' HO_21.out).2.2 x23_1 p437 q437
       cases e437
       replace p437 := eq_true p437
       replace q437 := eq_true q437
       go_upto_region 9 with (first | ((with_reducible refine gate_callee (f := 117) rfl ?_); refine goesL_ (some 30) rfl rfl Tryd.func117 jK rfl #[.slice A0 l0.length c0, .string (rdOf ByteArray.empty t431 x23_1)] rfl jA ?_; (with_reducible refine (impl_PlaceOf.calls k1 _ _ l0 (rdOf ByteArray.empty t431 x23_1) t438 _ ?side1 ?side2 A16.out).mono ?_); (case side1 => exact cU ((Kd.C_below HR0.out HB.out))); (case side2 => exact HC0.out); rintro e w18 ⟨rfl, hb⟩; refine ⟨_, rfl, ?_⟩; replace HO_5 := aS (Kd.R_below (rU HO_5.out) hb); replace HO_6 := aS (Kd.R_below (rU HO_6.out) hb); replace HO_21 := aS (Kd.R_below (rU HO_21.out) hb); replace HB := aS (below_step (wU HB.out) hb); clear hb))
       (try simp only [Act.put, List.setIfInBounds_toArray, List.set_cons_zero, List.set_cons_succ])
       go_cut [36] (fun v36 wc => ∃ (kq : Nat) (x36_16 : Bool), v36 = .bool x36_16 ∧ Aside0 (impl_PutName.j1 kq l0 a1 x5_1 t428 x23_1 t438 t431 (t431.length : Int) x23_1 x36_16 = some r) ∧ Aside0 (kq ≤ k1) ∧ Aside0 (Kd.R (Kd.int .u8) 5 wc w.heap.size (fun _ => True) u5 x5_1) ∧ Aside0 (Kd.R Kd.string 9 wc w.heap.size (fun k_ => some k_ ≠ ((.slice (some ad437) t431.length co12) : Value).ownBlock) v429 t428) ∧ Aside0 (Kd.R Kd.string 9 wc w.heap.size (fun k_ => some k_ ≠ (v429 : Value).ownBlock) (.slice (some ad437) t431.length co12) t431) ∧ Aside0 (Below w.heap.size w wc))
       case first =>
        have H := HC17.out
        clear HC17
        by_cases c19 : (rdOf ByteArray.empty t431 x23_1).toList = ([] : List UInt8)
        ·rw [if_pos c19] at H
         have c19b0 := beq_iff_eq.mpr c19
         have c19b1 := bne_eq_false_iff_eq.mpr c19
         clear c19
         (first | rw [c19b0] | (simp only [i64_w, i32_w]; rw [c19b0]) | skip)
         have H' := aS H
         clear H
         go_wp2
         go_meet
         case rel => exact ⟨_, (true), jB, H', ⟨by have := HK1.out; first | omega | exact Nat.le_refl _⟩, ⟨by exact rU HO_5.out⟩, ⟨by exact rU HO_6.out⟩, ⟨by exact rU HO_21.out⟩, ⟨by exact wU HB.out⟩⟩
        ·rw [if_neg c19] at H
         have c19b0 := beq_eq_false_iff_ne.mpr c19
         have c19b1 := bne_iff_ne.mpr c19
         (first | rw [c19b0] | (simp only [i64_w, i32_w]; rw [c19b0]) | skip)
         have H' := aS H
         clear H
         go_wp2
         go_meet
         case rel => exact ⟨_, (decide (t438 < 0)), jB, H', ⟨by have := HK1.out; first | omega | exact Nat.le_refl _⟩, ⟨by exact rU HO_5.out⟩, ⟨by exact rU HO_6.out⟩, ⟨by exact rU HO_21.out⟩, ⟨by exact wU HB.out⟩⟩
       case rest =>
        clear HC17
        try clear c1
        try clear p2
        try clear p4
        try clear q4
        try clear hx4
        try clear c5
        try clear c6
        try clear c11
        try clear c13
        try clear c13b0
        try clear c14
        try clear c14b0
        try clear c15
        try clear c15b0
        try clear c19
        try clear c19b0
        try clear c19b1
        try clear hx437_0
        try clear p2
        try clear p437
        try clear q437
        obtain ⟨kq, x36_16, rfl, HA, HJ16, HO_5, HO_6, HO_21, HB⟩ := hcut
        cases kq with
        | zero => exact absurd HA.out (by simp [impl_PutName.j1])
        | succ kj16 =>
         have H := HA.out
         clear HA
         simp only [impl_PutName.j1] at H
         by_cases c20 : x36_16 = true
         ·subst c20
          rw [if_pos rfl] at H
          have H' := aS H
          clear H
          go_wp2
          go_roundg kj16
          case measure => have := HK1.out; have := HJ16.out; omega
          case rel => exact ⟨(x5_1), (wrap64 (x23_1 + 1)), jB, H', ⟨by have := HK1.out; have := HJ16.out; omega⟩, ⟨by exact rU HO_5.out⟩, ⟨by exact rU HO_6.out⟩, ⟨by exact rU HO_21.out⟩, ⟨by exact wU HB.out⟩⟩
         ·replace c20 := Bool.eq_false_iff.mpr c20
          subst c20
          rw [if_neg Bool.false_ne_true] at H
          by_cases c21 : 0 ≤ x23_1
          ·rw [if_pos c21] at H
           have c21b0 := eq_true c21
           have c21b1 := decide_eq_true c21
           clear c21
           by_cases c22 : x23_1 ≤ (t428.length : Int)
           ·rw [if_pos c22] at H
            have c22b0 := eq_true c22
            have c22b1 := decide_eq_true c22
            clear c22
            obtain ⟨y439, hy_⟩ : ∃ y_ : List ByteArray, y_ = (t428.take (x23_1 : Int).toNat) := ⟨_, rfl⟩
            replace H : (impl_PutName.l1 kj16 x5_1 t438 y439 (y439.length : Int) 0) = some r := jD
            have Ny439 := aS hy_
            clear hy_
            have H' := aS H
            clear H
            obtain ⟨Ao24, co24, eo24⟩ := Kd.R_slice HO_6.out
            subst eo24
            have q23 : (x23_1 : Int) ≤ ((t428.length : Int) : Int) := of_decide_eq_true jC
            obtain ⟨i023, hi023, _, hsz23, _⟩ := info_parts info9
            have hroom23 : t428.length ≤ co24 := (Kd.R_reads' HO_6.out).2.1
            have hC23 : Kd.C Kd.string _ Ao24 t428.length t428 := (Kd.R_reads' HO_6.out).2.2
            have hcut23 := cut_to (P := Tryd.prog) 108 9 .i64 Tryd.underlying108 hi023 Ao24 t428.length co24 x23_1 (of_decide_eq_true jC) q23 hroom23
            have hr23 := Kd.C_take (m := (x23_1 : Int).toNat) hC23 (by omega)
            have hy23 : y439.length = (x23_1 : Int).toNat := (by rw [Ny439.out, List.length_take]; omega)
            rw [← Ny439.out] at hr23
            rw [← hy23] at hcut23
            have HR442 := aS hr23
            have HC442 := aS (show y439.length ≤ co24 from by omega)
            clear hr23 hC23 hroom23 hi023 hsz23
            have KY23 := aS hy23
            clear hy23
            have KL23 := aS (show (x23_1 : Int).toNat ≤ t428.length from by omega)
            replace q23 := eq_true q23
            go_wp2
            go_loopg [5, 41] kj16 (fun kq v5 v41 w' => ∃ (x5_3 : List Int) (x41_3 : Int), v41 = .int .i64 x41_3 ∧ Aside0 (impl_PutName.l1 kq x5_3 t438 y439 (y439.length : Int) x41_3 = some r) ∧ Aside0 (kq ≤ kj16) ∧ Aside0 (Kd.R (Kd.int .u8) 5 w' w.heap.size (fun _ => True) v5 x5_3) ∧ Aside0 (Kd.C Kd.string w' Ao24 y439.length y439) ∧ Aside0 (Below w.heap.size w w'))
            case atStart => exact ⟨(x5_1), (0), jB, H', ⟨Nat.le_refl _⟩, ⟨by exact rU HO_5.out⟩, ⟨by repeat (first | (with_reducible exact HR442.out) | (with_reducible refine Kd.C_alloc ?_ _) | (with_reducible refine Kd.C_drewN ?_ _) | (with_reducible refine Kd.C_drew ?_) | exact HR442.out)⟩, ⟨by exact wU HB.out⟩⟩
            case round =>
             clear H'
             try clear c1
             try clear c2
             try clear p2
             try clear q2
             try clear p4
             try clear q4
             try clear hx4
             try clear c5
             try clear c6
             try clear p6
             try clear c11
             try clear c13
             try clear c13b0
             try clear c14
             try clear c14b0
             try clear c15
             try clear c15b0
             try clear c19
             try clear c19b0
             try clear c19b1
             try clear c20
             try clear c21
             try clear c21b0
             try clear c21b1
             try clear c22
             try clear c22b0
             try clear c22b1
             try clear q23
             try clear hx437_0
             try clear p2
             try clear p4
             try clear p437
             try clear q23
             try clear q4
             try clear q437
             obtain ⟨x5_3, x41_3, rfl, HA, HK3, HO_5, HR442, HB⟩ := hrel
             cases gk with
             | zero => exact absurd HA.out (by simp [impl_PutName.l1])
             | succ k3 =>
              have H := HA.out
              clear HA
              simp only [impl_PutName.l1] at H
              by_cases c25 : x41_3 < (y439.length : Int)
              ·rw [if_pos c25] at H
               have c25b0 := decide_eq_true c25
               clear c25
               by_cases c26 : 0 ≤ x41_3
               ·rw [if_pos c26] at H
                have c26b0 := decide_eq_true c26
                clear c26
                by_cases c27 : x41_3 < (y439.length : Int)
                ·rw [if_pos c27] at H
                 have c27b0 := decide_eq_true c27
                 clear c27
                 obtain ⟨t444, A28, H⟩ := bM H
                 try dsimp only at H
                 have H' := aS H
                 clear H
                 have p443 : 0 ≤ (x41_3 : Int) := of_decide_eq_true jC
                 have q443 : x41_3 < (y439.length : Int) := of_decide_eq_true jC
                 obtain ⟨ad443, e443, hx443_0⟩ := Kd.at_string HR442.out x41_3 p443 q443
                 cases e443
                 try replace hx443_0 := (HB.out.cell (World.block_lt_of_cell? w _ hx443_0)).trans hx443_0
                 replace p443 := eq_true p443
                 replace q443 := eq_true q443
                 obtain ⟨Ao29, co29, eo29⟩ := Kd.R_slice HO_5.out
                 subst eo29
                 go_wp2_with (first | ((with_reducible refine gate_callee (f := 118) rfl ?_); refine goesL_ (some 47) rfl rfl Tryd.func118 jK rfl #[.slice Ao29 x5_3.length co29, .string (rdOf ByteArray.empty y439 x41_3)] rfl jA ?_; (with_reducible refine (impl_PutLabel.calls k3 _ _ x5_3 (rdOf ByteArray.empty y439 x41_3) t444 _ ?side1 ?side2 A28.out).mono ?_); (case side1 => exact cU ((Kd.R_reads' HO_5.out).2.2)); (case side2 => exact (Kd.R_reads' HO_5.out).2.1); rintro e w30 ⟨v445, rfl, ho0, hb⟩; refine ⟨_, rfl, ?_⟩; have HO446 := aS (Kd.R_lower (Kd.R_new' ho0 (Kd.R_lt (rU HO_5.out))) (below_size (wU HB.out))); replace HO_5 := aS (Kd.R_elder' (rU HO_5.out) (Kd.R_base ho0) hb); replace HR442 := aS (Kd.C_below (by repeat (first | (with_reducible exact HR442.out) | (with_reducible refine Kd.C_alloc ?_ _) | (with_reducible refine Kd.C_drewN ?_ _) | (with_reducible refine Kd.C_drew ?_) | exact HR442.out)) hb); replace HB := aS (below_step (wU HB.out) hb); clear hb; (try clear ho0)))
                 go_roundg k3
                 case measure => have := HK1.out; have := HJ16.out; have := HK3.out; omega
                 case rel => exact ⟨(t444), (wrap64 (x41_3 + 1)), jB, H', ⟨by have := HK1.out; have := HJ16.out; have := HK3.out; omega⟩, ⟨Kd.R_mono (rU HO446.out) (fun _ hk => trivial)⟩, ⟨by repeat (first | (with_reducible exact HR442.out) | (with_reducible refine Kd.C_alloc ?_ _) | (with_reducible refine Kd.C_drewN ?_ _) | (with_reducible refine Kd.C_drew ?_) | exact HR442.out)⟩, ⟨by exact wU HB.out⟩⟩
                ·rw [if_neg c27] at H
                 exact absurd H (by simp)
               ·rw [if_neg c26] at H
                exact absurd H (by simp)
              ·rw [if_neg c25] at H
               have c25b0 := decide_eq_false c25
               clear c25
               obtain ⟨y447, hy_⟩ : ∃ y_ : List Int, y_ = (([(wrap64 (192 + (wrap64 (Int.tdiv t438 256)))) % 256, (Int.tmod t438 256) % 256] : List Int)) := ⟨_, rfl⟩
               replace H : (if x5_3.length + y447.length < 140737488355328 then (some (x5_3 ++ y447)) else (none)) = some r := jD
               have Ny447 := aS hy_
               clear hy_
               by_cases c31 : x5_3.length + y447.length < 140737488355328
               ·rw [if_pos c31] at H
                have LMc31 := aS c31
                clear c31
                obtain ⟨y450, hy_⟩ : ∃ y_ : List Int, y_ = (x5_3 ++ y447) := ⟨_, rfl⟩
                replace H : (some y450) = some r := jD
                have Ny450 := aS hy_
                clear hy_
                obtain rfl := Option.some.inj H
                go_wp2_with (first | ((with_reducible refine gate_dst (N := 57) rfl ?_); refine Kd.R_lit (Kd.int .u8) _ 5 ?hg (N := 57) ?hd (xs := ([(wrap64 (192 + (wrap64 (Int.tdiv t438 256)))) % 256, (Int.tmod t438 256) % 256] : List Int)) (inner := [.int .u8 ((wrap64 (192 + (wrap64 (Int.tdiv t438 256)))) % 256), .int .u8 ((Int.tmod t438 256) % 256)]) (ok := fun _ => True) (okp := fun _ => True) ?hr ?hp (fun _ hk => hk) trivial (Below.refl _ _) (Nat.le_refl _) (by simp) ?_; (case hd => rfl); (case hg => rfl); (case hr => first | (go_simp; done) | (go_simp; rfl)); (case hp => exact (Reps.one (show Kd.M (Kd.int .u8) _ _ _ ((wrap64 (192 + (wrap64 (Int.tdiv t438 256)))) % 256) [.int .u8 ((wrap64 (192 + (wrap64 (Int.tdiv t438 256)))) % 256)] from rfl) (Reps.one (show Kd.M (Kd.int .u8) _ _ _ ((Int.tmod t438 256) % 256) [.int .u8 ((Int.tmod t438 256) % 256)] from rfl) (Reps.none _ _)))); intro v448 w32 ho33 hb hg_ hnew_; clear hg_ hnew_; (first | rw [← Ny447.out] at ho33 | (simp only [Int.reduceToNat] at ho33; rw [← Ny447.out] at ho33)); have HO449 := aS (Kd.R_lower (Kd.R_new' ho33 (Kd.R_lt (rU HO_5.out))) (below_size (wU HB.out))); replace HO_5 := aS (Kd.R_elder' (rU HO_5.out) (Kd.R_base ho33) hb); replace HR442 := aS (Kd.C_below (by repeat (first | (with_reducible exact HR442.out) | (with_reducible refine Kd.C_alloc ?_ _) | (with_reducible refine Kd.C_drewN ?_ _) | (with_reducible refine Kd.C_drew ?_) | exact HR442.out)) hb); replace HB := aS (below_step (wU HB.out) hb); clear hb ho33; obtain ⟨Ao35, co35, eo35⟩ := Kd.R_slice HO449.out; subst eo35) | ((with_reducible refine gate_builtin (b := .append) (xs := #[.tmp 49, .tmp 57]) rfl ?_); at_builtin; refine Kd.R_append_rows (Kd.int .u8) (w0 := w) w.heap.size rfl (.tmp 49) (.tmp 57) 22 5 (.int .u8 0) 1 rfl Tryd.underlying22 info5 rfl (by decide) (by omega) u5 x5_3 y447 _ _ _ (fun k_ => some k_ ≠ (.slice Ao35 y447.length co35 : Value).ownBlock) (fun _ => False) rfl rfl ?aO ?aR (fun _ _ h => h) (fun _ h => h.elim) ?aF ?aB ?aS ?aL ?_; (case aR => exact cU ((Kd.R_reads' HO449.out).2.2)); (case aB => exact (wU HB.out)); (case aF => exact (fun k_ hk => Kd.fresh' (Kd.R_lt (rU HO449.out)) k_ hk)); (case aO => exact (by (with_reducible repeat (first | apply Kd.R_alloc | apply Kd.R_drewN | apply Kd.R_drew)); exact Kd.R_mono HO_5.out (fun _ hk => hk.2))); (case aS => exact (below_size (wU HB.out))); (case aL => have := LMc31.out; omega); intro v451 w34 ho hb hg hat; rw [← Ny450.out] at ho; replace HO449 := aS (Kd.R_after (ok := (fun _ => True)) (rU HO449.out) hg hat); replace HB := aS (hb); have HO452 := aS (ho); clear HO_5; clear ho hb hg hat))
                go_ret
                exact ⟨_, jE, Kd.R_mono (rU HO452.out) (fun _ hk => trivial), by exact wU HB.out⟩
               ·rw [if_neg c31] at H
                exact absurd H (by simp)
           ·rw [if_neg c22] at H
            exact absurd H (by simp)
          ·rw [if_neg c21] at H
           exact absurd H (by simp)
      ·rw [if_neg c15] at H
       exact absurd H (by simp)
     ·rw [if_neg c14] at H
      exact absurd H (by simp)
    ·rw [if_neg c13] at H
     have c13b0 := decide_eq_false c13
     clear c13
     obtain ⟨t434, A36, H⟩ := bM H
     try dsimp only at H
     obtain rfl := Option.some.inj H
     go_wp2_with (first | ((with_reducible refine gate_callee (f := 62) rfl ?_); refine goesL_ (some 62) rfl rfl Tryd.func62 jK rfl #[.slice A0 l0.length c0, .string a1] rfl jA ?_; (with_reducible refine (impl_PutPlain.calls k1 _ _ l0 a1 t434 _ ?side1 ?side2 A36.out).mono ?_); (case side1 => exact cU ((Kd.C_below HR0.out HB.out))); (case side2 => exact HC0.out); rintro e w37 ⟨v435, rfl, ho0, hb⟩; refine ⟨_, rfl, ?_⟩; replace HO_6 := aS (Kd.R_below (rU HO_6.out) hb); replace HO_21 := aS (Kd.R_below (rU HO_21.out) hb); have HO436 := aS (Kd.R_lower (Kd.R_new' ho0 (Kd.R_lt (rU HO_5.out))) (below_size (wU HB.out))); replace HO_5 := aS (Kd.R_elder' (rU HO_5.out) (Kd.R_base ho0) hb); replace HB := aS (below_step (wU HB.out) hb); clear hb; (try clear ho0)))
     go_ret
     exact ⟨_, jE, Kd.R_mono (rU HO436.out) (fun _ hk => trivial), by exact wU HB.out⟩
 ·replace c5 := Bool.eq_false_iff.mpr c5
  subst c5
  rw [if_neg Bool.false_ne_true] at H
  obtain rfl := Option.some.inj H
  go_enter Tryd.func59, Tryd.ntmps59
  go_wp2_with (first | ((with_reducible refine gate_callee (f := 114) rfl ?_); refine goesL_ (some 13) rfl rfl Tryd.func114 jK rfl #[.slice A0 l0.length c0] rfl jA ?_; (with_reducible refine (slices_Clone_byte.calls _ _ l0 t424 _ ?side1 ?side2 A3.out).mono ?_); (case side1 => exact cU (HR0.out)); (case side2 => exact HC0.out); rintro e w38 ⟨v425, rfl, ho0, hb⟩; refine ⟨_, rfl, ?_⟩; have HO426 := aS (Kd.R_lower ho0 (below_size (wU HB.out))); replace HB := aS (below_step (wU HB.out) hb); clear hb; (try clear ho0)) | ((with_reducible refine gate_callee (f := 67) rfl ?_); refine goesL_ (some 15) rfl rfl Tryd.func67 jK rfl #[.string a1] rfl jA ?_; (with_reducible refine (impl_NameOk.calls k a1 false _ A4.out).mono ?_); rintro e w39 ⟨rfl, hb⟩; refine ⟨_, rfl, ?_⟩; replace HO426 := aS (Kd.R_below (rU HO426.out) hb); replace HB := aS (below_step (wU HB.out) hb); clear hb))
  go_ret
  exact ⟨_, jE, by exact rU HO426.out, by exact wU HB.out⟩

/-! ### impl_Put2: function 61 -/
def impl_Put2.f (k : Nat) (l0 : List Int) (a1 : Int) : Option (List Int) := (impl_putBytes.f k l0 a1 2 65535).bind fun t453 => (some t453)
theorem impl_Put2.mono : ∀ a0 a1 k, LeO (impl_Put2.f k a0 a1) (impl_Put2.f (k + 1) a0 a1) := by
 intro a0 a1 k
 unfold impl_Put2.f
 repeat' first
   | (with_reducible first | exact impl_putBytes.mono _ _ _ _ _ | exact LeO.refl _ | exact LeO.none _ | refine LeO.ite ?_ ?_ | refine LeO.bind ?_ (fun _ => ?_))
   | exact impl_putBytes.mono _ _ _ _ _
   | exact LeO.none _
   | refine LeO.ite ?_ ?_
   | refine LeO.bind ?_ (fun _ => ?_)
set_option maxHeartbeats 8000000 in
set_option maxRecDepth 100000 in
theorem impl_Put2.calls (k : Nat) (A0 : Option Addr) (c0 : Nat) (l0 : List Int) (a1 : Int) (r : List Int) (w : World) (hr0 : Kd.C (Kd.int .u8) w A0 l0.length l0) (hc0 : l0.length ≤ c0) (h : impl_Put2.f k l0 a1 = some r) :
  Calls Tryd.prog 61 #[.slice A0 l0.length c0, .int .i64 a1] w fun e w' => ∃ v0_ : Value, e = .returned (v0_) ∧ Kd.R (Kd.int .u8) 5 w' w.heap.size (fun _ => True) v0_ r ∧ Below w.heap.size w w' := by
 have HR0 := aS hr0
 have HC0 := aS hc0
 clear hr0 hc0
 have HB := aS (Below.refl w.heap.size w)
 have H : ((impl_putBytes.f k l0 a1 2 65535).bind fun t453 => (some t453)) = some r := h
 clear h
 obtain ⟨t453, A3, H⟩ := bM H
 try dsimp only at H
 obtain rfl := Option.some.inj H
 go_enter Tryd.func61, Tryd.ntmps61
 go_wp2_with (first | ((with_reducible refine gate_callee (f := 119) rfl ?_); refine goesL_ (some 7) rfl rfl Tryd.func119 jK rfl #[.slice A0 l0.length c0, .int .i64 a1, .int .i64 2, .int .i64 65535] rfl jA ?_; (with_reducible refine (impl_putBytes.calls k _ _ l0 a1 2 65535 t453 _ ?side1 ?side2 A3.out).mono ?_); (case side1 => exact cU (HR0.out)); (case side2 => exact HC0.out); rintro e w4 ⟨v454, rfl, ho0, hb⟩; refine ⟨_, rfl, ?_⟩; have HO455 := aS (Kd.R_lower ho0 (below_size (wU HB.out))); replace HB := aS (below_step (wU HB.out) hb); clear hb; (try clear ho0)))
 go_ret
 exact ⟨_, jE, by exact rU HO455.out, by exact wU HB.out⟩

/-! ### impl_PutRecord: function 10 -/
def impl_PutRecord.f (k : Nat) (l0 : List Int) (a1_0 : ByteArray) (a1_1 : Int) (a1_2 : Int) (a1_3 : Int) (a1_4 : ByteArray) (a1_5 : ByteArray) : Option (List Int) := (some (([] : List Int) : List Int)).bind fun y457 => (if y457.length + l0.length < 140737488355328 then ((some (y457 ++ l0 : List Int)).bind fun y460 => ((impl_RecordOk.f k a1_0 a1_1 a1_2 a1_3 a1_4 a1_5).bind fun t463 => (if t463 = true then ((impl_PutData.f k a1_0 a1_1 a1_2 a1_3 a1_4 a1_5).bind fun t464 => ((impl_PutName.f k y460 a1_0).bind fun t467 => ((impl_Put2.f k t467 a1_1).bind fun t470 => ((impl_Put2.f k t470 1).bind fun t473 => ((impl_Put4.f k t473 a1_2).bind fun t476 => ((impl_Put2.f k t476 (t464.length : Int)).bind fun t479 => (if t479.length + t464.length < 140737488355328 then (some (t479 ++ t464)) else (none)))))))) else (some y460)))) else (none))
theorem impl_PutRecord.mono : ∀ a0 a1 a2 a3 a4 a5 a6 k, LeO (impl_PutRecord.f k a0 a1 a2 a3 a4 a5 a6) (impl_PutRecord.f (k + 1) a0 a1 a2 a3 a4 a5 a6) := by
 intro a0 a1 a2 a3 a4 a5 a6 k
 unfold impl_PutRecord.f
 repeat' first
   | (with_reducible first | exact impl_Put2.mono _ _ _ | exact impl_Put4.mono _ _ _ | exact impl_PutData.mono _ _ _ _ _ _ _ | exact impl_PutName.mono _ _ _ | exact impl_RecordOk.mono _ _ _ _ _ _ _ | exact LeO.refl _ | exact LeO.none _ | refine LeO.ite ?_ ?_ | refine LeO.bind ?_ (fun _ => ?_))
   | exact impl_Put2.mono _ _ _
   | exact impl_Put4.mono _ _ _
   | exact impl_PutData.mono _ _ _ _ _ _ _
   | exact impl_PutName.mono _ _ _
   | exact impl_RecordOk.mono _ _ _ _ _ _ _
   | exact LeO.none _
   | refine LeO.ite ?_ ?_
   | refine LeO.bind ?_ (fun _ => ?_)
def impl_PutRecord.T6 : Bool × List (List Nat × List Nat) := (true, [([], []), ([], []), ([1], [1]), ([0, 2], [0, 2]), ([3, 3], [3]), ([], []), ([5], [5]), ([4, 6, 4], [4, 6]), ([7, 7, 0, 1, 2, 3, 4, 5, 6, 7], [0, 7])])
def impl_PutRecord.B6 : List Nat := [0, 0, 2, 7, 15, 0, 32, 127, 255]
theorem impl_PutRecord.tab6 : rtab .any (opsOf Tryd.f10 6) = impl_PutRecord.T6 := by kernel_rfl
theorem impl_PutRecord.bits6 : waitsOk impl_PutRecord.T6.2 impl_PutRecord.B6 = true := by kernel_rfl
set_option maxHeartbeats 8000000 in
set_option maxRecDepth 100000 in
theorem impl_PutRecord.calls (k : Nat) (A0 : Option Addr) (c0 : Nat) (l0 : List Int) (a1_0 : ByteArray) (a1_1 : Int) (a1_2 : Int) (a1_3 : Int) (a1_4 : ByteArray) (a1_5 : ByteArray) (r : List Int) (w : World) (hr0 : Kd.C (Kd.int .u8) w A0 l0.length l0) (hc0 : l0.length ≤ c0) (h : impl_PutRecord.f k l0 a1_0 a1_1 a1_2 a1_3 a1_4 a1_5 = some r) :
  Calls Tryd.prog 10 #[.slice A0 l0.length c0, .agg #[.string a1_0, .int .i64 a1_1, .int .i64 a1_2, .int .i64 a1_3, .string a1_4, .string a1_5]] w fun e w' => ∃ v0_ : Value, e = .returned (v0_) ∧ Kd.R (Kd.int .u8) 5 w' w.heap.size (fun _ => True) v0_ r ∧ Below w.heap.size w w' := by
 have hu25 := Tryd.underlying25
 have HR0 := aS hr0
 have HC0 := aS hc0
 clear hr0 hc0
 have HB := aS (Below.refl w.heap.size w)
 have H : ((some (([] : List Int) : List Int)).bind fun y457 => (if y457.length + l0.length < 140737488355328 then ((some (y457 ++ l0 : List Int)).bind fun y460 => ((impl_RecordOk.f k a1_0 a1_1 a1_2 a1_3 a1_4 a1_5).bind fun t463 => (if t463 = true then ((impl_PutData.f k a1_0 a1_1 a1_2 a1_3 a1_4 a1_5).bind fun t464 => ((impl_PutName.f k y460 a1_0).bind fun t467 => ((impl_Put2.f k t467 a1_1).bind fun t470 => ((impl_Put2.f k t470 1).bind fun t473 => ((impl_Put4.f k t473 a1_2).bind fun t476 => ((impl_Put2.f k t476 (t464.length : Int)).bind fun t479 => (if t479.length + t464.length < 140737488355328 then (some (t479 ++ t464)) else (none)))))))) else (some y460)))) else (none))) = some r := h
 clear h
 obtain ⟨y457, hy_⟩ : ∃ y_ : List Int, y_ = (([] : List Int)) := ⟨_, rfl⟩
 replace H : (if y457.length + l0.length < 140737488355328 then ((some (y457 ++ l0 : List Int)).bind fun y460 => ((impl_RecordOk.f k a1_0 a1_1 a1_2 a1_3 a1_4 a1_5).bind fun t463 => (if t463 = true then ((impl_PutData.f k a1_0 a1_1 a1_2 a1_3 a1_4 a1_5).bind fun t464 => ((impl_PutName.f k y460 a1_0).bind fun t467 => ((impl_Put2.f k t467 a1_1).bind fun t470 => ((impl_Put2.f k t470 1).bind fun t473 => ((impl_Put4.f k t473 a1_2).bind fun t476 => ((impl_Put2.f k t476 (t464.length : Int)).bind fun t479 => (if t479.length + t464.length < 140737488355328 then (some (t479 ++ t464)) else (none)))))))) else (some y460)))) else (none)) = some r := jD
 have Ny457 := aS hy_
 clear hy_
 by_cases c3 : y457.length + l0.length < 140737488355328
 ·rw [if_pos c3] at H
  have LMc3 := aS c3
  clear c3
  obtain ⟨y460, hy_⟩ : ∃ y_ : List Int, y_ = (y457 ++ l0) := ⟨_, rfl⟩
  replace H : ((impl_RecordOk.f k a1_0 a1_1 a1_2 a1_3 a1_4 a1_5).bind fun t463 => (if t463 = true then ((impl_PutData.f k a1_0 a1_1 a1_2 a1_3 a1_4 a1_5).bind fun t464 => ((impl_PutName.f k y460 a1_0).bind fun t467 => ((impl_Put2.f k t467 a1_1).bind fun t470 => ((impl_Put2.f k t470 1).bind fun t473 => ((impl_Put4.f k t473 a1_2).bind fun t476 => ((impl_Put2.f k t476 (t464.length : Int)).bind fun t479 => (if t479.length + t464.length < 140737488355328 then (some (t479 ++ t464)) else (none)))))))) else (some y460))) = some r := jD
  have Ny460 := aS hy_
  clear hy_
  obtain ⟨t463, A4, H⟩ := bM H
  try dsimp only at H
  by_cases c5 : t463 = true
  ·subst c5
   rw [if_pos rfl] at H
   obtain ⟨t464, A6, H⟩ := bM H
   try dsimp only at H
   obtain ⟨t467, A7, H⟩ := bM H
   try dsimp only at H
   obtain ⟨t470, A8, H⟩ := bM H
   try dsimp only at H
   obtain ⟨t473, A9, H⟩ := bM H
   try dsimp only at H
   obtain ⟨t476, A10, H⟩ := bM H
   try dsimp only at H
   obtain ⟨t479, A11, H⟩ := bM H
   try dsimp only at H
   by_cases c12 : t479.length + t464.length < 140737488355328
   ·rw [if_pos c12] at H
    have LMc12 := aS c12
    clear c12
    obtain ⟨y482, hy_⟩ : ∃ y_ : List Int, y_ = (t479 ++ t464) := ⟨_, rfl⟩
    replace H : (some y482) = some r := jD
    have Ny482 := aS hy_
    clear hy_
    obtain rfl := Option.some.inj H
    go_enter Tryd.func10, Tryd.ntmps10
    try go_wp2_with (first | ((with_reducible refine gate_dst (N := 3) rfl ?_); refine box_event ?hg (N := 3) ?hd (cs := #[.string a1_0, .int .i64 a1_1, .int .i64 a1_2, .int .i64 a1_3, .string a1_4, .string a1_5]) (t := 25) ?hr ?_; (case hd => rfl); (case hg => rfl); (case hr => first | (go_simp; done) | (go_simp; rfl)); intro gb456 hg w13 hbox hb; have BK456 := aS (hbox); have GW456 := aS ((by rw [hg]; exact (below_size (wU HB.out)) : w.heap.size ≤ gb456)); have GE456 := aS ((by rw [hg]; exact (below_size (wU HB.out)) : w.heap.size ≤ gb456)); replace HB := aS (below_step (wU HB.out) hb); clear hb hbox hg) | ((with_reducible refine gate_dst (N := 7) rfl ?_); refine Kd.R_lit (Kd.int .u8) _ 5 ?hg (N := 7) ?hd (xs := ([] : List Int)) (inner := []) (ok := fun _ => True) (okp := fun _ => True) ?hr ?hp (fun _ hk => hk) trivial (Below.refl _ _) (Nat.le_refl _) (by simp) ?_; (case hd => rfl); (case hg => rfl); (case hr => first | (go_simp; done) | (go_simp; rfl)); (case hp => exact (Reps.none _ _)); intro v458 w14 ho15 hb hg_ hnew_; clear hg_ hnew_; (first | rw [← Ny457.out] at ho15 | (simp only [Int.reduceToNat] at ho15; rw [← Ny457.out] at ho15)); have HO459 := aS (Kd.R_lower ho15 (below_size (wS1 HB.out GE456.out))); replace BK456 := aS (blk_below (bU BK456.out) hb); replace HB := aS (below_step (wS1 HB.out GE456.out) hb); clear hb ho15) | ((with_reducible refine gate_builtin (b := .append) (xs := #[.tmp 7, .tmp 8]) rfl ?_); at_builtin; refine Kd.R_append_rows (Kd.int .u8) (w0 := w) w.heap.size rfl (.tmp 7) (.tmp 8) 22 5 (.int .u8 0) 1 rfl Tryd.underlying22 info5 rfl (by decide) (by omega) v458 y457 l0 _ _ _ (fun _ => True) (fun _ => False) rfl rfl ?aO ?aR (fun _ _ h => h) (fun _ h => h.elim) ?aF ?aB ?aS ?aL ?_; (case aR => exact cU ((Kd.C_below HR0.out HB.out))); (case aB => exact (wS1 HB.out GE456.out)); (case aF => exact (fun _ _ => trivial)); (case aO => exact (rU HO459.out)); (case aS => exact (below_size (wS1 HB.out GE456.out))); (case aL => have := LMc3.out; omega); intro v461 w16 ho hb hg hat; rw [← Ny460.out] at ho; replace BK456 := aS (blk_grown (g := gb456) (o := .cells #[.string a1_0, .int .i64 a1_1, .int .i64 a1_2, .int .i64 a1_3, .string a1_4, .string a1_5] 25 (0, 0)) (bU BK456.out) hg (Kd.R_ne HO459.out BK456.out (by decide))); replace HB := aS (hb); have HO462 := aS (ho); clear HO459; clear ho hb hg hat; have hcz17 := cells6f BK456.out) | ((with_reducible refine gate_callee (f := 15) rfl ?_); refine goesL_ (some 11) rfl rfl Tryd.func15 jK rfl #[.agg #[.string a1_0, .int .i64 a1_1, .int .i64 a1_2, .int .i64 a1_3, .string a1_4, .string a1_5]] rfl jA ?_; (with_reducible refine (impl_RecordOk.calls k a1_0 a1_1 a1_2 a1_3 a1_4 a1_5 true _ A4.out).mono ?_); rintro e w18 ⟨rfl, hb⟩; refine ⟨_, rfl, ?_⟩; replace HO462 := aS (Kd.R_below (rU HO462.out) hb); replace BK456 := aS (blk_below (bU BK456.out) hb); replace HB := aS (below_step (wS1 HB.out GE456.out) hb); clear hb; have hcz19 := cells6f BK456.out) | ((with_reducible refine gate_callee (f := 11) rfl ?_); refine goesL_ (some 15) rfl rfl Tryd.func11 jK rfl #[.agg #[.string a1_0, .int .i64 a1_1, .int .i64 a1_2, .int .i64 a1_3, .string a1_4, .string a1_5]] rfl jA ?_; (with_reducible refine (impl_PutData.calls k a1_0 a1_1 a1_2 a1_3 a1_4 a1_5 t464 _ A6.out).mono ?_); rintro e w20 ⟨v465, rfl, ho0, hb⟩; refine ⟨_, rfl, ?_⟩; have HO466 := aS (Kd.R_lower (Kd.R_new' ho0 (Kd.R_lt (rU HO462.out))) (below_size (wS1 HB.out GE456.out))); replace HO462 := aS (Kd.R_elder' (rU HO462.out) (Kd.R_base ho0) hb); replace BK456 := aS (blk_below (bU BK456.out) hb); replace HB := aS (below_step (wS1 HB.out GE456.out) hb); clear hb; (try clear ho0); have hcz21 := cells6f BK456.out; obtain ⟨Ao22, co22, eo22⟩ := Kd.R_slice HO462.out; subst eo22) | ((with_reducible refine gate_callee (f := 59) rfl ?_); refine goesL_ (some 19) rfl rfl Tryd.func59 jK rfl #[.slice Ao22 y460.length co22, .string a1_0] rfl jA ?_; (with_reducible refine (impl_PutName.calls k _ _ y460 a1_0 t467 _ ?side1 ?side2 A7.out).mono ?_); (case side1 => exact cU ((Kd.R_reads' HO462.out).2.2)); (case side2 => exact (Kd.R_reads' HO462.out).2.1); rintro e w23 ⟨v468, rfl, ho0, hb⟩; refine ⟨_, rfl, ?_⟩; have HO469 := aS (Kd.R_lower (Kd.R_new' (Kd.R_new' ho0 (Kd.R_lt (rU HO462.out))) (Kd.R_lt (rU HO466.out))) (below_size (wS1 HB.out GE456.out))); replace HO462 := aS (Kd.R_elder' (rU HO462.out) (Kd.R_base ho0) hb); replace HO466 := aS (Kd.R_elder' (rU HO466.out) (Kd.R_base ho0) hb); replace BK456 := aS (blk_below (bU BK456.out) hb); replace HB := aS (below_step (wS1 HB.out GE456.out) hb); clear hb; (try clear ho0)))
    replace HO462 := aS (Kd.R_drew HO462.out)
    replace HO466 := aS (Kd.R_drew HO466.out)
    replace HO469 := aS (Kd.R_drew HO469.out)
    replace BK456 := aS (blk_drew BK456.out)
    replace HB := aS (below_drew1 HB.out)
    obtain ⟨Ao25, co25, eo25⟩ := Kd.R_slice HO469.out
    (first | subst eo25 | (injection eo25 with f1_ f2_ f3_; have f4_ := f1_.symm; have f5_ := f3_.symm; clear f1_ f2_ f3_; subst f4_; subst f5_))
    refine start_ (n := 9) (S := fun w' => w'.cell? ⟨gb456, 0, none⟩ = some (.string a1_0) ∧ w'.cell? ⟨gb456, 1, none⟩ = some (.int .i64 a1_1) ∧ w'.cell? ⟨gb456, 2, none⟩ = some (.int .i64 a1_2) ∧ w'.cell? ⟨gb456, 3, none⟩ = some (.int .i64 a1_3) ∧ w'.cell? ⟨gb456, 4, none⟩ = some (.string a1_4) ∧ w'.cell? ⟨gb456, 5, none⟩ = some (.string a1_5)) (ds := []) #[false, false, false, false, false, false, false, false, false] jK rfl rfl ⟨(blk_cell BK456.out 0).trans rfl, (blk_cell BK456.out 1).trans rfl, (blk_cell BK456.out 2).trans rfl, (blk_cell BK456.out 3).trans rfl, (blk_cell BK456.out 4).trans rfl, (blk_cell BK456.out 5).trans rfl⟩ (fun hHeld => ?_); refine with_tabW impl_PutRecord.tab6 impl_PutRecord.bits6 (fun HT_ HW_ => ?_)
    generalize w23.drew = w24 at HO462 HO466 HO469 BK456 HB hHeld ⊢
    refine pure_ (i := 0) (N := some 20) (v := ?_) (a' := ?_) #[true, false, false, false, false, false, false, false, false] rfl rfl (any_of HT_.out jK) (fun _ _ _ h => h) (Or.inl ⟨by rfl, ?_⟩) ?_ ?_
    rotate_left
    ·intro w'
     go_simp
     with_reducible rfl
    rotate_left
    ·simp only [Act.put, List.setIfInBounds_toArray, List.set_cons_zero, List.set_cons_succ, i64_w, i32_w]
     rfl
    refine pure_ (i := 1) (N := some 21) (v := ?_) (a' := ?_) #[true, true, false, false, false, false, false, false, false] rfl rfl (any_of HT_.out jK) (fun _ _ _ h => h) (Or.inl ⟨by rfl, ?_⟩) ?_ ?_
    rotate_left
    ·intro w'
     go_simp
     with_reducible rfl
    rotate_left
    ·simp only [Act.put, List.setIfInBounds_toArray, List.set_cons_zero, List.set_cons_succ, i64_w, i32_w]
     rfl
    refine pure_ (i := 5) (N := some 25) (v := ?_) (a' := ?_) #[true, true, false, false, false, true, false, false, false] rfl rfl (any_of HT_.out jK) (fun _ _ _ h => h) (Or.inl ⟨by rfl, ?_⟩) ?_ ?_
    rotate_left
    ·intro w'
     go_simp
     with_reducible rfl
    rotate_left
    ·simp only [Act.put, List.setIfInBounds_toArray, List.set_cons_zero, List.set_cons_succ, i64_w, i32_w]
     rfl
    refine take_ (i := 2) (N := some 22) (v := ?_) (a' := ?_) #[true, true, true, false, false, true, false, false, false] rfl rfl (take_ofW HT_.out HW_.out jK) (fun _ _ _ h => h) (Or.inl ⟨by rfl, ?_⟩) hHeld ?_ ?_
    rotate_left
    ·rintro w' ⟨s0, s1, s2, s3, s4, s5⟩
     go_simp
     with_reducible rfl
    rotate_left
    ·simp only [Act.put, List.setIfInBounds_toArray, List.set_cons_zero, List.set_cons_succ, i64_w, i32_w]
     rfl
    refine take_ (i := 6) (N := some 26) (v := ?_) (a' := ?_) #[true, true, true, false, false, true, true, false, false] rfl rfl (take_ofW HT_.out HW_.out jK) (fun _ _ _ h => h) (Or.inl ⟨by rfl, ?_⟩) hHeld ?_ ?_
    rotate_left
    ·rintro w' ⟨s0, s1, s2, s3, s4, s5⟩
     go_simp
     with_reducible rfl
    rotate_left
    ·simp only [Act.put, List.setIfInBounds_toArray, List.set_cons_zero, List.set_cons_succ, i64_w, i32_w]
     rfl
    refine one_ (i := 3) (N := some 23) #[true, true, true, true, false, true, true, false, false] rfl rfl (one_of HT_.out jK) (by decide) (fun K hK => ?_)
    refine goes_ Tryd.func61 jK rfl #[.slice Ao25 t467.length co25, .int .i64 a1_1] (by rfl) rfl rfl jA ?_
    with_reducible refine (impl_Put2.calls k _ _ t467 a1_1 t470 _ ?side1 ?side2 A8.out).mono ?_
    (case side1 => exact cU ((Kd.R_reads' HO469.out).2.2))
    (case side2 => exact (Kd.R_reads' HO469.out).2.1)
    rintro e w26 ⟨v471, rfl, ho0, hb⟩
    refine ⟨_, rfl, ?_⟩
    have HO472 := aS (Kd.R_lower (Kd.R_new' (Kd.R_new' (Kd.R_new' ho0 (Kd.R_lt (rU HO462.out))) (Kd.R_lt (rU HO466.out))) (Kd.R_lt (rU HO469.out))) (below_size (wS1 HB.out GE456.out)))
    replace HO462 := aS (Kd.R_elder' (rU HO462.out) (Kd.R_base ho0) hb)
    replace HO466 := aS (Kd.R_elder' (rU HO466.out) (Kd.R_base ho0) hb)
    replace HO469 := aS (Kd.R_elder' (rU HO469.out) (Kd.R_base ho0) hb)
    replace BK456 := aS (blk_below (bU BK456.out) hb)
    replace HB := aS (below_step (wS1 HB.out GE456.out) hb)
    (try clear hb)
    (try clear hb2)
    (try clear hk)
    (try clear hi)
    (try clear ho0)
    obtain ⟨Ao27, co27, eo27⟩ := Kd.R_slice HO472.out
    (first | subst eo27 | (injection eo27 with f1_ f2_ f3_; have f4_ := f1_.symm; have f5_ := f3_.symm; clear f1_ f2_ f3_; subst f4_; subst f5_))
    refine hK.out _ _ ⟨(blk_cell BK456.out 0).trans rfl, (blk_cell BK456.out 1).trans rfl, (blk_cell BK456.out 2).trans rfl, (blk_cell BK456.out 3).trans rfl, (blk_cell BK456.out 4).trans rfl, (blk_cell BK456.out 5).trans rfl⟩ (fun hHeld => ?_)
    clear hK K
    refine norm_ (a' := ?_) ?_ ?_
    rotate_left
    ·show Act.put _ (some 23) _ = _
     simp only [Act.put, List.setIfInBounds_toArray, List.set_cons_zero, List.set_cons_succ, i64_w, i32_w]
     rfl
    refine one_ (i := 4) (N := some 24) #[true, true, true, true, true, true, true, false, false] rfl rfl (one_of HT_.out jK) (by decide) (fun K hK => ?_)
    refine goes_ Tryd.func61 jK rfl #[.slice Ao27 t470.length co27, .int .i64 1] (by rfl) rfl rfl jA ?_
    with_reducible refine (impl_Put2.calls k _ _ t470 1 t473 _ ?side1 ?side2 A9.out).mono ?_
    (case side1 => exact cU ((Kd.R_reads' HO472.out).2.2))
    (case side2 => exact (Kd.R_reads' HO472.out).2.1)
    rintro e w28 ⟨v474, rfl, ho0, hb⟩
    refine ⟨_, rfl, ?_⟩
    have HO475 := aS (Kd.R_lower (Kd.R_new' (Kd.R_new' (Kd.R_new' (Kd.R_new' ho0 (Kd.R_lt (rU HO462.out))) (Kd.R_lt (rU HO466.out))) (Kd.R_lt (rU HO469.out))) (Kd.R_lt (rU HO472.out))) (below_size (wS1 HB.out GE456.out)))
    replace HO462 := aS (Kd.R_elder' (rU HO462.out) (Kd.R_base ho0) hb)
    replace HO466 := aS (Kd.R_elder' (rU HO466.out) (Kd.R_base ho0) hb)
    replace HO469 := aS (Kd.R_elder' (rU HO469.out) (Kd.R_base ho0) hb)
    replace HO472 := aS (Kd.R_elder' (rU HO472.out) (Kd.R_base ho0) hb)
    replace BK456 := aS (blk_below (bU BK456.out) hb)
    replace HB := aS (below_step (wS1 HB.out GE456.out) hb)
    (try clear hb)
    (try clear hb2)
    (try clear hk)
    (try clear hi)
    (try clear ho0)
    obtain ⟨Ao29, co29, eo29⟩ := Kd.R_slice HO475.out
    (first | subst eo29 | (injection eo29 with f1_ f2_ f3_; have f4_ := f1_.symm; have f5_ := f3_.symm; clear f1_ f2_ f3_; subst f4_; subst f5_))
    refine hK.out _ _ ⟨(blk_cell BK456.out 0).trans rfl, (blk_cell BK456.out 1).trans rfl, (blk_cell BK456.out 2).trans rfl, (blk_cell BK456.out 3).trans rfl, (blk_cell BK456.out 4).trans rfl, (blk_cell BK456.out 5).trans rfl⟩ (fun hHeld => ?_)
    clear hK K
    refine norm_ (a' := ?_) ?_ ?_
    rotate_left
    ·show Act.put _ (some 24) _ = _
     simp only [Act.put, List.setIfInBounds_toArray, List.set_cons_zero, List.set_cons_succ, i64_w, i32_w]
     rfl
    refine one_ (i := 7) (N := some 27) #[true, true, true, true, true, true, true, true, false] rfl rfl (one_of HT_.out jK) (by decide) (fun K hK => ?_)
    refine goes_ Tryd.func60 jK rfl #[.slice Ao29 t473.length co29, .int .i64 a1_2] (by rfl) rfl rfl jA ?_
    with_reducible refine (impl_Put4.calls k _ _ t473 a1_2 t476 _ ?side1 ?side2 A10.out).mono ?_
    (case side1 => exact cU ((Kd.R_reads' HO475.out).2.2))
    (case side2 => exact (Kd.R_reads' HO475.out).2.1)
    rintro e w30 ⟨v477, rfl, ho0, hb⟩
    refine ⟨_, rfl, ?_⟩
    have HO478 := aS (Kd.R_lower (Kd.R_new' (Kd.R_new' (Kd.R_new' (Kd.R_new' (Kd.R_new' ho0 (Kd.R_lt (rU HO462.out))) (Kd.R_lt (rU HO466.out))) (Kd.R_lt (rU HO469.out))) (Kd.R_lt (rU HO472.out))) (Kd.R_lt (rU HO475.out))) (below_size (wS1 HB.out GE456.out)))
    replace HO462 := aS (Kd.R_elder' (rU HO462.out) (Kd.R_base ho0) hb)
    replace HO466 := aS (Kd.R_elder' (rU HO466.out) (Kd.R_base ho0) hb)
    replace HO469 := aS (Kd.R_elder' (rU HO469.out) (Kd.R_base ho0) hb)
    replace HO472 := aS (Kd.R_elder' (rU HO472.out) (Kd.R_base ho0) hb)
    replace HO475 := aS (Kd.R_elder' (rU HO475.out) (Kd.R_base ho0) hb)
    replace BK456 := aS (blk_below (bU BK456.out) hb)
    replace HB := aS (below_step (wS1 HB.out GE456.out) hb)
    (try clear hb)
    (try clear hb2)
    (try clear hk)
    (try clear hi)
    (try clear ho0)
    refine hK.out _ _ ⟨(blk_cell BK456.out 0).trans rfl, (blk_cell BK456.out 1).trans rfl, (blk_cell BK456.out 2).trans rfl, (blk_cell BK456.out 3).trans rfl, (blk_cell BK456.out 4).trans rfl, (blk_cell BK456.out 5).trans rfl⟩ (fun hHeld => ?_)
    clear hK K
    refine norm_ (a' := ?_) ?_ ?_
    rotate_left
    ·show Act.put _ (some 27) _ = _
     simp only [Act.put, List.setIfInBounds_toArray, List.set_cons_zero, List.set_cons_succ, i64_w, i32_w]
     rfl
    refine pure_ (i := 8) (N := some 5) (v := ?_) (a' := ?_) #[true, true, true, true, true, true, true, true, true] rfl rfl (any_of HT_.out jK) (fun _ _ _ h => h) (Or.inl ⟨by rfl, ?_⟩) ?_ ?_
    rotate_left
    ·intro w'
     go_simp
     with_reducible rfl
    rotate_left
    ·simp only [Act.put, List.setIfInBounds_toArray, List.set_cons_zero, List.set_cons_succ, i64_w, i32_w]
     rfl
    refine done_ (done_of HT_.out jK) ?_
    obtain ⟨Ao31, co31, eo31⟩ := Kd.R_slice HO466.out
    subst eo31
    obtain ⟨Ao32, co32, eo32⟩ := Kd.R_slice HO478.out
    subst eo32
    try go_wp2_with (first | ((with_reducible refine gate_callee (f := 61) rfl ?_); refine goesL_ (some 31) rfl rfl Tryd.func61 jK rfl #[.slice Ao32 t476.length co32, .int .i64 (t464.length : Int)] rfl jA ?_; (with_reducible refine (impl_Put2.calls k _ _ t476 (t464.length : Int) t479 _ ?side1 ?side2 A11.out).mono ?_); (case side1 => exact cU ((Kd.R_reads' HO478.out).2.2)); (case side2 => exact (Kd.R_reads' HO478.out).2.1); rintro e w33 ⟨v480, rfl, ho0, hb⟩; refine ⟨_, rfl, ?_⟩; have HO481 := aS (Kd.R_lower (Kd.R_new' (Kd.R_new' (Kd.R_new' (Kd.R_new' (Kd.R_new' (Kd.R_new' ho0 (Kd.R_lt (rU HO462.out))) (Kd.R_lt (rU HO466.out))) (Kd.R_lt (rU HO469.out))) (Kd.R_lt (rU HO472.out))) (Kd.R_lt (rU HO475.out))) (Kd.R_lt (rU HO478.out))) (below_size (wS1 HB.out GE456.out))); replace HO462 := aS (Kd.R_elder' (rU HO462.out) (Kd.R_base ho0) hb); replace HO466 := aS (Kd.R_elder' (rU HO466.out) (Kd.R_base ho0) hb); replace HO469 := aS (Kd.R_elder' (rU HO469.out) (Kd.R_base ho0) hb); replace HO472 := aS (Kd.R_elder' (rU HO472.out) (Kd.R_base ho0) hb); replace HO475 := aS (Kd.R_elder' (rU HO475.out) (Kd.R_base ho0) hb); replace HO478 := aS (Kd.R_elder' (rU HO478.out) (Kd.R_base ho0) hb); replace BK456 := aS (blk_below (bU BK456.out) hb); replace HB := aS (below_step (wS1 HB.out GE456.out) hb); clear hb; (try clear ho0)) | ((with_reducible refine gate_builtin (b := .append) (xs := #[.tmp 31, .tmp 32]) rfl ?_); at_builtin; refine Kd.R_append_rows (Kd.int .u8) (w0 := w) w.heap.size rfl (.tmp 31) (.tmp 32) 22 5 (.int .u8 0) 1 rfl Tryd.underlying22 info5 rfl (by decide) (by omega) v480 t479 t464 _ _ _ (fun k_ => some k_ ≠ (.slice Ao22 y460.length co22 : Value).ownBlock ∧ some k_ ≠ (.slice Ao31 t464.length co31 : Value).ownBlock ∧ some k_ ≠ (.slice Ao25 t467.length co25 : Value).ownBlock ∧ some k_ ≠ (.slice Ao27 t470.length co27 : Value).ownBlock ∧ some k_ ≠ (.slice Ao29 t473.length co29 : Value).ownBlock ∧ some k_ ≠ (.slice Ao32 t476.length co32 : Value).ownBlock) (fun _ => False) rfl rfl ?aO ?aR (fun _ _ h => h) (fun _ h => h.elim) ?aF ?aB ?aS ?aL ?_; (case aR => exact cU ((Kd.R_reads' HO466.out).2.2)); (case aB => exact (wS1 HB.out GE456.out)); (case aF => exact (fun k_ hk => ⟨Kd.fresh' (Kd.R_lt (rU HO462.out)) k_ hk, Kd.fresh' (Kd.R_lt (rU HO466.out)) k_ hk, Kd.fresh' (Kd.R_lt (rU HO469.out)) k_ hk, Kd.fresh' (Kd.R_lt (rU HO472.out)) k_ hk, Kd.fresh' (Kd.R_lt (rU HO475.out)) k_ hk, Kd.fresh' (Kd.R_lt (rU HO478.out)) k_ hk⟩)); (case aO => exact (by (with_reducible repeat (first | apply Kd.R_alloc | apply Kd.R_drewN | apply Kd.R_drew)); exact Kd.R_mono HO481.out (fun _ hk => ⟨hk.1.1.1.1.1.2, ⟨hk.1.1.1.1.2, ⟨hk.1.1.1.2, ⟨hk.1.1.2, ⟨hk.1.2, hk.2⟩⟩⟩⟩⟩))); (case aS => exact (below_size (wS1 HB.out GE456.out))); (case aL => have := LMc12.out; omega); intro v483 w34 ho hb hg hat; rw [← Ny482.out] at ho; replace BK456 := aS (blk_grown (g := gb456) (o := .cells #[.string a1_0, .int .i64 a1_1, .int .i64 a1_2, .int .i64 a1_3, .string a1_4, .string a1_5] 25 (0, 0)) (bU BK456.out) hg (Kd.R_ne HO481.out BK456.out (by decide))); replace HO462 := aS (Kd.R_after (ok := (fun k_ => some k_ ≠ (.slice Ao31 t464.length co31 : Value).ownBlock ∧ some k_ ≠ (.slice Ao25 t467.length co25 : Value).ownBlock ∧ some k_ ≠ (.slice Ao27 t470.length co27 : Value).ownBlock ∧ some k_ ≠ (.slice Ao29 t473.length co29 : Value).ownBlock ∧ some k_ ≠ (.slice Ao32 t476.length co32 : Value).ownBlock)) (by (with_reducible repeat (first | apply Kd.R_alloc | apply Kd.R_drewN | apply Kd.R_drew)); exact Kd.R_mono HO462.out (fun _ hk => ⟨⟨hk.1.1.1.1.1.2, ⟨hk.1.1.1.1.2, ⟨hk.1.1.1.2, ⟨hk.1.1.2, hk.1.2⟩⟩⟩⟩, hk.2⟩)) hg hat); replace HO466 := aS (Kd.R_after (ok := (fun k_ => some k_ ≠ (.slice Ao22 y460.length co22 : Value).ownBlock ∧ some k_ ≠ (.slice Ao25 t467.length co25 : Value).ownBlock ∧ some k_ ≠ (.slice Ao27 t470.length co27 : Value).ownBlock ∧ some k_ ≠ (.slice Ao29 t473.length co29 : Value).ownBlock ∧ some k_ ≠ (.slice Ao32 t476.length co32 : Value).ownBlock)) (by (with_reducible repeat (first | apply Kd.R_alloc | apply Kd.R_drewN | apply Kd.R_drew)); exact Kd.R_mono HO466.out (fun _ hk => ⟨⟨hk.1.1.1.1.1.2, ⟨hk.1.1.1.1.2, ⟨hk.1.1.1.2, ⟨hk.1.1.2, hk.1.2⟩⟩⟩⟩, hk.2⟩)) hg hat); replace HO469 := aS (Kd.R_after (ok := (fun k_ => some k_ ≠ (.slice Ao22 y460.length co22 : Value).ownBlock ∧ some k_ ≠ (.slice Ao31 t464.length co31 : Value).ownBlock ∧ some k_ ≠ (.slice Ao27 t470.length co27 : Value).ownBlock ∧ some k_ ≠ (.slice Ao29 t473.length co29 : Value).ownBlock ∧ some k_ ≠ (.slice Ao32 t476.length co32 : Value).ownBlock)) (by (with_reducible repeat (first | apply Kd.R_alloc | apply Kd.R_drewN | apply Kd.R_drew)); exact Kd.R_mono HO469.out (fun _ hk => ⟨⟨hk.1.1.1.1.1.2, ⟨hk.1.1.1.1.2, ⟨hk.1.1.1.2, ⟨hk.1.1.2, hk.1.2⟩⟩⟩⟩, hk.2⟩)) hg hat); replace HO472 := aS (Kd.R_after (ok := (fun k_ => some k_ ≠ (.slice Ao22 y460.length co22 : Value).ownBlock ∧ some k_ ≠ (.slice Ao31 t464.length co31 : Value).ownBlock ∧ some k_ ≠ (.slice Ao25 t467.length co25 : Value).ownBlock ∧ some k_ ≠ (.slice Ao29 t473.length co29 : Value).ownBlock ∧ some k_ ≠ (.slice Ao32 t476.length co32 : Value).ownBlock)) (by (with_reducible repeat (first | apply Kd.R_alloc | apply Kd.R_drewN | apply Kd.R_drew)); exact Kd.R_mono HO472.out (fun _ hk => ⟨⟨hk.1.1.1.1.1.2, ⟨hk.1.1.1.1.2, ⟨hk.1.1.1.2, ⟨hk.1.1.2, hk.1.2⟩⟩⟩⟩, hk.2⟩)) hg hat); replace HO475 := aS (Kd.R_after (ok := (fun k_ => some k_ ≠ (.slice Ao22 y460.length co22 : Value).ownBlock ∧ some k_ ≠ (.slice Ao31 t464.length co31 : Value).ownBlock ∧ some k_ ≠ (.slice Ao25 t467.length co25 : Value).ownBlock ∧ some k_ ≠ (.slice Ao27 t470.length co27 : Value).ownBlock ∧ some k_ ≠ (.slice Ao32 t476.length co32 : Value).ownBlock)) (by (with_reducible repeat (first | apply Kd.R_alloc | apply Kd.R_drewN | apply Kd.R_drew)); exact Kd.R_mono HO475.out (fun _ hk => ⟨⟨hk.1.1.1.1.1.2, ⟨hk.1.1.1.1.2, ⟨hk.1.1.1.2, ⟨hk.1.1.2, hk.1.2⟩⟩⟩⟩, hk.2⟩)) hg hat); replace HO478 := aS (Kd.R_after (ok := (fun k_ => some k_ ≠ (.slice Ao22 y460.length co22 : Value).ownBlock ∧ some k_ ≠ (.slice Ao31 t464.length co31 : Value).ownBlock ∧ some k_ ≠ (.slice Ao25 t467.length co25 : Value).ownBlock ∧ some k_ ≠ (.slice Ao27 t470.length co27 : Value).ownBlock ∧ some k_ ≠ (.slice Ao29 t473.length co29 : Value).ownBlock)) (by (with_reducible repeat (first | apply Kd.R_alloc | apply Kd.R_drewN | apply Kd.R_drew)); exact Kd.R_mono HO478.out (fun _ hk => ⟨⟨hk.1.1.1.1.1.2, ⟨hk.1.1.1.1.2, ⟨hk.1.1.1.2, ⟨hk.1.1.2, hk.1.2⟩⟩⟩⟩, hk.2⟩)) hg hat); replace HB := aS (hb); have HO484 := aS (ho); clear HO481; clear ho hb hg hat))
    go_ret
    exact ⟨_, jE, Kd.R_mono (rU HO484.out) (fun _ hk => trivial), by exact wS1 HB.out GE456.out⟩
   ·rw [if_neg c12] at H
    exact absurd H (by simp)
  ·replace c5 := Bool.eq_false_iff.mpr c5
   subst c5
   rw [if_neg Bool.false_ne_true] at H
   obtain rfl := Option.some.inj H
   go_enter Tryd.func10, Tryd.ntmps10
   go_wp2_with (first | ((with_reducible refine gate_dst (N := 3) rfl ?_); refine box_event ?hg (N := 3) ?hd (cs := #[.string a1_0, .int .i64 a1_1, .int .i64 a1_2, .int .i64 a1_3, .string a1_4, .string a1_5]) (t := 25) ?hr ?_; (case hd => rfl); (case hg => rfl); (case hr => first | (go_simp; done) | (go_simp; rfl)); intro gb456 hg w35 hbox hb; have BK456 := aS (hbox); have GW456 := aS ((by rw [hg]; exact (below_size (wU HB.out)) : w.heap.size ≤ gb456)); have GE456 := aS ((by rw [hg]; exact (below_size (wU HB.out)) : w.heap.size ≤ gb456)); replace HB := aS (below_step (wU HB.out) hb); clear hb hbox hg) | ((with_reducible refine gate_dst (N := 7) rfl ?_); refine Kd.R_lit (Kd.int .u8) _ 5 ?hg (N := 7) ?hd (xs := ([] : List Int)) (inner := []) (ok := fun _ => True) (okp := fun _ => True) ?hr ?hp (fun _ hk => hk) trivial (Below.refl _ _) (Nat.le_refl _) (by simp) ?_; (case hd => rfl); (case hg => rfl); (case hr => first | (go_simp; done) | (go_simp; rfl)); (case hp => exact (Reps.none _ _)); intro v458 w36 ho37 hb hg_ hnew_; clear hg_ hnew_; (first | rw [← Ny457.out] at ho37 | (simp only [Int.reduceToNat] at ho37; rw [← Ny457.out] at ho37)); have HO459 := aS (Kd.R_lower ho37 (below_size (wS1 HB.out GE456.out))); replace BK456 := aS (blk_below (bU BK456.out) hb); replace HB := aS (below_step (wS1 HB.out GE456.out) hb); clear hb ho37) | ((with_reducible refine gate_builtin (b := .append) (xs := #[.tmp 7, .tmp 8]) rfl ?_); at_builtin; refine Kd.R_append_rows (Kd.int .u8) (w0 := w) w.heap.size rfl (.tmp 7) (.tmp 8) 22 5 (.int .u8 0) 1 rfl Tryd.underlying22 info5 rfl (by decide) (by omega) v458 y457 l0 _ _ _ (fun _ => True) (fun _ => False) rfl rfl ?aO ?aR (fun _ _ h => h) (fun _ h => h.elim) ?aF ?aB ?aS ?aL ?_; (case aR => exact cU ((Kd.C_below HR0.out HB.out))); (case aB => exact (wS1 HB.out GE456.out)); (case aF => exact (fun _ _ => trivial)); (case aO => exact (rU HO459.out)); (case aS => exact (below_size (wS1 HB.out GE456.out))); (case aL => have := LMc3.out; omega); intro v461 w38 ho hb hg hat; rw [← Ny460.out] at ho; replace BK456 := aS (blk_grown (g := gb456) (o := .cells #[.string a1_0, .int .i64 a1_1, .int .i64 a1_2, .int .i64 a1_3, .string a1_4, .string a1_5] 25 (0, 0)) (bU BK456.out) hg (Kd.R_ne HO459.out BK456.out (by decide))); replace HB := aS (hb); have HO462 := aS (ho); clear HO459; clear ho hb hg hat; have hcz39 := cells6f BK456.out) | ((with_reducible refine gate_callee (f := 15) rfl ?_); refine goesL_ (some 11) rfl rfl Tryd.func15 jK rfl #[.agg #[.string a1_0, .int .i64 a1_1, .int .i64 a1_2, .int .i64 a1_3, .string a1_4, .string a1_5]] rfl jA ?_; (with_reducible refine (impl_RecordOk.calls k a1_0 a1_1 a1_2 a1_3 a1_4 a1_5 false _ A4.out).mono ?_); rintro e w40 ⟨rfl, hb⟩; refine ⟨_, rfl, ?_⟩; replace HO462 := aS (Kd.R_below (rU HO462.out) hb); replace BK456 := aS (blk_below (bU BK456.out) hb); replace HB := aS (below_step (wS1 HB.out GE456.out) hb); clear hb))
   go_ret
   exact ⟨_, jE, by exact rU HO462.out, by exact wS1 HB.out GE456.out⟩
 ·rw [if_neg c3] at H
  exact absurd H (by simp)

end Go.Proofs.YtdigilidomimdaaDoor.Pr
