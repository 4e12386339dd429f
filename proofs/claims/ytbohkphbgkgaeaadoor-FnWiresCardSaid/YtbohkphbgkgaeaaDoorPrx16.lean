-- Written for this claim by a program of this session (wip/tool/pr.py, over the kit's printer).
import Derived.Test.YtbohkphbgkgaeaaDoorPrx0
import Derived.Test.YtbohkphbgkgaeaaDoorPrx2
import Derived.Test.YtbohkphbgkgaeaaDoorPrx4
import Derived.Test.YtbohkphbgkgaeaaDoorPrx6
import Derived.Test.YtbohkphbgkgaeaaDoorPrx9
import Derived.Test.YtbohkphbgkgaeaaDoorPrx10
import Derived.Test.YtbohkphbgkgaeaaDoorPrx11
import Derived.Test.YtbohkphbgkgaeaaDoorPrx12
namespace Go.Proofs.YtbohkphbgkgaeaaDoor.Pr
open Go.RowKit Go.Proofs.YtbohkphbgkgaeaaDoorW.PrintWords Go.Proofs.YtbohkphbgkgaeaaDoorW.PrintLast Go.Proofs.YtbohkphbgkgaeaaDoorW.PrintMore
attribute [local go_sem] max2_int min2_int max_two min_two max_three min_three max_four min_four   -- for this text's walks alone
set_option linter.unusedVariables false
set_option linter.unusedSimpArgs false

/-! ### spec_DrawPutName: function 55 -/
def spec_DrawPutName.f (k : Nat) (l0 : List Int) : Option (List Int × ByteArray) := (spec_l1New.f k l0).bind fun bt516 => ((spec_l4Bytes.f k bt516.1 bt516.2.1 bt516.2.2).bind fun bt520 => ((spec_l3Any.f bt516.1 bt520.2.2.1 bt520.2.2.2).bind fun bt526 => (some (bt520.1, bt526.1))))
theorem spec_DrawPutName.mono : ∀ a0 k, LeO (spec_DrawPutName.f k a0) (spec_DrawPutName.f (k + 1) a0) := by
  intro a0 k
  unfold spec_DrawPutName.f
  repeat' first
      | (with_reducible exact spec_l1New.mono _ _)
      | (with_reducible exact spec_l4Bytes.mono _ _ _ _)
      | (with_reducible exact LeO.refl _)
      | (with_reducible exact LeO.none _)
      | (with_reducible refine LeO.ite ?_ ?_)
      | (with_reducible refine LeO.bind ?_ (fun _ => ?_))
      | exact spec_l1New.mono _ _
      | exact spec_l4Bytes.mono _ _ _ _
      | exact LeO.none _
      | refine LeO.ite ?_ ?_
      | refine LeO.bind ?_ (fun _ => ?_)
set_option maxHeartbeats 8000000 in
set_option maxRecDepth 100000 in
theorem spec_DrawPutName.calls (k : Nat) (A0 : Option Addr) (c0 : Nat) (l0 : List Int) (r1 : List Int) (r2 : ByteArray) (w : World) (hr0 : Kd.C (Kd.int .u8) w A0 l0.length l0) (hc0 : l0.length ≤ c0) (h : spec_DrawPutName.f k l0 = some (r1, r2)) :
    Calls Tryd.prog 55 #[.slice A0 l0.length c0] w fun e w' => ∃ v0_ : Value, e = .returned (.tuple #[v0_, .string r2]) ∧ Kd.R (Kd.int .u8) 5 w' w.heap.size (fun _ => True) v0_ r1 ∧ Below w.heap.size w w' := by
  have HR0 := Aside0.mk hr0
  have HC0 := Aside0.mk hc0
  clear hr0 hc0
  have HB := Aside0.mk (Below.refl w.heap.size w)
  have H : ((spec_l1New.f k l0).bind fun bt516 => ((spec_l4Bytes.f k bt516.1 bt516.2.1 bt516.2.2).bind fun bt520 => ((spec_l3Any.f bt516.1 bt520.2.2.1 bt520.2.2.2).bind fun bt526 => (some (bt520.1, bt526.1))))) = some (r1, r2) := h
  clear h
  replace H := Option.bind_eq_some_iff.mp H
  obtain ⟨⟨t516, t517, t518⟩, A20, H⟩ := H
  replace H : ((spec_l4Bytes.f k t516 t517 t518).bind fun bt520 => ((spec_l3Any.f t516 bt520.2.2.1 bt520.2.2.2).bind fun bt526 => (some (bt520.1, bt526.1)))) = some (r1, r2) := H
  have A2 := Aside0.mk A20
  clear A20
  replace H := Option.bind_eq_some_iff.mp H
  obtain ⟨⟨t520, t523, t524, t525⟩, A30, H⟩ := H
  replace H : ((spec_l3Any.f t516 t524 t525).bind fun bt526 => (some (t520, bt526.1))) = some (r1, r2) := H
  have A3 := Aside0.mk A30
  clear A30
  replace H := Option.bind_eq_some_iff.mp H
  obtain ⟨⟨t526, t527, t528⟩, A40, H⟩ := H
  replace H : (some (t520, t526)) = some (r1, r2) := H
  have A4 := Aside0.mk A40
  clear A40
  simp only [Option.some.injEq, Prod.mk.injEq] at H
  obtain ⟨rfl, rfl⟩ := H
  go_enter Tryd.func55, Tryd.ntmps55
  go_wp2_with (first | ((with_reducible refine gate_callee (f := 96) rfl ?_); refine goesL_ (some 8) rfl rfl Tryd.func96 (by kernel_rfl) rfl #[.slice A0 l0.length c0] rfl (by (try simp only [List.map_toArray, List.map_cons, List.map_nil]); first | done | rfl | (simp only [List.length_drop, List.length_take]; rfl)) ?_; (with_reducible refine (spec_l1New.calls k _ _ l0 t516 t517 t518 w _ ?side1 ?side2 ?side3 A2.out).mono ?_); (case side1 => repeat (first | (with_reducible first | exact HB.out | apply below_alloc | apply pw_below_drewN | apply below_drew1) | exact HB.out)); (case side2 => exact HR0.out); (case side3 => exact HC0.out); rintro e w5 ⟨g519, rfl, hi, hb, hb2⟩; refine ⟨_, rfl, ?_⟩; have n0_ := Aside0.mk (hb); have n1_ := Aside0.mk (hi); clear HB; have HB := n0_; have HI519 := n1_; clear n0_ n1_; (try clear hb); (try clear hb2); (try clear hk); (try clear hi)) | ((with_reducible refine gate_callee (f := 111) rfl ?_); refine goesL_ (some 11) rfl rfl Tryd.func111 (by kernel_rfl) rfl #[.pointer (some ⟨g519, 0, none⟩)] rfl (by (try simp only [List.map_toArray, List.map_cons, List.map_nil]); first | done | rfl | (simp only [List.length_drop, List.length_take]; rfl)) ?_; (with_reducible refine (spec_l4Bytes.calls k g519 t516 t517 t518 t520 t523 t524 t525 w _ ?side1 ?side2 A3.out).mono ?_); (case side1 => repeat (first | (with_reducible first | exact HI519.out | apply IsS122.alloc | apply IsS122.drewN | apply IsS122.drew | apply IsS122.set_1 | apply IsS122.set_2) | exact HI519.out)); (case side2 => repeat (first | (with_reducible first | exact HB.out | apply below_alloc | apply pw_below_drewN | apply below_drew1 | refine below_set ?_ (IsS122.ge HI519.out)) | exact HB.out)); rintro e w6 ⟨v521, rfl, ho0, hi, hb, hk⟩; refine ⟨_, rfl, ?_⟩; have n0_ := Aside0.mk (Kd.R_lower ho0 (below_size (by repeat (first | (with_reducible first | exact HB.out | apply below_alloc | apply pw_below_drewN | apply below_drew1 | refine below_set ?_ (IsS122.ge HI519.out)) | exact HB.out)))); have n1_ := Aside0.mk (hb); have n2_ := Aside0.mk (hi); clear HB; clear HI519; have HO522 := n0_; have HB := n1_; have HI519 := n2_; clear n0_ n1_ n2_; (try clear hb); (try clear hb2); (try clear hk); (try clear hi); (try clear ho0)) | ((with_reducible refine gate_callee (f := 107) rfl ?_); refine goesL_ (some 16) rfl rfl Tryd.func107 (by kernel_rfl) rfl #[.pointer (some ⟨g519, 0, none⟩)] rfl (by (try simp only [List.map_toArray, List.map_cons, List.map_nil]); first | done | rfl | (simp only [List.length_drop, List.length_take]; rfl)) ?_; (with_reducible refine (spec_l3Any.calls g519 t516 t524 t525 t526 t527 t528 w _ ?side1 ?side2 A4.out).mono ?_); (case side1 => repeat (first | (with_reducible first | exact HI519.out | apply IsS122.alloc | apply IsS122.drewN | apply IsS122.drew | apply IsS122.set_1 | apply IsS122.set_2) | exact HI519.out)); (case side2 => repeat (first | (with_reducible first | exact HB.out | apply below_alloc | apply pw_below_drewN | apply below_drew1 | refine below_set ?_ (IsS122.ge HI519.out)) | exact HB.out)); rintro e w7 ⟨rfl, hi, hb, hk⟩; refine ⟨_, rfl, ?_⟩; have n0_ := Aside0.mk (Kd.R_mono (Kd.R_keep (IsS122.apart (show IsS122 w _ g519 t516 t524 t525 from by repeat (first | (with_reducible first | exact HI519.out | apply IsS122.alloc | apply IsS122.drewN | apply IsS122.drew | apply IsS122.set_1 | apply IsS122.set_2) | exact HI519.out)) (rU HO522.out) (by decide)) hk (fun _ h => h.2)) (fun _ h => h.1)); have n1_ := Aside0.mk (hb); have n2_ := Aside0.mk (hi); clear HO522; clear HB; clear HI519; have HO522 := n0_; have HB := n1_; have HI519 := n2_; clear n0_ n1_ n2_; (try clear hb); (try clear hb2); (try clear hk); (try clear hi)))
  go_ret2
  exact ⟨_, by first | rfl | (simp [errW_none, errW_some] <;> rfl) | (simp [*, errW_none, errW_some] <;> rfl), by (with_reducible repeat (first | apply Kd.R_alloc | apply Kd.R_drewN | apply Kd.R_drew)); exact HO522.out, by repeat (first | (with_reducible first | exact HB.out | apply below_alloc | apply pw_below_drewN | apply below_drew1 | refine below_set ?_ (IsS122.ge HI519.out)) | exact HB.out)⟩

/-! ### laws_same: function 58 -/
def laws_same.l0 : Nat → List Int → List Int → Int → Option (Bool)
  | 0, _, _, _ => none
  | k + 1, x0, x1, x5 => if x5 < (x0.length : Int) then (if 0 ≤ x5 then (if x5 < (x1.length : Int) then (if (rd x0 x5) = (rd x1 x5) then (laws_same.l0 k x0 x1 (wrap64 (x5 + 1))) else (some false)) else (none)) else (none)) else (some true)
def laws_same.f (k : Nat) (l0 : List Int) (l1 : List Int) : Option (Bool) := if (l0.length : Int) = (l1.length : Int) then (laws_same.l0 k l0 l1 0) else (some false)
theorem laws_same.mono_l : ∀ k, (∀ y0 y1 y2, LeO (laws_same.l0 k y0 y1 y2) (laws_same.l0 (k + 1) y0 y1 y2))
  | 0 => fun _ _ _ r h => by simp [laws_same.l0] at h
  | k + 1 => by
    have ih0 := laws_same.mono_l k
    · intro y0 y1 y2
      unfold laws_same.l0
      repeat' first
      | (with_reducible exact ih0 _ _ _)
      | (with_reducible exact LeO.refl _)
      | (with_reducible exact LeO.none _)
      | (with_reducible refine LeO.ite ?_ ?_)
      | (with_reducible refine LeO.bind ?_ (fun _ => ?_))
      | exact ih0 _ _ _
      | exact LeO.none _
      | refine LeO.ite ?_ ?_
      | refine LeO.bind ?_ (fun _ => ?_)
theorem laws_same.mono : ∀ a0 a1 k, LeO (laws_same.f k a0 a1) (laws_same.f (k + 1) a0 a1) := by
  intro a0 a1 k
  have ih0 := laws_same.mono_l k
  unfold laws_same.f
  repeat' first
      | (with_reducible exact ih0 _ _ _)
      | (with_reducible exact LeO.refl _)
      | (with_reducible exact LeO.none _)
      | (with_reducible refine LeO.ite ?_ ?_)
      | (with_reducible refine LeO.bind ?_ (fun _ => ?_))
      | exact ih0 _ _ _
      | exact LeO.none _
      | refine LeO.ite ?_ ?_
      | refine LeO.bind ?_ (fun _ => ?_)
set_option maxHeartbeats 8000000 in
set_option maxRecDepth 100000 in
theorem laws_same.calls (k : Nat) (A0 : Option Addr) (c0 : Nat) (l0 : List Int) (A1 : Option Addr) (c1 : Nat) (l1 : List Int) (r : Bool) (w : World) (hr0 : Kd.C (Kd.int .u8) w A0 l0.length l0) (hc0 : l0.length ≤ c0) (hr1 : Kd.C (Kd.int .u8) w A1 l1.length l1) (hc1 : l1.length ≤ c1) (h : laws_same.f k l0 l1 = some r) :
    Calls Tryd.prog 58 #[.slice A0 l0.length c0, .slice A1 l1.length c1] w fun e w' => e = .returned (.bool r) ∧ Drawn0 w w' := by
  have HR0 := Aside0.mk hr0
  have HC0 := Aside0.mk hc0
  clear hr0 hc0
  have HR1 := Aside0.mk hr1
  have HC1 := Aside0.mk hc1
  clear hr1 hc1
  have H : (if (l0.length : Int) = (l1.length : Int) then (laws_same.l0 k l0 l1 0) else (some false)) = some r := h
  clear h
  by_cases c3 : (l0.length : Int) = (l1.length : Int)
  · rw [if_pos c3] at H
    have c3b0 : ((l0.length : Int) == (l1.length : Int)) = true := beq_iff_eq.mpr c3
    have c3b1 : ((l0.length : Int) != (l1.length : Int)) = false := bne_eq_false_iff_eq.mpr c3
    have c3b2 : (l0.length == l1.length) = true := by first | simpa using c3 | (simp at c3 ⊢; omega)
    clear c3
    have H' := Aside0.mk H
    clear H
    go_enter Tryd.func58, Tryd.ntmps58
    go_wp2
    repeat (go_quiet (fail); try go_wp2)
    go_loopg [5] k (fun kq v5 w' => ∃ (x5_1 : Int), v5 = .int .i64 x5_1 ∧ Aside0 (laws_same.l0 kq l0 l1 x5_1 = some r) ∧ Aside0 (kq ≤ k) ∧ Drawn0 w w')
    case atStart => exact ⟨(0), (by first | rfl | (simp; done) | (simp [*]; done) | (simp [X.bne_nil, X.beq_nil]; done) | (simp [*, X.bne_nil, X.beq_nil]; done)), H', ⟨Nat.le_refl _⟩, by repeat (first | exact Drawn0.refl _ | apply Drawn0.step)⟩
    case round =>
      clear H'
      try clear c1
      try clear p2
      try clear c3
      try clear c3b0
      try clear c3b1
      try clear c3b2
      obtain ⟨x5_1, rfl, HA, HK1, ⟨m1, rfl⟩⟩ := hrel
      cases gk with
      | zero => exact absurd HA.out (by simp [laws_same.l0])
      | succ k1 =>
        have H := HA.out
        clear HA
        simp only [laws_same.l0] at H
        by_cases c4 : x5_1 < (l0.length : Int)
        · rw [if_pos c4] at H
          have c4b0 : decide (x5_1 < (l0.length : Int)) = true := decide_eq_true c4
          clear c4
          by_cases c5 : 0 ≤ x5_1
          · rw [if_pos c5] at H
            have c5b0 : decide (0 ≤ x5_1) = true := decide_eq_true c5
            clear c5
            by_cases c6 : x5_1 < (l1.length : Int)
            · rw [if_pos c6] at H
              have c6b0 : decide (x5_1 < (l1.length : Int)) = true := decide_eq_true c6
              clear c6
              by_cases c7 : (rd l0 x5_1) = (rd l1 x5_1)
              · rw [if_pos c7] at H
                have c7b0 : ((rd l0 x5_1) == (rd l1 x5_1)) = true := beq_iff_eq.mpr c7
                have c7b1 : ((rd l0 x5_1) != (rd l1 x5_1)) = false := bne_eq_false_iff_eq.mpr c7
                clear c7
                have H' := Aside0.mk H
                clear H
                have p591 : 0 ≤ (x5_1 : Int) := of_decide_eq_true (by first | (with_reducible assumption) | assumption)
                have q591 : x5_1 < (l0.length : Int) := of_decide_eq_true (by first | (with_reducible assumption) | assumption)
                obtain ⟨ad591, e591, hx591_0⟩ := Kd.at_int HR0.out x5_1 p591 q591
                cases e591
                replace p591 := eq_true p591
                replace q591 := eq_true q591
                have p592 : 0 ≤ (x5_1 : Int) := of_decide_eq_true (by first | (with_reducible assumption) | assumption)
                have q592 : x5_1 < (l1.length : Int) := of_decide_eq_true (by first | (with_reducible assumption) | assumption)
                obtain ⟨ad592, e592, hx592_0⟩ := Kd.at_int HR1.out x5_1 p592 q592
                cases e592
                replace p592 := eq_true p592
                replace q592 := eq_true q592
                go_wp2
                repeat (go_quiet (fail); try go_wp2)
                go_roundg k1
                case measure => have := HK1.out; omega
                case rel => exact ⟨(wrap64 (x5_1 + 1)), (by first | rfl | (simp; done) | (simp [*]; done) | (simp [X.bne_nil, X.beq_nil]; done) | (simp [*, X.bne_nil, X.beq_nil]; done)), H', ⟨by have := HK1.out; omega⟩, by repeat (first | exact Drawn0.refl _ | apply Drawn0.step)⟩
              · rw [if_neg c7] at H
                have c7b0 : ((rd l0 x5_1) == (rd l1 x5_1)) = false := beq_eq_false_iff_ne.mpr c7
                have c7b1 : ((rd l0 x5_1) != (rd l1 x5_1)) = true := bne_iff_ne.mpr c7
                obtain rfl := Option.some.inj H
                have p591 : 0 ≤ (x5_1 : Int) := of_decide_eq_true (by first | (with_reducible assumption) | assumption)
                have q591 : x5_1 < (l0.length : Int) := of_decide_eq_true (by first | (with_reducible assumption) | assumption)
                obtain ⟨ad591, e591, hx591_0⟩ := Kd.at_int HR0.out x5_1 p591 q591
                cases e591
                replace p591 := eq_true p591
                replace q591 := eq_true q591
                have p592 : 0 ≤ (x5_1 : Int) := of_decide_eq_true (by first | (with_reducible assumption) | assumption)
                have q592 : x5_1 < (l1.length : Int) := of_decide_eq_true (by first | (with_reducible assumption) | assumption)
                obtain ⟨ad592, e592, hx592_0⟩ := Kd.at_int HR1.out x5_1 p592 q592
                cases e592
                replace p592 := eq_true p592
                replace q592 := eq_true q592
                go_wp2
                repeat (go_quiet (fail); try go_wp2)
                go_ret
                exact ⟨by first | rfl | (simp; done) | (simp [*]; done) | (simp [X.bne_nil, X.beq_nil]; done) | (simp [*, X.bne_nil, X.beq_nil]; done) | (simp [X.bne_nil, X.beq_nil]; done), by repeat (first | exact Drawn0.refl _ | apply Drawn0.step)⟩
            · rw [if_neg c6] at H
              exact absurd H (by simp)
          · rw [if_neg c5] at H
            exact absurd H (by simp)
        · rw [if_neg c4] at H
          have c4b0 : decide (x5_1 < (l0.length : Int)) = false := decide_eq_false c4
          clear c4
          obtain rfl := Option.some.inj H
          go_wp2
          repeat (go_quiet (fail); try go_wp2)
          go_ret
          exact ⟨by first | rfl | (simp; done) | (simp [*]; done) | (simp [X.bne_nil, X.beq_nil]; done) | (simp [*, X.bne_nil, X.beq_nil]; done) | (simp [X.bne_nil, X.beq_nil]; done), by repeat (first | exact Drawn0.refl _ | apply Drawn0.step)⟩
  · rw [if_neg c3] at H
    have c3b0 : ((l0.length : Int) == (l1.length : Int)) = false := beq_eq_false_iff_ne.mpr c3
    have c3b1 : ((l0.length : Int) != (l1.length : Int)) = true := bne_iff_ne.mpr c3
    have c3b2 : (l0.length == l1.length) = false := by first | simpa using c3 | (simp at c3 ⊢; omega)
    obtain rfl := Option.some.inj H
    go_enter Tryd.func58, Tryd.ntmps58
    go_wp2
    repeat (go_quiet (fail); try go_wp2)
    go_ret
    exact ⟨by first | rfl | (simp; done) | (simp [*]; done) | (simp [X.bne_nil, X.beq_nil]; done) | (simp [*, X.bne_nil, X.beq_nil]; done) | (simp [X.bne_nil, X.beq_nil]; done), by repeat (first | exact Drawn0.refl _ | apply Drawn0.step)⟩

/-! ### laws_FnWires: function 8 -/
def laws_FnWires.f (k : Nat) (l0 : List Int) : Option (Bool) := (laws_big.f l0).bind fun t610 => (if t610 = true then (some true) else ((spec_DrawPutName.f k l0).bind fun bt611 => ((impl_PutName.f k bt611.1 bt611.2).bind fun t615 => ((impl_PutPlain.f k bt611.1 bt611.2).bind fun t618 => ((spec_PutName.f k bt611.1 bt611.2).bind fun t621 => ((laws_same.f k t615 t621).bind fun t624 => (if t624 = true then ((spec_PutPlain.f k bt611.1 bt611.2).bind fun t625 => ((laws_same.f k t618 t625).bind fun t628 => (if t628 = true then ((impl_NameOk.f k bt611.2).bind fun t629 => (if t629 = true then ((impl_GetName.f k t615 (bt611.1.length : Int)).bind fun bt630 => ((impl_GetName.f k t618 (bt611.1.length : Int)).bind fun bt633 => ((impl_PutName.f k t615 bt611.2).bind fun t636 => ((impl_GetName.f k t636 (t615.length : Int)).bind fun bt639 => (if bt630.2.2 = 0 then (if bt630.1.toList = bt611.2.toList then (if bt630.2.1 = (t615.length : Int) then (if bt633.2.2 = 0 then (if bt633.1.toList = bt611.2.toList then (if bt633.2.1 = (t618.length : Int) then (if (t615.length : Int) ≤ (t618.length : Int) then (if bt639.2.2 = 0 then (if bt639.1.toList = bt611.2.toList then (if bt639.2.1 ≤ (wrap64 ((t615.length : Int) + 2)) then ((impl_JumpsIn.f k t618 (bt611.1.length : Int)).bind fun t642 => (some (t642 == 0))) else (some false)) else (some false)) else (some false)) else (some false)) else (some false)) else (some false)) else (some false)) else (some false)) else (some false)) else (some false)))))) else ((laws_same.f k t615 bt611.1).bind fun t643 => (if t643 = true then ((laws_same.f k t618 bt611.1).bind fun t644 => (some t644)) else (some false))))) else (some false)))) else (some false))))))))
theorem laws_FnWires.mono : ∀ a0 k, LeO (laws_FnWires.f k a0) (laws_FnWires.f (k + 1) a0) := by
  intro a0 k
  unfold laws_FnWires.f
  repeat' first
      | (with_reducible exact impl_GetName.mono _ _ _)
      | (with_reducible exact impl_JumpsIn.mono _ _ _)
      | (with_reducible exact impl_NameOk.mono _ _)
      | (with_reducible exact impl_PutName.mono _ _ _)
      | (with_reducible exact impl_PutPlain.mono _ _ _)
      | (with_reducible exact laws_same.mono _ _ _)
      | (with_reducible exact spec_DrawPutName.mono _ _)
      | (with_reducible exact spec_PutName.mono _ _ _)
      | (with_reducible exact spec_PutPlain.mono _ _ _)
      | (with_reducible exact LeO.refl _)
      | (with_reducible exact LeO.none _)
      | (with_reducible refine LeO.ite ?_ ?_)
      | (with_reducible refine LeO.bind ?_ (fun _ => ?_))
      | exact impl_GetName.mono _ _ _
      | exact impl_JumpsIn.mono _ _ _
      | exact impl_NameOk.mono _ _
      | exact impl_PutName.mono _ _ _
      | exact impl_PutPlain.mono _ _ _
      | exact laws_same.mono _ _ _
      | exact spec_DrawPutName.mono _ _
      | exact spec_PutName.mono _ _ _
      | exact spec_PutPlain.mono _ _ _
      | exact LeO.none _
      | refine LeO.ite ?_ ?_
      | refine LeO.bind ?_ (fun _ => ?_)
set_option maxHeartbeats 8000000 in
set_option maxRecDepth 100000 in
theorem laws_FnWires.calls (k : Nat) (A0 : Option Addr) (c0 : Nat) (l0 : List Int) (r : Bool) (w : World) (hr0 : Kd.C (Kd.int .u8) w A0 l0.length l0) (hc0 : l0.length ≤ c0) (hrt_ : r = true) (h : laws_FnWires.f k l0 = some r) :
    Calls Tryd.prog 8 #[.slice A0 l0.length c0] w fun e w' => e = .returned (.bool r) ∧ Below w.heap.size w w' := by
  have HR0 := Aside0.mk hr0
  have HC0 := Aside0.mk hc0
  clear hr0 hc0
  have HB := Aside0.mk (Below.refl w.heap.size w)
  have H : ((laws_big.f l0).bind fun t610 => (if t610 = true then (some true) else ((spec_DrawPutName.f k l0).bind fun bt611 => ((impl_PutName.f k bt611.1 bt611.2).bind fun t615 => ((impl_PutPlain.f k bt611.1 bt611.2).bind fun t618 => ((spec_PutName.f k bt611.1 bt611.2).bind fun t621 => ((laws_same.f k t615 t621).bind fun t624 => (if t624 = true then ((spec_PutPlain.f k bt611.1 bt611.2).bind fun t625 => ((laws_same.f k t618 t625).bind fun t628 => (if t628 = true then ((impl_NameOk.f k bt611.2).bind fun t629 => (if t629 = true then ((impl_GetName.f k t615 (bt611.1.length : Int)).bind fun bt630 => ((impl_GetName.f k t618 (bt611.1.length : Int)).bind fun bt633 => ((impl_PutName.f k t615 bt611.2).bind fun t636 => ((impl_GetName.f k t636 (t615.length : Int)).bind fun bt639 => (if bt630.2.2 = 0 then (if bt630.1.toList = bt611.2.toList then (if bt630.2.1 = (t615.length : Int) then (if bt633.2.2 = 0 then (if bt633.1.toList = bt611.2.toList then (if bt633.2.1 = (t618.length : Int) then (if (t615.length : Int) ≤ (t618.length : Int) then (if bt639.2.2 = 0 then (if bt639.1.toList = bt611.2.toList then (if bt639.2.1 ≤ (wrap64 ((t615.length : Int) + 2)) then ((impl_JumpsIn.f k t618 (bt611.1.length : Int)).bind fun t642 => (some (t642 == 0))) else (some false)) else (some false)) else (some false)) else (some false)) else (some false)) else (some false)) else (some false)) else (some false)) else (some false)) else (some false)))))) else ((laws_same.f k t615 bt611.1).bind fun t643 => (if t643 = true then ((laws_same.f k t618 bt611.1).bind fun t644 => (some t644)) else (some false))))) else (some false)))) else (some false))))))))) = some r := h
  clear h
  replace H := Option.bind_eq_some_iff.mp H
  obtain ⟨t610, A20, H⟩ := H
  replace H : (if t610 = true then (some true) else ((spec_DrawPutName.f k l0).bind fun bt611 => ((impl_PutName.f k bt611.1 bt611.2).bind fun t615 => ((impl_PutPlain.f k bt611.1 bt611.2).bind fun t618 => ((spec_PutName.f k bt611.1 bt611.2).bind fun t621 => ((laws_same.f k t615 t621).bind fun t624 => (if t624 = true then ((spec_PutPlain.f k bt611.1 bt611.2).bind fun t625 => ((laws_same.f k t618 t625).bind fun t628 => (if t628 = true then ((impl_NameOk.f k bt611.2).bind fun t629 => (if t629 = true then ((impl_GetName.f k t615 (bt611.1.length : Int)).bind fun bt630 => ((impl_GetName.f k t618 (bt611.1.length : Int)).bind fun bt633 => ((impl_PutName.f k t615 bt611.2).bind fun t636 => ((impl_GetName.f k t636 (t615.length : Int)).bind fun bt639 => (if bt630.2.2 = 0 then (if bt630.1.toList = bt611.2.toList then (if bt630.2.1 = (t615.length : Int) then (if bt633.2.2 = 0 then (if bt633.1.toList = bt611.2.toList then (if bt633.2.1 = (t618.length : Int) then (if (t615.length : Int) ≤ (t618.length : Int) then (if bt639.2.2 = 0 then (if bt639.1.toList = bt611.2.toList then (if bt639.2.1 ≤ (wrap64 ((t615.length : Int) + 2)) then ((impl_JumpsIn.f k t618 (bt611.1.length : Int)).bind fun t642 => (some (t642 == 0))) else (some false)) else (some false)) else (some false)) else (some false)) else (some false)) else (some false)) else (some false)) else (some false)) else (some false)) else (some false)))))) else ((laws_same.f k t615 bt611.1).bind fun t643 => (if t643 = true then ((laws_same.f k t618 bt611.1).bind fun t644 => (some t644)) else (some false))))) else (some false)))) else (some false)))))))) = some r := H
  have A2 := Aside0.mk A20
  clear A20
  by_cases c3 : t610 = true
  · subst c3
    have H1 : (some true) = some r := by rw [if_pos rfl] at H; exact H
    clear H
    have H := H1
    clear H1
    obtain rfl := Option.some.inj H
    go_enter Tryd.func8, Tryd.ntmps8
    go_wp2_with (first | ((with_reducible refine gate_callee (f := 21) rfl ?_); refine goesL_ (some 17) rfl rfl Tryd.func21 (by kernel_rfl) rfl #[.slice A0 l0.length c0] rfl (by (try simp only [List.map_toArray, List.map_cons, List.map_nil]); first | done | rfl | (simp only [List.length_drop, List.length_take]; rfl)) ?_; (with_reducible refine (laws_big.calls _ _ l0 true _ ?side1 ?side2 A2.out).mono ?_); (case side1 => exact cU (HR0.out)); (case side2 => exact HC0.out); rintro e w' ⟨rfl, ⟨nd, rfl⟩⟩; refine ⟨_, rfl, ?_⟩))
    go_ret
    exact ⟨by first | rfl | (simp [errW_none, errW_some] <;> rfl) | (simp [*, errW_none, errW_some] <;> rfl) | (exfalso; simp_all; done) | ((have ai_ : ∀ p : Prop, Aside0 p ↔ p := fun p => ⟨fun h => h.out, fun h => ⟨h⟩⟩); simp_all [ai_]; done), by repeat (first | (with_reducible first | exact HB.out | apply below_alloc | apply pw_below_drewN | apply below_drew1) | exact HB.out)⟩
  · replace c3 := Bool.eq_false_iff.mpr c3
    subst c3
    have H1 : ((spec_DrawPutName.f k l0).bind fun bt611 => ((impl_PutName.f k bt611.1 bt611.2).bind fun t615 => ((impl_PutPlain.f k bt611.1 bt611.2).bind fun t618 => ((spec_PutName.f k bt611.1 bt611.2).bind fun t621 => ((laws_same.f k t615 t621).bind fun t624 => (if t624 = true then ((spec_PutPlain.f k bt611.1 bt611.2).bind fun t625 => ((laws_same.f k t618 t625).bind fun t628 => (if t628 = true then ((impl_NameOk.f k bt611.2).bind fun t629 => (if t629 = true then ((impl_GetName.f k t615 (bt611.1.length : Int)).bind fun bt630 => ((impl_GetName.f k t618 (bt611.1.length : Int)).bind fun bt633 => ((impl_PutName.f k t615 bt611.2).bind fun t636 => ((impl_GetName.f k t636 (t615.length : Int)).bind fun bt639 => (if bt630.2.2 = 0 then (if bt630.1.toList = bt611.2.toList then (if bt630.2.1 = (t615.length : Int) then (if bt633.2.2 = 0 then (if bt633.1.toList = bt611.2.toList then (if bt633.2.1 = (t618.length : Int) then (if (t615.length : Int) ≤ (t618.length : Int) then (if bt639.2.2 = 0 then (if bt639.1.toList = bt611.2.toList then (if bt639.2.1 ≤ (wrap64 ((t615.length : Int) + 2)) then ((impl_JumpsIn.f k t618 (bt611.1.length : Int)).bind fun t642 => (some (t642 == 0))) else (some false)) else (some false)) else (some false)) else (some false)) else (some false)) else (some false)) else (some false)) else (some false)) else (some false)) else (some false)))))) else ((laws_same.f k t615 bt611.1).bind fun t643 => (if t643 = true then ((laws_same.f k t618 bt611.1).bind fun t644 => (some t644)) else (some false))))) else (some false)))) else (some false))))))) = some r := by rw [if_neg (show ¬ (false = true) by decide)] at H; exact H
    clear H
    have H := H1
    clear H1
    replace H := Option.bind_eq_some_iff.mp H
    obtain ⟨⟨t611, t612⟩, A40, H⟩ := H
    replace H : ((impl_PutName.f k t611 t612).bind fun t615 => ((impl_PutPlain.f k t611 t612).bind fun t618 => ((spec_PutName.f k t611 t612).bind fun t621 => ((laws_same.f k t615 t621).bind fun t624 => (if t624 = true then ((spec_PutPlain.f k t611 t612).bind fun t625 => ((laws_same.f k t618 t625).bind fun t628 => (if t628 = true then ((impl_NameOk.f k t612).bind fun t629 => (if t629 = true then ((impl_GetName.f k t615 (t611.length : Int)).bind fun bt630 => ((impl_GetName.f k t618 (t611.length : Int)).bind fun bt633 => ((impl_PutName.f k t615 t612).bind fun t636 => ((impl_GetName.f k t636 (t615.length : Int)).bind fun bt639 => (if bt630.2.2 = 0 then (if bt630.1.toList = t612.toList then (if bt630.2.1 = (t615.length : Int) then (if bt633.2.2 = 0 then (if bt633.1.toList = t612.toList then (if bt633.2.1 = (t618.length : Int) then (if (t615.length : Int) ≤ (t618.length : Int) then (if bt639.2.2 = 0 then (if bt639.1.toList = t612.toList then (if bt639.2.1 ≤ (wrap64 ((t615.length : Int) + 2)) then ((impl_JumpsIn.f k t618 (t611.length : Int)).bind fun t642 => (some (t642 == 0))) else (some false)) else (some false)) else (some false)) else (some false)) else (some false)) else (some false)) else (some false)) else (some false)) else (some false)) else (some false)))))) else ((laws_same.f k t615 t611).bind fun t643 => (if t643 = true then ((laws_same.f k t618 t611).bind fun t644 => (some t644)) else (some false))))) else (some false)))) else (some false)))))) = some r := H
    have A4 := Aside0.mk A40
    clear A40
    replace H := Option.bind_eq_some_iff.mp H
    obtain ⟨t615, A50, H⟩ := H
    replace H : ((impl_PutPlain.f k t611 t612).bind fun t618 => ((spec_PutName.f k t611 t612).bind fun t621 => ((laws_same.f k t615 t621).bind fun t624 => (if t624 = true then ((spec_PutPlain.f k t611 t612).bind fun t625 => ((laws_same.f k t618 t625).bind fun t628 => (if t628 = true then ((impl_NameOk.f k t612).bind fun t629 => (if t629 = true then ((impl_GetName.f k t615 (t611.length : Int)).bind fun bt630 => ((impl_GetName.f k t618 (t611.length : Int)).bind fun bt633 => ((impl_PutName.f k t615 t612).bind fun t636 => ((impl_GetName.f k t636 (t615.length : Int)).bind fun bt639 => (if bt630.2.2 = 0 then (if bt630.1.toList = t612.toList then (if bt630.2.1 = (t615.length : Int) then (if bt633.2.2 = 0 then (if bt633.1.toList = t612.toList then (if bt633.2.1 = (t618.length : Int) then (if (t615.length : Int) ≤ (t618.length : Int) then (if bt639.2.2 = 0 then (if bt639.1.toList = t612.toList then (if bt639.2.1 ≤ (wrap64 ((t615.length : Int) + 2)) then ((impl_JumpsIn.f k t618 (t611.length : Int)).bind fun t642 => (some (t642 == 0))) else (some false)) else (some false)) else (some false)) else (some false)) else (some false)) else (some false)) else (some false)) else (some false)) else (some false)) else (some false)))))) else ((laws_same.f k t615 t611).bind fun t643 => (if t643 = true then ((laws_same.f k t618 t611).bind fun t644 => (some t644)) else (some false))))) else (some false)))) else (some false))))) = some r := H
    have A5 := Aside0.mk A50
    clear A50
    replace H := Option.bind_eq_some_iff.mp H
    obtain ⟨t618, A60, H⟩ := H
    replace H : ((spec_PutName.f k t611 t612).bind fun t621 => ((laws_same.f k t615 t621).bind fun t624 => (if t624 = true then ((spec_PutPlain.f k t611 t612).bind fun t625 => ((laws_same.f k t618 t625).bind fun t628 => (if t628 = true then ((impl_NameOk.f k t612).bind fun t629 => (if t629 = true then ((impl_GetName.f k t615 (t611.length : Int)).bind fun bt630 => ((impl_GetName.f k t618 (t611.length : Int)).bind fun bt633 => ((impl_PutName.f k t615 t612).bind fun t636 => ((impl_GetName.f k t636 (t615.length : Int)).bind fun bt639 => (if bt630.2.2 = 0 then (if bt630.1.toList = t612.toList then (if bt630.2.1 = (t615.length : Int) then (if bt633.2.2 = 0 then (if bt633.1.toList = t612.toList then (if bt633.2.1 = (t618.length : Int) then (if (t615.length : Int) ≤ (t618.length : Int) then (if bt639.2.2 = 0 then (if bt639.1.toList = t612.toList then (if bt639.2.1 ≤ (wrap64 ((t615.length : Int) + 2)) then ((impl_JumpsIn.f k t618 (t611.length : Int)).bind fun t642 => (some (t642 == 0))) else (some false)) else (some false)) else (some false)) else (some false)) else (some false)) else (some false)) else (some false)) else (some false)) else (some false)) else (some false)))))) else ((laws_same.f k t615 t611).bind fun t643 => (if t643 = true then ((laws_same.f k t618 t611).bind fun t644 => (some t644)) else (some false))))) else (some false)))) else (some false)))) = some r := H
    have A6 := Aside0.mk A60
    clear A60
    replace H := Option.bind_eq_some_iff.mp H
    obtain ⟨t621, A70, H⟩ := H
    replace H : ((laws_same.f k t615 t621).bind fun t624 => (if t624 = true then ((spec_PutPlain.f k t611 t612).bind fun t625 => ((laws_same.f k t618 t625).bind fun t628 => (if t628 = true then ((impl_NameOk.f k t612).bind fun t629 => (if t629 = true then ((impl_GetName.f k t615 (t611.length : Int)).bind fun bt630 => ((impl_GetName.f k t618 (t611.length : Int)).bind fun bt633 => ((impl_PutName.f k t615 t612).bind fun t636 => ((impl_GetName.f k t636 (t615.length : Int)).bind fun bt639 => (if bt630.2.2 = 0 then (if bt630.1.toList = t612.toList then (if bt630.2.1 = (t615.length : Int) then (if bt633.2.2 = 0 then (if bt633.1.toList = t612.toList then (if bt633.2.1 = (t618.length : Int) then (if (t615.length : Int) ≤ (t618.length : Int) then (if bt639.2.2 = 0 then (if bt639.1.toList = t612.toList then (if bt639.2.1 ≤ (wrap64 ((t615.length : Int) + 2)) then ((impl_JumpsIn.f k t618 (t611.length : Int)).bind fun t642 => (some (t642 == 0))) else (some false)) else (some false)) else (some false)) else (some false)) else (some false)) else (some false)) else (some false)) else (some false)) else (some false)) else (some false)))))) else ((laws_same.f k t615 t611).bind fun t643 => (if t643 = true then ((laws_same.f k t618 t611).bind fun t644 => (some t644)) else (some false))))) else (some false)))) else (some false))) = some r := H
    have A7 := Aside0.mk A70
    clear A70
    replace H := Option.bind_eq_some_iff.mp H
    obtain ⟨t624, A80, H⟩ := H
    replace H : (if t624 = true then ((spec_PutPlain.f k t611 t612).bind fun t625 => ((laws_same.f k t618 t625).bind fun t628 => (if t628 = true then ((impl_NameOk.f k t612).bind fun t629 => (if t629 = true then ((impl_GetName.f k t615 (t611.length : Int)).bind fun bt630 => ((impl_GetName.f k t618 (t611.length : Int)).bind fun bt633 => ((impl_PutName.f k t615 t612).bind fun t636 => ((impl_GetName.f k t636 (t615.length : Int)).bind fun bt639 => (if bt630.2.2 = 0 then (if bt630.1.toList = t612.toList then (if bt630.2.1 = (t615.length : Int) then (if bt633.2.2 = 0 then (if bt633.1.toList = t612.toList then (if bt633.2.1 = (t618.length : Int) then (if (t615.length : Int) ≤ (t618.length : Int) then (if bt639.2.2 = 0 then (if bt639.1.toList = t612.toList then (if bt639.2.1 ≤ (wrap64 ((t615.length : Int) + 2)) then ((impl_JumpsIn.f k t618 (t611.length : Int)).bind fun t642 => (some (t642 == 0))) else (some false)) else (some false)) else (some false)) else (some false)) else (some false)) else (some false)) else (some false)) else (some false)) else (some false)) else (some false)))))) else ((laws_same.f k t615 t611).bind fun t643 => (if t643 = true then ((laws_same.f k t618 t611).bind fun t644 => (some t644)) else (some false))))) else (some false)))) else (some false)) = some r := H
    have A8 := Aside0.mk A80
    clear A80
    by_cases c9 : t624 = true
    · subst c9
      have H1 : ((spec_PutPlain.f k t611 t612).bind fun t625 => ((laws_same.f k t618 t625).bind fun t628 => (if t628 = true then ((impl_NameOk.f k t612).bind fun t629 => (if t629 = true then ((impl_GetName.f k t615 (t611.length : Int)).bind fun bt630 => ((impl_GetName.f k t618 (t611.length : Int)).bind fun bt633 => ((impl_PutName.f k t615 t612).bind fun t636 => ((impl_GetName.f k t636 (t615.length : Int)).bind fun bt639 => (if bt630.2.2 = 0 then (if bt630.1.toList = t612.toList then (if bt630.2.1 = (t615.length : Int) then (if bt633.2.2 = 0 then (if bt633.1.toList = t612.toList then (if bt633.2.1 = (t618.length : Int) then (if (t615.length : Int) ≤ (t618.length : Int) then (if bt639.2.2 = 0 then (if bt639.1.toList = t612.toList then (if bt639.2.1 ≤ (wrap64 ((t615.length : Int) + 2)) then ((impl_JumpsIn.f k t618 (t611.length : Int)).bind fun t642 => (some (t642 == 0))) else (some false)) else (some false)) else (some false)) else (some false)) else (some false)) else (some false)) else (some false)) else (some false)) else (some false)) else (some false)))))) else ((laws_same.f k t615 t611).bind fun t643 => (if t643 = true then ((laws_same.f k t618 t611).bind fun t644 => (some t644)) else (some false))))) else (some false)))) = some r := by rw [if_pos rfl] at H; exact H
      clear H
      have H := H1
      clear H1
      replace H := Option.bind_eq_some_iff.mp H
      obtain ⟨t625, A100, H⟩ := H
      replace H : ((laws_same.f k t618 t625).bind fun t628 => (if t628 = true then ((impl_NameOk.f k t612).bind fun t629 => (if t629 = true then ((impl_GetName.f k t615 (t611.length : Int)).bind fun bt630 => ((impl_GetName.f k t618 (t611.length : Int)).bind fun bt633 => ((impl_PutName.f k t615 t612).bind fun t636 => ((impl_GetName.f k t636 (t615.length : Int)).bind fun bt639 => (if bt630.2.2 = 0 then (if bt630.1.toList = t612.toList then (if bt630.2.1 = (t615.length : Int) then (if bt633.2.2 = 0 then (if bt633.1.toList = t612.toList then (if bt633.2.1 = (t618.length : Int) then (if (t615.length : Int) ≤ (t618.length : Int) then (if bt639.2.2 = 0 then (if bt639.1.toList = t612.toList then (if bt639.2.1 ≤ (wrap64 ((t615.length : Int) + 2)) then ((impl_JumpsIn.f k t618 (t611.length : Int)).bind fun t642 => (some (t642 == 0))) else (some false)) else (some false)) else (some false)) else (some false)) else (some false)) else (some false)) else (some false)) else (some false)) else (some false)) else (some false)))))) else ((laws_same.f k t615 t611).bind fun t643 => (if t643 = true then ((laws_same.f k t618 t611).bind fun t644 => (some t644)) else (some false))))) else (some false))) = some r := H
      have A10 := Aside0.mk A100
      clear A100
      replace H := Option.bind_eq_some_iff.mp H
      obtain ⟨t628, A110, H⟩ := H
      replace H : (if t628 = true then ((impl_NameOk.f k t612).bind fun t629 => (if t629 = true then ((impl_GetName.f k t615 (t611.length : Int)).bind fun bt630 => ((impl_GetName.f k t618 (t611.length : Int)).bind fun bt633 => ((impl_PutName.f k t615 t612).bind fun t636 => ((impl_GetName.f k t636 (t615.length : Int)).bind fun bt639 => (if bt630.2.2 = 0 then (if bt630.1.toList = t612.toList then (if bt630.2.1 = (t615.length : Int) then (if bt633.2.2 = 0 then (if bt633.1.toList = t612.toList then (if bt633.2.1 = (t618.length : Int) then (if (t615.length : Int) ≤ (t618.length : Int) then (if bt639.2.2 = 0 then (if bt639.1.toList = t612.toList then (if bt639.2.1 ≤ (wrap64 ((t615.length : Int) + 2)) then ((impl_JumpsIn.f k t618 (t611.length : Int)).bind fun t642 => (some (t642 == 0))) else (some false)) else (some false)) else (some false)) else (some false)) else (some false)) else (some false)) else (some false)) else (some false)) else (some false)) else (some false)))))) else ((laws_same.f k t615 t611).bind fun t643 => (if t643 = true then ((laws_same.f k t618 t611).bind fun t644 => (some t644)) else (some false))))) else (some false)) = some r := H
      have A11 := Aside0.mk A110
      clear A110
      by_cases c12 : t628 = true
      · subst c12
        have H1 : ((impl_NameOk.f k t612).bind fun t629 => (if t629 = true then ((impl_GetName.f k t615 (t611.length : Int)).bind fun bt630 => ((impl_GetName.f k t618 (t611.length : Int)).bind fun bt633 => ((impl_PutName.f k t615 t612).bind fun t636 => ((impl_GetName.f k t636 (t615.length : Int)).bind fun bt639 => (if bt630.2.2 = 0 then (if bt630.1.toList = t612.toList then (if bt630.2.1 = (t615.length : Int) then (if bt633.2.2 = 0 then (if bt633.1.toList = t612.toList then (if bt633.2.1 = (t618.length : Int) then (if (t615.length : Int) ≤ (t618.length : Int) then (if bt639.2.2 = 0 then (if bt639.1.toList = t612.toList then (if bt639.2.1 ≤ (wrap64 ((t615.length : Int) + 2)) then ((impl_JumpsIn.f k t618 (t611.length : Int)).bind fun t642 => (some (t642 == 0))) else (some false)) else (some false)) else (some false)) else (some false)) else (some false)) else (some false)) else (some false)) else (some false)) else (some false)) else (some false)))))) else ((laws_same.f k t615 t611).bind fun t643 => (if t643 = true then ((laws_same.f k t618 t611).bind fun t644 => (some t644)) else (some false))))) = some r := by rw [if_pos rfl] at H; exact H
        clear H
        have H := H1
        clear H1
        replace H := Option.bind_eq_some_iff.mp H
        obtain ⟨t629, A130, H⟩ := H
        replace H : (if t629 = true then ((impl_GetName.f k t615 (t611.length : Int)).bind fun bt630 => ((impl_GetName.f k t618 (t611.length : Int)).bind fun bt633 => ((impl_PutName.f k t615 t612).bind fun t636 => ((impl_GetName.f k t636 (t615.length : Int)).bind fun bt639 => (if bt630.2.2 = 0 then (if bt630.1.toList = t612.toList then (if bt630.2.1 = (t615.length : Int) then (if bt633.2.2 = 0 then (if bt633.1.toList = t612.toList then (if bt633.2.1 = (t618.length : Int) then (if (t615.length : Int) ≤ (t618.length : Int) then (if bt639.2.2 = 0 then (if bt639.1.toList = t612.toList then (if bt639.2.1 ≤ (wrap64 ((t615.length : Int) + 2)) then ((impl_JumpsIn.f k t618 (t611.length : Int)).bind fun t642 => (some (t642 == 0))) else (some false)) else (some false)) else (some false)) else (some false)) else (some false)) else (some false)) else (some false)) else (some false)) else (some false)) else (some false)))))) else ((laws_same.f k t615 t611).bind fun t643 => (if t643 = true then ((laws_same.f k t618 t611).bind fun t644 => (some t644)) else (some false)))) = some r := H
        have A13 := Aside0.mk A130
        clear A130
        by_cases c14 : t629 = true
        · subst c14
          have H1 : ((impl_GetName.f k t615 (t611.length : Int)).bind fun bt630 => ((impl_GetName.f k t618 (t611.length : Int)).bind fun bt633 => ((impl_PutName.f k t615 t612).bind fun t636 => ((impl_GetName.f k t636 (t615.length : Int)).bind fun bt639 => (if bt630.2.2 = 0 then (if bt630.1.toList = t612.toList then (if bt630.2.1 = (t615.length : Int) then (if bt633.2.2 = 0 then (if bt633.1.toList = t612.toList then (if bt633.2.1 = (t618.length : Int) then (if (t615.length : Int) ≤ (t618.length : Int) then (if bt639.2.2 = 0 then (if bt639.1.toList = t612.toList then (if bt639.2.1 ≤ (wrap64 ((t615.length : Int) + 2)) then ((impl_JumpsIn.f k t618 (t611.length : Int)).bind fun t642 => (some (t642 == 0))) else (some false)) else (some false)) else (some false)) else (some false)) else (some false)) else (some false)) else (some false)) else (some false)) else (some false)) else (some false)))))) = some r := by rw [if_pos rfl] at H; exact H
          clear H
          have H := H1
          clear H1
          replace H := Option.bind_eq_some_iff.mp H
          obtain ⟨⟨t630, t631, t632⟩, A150, H⟩ := H
          replace H : ((impl_GetName.f k t618 (t611.length : Int)).bind fun bt633 => ((impl_PutName.f k t615 t612).bind fun t636 => ((impl_GetName.f k t636 (t615.length : Int)).bind fun bt639 => (if t632 = 0 then (if t630.toList = t612.toList then (if t631 = (t615.length : Int) then (if bt633.2.2 = 0 then (if bt633.1.toList = t612.toList then (if bt633.2.1 = (t618.length : Int) then (if (t615.length : Int) ≤ (t618.length : Int) then (if bt639.2.2 = 0 then (if bt639.1.toList = t612.toList then (if bt639.2.1 ≤ (wrap64 ((t615.length : Int) + 2)) then ((impl_JumpsIn.f k t618 (t611.length : Int)).bind fun t642 => (some (t642 == 0))) else (some false)) else (some false)) else (some false)) else (some false)) else (some false)) else (some false)) else (some false)) else (some false)) else (some false)) else (some false))))) = some r := H
          have A15 := Aside0.mk A150
          clear A150
          replace H := Option.bind_eq_some_iff.mp H
          obtain ⟨⟨t633, t634, t635⟩, A160, H⟩ := H
          replace H : ((impl_PutName.f k t615 t612).bind fun t636 => ((impl_GetName.f k t636 (t615.length : Int)).bind fun bt639 => (if t632 = 0 then (if t630.toList = t612.toList then (if t631 = (t615.length : Int) then (if t635 = 0 then (if t633.toList = t612.toList then (if t634 = (t618.length : Int) then (if (t615.length : Int) ≤ (t618.length : Int) then (if bt639.2.2 = 0 then (if bt639.1.toList = t612.toList then (if bt639.2.1 ≤ (wrap64 ((t615.length : Int) + 2)) then ((impl_JumpsIn.f k t618 (t611.length : Int)).bind fun t642 => (some (t642 == 0))) else (some false)) else (some false)) else (some false)) else (some false)) else (some false)) else (some false)) else (some false)) else (some false)) else (some false)) else (some false)))) = some r := H
          have A16 := Aside0.mk A160
          clear A160
          replace H := Option.bind_eq_some_iff.mp H
          obtain ⟨t636, A170, H⟩ := H
          replace H : ((impl_GetName.f k t636 (t615.length : Int)).bind fun bt639 => (if t632 = 0 then (if t630.toList = t612.toList then (if t631 = (t615.length : Int) then (if t635 = 0 then (if t633.toList = t612.toList then (if t634 = (t618.length : Int) then (if (t615.length : Int) ≤ (t618.length : Int) then (if bt639.2.2 = 0 then (if bt639.1.toList = t612.toList then (if bt639.2.1 ≤ (wrap64 ((t615.length : Int) + 2)) then ((impl_JumpsIn.f k t618 (t611.length : Int)).bind fun t642 => (some (t642 == 0))) else (some false)) else (some false)) else (some false)) else (some false)) else (some false)) else (some false)) else (some false)) else (some false)) else (some false)) else (some false))) = some r := H
          have A17 := Aside0.mk A170
          clear A170
          replace H := Option.bind_eq_some_iff.mp H
          obtain ⟨⟨t639, t640, t641⟩, A180, H⟩ := H
          replace H : (if t632 = 0 then (if t630.toList = t612.toList then (if t631 = (t615.length : Int) then (if t635 = 0 then (if t633.toList = t612.toList then (if t634 = (t618.length : Int) then (if (t615.length : Int) ≤ (t618.length : Int) then (if t641 = 0 then (if t639.toList = t612.toList then (if t640 ≤ (wrap64 ((t615.length : Int) + 2)) then ((impl_JumpsIn.f k t618 (t611.length : Int)).bind fun t642 => (some (t642 == 0))) else (some false)) else (some false)) else (some false)) else (some false)) else (some false)) else (some false)) else (some false)) else (some false)) else (some false)) else (some false)) = some r := H
          have A18 := Aside0.mk A180
          clear A180
          by_cases c19 : t632 = 0
          · rw [if_pos c19] at H
            have c19b0 : (t632 == 0) = true := beq_iff_eq.mpr c19
            have c19b1 : (t632 != 0) = false := bne_eq_false_iff_eq.mpr c19
            clear c19
            by_cases c20 : t630.toList = t612.toList
            · rw [if_pos c20] at H
              have c20b0 : (t630.toList == t612.toList) = true := beq_iff_eq.mpr c20
              have c20b1 : (t630.toList != t612.toList) = false := bne_eq_false_iff_eq.mpr c20
              clear c20
              by_cases c21 : t631 = (t615.length : Int)
              · rw [if_pos c21] at H
                have c21b0 : (t631 == (t615.length : Int)) = true := beq_iff_eq.mpr c21
                have c21b1 : (t631 != (t615.length : Int)) = false := bne_eq_false_iff_eq.mpr c21
                clear c21
                by_cases c22 : t635 = 0
                · rw [if_pos c22] at H
                  have c22b0 : (t635 == 0) = true := beq_iff_eq.mpr c22
                  have c22b1 : (t635 != 0) = false := bne_eq_false_iff_eq.mpr c22
                  clear c22
                  by_cases c23 : t633.toList = t612.toList
                  · rw [if_pos c23] at H
                    have c23b0 : (t633.toList == t612.toList) = true := beq_iff_eq.mpr c23
                    have c23b1 : (t633.toList != t612.toList) = false := bne_eq_false_iff_eq.mpr c23
                    clear c23
                    by_cases c24 : t634 = (t618.length : Int)
                    · rw [if_pos c24] at H
                      have c24b0 : (t634 == (t618.length : Int)) = true := beq_iff_eq.mpr c24
                      have c24b1 : (t634 != (t618.length : Int)) = false := bne_eq_false_iff_eq.mpr c24
                      clear c24
                      by_cases c25 : (t615.length : Int) ≤ (t618.length : Int)
                      · rw [if_pos c25] at H
                        have c25b0 : decide ((t615.length : Int) ≤ (t618.length : Int)) = true := decide_eq_true c25
                        have c25b1 : decide (t615.length ≤ t618.length) = true := decide_eq_true (Int.ofNat_le.mp c25)
                        clear c25
                        by_cases c26 : t641 = 0
                        · rw [if_pos c26] at H
                          have c26b0 : (t641 == 0) = true := beq_iff_eq.mpr c26
                          have c26b1 : (t641 != 0) = false := bne_eq_false_iff_eq.mpr c26
                          clear c26
                          by_cases c27 : t639.toList = t612.toList
                          · rw [if_pos c27] at H
                            have c27b0 : (t639.toList == t612.toList) = true := beq_iff_eq.mpr c27
                            have c27b1 : (t639.toList != t612.toList) = false := bne_eq_false_iff_eq.mpr c27
                            clear c27
                            by_cases c28 : t640 ≤ (wrap64 ((t615.length : Int) + 2))
                            · rw [if_pos c28] at H
                              have c28b0 : decide (t640 ≤ (wrap64 ((t615.length : Int) + 2))) = true := decide_eq_true c28
                              clear c28
                              replace H := Option.bind_eq_some_iff.mp H
                              obtain ⟨t642, A290, H⟩ := H
                              replace H : (some (t642 == 0)) = some r := H
                              have A29 := Aside0.mk A290
                              clear A290
                              obtain rfl := Option.some.inj H
                              go_enter Tryd.func8, Tryd.ntmps8
                              go_wp2_with (first | ((with_reducible refine gate_callee (f := 21) rfl ?_); refine goesL_ (some 17) rfl rfl Tryd.func21 (by kernel_rfl) rfl #[.slice A0 l0.length c0] rfl (by (try simp only [List.map_toArray, List.map_cons, List.map_nil]); first | done | rfl | (simp only [List.length_drop, List.length_take]; rfl)) ?_; (with_reducible refine (laws_big.calls _ _ l0 false _ ?side1 ?side2 A2.out).mono ?_); (case side1 => exact cU (HR0.out)); (case side2 => exact HC0.out); rintro e w' ⟨rfl, ⟨nd, rfl⟩⟩; refine ⟨_, rfl, ?_⟩) | ((with_reducible refine gate_callee (f := 55) rfl ?_); refine goesL_ (some 20) rfl rfl Tryd.func55 (by kernel_rfl) rfl #[.slice A0 l0.length c0] rfl (by (try simp only [List.map_toArray, List.map_cons, List.map_nil]); first | done | rfl | (simp only [List.length_drop, List.length_take]; rfl)) ?_; (with_reducible refine (spec_DrawPutName.calls k _ _ l0 t611 t612 _ ?side1 ?side2 A4.out).mono ?_); (case side1 => exact cU (HR0.out)); (case side2 => exact HC0.out); rintro e w30 ⟨v613, rfl, ho0, hb⟩; refine ⟨_, rfl, ?_⟩; have n0_ := Aside0.mk (Kd.R_lower ho0 (below_size (wU HB.out))); have n1_ := Aside0.mk (below_step (wU HB.out) hb); clear HB; have HO614 := n0_; have HB := n1_; clear n0_ n1_; (try clear hb); (try clear hb2); (try clear hk); (try clear hi); (try clear ho0); obtain ⟨Ao31, co31, eo31⟩ := Kd.R_slice HO614.out; subst eo31) | ((with_reducible refine gate_callee (f := 56) rfl ?_); refine goesL_ (some 25) rfl rfl Tryd.func56 (by kernel_rfl) rfl #[.slice Ao31 t611.length co31, .string t612] rfl (by (try simp only [List.map_toArray, List.map_cons, List.map_nil]); first | done | rfl | (simp only [List.length_drop, List.length_take]; rfl)) ?_; (with_reducible refine (impl_PutName.calls k _ _ t611 t612 t615 _ ?side1 ?side2 A5.out).mono ?_); (case side1 => exact cU ((Kd.R_reads' HO614.out).2.2)); (case side2 => exact (Kd.R_reads' HO614.out).2.1); rintro e w32 ⟨v616, rfl, ho0, hb⟩; refine ⟨_, rfl, ?_⟩; have n0_ := Aside0.mk (Kd.R_elder' (rU HO614.out) (Kd.R_base ho0) hb); have n1_ := Aside0.mk (Kd.R_lower (Kd.R_new' ho0 (Kd.R_lt (rU HO614.out))) (below_size (wU HB.out))); have n2_ := Aside0.mk (below_step (wU HB.out) hb); clear HO614; clear HB; have HO614 := n0_; have HO617 := n1_; have HB := n2_; clear n0_ n1_ n2_; (try clear hb); (try clear hb2); (try clear hk); (try clear hi); (try clear ho0)) | ((with_reducible refine gate_callee (f := 57) rfl ?_); refine goesL_ (some 28) rfl rfl Tryd.func57 (by kernel_rfl) rfl #[.slice Ao31 t611.length co31, .string t612] rfl (by (try simp only [List.map_toArray, List.map_cons, List.map_nil]); first | done | rfl | (simp only [List.length_drop, List.length_take]; rfl)) ?_; (with_reducible refine (impl_PutPlain.calls k _ _ t611 t612 t618 _ ?side1 ?side2 A6.out).mono ?_); (case side1 => exact cU ((Kd.R_reads' HO614.out).2.2)); (case side2 => exact (Kd.R_reads' HO614.out).2.1); rintro e w33 ⟨v619, rfl, ho0, hb⟩; refine ⟨_, rfl, ?_⟩; have n0_ := Aside0.mk (Kd.R_elder' (rU HO614.out) (Kd.R_base ho0) hb); have n1_ := Aside0.mk (Kd.R_elder' (rU HO617.out) (Kd.R_base ho0) hb); have n2_ := Aside0.mk (Kd.R_lower (Kd.R_new' (Kd.R_new' ho0 (Kd.R_lt (rU HO614.out))) (Kd.R_lt (rU HO617.out))) (below_size (wU HB.out))); have n3_ := Aside0.mk (below_step (wU HB.out) hb); clear HO614; clear HO617; clear HB; have HO614 := n0_; have HO617 := n1_; have HO620 := n2_; have HB := n3_; clear n0_ n1_ n2_ n3_; (try clear hb); (try clear hb2); (try clear hk); (try clear hi); (try clear ho0)) | ((with_reducible refine gate_callee (f := 59) rfl ?_); refine goesL_ (some 32) rfl rfl Tryd.func59 (by kernel_rfl) rfl #[.slice Ao31 t611.length co31, .string t612] rfl (by (try simp only [List.map_toArray, List.map_cons, List.map_nil]); first | done | rfl | (simp only [List.length_drop, List.length_take]; rfl)) ?_; (with_reducible refine (spec_PutName.calls k _ _ t611 t612 t621 _ ?side1 ?side2 A7.out).mono ?_); (case side1 => exact cU ((Kd.R_reads' HO614.out).2.2)); (case side2 => exact (Kd.R_reads' HO614.out).2.1); rintro e w34 ⟨v622, rfl, ho0, hb⟩; refine ⟨_, rfl, ?_⟩; have n0_ := Aside0.mk (Kd.R_elder' (rU HO614.out) (Kd.R_base ho0) hb); have n1_ := Aside0.mk (Kd.R_elder' (rU HO617.out) (Kd.R_base ho0) hb); have n2_ := Aside0.mk (Kd.R_elder' (rU HO620.out) (Kd.R_base ho0) hb); have n3_ := Aside0.mk (Kd.R_lower (Kd.R_new' (Kd.R_new' (Kd.R_new' ho0 (Kd.R_lt (rU HO614.out))) (Kd.R_lt (rU HO617.out))) (Kd.R_lt (rU HO620.out))) (below_size (wU HB.out))); have n4_ := Aside0.mk (below_step (wU HB.out) hb); clear HO614; clear HO617; clear HO620; clear HB; have HO614 := n0_; have HO617 := n1_; have HO620 := n2_; have HO623 := n3_; have HB := n4_; clear n0_ n1_ n2_ n3_ n4_; (try clear hb); (try clear hb2); (try clear hk); (try clear hi); (try clear ho0); obtain ⟨Ao35, co35, eo35⟩ := Kd.R_slice HO617.out; subst eo35; obtain ⟨Ao36, co36, eo36⟩ := Kd.R_slice HO623.out; subst eo36) | ((with_reducible refine gate_callee (f := 58) rfl ?_); refine goesL_ (some 33) rfl rfl Tryd.func58 (by kernel_rfl) rfl #[.slice Ao35 t615.length co35, .slice Ao36 t621.length co36] rfl (by (try simp only [List.map_toArray, List.map_cons, List.map_nil]); first | done | rfl | (simp only [List.length_drop, List.length_take]; rfl)) ?_; (with_reducible refine (laws_same.calls k _ _ t615 _ _ t621 true _ ?side1 ?side2 ?side3 ?side4 A8.out).mono ?_); (case side1 => exact cU ((Kd.R_reads' HO617.out).2.2)); (case side2 => exact (Kd.R_reads' HO617.out).2.1); (case side3 => exact cU ((Kd.R_reads' HO623.out).2.2)); (case side4 => exact (Kd.R_reads' HO623.out).2.1); rintro e w' ⟨rfl, ⟨nd, rfl⟩⟩; refine ⟨_, rfl, ?_⟩) | (go_at_call 60; (with_reducible refine (spec_PutPlain.calls k _ _ t611 t612 t625 _ ?side1 ?side2 A10.out).mono ?_); (case side1 => exact cU ((Kd.R_reads' HO614.out).2.2)); (case side2 => exact (Kd.R_reads' HO614.out).2.1); rintro e w37 ⟨v626, rfl, ho0, hb⟩; have n0_ := Aside0.mk (Kd.R_elder' (rU HO614.out) (Kd.R_base ho0) hb); have n1_ := Aside0.mk (Kd.R_elder' (rU HO617.out) (Kd.R_base ho0) hb); have n2_ := Aside0.mk (Kd.R_elder' (rU HO620.out) (Kd.R_base ho0) hb); have n3_ := Aside0.mk (Kd.R_lower (Kd.R_new' (Kd.R_new' (Kd.R_new' ho0 (Kd.R_lt (rU HO614.out))) (Kd.R_lt (rU HO617.out))) (Kd.R_lt (rU HO620.out))) (below_size (wU HB.out))); have n4_ := Aside0.mk (below_step (wU HB.out) hb); clear HO614; clear HO617; clear HO620; clear HB; have HO614 := n0_; have HO617 := n1_; have HO620 := n2_; have HO627 := n3_; have HB := n4_; clear n0_ n1_ n2_ n3_ n4_; (try clear hb); (try clear hb2); (try clear hk); (try clear hi); (try clear ho0); obtain ⟨Ao38, co38, eo38⟩ := Kd.R_slice HO620.out; subst eo38; obtain ⟨Ao39, co39, eo39⟩ := Kd.R_slice HO627.out; subst eo39) | (go_at_call 58; (with_reducible refine (laws_same.calls k _ _ t618 _ _ t625 true _ ?side1 ?side2 ?side3 ?side4 A11.out).mono ?_); (case side1 => exact cU ((Kd.R_reads' HO620.out).2.2)); (case side2 => exact (Kd.R_reads' HO620.out).2.1); (case side3 => exact cU ((Kd.R_reads' HO627.out).2.2)); (case side4 => exact (Kd.R_reads' HO627.out).2.1); rintro e w' ⟨rfl, ⟨nd, rfl⟩⟩) | ((with_reducible refine gate_callee (f := 39) rfl ?_); refine goesL_ (some 44) rfl rfl Tryd.func39 (by kernel_rfl) rfl #[.string t612] rfl (by (try simp only [List.map_toArray, List.map_cons, List.map_nil]); first | done | rfl | (simp only [List.length_drop, List.length_take]; rfl)) ?_; (with_reducible refine (impl_NameOk.calls k t612 true _ A13.out).mono ?_); rintro e w40 ⟨rfl, hb⟩; refine ⟨_, rfl, ?_⟩; have n0_ := Aside0.mk (Kd.R_below (rU HO614.out) hb); have n1_ := Aside0.mk (Kd.R_below (rU HO617.out) hb); have n2_ := Aside0.mk (Kd.R_below (rU HO620.out) hb); have n3_ := Aside0.mk (below_step (wU HB.out) hb); clear HO614; clear HO617; clear HO620; clear HB; have HO614 := n0_; have HO617 := n1_; have HO620 := n2_; have HB := n3_; clear n0_ n1_ n2_ n3_; (try clear hb); (try clear hb2); (try clear hk); (try clear hi)) | ((with_reducible refine gate_callee (f := 45) rfl ?_); refine goesL_ (some 58) rfl rfl Tryd.func45 (by kernel_rfl) rfl #[.slice Ao35 t615.length co35, .int .i64 (t611.length : Int)] rfl (by (try simp only [List.map_toArray, List.map_cons, List.map_nil]); first | done | rfl | (simp only [List.length_drop, List.length_take]; rfl)) ?_; (with_reducible refine (impl_GetName.calls k _ _ t615 (t611.length : Int) t630 t631 t632 _ ?side1 ?side2 A15.out).mono ?_); (case side1 => exact cU ((Kd.R_reads' HO617.out).2.2)); (case side2 => exact (Kd.R_reads' HO617.out).2.1); rintro e w41 ⟨rfl, hb⟩; refine ⟨_, rfl, ?_⟩; have n0_ := Aside0.mk (Kd.R_below (rU HO614.out) hb); have n1_ := Aside0.mk (Kd.R_below (rU HO617.out) hb); have n2_ := Aside0.mk (Kd.R_below (rU HO620.out) hb); have n3_ := Aside0.mk (below_step (wU HB.out) hb); clear HO614; clear HO617; clear HO620; clear HB; have HO614 := n0_; have HO617 := n1_; have HO620 := n2_; have HB := n3_; clear n0_ n1_ n2_ n3_; (try clear hb); (try clear hb2); (try clear hk); (try clear hi)) | ((with_reducible refine gate_callee (f := 45) rfl ?_); refine goesL_ (some 66) rfl rfl Tryd.func45 (by kernel_rfl) rfl #[.slice Ao38 t618.length co38, .int .i64 (t611.length : Int)] rfl (by (try simp only [List.map_toArray, List.map_cons, List.map_nil]); first | done | rfl | (simp only [List.length_drop, List.length_take]; rfl)) ?_; (with_reducible refine (impl_GetName.calls k _ _ t618 (t611.length : Int) t633 t634 t635 _ ?side1 ?side2 A16.out).mono ?_); (case side1 => exact cU ((Kd.R_reads' HO620.out).2.2)); (case side2 => exact (Kd.R_reads' HO620.out).2.1); rintro e w42 ⟨rfl, hb⟩; refine ⟨_, rfl, ?_⟩; have n0_ := Aside0.mk (Kd.R_below (rU HO614.out) hb); have n1_ := Aside0.mk (Kd.R_below (rU HO617.out) hb); have n2_ := Aside0.mk (Kd.R_below (rU HO620.out) hb); have n3_ := Aside0.mk (below_step (wU HB.out) hb); clear HO614; clear HO617; clear HO620; clear HB; have HO614 := n0_; have HO617 := n1_; have HO620 := n2_; have HB := n3_; clear n0_ n1_ n2_ n3_; (try clear hb); (try clear hb2); (try clear hk); (try clear hi)) | ((with_reducible refine gate_callee (f := 56) rfl ?_); refine goesL_ (some 73) rfl rfl Tryd.func56 (by kernel_rfl) rfl #[.slice Ao35 t615.length co35, .string t612] rfl (by (try simp only [List.map_toArray, List.map_cons, List.map_nil]); first | done | rfl | (simp only [List.length_drop, List.length_take]; rfl)) ?_; (with_reducible refine (impl_PutName.calls k _ _ t615 t612 t636 _ ?side1 ?side2 A17.out).mono ?_); (case side1 => exact cU ((Kd.R_reads' HO617.out).2.2)); (case side2 => exact (Kd.R_reads' HO617.out).2.1); rintro e w43 ⟨v637, rfl, ho0, hb⟩; refine ⟨_, rfl, ?_⟩; have n0_ := Aside0.mk (Kd.R_elder' (rU HO614.out) (Kd.R_base ho0) hb); have n1_ := Aside0.mk (Kd.R_elder' (rU HO617.out) (Kd.R_base ho0) hb); have n2_ := Aside0.mk (Kd.R_elder' (rU HO620.out) (Kd.R_base ho0) hb); have n3_ := Aside0.mk (Kd.R_lower (Kd.R_new' (Kd.R_new' (Kd.R_new' ho0 (Kd.R_lt (rU HO614.out))) (Kd.R_lt (rU HO617.out))) (Kd.R_lt (rU HO620.out))) (below_size (wU HB.out))); have n4_ := Aside0.mk (below_step (wU HB.out) hb); clear HO614; clear HO617; clear HO620; clear HB; have HO614 := n0_; have HO617 := n1_; have HO620 := n2_; have HO638 := n3_; have HB := n4_; clear n0_ n1_ n2_ n3_ n4_; (try clear hb); (try clear hb2); (try clear hk); (try clear hi); (try clear ho0); obtain ⟨Ao44, co44, eo44⟩ := Kd.R_slice HO638.out; subst eo44) | ((with_reducible refine gate_callee (f := 45) rfl ?_); refine goesL_ (some 76) rfl rfl Tryd.func45 (by kernel_rfl) rfl #[.slice Ao44 t636.length co44, .int .i64 (t615.length : Int)] rfl (by (try simp only [List.map_toArray, List.map_cons, List.map_nil]); first | done | rfl | (simp only [List.length_drop, List.length_take]; rfl)) ?_; (with_reducible refine (impl_GetName.calls k _ _ t636 (t615.length : Int) t639 t640 t641 _ ?side1 ?side2 A18.out).mono ?_); (case side1 => exact cU ((Kd.R_reads' HO638.out).2.2)); (case side2 => exact (Kd.R_reads' HO638.out).2.1); rintro e w45 ⟨rfl, hb⟩; refine ⟨_, rfl, ?_⟩; have n0_ := Aside0.mk (Kd.R_below (rU HO614.out) hb); have n1_ := Aside0.mk (Kd.R_below (rU HO617.out) hb); have n2_ := Aside0.mk (Kd.R_below (rU HO620.out) hb); have n3_ := Aside0.mk (Kd.R_below (rU HO638.out) hb); have n4_ := Aside0.mk (below_step (wU HB.out) hb); clear HO614; clear HO617; clear HO620; clear HO638; clear HB; have HO614 := n0_; have HO617 := n1_; have HO620 := n2_; have HO638 := n3_; have HB := n4_; clear n0_ n1_ n2_ n3_ n4_; (try clear hb); (try clear hb2); (try clear hk); (try clear hi)) | (go_at_call 50; (with_reducible refine (impl_JumpsIn.calls k _ _ t618 (t611.length : Int) t642 _ ?side1 ?side2 A29.out).mono ?_); (case side1 => exact cU ((Kd.R_reads' HO620.out).2.2)); (case side2 => exact (Kd.R_reads' HO620.out).2.1); rintro e w46 ⟨rfl, hb⟩; have n0_ := Aside0.mk (Kd.R_below (rU HO620.out) hb); have n1_ := Aside0.mk (below_step (wU HB.out) hb); clear HO620; clear HB; have HO620 := n0_; have HB := n1_; clear n0_ n1_; (try clear hb); (try clear hb2); (try clear hk); (try clear hi)))
                              go_ret
                              exact ⟨by first | rfl | (simp [errW_none, errW_some] <;> rfl) | (simp [*, errW_none, errW_some] <;> rfl) | (exfalso; simp_all; done) | ((have ai_ : ∀ p : Prop, Aside0 p ↔ p := fun p => ⟨fun h => h.out, fun h => ⟨h⟩⟩); simp_all [ai_]; done), by repeat (first | (with_reducible first | exact HB.out | apply below_alloc | apply pw_below_drewN | apply below_drew1) | exact HB.out)⟩
                            · rw [if_neg c28] at H
                              have c28b0 : decide (t640 ≤ (wrap64 ((t615.length : Int) + 2))) = false := decide_eq_false c28
                              clear c28
                              exact absurd (H.trans (congrArg some hrt_)) (by simp)
                          · rw [if_neg c27] at H
                            have c27b0 : (t639.toList == t612.toList) = false := beq_eq_false_iff_ne.mpr c27
                            have c27b1 : (t639.toList != t612.toList) = true := bne_iff_ne.mpr c27
                            exact absurd (H.trans (congrArg some hrt_)) (by simp)
                        · rw [if_neg c26] at H
                          have c26b0 : (t641 == 0) = false := beq_eq_false_iff_ne.mpr c26
                          have c26b1 : (t641 != 0) = true := bne_iff_ne.mpr c26
                          exact absurd (H.trans (congrArg some hrt_)) (by simp)
                      · rw [if_neg c25] at H
                        have c25b0 : decide ((t615.length : Int) ≤ (t618.length : Int)) = false := decide_eq_false c25
                        have c25b1 : decide (t615.length ≤ t618.length) = false := decide_eq_false (fun h => c25 (Int.ofNat_le.mpr h))
                        clear c25
                        exact absurd (H.trans (congrArg some hrt_)) (by simp)
                    · rw [if_neg c24] at H
                      have c24b0 : (t634 == (t618.length : Int)) = false := beq_eq_false_iff_ne.mpr c24
                      have c24b1 : (t634 != (t618.length : Int)) = true := bne_iff_ne.mpr c24
                      exact absurd (H.trans (congrArg some hrt_)) (by simp)
                  · rw [if_neg c23] at H
                    have c23b0 : (t633.toList == t612.toList) = false := beq_eq_false_iff_ne.mpr c23
                    have c23b1 : (t633.toList != t612.toList) = true := bne_iff_ne.mpr c23
                    exact absurd (H.trans (congrArg some hrt_)) (by simp)
                · rw [if_neg c22] at H
                  have c22b0 : (t635 == 0) = false := beq_eq_false_iff_ne.mpr c22
                  have c22b1 : (t635 != 0) = true := bne_iff_ne.mpr c22
                  exact absurd (H.trans (congrArg some hrt_)) (by simp)
              · rw [if_neg c21] at H
                have c21b0 : (t631 == (t615.length : Int)) = false := beq_eq_false_iff_ne.mpr c21
                have c21b1 : (t631 != (t615.length : Int)) = true := bne_iff_ne.mpr c21
                exact absurd (H.trans (congrArg some hrt_)) (by simp)
            · rw [if_neg c20] at H
              have c20b0 : (t630.toList == t612.toList) = false := beq_eq_false_iff_ne.mpr c20
              have c20b1 : (t630.toList != t612.toList) = true := bne_iff_ne.mpr c20
              exact absurd (H.trans (congrArg some hrt_)) (by simp)
          · rw [if_neg c19] at H
            have c19b0 : (t632 == 0) = false := beq_eq_false_iff_ne.mpr c19
            have c19b1 : (t632 != 0) = true := bne_iff_ne.mpr c19
            exact absurd (H.trans (congrArg some hrt_)) (by simp)
        · replace c14 := Bool.eq_false_iff.mpr c14
          subst c14
          have H1 : ((laws_same.f k t615 t611).bind fun t643 => (if t643 = true then ((laws_same.f k t618 t611).bind fun t644 => (some t644)) else (some false))) = some r := by rw [if_neg (show ¬ (false = true) by decide)] at H; exact H
          clear H
          have H := H1
          clear H1
          replace H := Option.bind_eq_some_iff.mp H
          obtain ⟨t643, A470, H⟩ := H
          replace H : (if t643 = true then ((laws_same.f k t618 t611).bind fun t644 => (some t644)) else (some false)) = some r := H
          have A47 := Aside0.mk A470
          clear A470
          by_cases c48 : t643 = true
          · subst c48
            have H1 : ((laws_same.f k t618 t611).bind fun t644 => (some t644)) = some r := by rw [if_pos rfl] at H; exact H
            clear H
            have H := H1
            clear H1
            replace H := Option.bind_eq_some_iff.mp H
            obtain ⟨t644, A490, H⟩ := H
            replace H : (some t644) = some r := H
            have A49 := Aside0.mk A490
            clear A490
            obtain rfl := Option.some.inj H
            go_enter Tryd.func8, Tryd.ntmps8
            go_wp2_with (first | ((with_reducible refine gate_callee (f := 21) rfl ?_); refine goesL_ (some 17) rfl rfl Tryd.func21 (by kernel_rfl) rfl #[.slice A0 l0.length c0] rfl (by (try simp only [List.map_toArray, List.map_cons, List.map_nil]); first | done | rfl | (simp only [List.length_drop, List.length_take]; rfl)) ?_; (with_reducible refine (laws_big.calls _ _ l0 false _ ?side1 ?side2 A2.out).mono ?_); (case side1 => exact cU (HR0.out)); (case side2 => exact HC0.out); rintro e w' ⟨rfl, ⟨nd, rfl⟩⟩; refine ⟨_, rfl, ?_⟩) | ((with_reducible refine gate_callee (f := 55) rfl ?_); refine goesL_ (some 20) rfl rfl Tryd.func55 (by kernel_rfl) rfl #[.slice A0 l0.length c0] rfl (by (try simp only [List.map_toArray, List.map_cons, List.map_nil]); first | done | rfl | (simp only [List.length_drop, List.length_take]; rfl)) ?_; (with_reducible refine (spec_DrawPutName.calls k _ _ l0 t611 t612 _ ?side1 ?side2 A4.out).mono ?_); (case side1 => exact cU (HR0.out)); (case side2 => exact HC0.out); rintro e w50 ⟨v613, rfl, ho0, hb⟩; refine ⟨_, rfl, ?_⟩; have n0_ := Aside0.mk (Kd.R_lower ho0 (below_size (wU HB.out))); have n1_ := Aside0.mk (below_step (wU HB.out) hb); clear HB; have HO614 := n0_; have HB := n1_; clear n0_ n1_; (try clear hb); (try clear hb2); (try clear hk); (try clear hi); (try clear ho0); obtain ⟨Ao51, co51, eo51⟩ := Kd.R_slice HO614.out; subst eo51) | ((with_reducible refine gate_callee (f := 56) rfl ?_); refine goesL_ (some 25) rfl rfl Tryd.func56 (by kernel_rfl) rfl #[.slice Ao51 t611.length co51, .string t612] rfl (by (try simp only [List.map_toArray, List.map_cons, List.map_nil]); first | done | rfl | (simp only [List.length_drop, List.length_take]; rfl)) ?_; (with_reducible refine (impl_PutName.calls k _ _ t611 t612 t615 _ ?side1 ?side2 A5.out).mono ?_); (case side1 => exact cU ((Kd.R_reads' HO614.out).2.2)); (case side2 => exact (Kd.R_reads' HO614.out).2.1); rintro e w52 ⟨v616, rfl, ho0, hb⟩; refine ⟨_, rfl, ?_⟩; have n0_ := Aside0.mk (Kd.R_elder' (rU HO614.out) (Kd.R_base ho0) hb); have n1_ := Aside0.mk (Kd.R_lower (Kd.R_new' ho0 (Kd.R_lt (rU HO614.out))) (below_size (wU HB.out))); have n2_ := Aside0.mk (below_step (wU HB.out) hb); clear HO614; clear HB; have HO614 := n0_; have HO617 := n1_; have HB := n2_; clear n0_ n1_ n2_; (try clear hb); (try clear hb2); (try clear hk); (try clear hi); (try clear ho0)) | ((with_reducible refine gate_callee (f := 57) rfl ?_); refine goesL_ (some 28) rfl rfl Tryd.func57 (by kernel_rfl) rfl #[.slice Ao51 t611.length co51, .string t612] rfl (by (try simp only [List.map_toArray, List.map_cons, List.map_nil]); first | done | rfl | (simp only [List.length_drop, List.length_take]; rfl)) ?_; (with_reducible refine (impl_PutPlain.calls k _ _ t611 t612 t618 _ ?side1 ?side2 A6.out).mono ?_); (case side1 => exact cU ((Kd.R_reads' HO614.out).2.2)); (case side2 => exact (Kd.R_reads' HO614.out).2.1); rintro e w53 ⟨v619, rfl, ho0, hb⟩; refine ⟨_, rfl, ?_⟩; have n0_ := Aside0.mk (Kd.R_elder' (rU HO614.out) (Kd.R_base ho0) hb); have n1_ := Aside0.mk (Kd.R_elder' (rU HO617.out) (Kd.R_base ho0) hb); have n2_ := Aside0.mk (Kd.R_lower (Kd.R_new' (Kd.R_new' ho0 (Kd.R_lt (rU HO614.out))) (Kd.R_lt (rU HO617.out))) (below_size (wU HB.out))); have n3_ := Aside0.mk (below_step (wU HB.out) hb); clear HO614; clear HO617; clear HB; have HO614 := n0_; have HO617 := n1_; have HO620 := n2_; have HB := n3_; clear n0_ n1_ n2_ n3_; (try clear hb); (try clear hb2); (try clear hk); (try clear hi); (try clear ho0)) | ((with_reducible refine gate_callee (f := 59) rfl ?_); refine goesL_ (some 32) rfl rfl Tryd.func59 (by kernel_rfl) rfl #[.slice Ao51 t611.length co51, .string t612] rfl (by (try simp only [List.map_toArray, List.map_cons, List.map_nil]); first | done | rfl | (simp only [List.length_drop, List.length_take]; rfl)) ?_; (with_reducible refine (spec_PutName.calls k _ _ t611 t612 t621 _ ?side1 ?side2 A7.out).mono ?_); (case side1 => exact cU ((Kd.R_reads' HO614.out).2.2)); (case side2 => exact (Kd.R_reads' HO614.out).2.1); rintro e w54 ⟨v622, rfl, ho0, hb⟩; refine ⟨_, rfl, ?_⟩; have n0_ := Aside0.mk (Kd.R_elder' (rU HO614.out) (Kd.R_base ho0) hb); have n1_ := Aside0.mk (Kd.R_elder' (rU HO617.out) (Kd.R_base ho0) hb); have n2_ := Aside0.mk (Kd.R_elder' (rU HO620.out) (Kd.R_base ho0) hb); have n3_ := Aside0.mk (Kd.R_lower (Kd.R_new' (Kd.R_new' (Kd.R_new' ho0 (Kd.R_lt (rU HO614.out))) (Kd.R_lt (rU HO617.out))) (Kd.R_lt (rU HO620.out))) (below_size (wU HB.out))); have n4_ := Aside0.mk (below_step (wU HB.out) hb); clear HO614; clear HO617; clear HO620; clear HB; have HO614 := n0_; have HO617 := n1_; have HO620 := n2_; have HO623 := n3_; have HB := n4_; clear n0_ n1_ n2_ n3_ n4_; (try clear hb); (try clear hb2); (try clear hk); (try clear hi); (try clear ho0); obtain ⟨Ao55, co55, eo55⟩ := Kd.R_slice HO617.out; subst eo55; obtain ⟨Ao56, co56, eo56⟩ := Kd.R_slice HO623.out; subst eo56) | ((with_reducible refine gate_callee (f := 58) rfl ?_); refine goesL_ (some 33) rfl rfl Tryd.func58 (by kernel_rfl) rfl #[.slice Ao55 t615.length co55, .slice Ao56 t621.length co56] rfl (by (try simp only [List.map_toArray, List.map_cons, List.map_nil]); first | done | rfl | (simp only [List.length_drop, List.length_take]; rfl)) ?_; (with_reducible refine (laws_same.calls k _ _ t615 _ _ t621 true _ ?side1 ?side2 ?side3 ?side4 A8.out).mono ?_); (case side1 => exact cU ((Kd.R_reads' HO617.out).2.2)); (case side2 => exact (Kd.R_reads' HO617.out).2.1); (case side3 => exact cU ((Kd.R_reads' HO623.out).2.2)); (case side4 => exact (Kd.R_reads' HO623.out).2.1); rintro e w' ⟨rfl, ⟨nd, rfl⟩⟩; refine ⟨_, rfl, ?_⟩) | (go_at_call 60; (with_reducible refine (spec_PutPlain.calls k _ _ t611 t612 t625 _ ?side1 ?side2 A10.out).mono ?_); (case side1 => exact cU ((Kd.R_reads' HO614.out).2.2)); (case side2 => exact (Kd.R_reads' HO614.out).2.1); rintro e w57 ⟨v626, rfl, ho0, hb⟩; have n0_ := Aside0.mk (Kd.R_elder' (rU HO614.out) (Kd.R_base ho0) hb); have n1_ := Aside0.mk (Kd.R_elder' (rU HO617.out) (Kd.R_base ho0) hb); have n2_ := Aside0.mk (Kd.R_elder' (rU HO620.out) (Kd.R_base ho0) hb); have n3_ := Aside0.mk (Kd.R_lower (Kd.R_new' (Kd.R_new' (Kd.R_new' ho0 (Kd.R_lt (rU HO614.out))) (Kd.R_lt (rU HO617.out))) (Kd.R_lt (rU HO620.out))) (below_size (wU HB.out))); have n4_ := Aside0.mk (below_step (wU HB.out) hb); clear HO614; clear HO617; clear HO620; clear HB; have HO614 := n0_; have HO617 := n1_; have HO620 := n2_; have HO627 := n3_; have HB := n4_; clear n0_ n1_ n2_ n3_ n4_; (try clear hb); (try clear hb2); (try clear hk); (try clear hi); (try clear ho0); obtain ⟨Ao58, co58, eo58⟩ := Kd.R_slice HO620.out; subst eo58; obtain ⟨Ao59, co59, eo59⟩ := Kd.R_slice HO627.out; subst eo59) | (go_at_call 58; (with_reducible refine (laws_same.calls k _ _ t618 _ _ t625 true _ ?side1 ?side2 ?side3 ?side4 A11.out).mono ?_); (case side1 => exact cU ((Kd.R_reads' HO620.out).2.2)); (case side2 => exact (Kd.R_reads' HO620.out).2.1); (case side3 => exact cU ((Kd.R_reads' HO627.out).2.2)); (case side4 => exact (Kd.R_reads' HO627.out).2.1); rintro e w' ⟨rfl, ⟨nd, rfl⟩⟩) | ((with_reducible refine gate_callee (f := 39) rfl ?_); refine goesL_ (some 44) rfl rfl Tryd.func39 (by kernel_rfl) rfl #[.string t612] rfl (by (try simp only [List.map_toArray, List.map_cons, List.map_nil]); first | done | rfl | (simp only [List.length_drop, List.length_take]; rfl)) ?_; (with_reducible refine (impl_NameOk.calls k t612 false _ A13.out).mono ?_); rintro e w60 ⟨rfl, hb⟩; refine ⟨_, rfl, ?_⟩; have n0_ := Aside0.mk (Kd.R_below (rU HO614.out) hb); have n1_ := Aside0.mk (Kd.R_below (rU HO617.out) hb); have n2_ := Aside0.mk (Kd.R_below (rU HO620.out) hb); have n3_ := Aside0.mk (below_step (wU HB.out) hb); clear HO614; clear HO617; clear HO620; clear HB; have HO614 := n0_; have HO617 := n1_; have HO620 := n2_; have HB := n3_; clear n0_ n1_ n2_ n3_; (try clear hb); (try clear hb2); (try clear hk); (try clear hi)) | ((with_reducible refine gate_callee (f := 58) rfl ?_); refine goesL_ (some 48) rfl rfl Tryd.func58 (by kernel_rfl) rfl #[.slice Ao55 t615.length co55, .slice Ao51 t611.length co51] rfl (by (try simp only [List.map_toArray, List.map_cons, List.map_nil]); first | done | rfl | (simp only [List.length_drop, List.length_take]; rfl)) ?_; (with_reducible refine (laws_same.calls k _ _ t615 _ _ t611 true _ ?side1 ?side2 ?side3 ?side4 A47.out).mono ?_); (case side1 => exact cU ((Kd.R_reads' HO617.out).2.2)); (case side2 => exact (Kd.R_reads' HO617.out).2.1); (case side3 => exact cU ((Kd.R_reads' HO614.out).2.2)); (case side4 => exact (Kd.R_reads' HO614.out).2.1); rintro e w' ⟨rfl, ⟨nd, rfl⟩⟩; refine ⟨_, rfl, ?_⟩) | (go_at_call 58; (with_reducible refine (laws_same.calls k _ _ t618 _ _ t611 t644 _ ?side1 ?side2 ?side3 ?side4 A49.out).mono ?_); (case side1 => exact cU ((Kd.R_reads' HO620.out).2.2)); (case side2 => exact (Kd.R_reads' HO620.out).2.1); (case side3 => exact cU ((Kd.R_reads' HO614.out).2.2)); (case side4 => exact (Kd.R_reads' HO614.out).2.1); rintro e w' ⟨rfl, ⟨nd, rfl⟩⟩))
            go_ret
            exact ⟨by first | rfl | (simp [errW_none, errW_some] <;> rfl) | (simp [*, errW_none, errW_some] <;> rfl) | (exfalso; simp_all; done) | ((have ai_ : ∀ p : Prop, Aside0 p ↔ p := fun p => ⟨fun h => h.out, fun h => ⟨h⟩⟩); simp_all [ai_]; done), by repeat (first | (with_reducible first | exact HB.out | apply below_alloc | apply pw_below_drewN | apply below_drew1) | exact HB.out)⟩
          · replace c48 := Bool.eq_false_iff.mpr c48
            subst c48
            have H1 : (some false) = some r := by rw [if_neg (show ¬ (false = true) by decide)] at H; exact H
            clear H
            have H := H1
            clear H1
            exact absurd (H.trans (congrArg some hrt_)) (by simp)
      · replace c12 := Bool.eq_false_iff.mpr c12
        subst c12
        have H1 : (some false) = some r := by rw [if_neg (show ¬ (false = true) by decide)] at H; exact H
        clear H
        have H := H1
        clear H1
        exact absurd (H.trans (congrArg some hrt_)) (by simp)
    · replace c9 := Bool.eq_false_iff.mpr c9
      subst c9
      have H1 : (some false) = some r := by rw [if_neg (show ¬ (false = true) by decide)] at H; exact H
      clear H
      have H := H1
      clear H1
      exact absurd (H.trans (congrArg some hrt_)) (by simp)

/-- The one pure statement of laws_FnWires. -/
def laws_FnWires.Pure : Prop := ∀ (l0 : List Int), (l0.length ≤ maxLen ∧ l0.length * 1 ≤ 140737488351232 ∧ ∀ y_ ∈ l0, (Lit.int .u8 y_).wf = true) → ∃ k, laws_FnWires.f k l0 = some true

end Go.Proofs.YtbohkphbgkgaeaaDoor.Pr
