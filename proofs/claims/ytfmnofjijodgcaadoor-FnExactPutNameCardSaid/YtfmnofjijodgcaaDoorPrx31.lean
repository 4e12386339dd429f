-- Written for this claim by a program of this session (wip/tool/pr.py, over the kit's printer).
import Derived.Test.YtfmnofjijodgcaaDoorPrx0
import Derived.Test.YtfmnofjijodgcaaDoorPrx5
import Derived.Test.YtfmnofjijodgcaaDoorPrx7
import Derived.Test.YtfmnofjijodgcaaDoorPrx12
import Derived.Test.YtfmnofjijodgcaaDoorPrx18
import Derived.Test.YtfmnofjijodgcaaDoorPrx19
namespace Go.Proofs.YtfmnofjijodgcaaDoor.Pr
open Go.RowKit Go.Proofs.YtfmnofjijodgcaaDoorW.PrintWords Go.Proofs.YtfmnofjijodgcaaDoorW.PrintLast Go.Proofs.YtfmnofjijodgcaaDoorW.PrintMore
attribute [local go_sem] max2_int min2_int max_two min_two max_three min_three max_four min_four   -- for this text's walks alone
set_option linter.unusedVariables false
set_option linter.unusedSimpArgs false

/-! ### laws_FnExactPutName: function 9 -/
def laws_FnExactPutName.f (k : Nat) (l0 : List Int) (a1 : ByteArray) : Option (Bool) := if (l0.length : Int) > 1048576 then (some true) else (if (a1.size : Int) > 1048576 then (some true) else ((laws_toByteS.f k l0).bind fun t598 => ((spec_PutName.f k t598 a1).bind fun t601 => ((laws_toByteS.f k l0).bind fun t604 => ((impl_PutName.f k t604 a1).bind fun t607 => ((laws_eqByteS.f k t607 t601).bind fun t610 => (if t610 = true then ((laws_toByteS.f k l0).bind fun t611 => ((laws_eqByteS.f k t604 t611).bind fun t614 => (if t614 = true then ((laws_markByteS.f k t604 1).bind fun bt615 => (if bt615.1 < 0 then (some false) else ((laws_eqByteS.f k t607 t601).bind fun t617 => (if t617 = true then ((laws_markByteS.f k t607 1).bind fun bt618 => ((laws_heldByteS.f k bt618.2 1).bind fun t620 => (if t620 < 0 then (some false) else (if t620 = bt618.1 then ((laws_toByteS.f k l0).bind fun t621 => ((impl_PutName.f k t621 a1).bind fun t624 => ((laws_eqByteS.f k t624 t601).bind fun t627 => (if t627 = true then ((laws_heldByteS.f k bt618.2 1).bind fun t628 => (if t628 < 0 then (some false) else (if t628 = bt618.1 then (some true) else (some false)))) else (some false))))) else (some false))))) else (some false))))) else (some false)))) else (some false))))))))
theorem laws_FnExactPutName.mono : ∀ a0 a1 k, LeO (laws_FnExactPutName.f k a0 a1) (laws_FnExactPutName.f (k + 1) a0 a1) := by
  intro a0 a1 k
  unfold laws_FnExactPutName.f
  repeat' first
      | (with_reducible exact impl_PutName.mono _ _ _)
      | (with_reducible exact laws_eqByteS.mono _ _ _)
      | (with_reducible exact laws_heldByteS.mono _ _ _)
      | (with_reducible exact laws_markByteS.mono _ _ _)
      | (with_reducible exact laws_toByteS.mono _ _)
      | (with_reducible exact spec_PutName.mono _ _ _)
      | (with_reducible exact LeO.refl _)
      | (with_reducible exact LeO.none _)
      | (with_reducible refine LeO.ite ?_ ?_)
      | (with_reducible refine LeO.bind ?_ (fun _ => ?_))
      | exact impl_PutName.mono _ _ _
      | exact laws_eqByteS.mono _ _ _
      | exact laws_heldByteS.mono _ _ _
      | exact laws_markByteS.mono _ _ _
      | exact laws_toByteS.mono _ _
      | exact spec_PutName.mono _ _ _
      | exact LeO.none _
      | refine LeO.ite ?_ ?_
      | refine LeO.bind ?_ (fun _ => ?_)
set_option maxHeartbeats 8000000 in
set_option maxRecDepth 100000 in
theorem laws_FnExactPutName.calls (k : Nat) (A0 : Option Addr) (c0 : Nat) (l0 : List Int) (a1 : ByteArray) (r : Bool) (w : World) (hr0 : Kd.C (Kd.int .u8) w A0 l0.length l0) (hc0 : l0.length ≤ c0) (hrt_ : r = true) (h : laws_FnExactPutName.f k l0 a1 = some r) :
    Calls Tryd.prog 9 #[.slice A0 l0.length c0, .string a1] w fun e w' => e = .returned (.bool r) ∧ Below w.heap.size w w' := by
  have HR0 := Aside0.mk hr0
  have HC0 := Aside0.mk hc0
  clear hr0 hc0
  have HB := Aside0.mk (Below.refl w.heap.size w)
  have H : (if (l0.length : Int) > 1048576 then (some true) else (if (a1.size : Int) > 1048576 then (some true) else ((laws_toByteS.f k l0).bind fun t598 => ((spec_PutName.f k t598 a1).bind fun t601 => ((laws_toByteS.f k l0).bind fun t604 => ((impl_PutName.f k t604 a1).bind fun t607 => ((laws_eqByteS.f k t607 t601).bind fun t610 => (if t610 = true then ((laws_toByteS.f k l0).bind fun t611 => ((laws_eqByteS.f k t604 t611).bind fun t614 => (if t614 = true then ((laws_markByteS.f k t604 1).bind fun bt615 => (if bt615.1 < 0 then (some false) else ((laws_eqByteS.f k t607 t601).bind fun t617 => (if t617 = true then ((laws_markByteS.f k t607 1).bind fun bt618 => ((laws_heldByteS.f k bt618.2 1).bind fun t620 => (if t620 < 0 then (some false) else (if t620 = bt618.1 then ((laws_toByteS.f k l0).bind fun t621 => ((impl_PutName.f k t621 a1).bind fun t624 => ((laws_eqByteS.f k t624 t601).bind fun t627 => (if t627 = true then ((laws_heldByteS.f k bt618.2 1).bind fun t628 => (if t628 < 0 then (some false) else (if t628 = bt618.1 then (some true) else (some false)))) else (some false))))) else (some false))))) else (some false))))) else (some false)))) else (some false))))))))) = some r := h
  clear h
  by_cases c3 : (l0.length : Int) > 1048576
  · rw [if_pos c3] at H
    have c3b0 : decide (1048576 < (l0.length : Int)) = true := decide_eq_true c3
    have c3b1 : decide (1048576 < l0.length) = true := decide_eq_true (by omega)
    clear c3
    obtain rfl := Option.some.inj H
    go_enter Tryd.func9, Tryd.ntmps9
    go_wp2
    go_ret
    exact ⟨by first | rfl | (simp [errW_none, errW_some] <;> rfl) | (simp [*, errW_none, errW_some] <;> rfl), by repeat (first | (with_reducible first | exact HB.out | apply below_alloc | apply pw_below_drewN | apply below_drew1) | exact HB.out)⟩
  · rw [if_neg c3] at H
    have c3b0 : decide (1048576 < (l0.length : Int)) = false := decide_eq_false c3
    have c3b1 : decide (1048576 < l0.length) = false := decide_eq_false (by omega)
    clear c3
    by_cases c4 : (a1.size : Int) > 1048576
    · rw [if_pos c4] at H
      have c4b0 : decide (1048576 < (a1.size : Int)) = true := decide_eq_true c4
      have c4b1 : decide (1048576 < a1.size) = true := decide_eq_true (by omega)
      clear c4
      obtain rfl := Option.some.inj H
      go_enter Tryd.func9, Tryd.ntmps9
      go_wp2
      go_ret
      exact ⟨by first | rfl | (simp [errW_none, errW_some] <;> rfl) | (simp [*, errW_none, errW_some] <;> rfl), by repeat (first | (with_reducible first | exact HB.out | apply below_alloc | apply pw_below_drewN | apply below_drew1) | exact HB.out)⟩
    · rw [if_neg c4] at H
      have c4b0 : decide (1048576 < (a1.size : Int)) = false := decide_eq_false c4
      have c4b1 : decide (1048576 < a1.size) = false := decide_eq_false (by omega)
      clear c4
      replace H := Option.bind_eq_some_iff.mp H
      obtain ⟨t598, A50, H⟩ := H
      replace H : ((spec_PutName.f k t598 a1).bind fun t601 => ((laws_toByteS.f k l0).bind fun t604 => ((impl_PutName.f k t604 a1).bind fun t607 => ((laws_eqByteS.f k t607 t601).bind fun t610 => (if t610 = true then ((laws_toByteS.f k l0).bind fun t611 => ((laws_eqByteS.f k t604 t611).bind fun t614 => (if t614 = true then ((laws_markByteS.f k t604 1).bind fun bt615 => (if bt615.1 < 0 then (some false) else ((laws_eqByteS.f k t607 t601).bind fun t617 => (if t617 = true then ((laws_markByteS.f k t607 1).bind fun bt618 => ((laws_heldByteS.f k bt618.2 1).bind fun t620 => (if t620 < 0 then (some false) else (if t620 = bt618.1 then ((laws_toByteS.f k l0).bind fun t621 => ((impl_PutName.f k t621 a1).bind fun t624 => ((laws_eqByteS.f k t624 t601).bind fun t627 => (if t627 = true then ((laws_heldByteS.f k bt618.2 1).bind fun t628 => (if t628 < 0 then (some false) else (if t628 = bt618.1 then (some true) else (some false)))) else (some false))))) else (some false))))) else (some false))))) else (some false)))) else (some false)))))) = some r := H
      have A5 := Aside0.mk A50
      clear A50
      replace H := Option.bind_eq_some_iff.mp H
      obtain ⟨t601, A60, H⟩ := H
      replace H : ((laws_toByteS.f k l0).bind fun t604 => ((impl_PutName.f k t604 a1).bind fun t607 => ((laws_eqByteS.f k t607 t601).bind fun t610 => (if t610 = true then ((laws_toByteS.f k l0).bind fun t611 => ((laws_eqByteS.f k t604 t611).bind fun t614 => (if t614 = true then ((laws_markByteS.f k t604 1).bind fun bt615 => (if bt615.1 < 0 then (some false) else ((laws_eqByteS.f k t607 t601).bind fun t617 => (if t617 = true then ((laws_markByteS.f k t607 1).bind fun bt618 => ((laws_heldByteS.f k bt618.2 1).bind fun t620 => (if t620 < 0 then (some false) else (if t620 = bt618.1 then ((laws_toByteS.f k l0).bind fun t621 => ((impl_PutName.f k t621 a1).bind fun t624 => ((laws_eqByteS.f k t624 t601).bind fun t627 => (if t627 = true then ((laws_heldByteS.f k bt618.2 1).bind fun t628 => (if t628 < 0 then (some false) else (if t628 = bt618.1 then (some true) else (some false)))) else (some false))))) else (some false))))) else (some false))))) else (some false)))) else (some false))))) = some r := H
      have A6 := Aside0.mk A60
      clear A60
      replace H := Option.bind_eq_some_iff.mp H
      obtain ⟨t604, A70, H⟩ := H
      replace H : ((impl_PutName.f k t604 a1).bind fun t607 => ((laws_eqByteS.f k t607 t601).bind fun t610 => (if t610 = true then ((laws_toByteS.f k l0).bind fun t611 => ((laws_eqByteS.f k t604 t611).bind fun t614 => (if t614 = true then ((laws_markByteS.f k t604 1).bind fun bt615 => (if bt615.1 < 0 then (some false) else ((laws_eqByteS.f k t607 t601).bind fun t617 => (if t617 = true then ((laws_markByteS.f k t607 1).bind fun bt618 => ((laws_heldByteS.f k bt618.2 1).bind fun t620 => (if t620 < 0 then (some false) else (if t620 = bt618.1 then ((laws_toByteS.f k l0).bind fun t621 => ((impl_PutName.f k t621 a1).bind fun t624 => ((laws_eqByteS.f k t624 t601).bind fun t627 => (if t627 = true then ((laws_heldByteS.f k bt618.2 1).bind fun t628 => (if t628 < 0 then (some false) else (if t628 = bt618.1 then (some true) else (some false)))) else (some false))))) else (some false))))) else (some false))))) else (some false)))) else (some false)))) = some r := H
      have A7 := Aside0.mk A70
      clear A70
      replace H := Option.bind_eq_some_iff.mp H
      obtain ⟨t607, A80, H⟩ := H
      replace H : ((laws_eqByteS.f k t607 t601).bind fun t610 => (if t610 = true then ((laws_toByteS.f k l0).bind fun t611 => ((laws_eqByteS.f k t604 t611).bind fun t614 => (if t614 = true then ((laws_markByteS.f k t604 1).bind fun bt615 => (if bt615.1 < 0 then (some false) else ((laws_eqByteS.f k t607 t601).bind fun t617 => (if t617 = true then ((laws_markByteS.f k t607 1).bind fun bt618 => ((laws_heldByteS.f k bt618.2 1).bind fun t620 => (if t620 < 0 then (some false) else (if t620 = bt618.1 then ((laws_toByteS.f k l0).bind fun t621 => ((impl_PutName.f k t621 a1).bind fun t624 => ((laws_eqByteS.f k t624 t601).bind fun t627 => (if t627 = true then ((laws_heldByteS.f k bt618.2 1).bind fun t628 => (if t628 < 0 then (some false) else (if t628 = bt618.1 then (some true) else (some false)))) else (some false))))) else (some false))))) else (some false))))) else (some false)))) else (some false))) = some r := H
      have A8 := Aside0.mk A80
      clear A80
      replace H := Option.bind_eq_some_iff.mp H
      obtain ⟨t610, A90, H⟩ := H
      replace H : (if t610 = true then ((laws_toByteS.f k l0).bind fun t611 => ((laws_eqByteS.f k t604 t611).bind fun t614 => (if t614 = true then ((laws_markByteS.f k t604 1).bind fun bt615 => (if bt615.1 < 0 then (some false) else ((laws_eqByteS.f k t607 t601).bind fun t617 => (if t617 = true then ((laws_markByteS.f k t607 1).bind fun bt618 => ((laws_heldByteS.f k bt618.2 1).bind fun t620 => (if t620 < 0 then (some false) else (if t620 = bt618.1 then ((laws_toByteS.f k l0).bind fun t621 => ((impl_PutName.f k t621 a1).bind fun t624 => ((laws_eqByteS.f k t624 t601).bind fun t627 => (if t627 = true then ((laws_heldByteS.f k bt618.2 1).bind fun t628 => (if t628 < 0 then (some false) else (if t628 = bt618.1 then (some true) else (some false)))) else (some false))))) else (some false))))) else (some false))))) else (some false)))) else (some false)) = some r := H
      have A9 := Aside0.mk A90
      clear A90
      by_cases c10 : t610 = true
      · subst c10
        have H1 : ((laws_toByteS.f k l0).bind fun t611 => ((laws_eqByteS.f k t604 t611).bind fun t614 => (if t614 = true then ((laws_markByteS.f k t604 1).bind fun bt615 => (if bt615.1 < 0 then (some false) else ((laws_eqByteS.f k t607 t601).bind fun t617 => (if t617 = true then ((laws_markByteS.f k t607 1).bind fun bt618 => ((laws_heldByteS.f k bt618.2 1).bind fun t620 => (if t620 < 0 then (some false) else (if t620 = bt618.1 then ((laws_toByteS.f k l0).bind fun t621 => ((impl_PutName.f k t621 a1).bind fun t624 => ((laws_eqByteS.f k t624 t601).bind fun t627 => (if t627 = true then ((laws_heldByteS.f k bt618.2 1).bind fun t628 => (if t628 < 0 then (some false) else (if t628 = bt618.1 then (some true) else (some false)))) else (some false))))) else (some false))))) else (some false))))) else (some false)))) = some r := by rw [if_pos rfl] at H; exact H
        clear H
        have H := H1
        clear H1
        replace H := Option.bind_eq_some_iff.mp H
        obtain ⟨t611, A110, H⟩ := H
        replace H : ((laws_eqByteS.f k t604 t611).bind fun t614 => (if t614 = true then ((laws_markByteS.f k t604 1).bind fun bt615 => (if bt615.1 < 0 then (some false) else ((laws_eqByteS.f k t607 t601).bind fun t617 => (if t617 = true then ((laws_markByteS.f k t607 1).bind fun bt618 => ((laws_heldByteS.f k bt618.2 1).bind fun t620 => (if t620 < 0 then (some false) else (if t620 = bt618.1 then ((laws_toByteS.f k l0).bind fun t621 => ((impl_PutName.f k t621 a1).bind fun t624 => ((laws_eqByteS.f k t624 t601).bind fun t627 => (if t627 = true then ((laws_heldByteS.f k bt618.2 1).bind fun t628 => (if t628 < 0 then (some false) else (if t628 = bt618.1 then (some true) else (some false)))) else (some false))))) else (some false))))) else (some false))))) else (some false))) = some r := H
        have A11 := Aside0.mk A110
        clear A110
        replace H := Option.bind_eq_some_iff.mp H
        obtain ⟨t614, A120, H⟩ := H
        replace H : (if t614 = true then ((laws_markByteS.f k t604 1).bind fun bt615 => (if bt615.1 < 0 then (some false) else ((laws_eqByteS.f k t607 t601).bind fun t617 => (if t617 = true then ((laws_markByteS.f k t607 1).bind fun bt618 => ((laws_heldByteS.f k bt618.2 1).bind fun t620 => (if t620 < 0 then (some false) else (if t620 = bt618.1 then ((laws_toByteS.f k l0).bind fun t621 => ((impl_PutName.f k t621 a1).bind fun t624 => ((laws_eqByteS.f k t624 t601).bind fun t627 => (if t627 = true then ((laws_heldByteS.f k bt618.2 1).bind fun t628 => (if t628 < 0 then (some false) else (if t628 = bt618.1 then (some true) else (some false)))) else (some false))))) else (some false))))) else (some false))))) else (some false)) = some r := H
        have A12 := Aside0.mk A120
        clear A120
        by_cases c13 : t614 = true
        · subst c13
          have H1 : ((laws_markByteS.f k t604 1).bind fun bt615 => (if bt615.1 < 0 then (some false) else ((laws_eqByteS.f k t607 t601).bind fun t617 => (if t617 = true then ((laws_markByteS.f k t607 1).bind fun bt618 => ((laws_heldByteS.f k bt618.2 1).bind fun t620 => (if t620 < 0 then (some false) else (if t620 = bt618.1 then ((laws_toByteS.f k l0).bind fun t621 => ((impl_PutName.f k t621 a1).bind fun t624 => ((laws_eqByteS.f k t624 t601).bind fun t627 => (if t627 = true then ((laws_heldByteS.f k bt618.2 1).bind fun t628 => (if t628 < 0 then (some false) else (if t628 = bt618.1 then (some true) else (some false)))) else (some false))))) else (some false))))) else (some false))))) = some r := by rw [if_pos rfl] at H; exact H
          clear H
          have H := H1
          clear H1
          replace H := Option.bind_eq_some_iff.mp H
          obtain ⟨⟨t615, t616⟩, A140, H⟩ := H
          replace H : (if t615 < 0 then (some false) else ((laws_eqByteS.f k t607 t601).bind fun t617 => (if t617 = true then ((laws_markByteS.f k t607 1).bind fun bt618 => ((laws_heldByteS.f k bt618.2 1).bind fun t620 => (if t620 < 0 then (some false) else (if t620 = bt618.1 then ((laws_toByteS.f k l0).bind fun t621 => ((impl_PutName.f k t621 a1).bind fun t624 => ((laws_eqByteS.f k t624 t601).bind fun t627 => (if t627 = true then ((laws_heldByteS.f k bt618.2 1).bind fun t628 => (if t628 < 0 then (some false) else (if t628 = bt618.1 then (some true) else (some false)))) else (some false))))) else (some false))))) else (some false)))) = some r := H
          have A14 := Aside0.mk A140
          clear A140
          by_cases c15 : t615 < 0
          · rw [if_pos c15] at H
            have c15b0 : decide (t615 < 0) = true := decide_eq_true c15
            clear c15
            exact absurd (H.trans (congrArg some hrt_)) (by simp)
          · rw [if_neg c15] at H
            have c15b0 : decide (t615 < 0) = false := decide_eq_false c15
            clear c15
            replace H := Option.bind_eq_some_iff.mp H
            obtain ⟨t617, A160, H⟩ := H
            replace H : (if t617 = true then ((laws_markByteS.f k t607 1).bind fun bt618 => ((laws_heldByteS.f k bt618.2 1).bind fun t620 => (if t620 < 0 then (some false) else (if t620 = bt618.1 then ((laws_toByteS.f k l0).bind fun t621 => ((impl_PutName.f k t621 a1).bind fun t624 => ((laws_eqByteS.f k t624 t601).bind fun t627 => (if t627 = true then ((laws_heldByteS.f k bt618.2 1).bind fun t628 => (if t628 < 0 then (some false) else (if t628 = bt618.1 then (some true) else (some false)))) else (some false))))) else (some false))))) else (some false)) = some r := H
            have A16 := Aside0.mk A160
            clear A160
            by_cases c17 : t617 = true
            · subst c17
              have H1 : ((laws_markByteS.f k t607 1).bind fun bt618 => ((laws_heldByteS.f k bt618.2 1).bind fun t620 => (if t620 < 0 then (some false) else (if t620 = bt618.1 then ((laws_toByteS.f k l0).bind fun t621 => ((impl_PutName.f k t621 a1).bind fun t624 => ((laws_eqByteS.f k t624 t601).bind fun t627 => (if t627 = true then ((laws_heldByteS.f k bt618.2 1).bind fun t628 => (if t628 < 0 then (some false) else (if t628 = bt618.1 then (some true) else (some false)))) else (some false))))) else (some false))))) = some r := by rw [if_pos rfl] at H; exact H
              clear H
              have H := H1
              clear H1
              replace H := Option.bind_eq_some_iff.mp H
              obtain ⟨⟨t618, t619⟩, A180, H⟩ := H
              replace H : ((laws_heldByteS.f k t619 1).bind fun t620 => (if t620 < 0 then (some false) else (if t620 = t618 then ((laws_toByteS.f k l0).bind fun t621 => ((impl_PutName.f k t621 a1).bind fun t624 => ((laws_eqByteS.f k t624 t601).bind fun t627 => (if t627 = true then ((laws_heldByteS.f k t619 1).bind fun t628 => (if t628 < 0 then (some false) else (if t628 = t618 then (some true) else (some false)))) else (some false))))) else (some false)))) = some r := H
              have A18 := Aside0.mk A180
              clear A180
              replace H := Option.bind_eq_some_iff.mp H
              obtain ⟨t620, A190, H⟩ := H
              replace H : (if t620 < 0 then (some false) else (if t620 = t618 then ((laws_toByteS.f k l0).bind fun t621 => ((impl_PutName.f k t621 a1).bind fun t624 => ((laws_eqByteS.f k t624 t601).bind fun t627 => (if t627 = true then ((laws_heldByteS.f k t619 1).bind fun t628 => (if t628 < 0 then (some false) else (if t628 = t618 then (some true) else (some false)))) else (some false))))) else (some false))) = some r := H
              have A19 := Aside0.mk A190
              clear A190
              by_cases c20 : t620 < 0
              · rw [if_pos c20] at H
                have c20b0 : decide (t620 < 0) = true := decide_eq_true c20
                clear c20
                exact absurd (H.trans (congrArg some hrt_)) (by simp)
              · rw [if_neg c20] at H
                have c20b0 : decide (t620 < 0) = false := decide_eq_false c20
                clear c20
                by_cases c21 : t620 = t618
                · rw [if_pos c21] at H
                  have c21b0 : (t620 == t618) = true := beq_iff_eq.mpr c21
                  have c21b1 : (t620 != t618) = false := bne_eq_false_iff_eq.mpr c21
                  clear c21
                  replace H := Option.bind_eq_some_iff.mp H
                  obtain ⟨t621, A220, H⟩ := H
                  replace H : ((impl_PutName.f k t621 a1).bind fun t624 => ((laws_eqByteS.f k t624 t601).bind fun t627 => (if t627 = true then ((laws_heldByteS.f k t619 1).bind fun t628 => (if t628 < 0 then (some false) else (if t628 = t618 then (some true) else (some false)))) else (some false)))) = some r := H
                  have A22 := Aside0.mk A220
                  clear A220
                  replace H := Option.bind_eq_some_iff.mp H
                  obtain ⟨t624, A230, H⟩ := H
                  replace H : ((laws_eqByteS.f k t624 t601).bind fun t627 => (if t627 = true then ((laws_heldByteS.f k t619 1).bind fun t628 => (if t628 < 0 then (some false) else (if t628 = t618 then (some true) else (some false)))) else (some false))) = some r := H
                  have A23 := Aside0.mk A230
                  clear A230
                  replace H := Option.bind_eq_some_iff.mp H
                  obtain ⟨t627, A240, H⟩ := H
                  replace H : (if t627 = true then ((laws_heldByteS.f k t619 1).bind fun t628 => (if t628 < 0 then (some false) else (if t628 = t618 then (some true) else (some false)))) else (some false)) = some r := H
                  have A24 := Aside0.mk A240
                  clear A240
                  by_cases c25 : t627 = true
                  · subst c25
                    have H1 : ((laws_heldByteS.f k t619 1).bind fun t628 => (if t628 < 0 then (some false) else (if t628 = t618 then (some true) else (some false)))) = some r := by rw [if_pos rfl] at H; exact H
                    clear H
                    have H := H1
                    clear H1
                    replace H := Option.bind_eq_some_iff.mp H
                    obtain ⟨t628, A260, H⟩ := H
                    replace H : (if t628 < 0 then (some false) else (if t628 = t618 then (some true) else (some false))) = some r := H
                    have A26 := Aside0.mk A260
                    clear A260
                    by_cases c27 : t628 < 0
                    · rw [if_pos c27] at H
                      have c27b0 : decide (t628 < 0) = true := decide_eq_true c27
                      clear c27
                      exact absurd (H.trans (congrArg some hrt_)) (by simp)
                    · rw [if_neg c27] at H
                      have c27b0 : decide (t628 < 0) = false := decide_eq_false c27
                      clear c27
                      by_cases c28 : t628 = t618
                      · rw [if_pos c28] at H
                        have c28b0 : (t628 == t618) = true := beq_iff_eq.mpr c28
                        have c28b1 : (t628 != t618) = false := bne_eq_false_iff_eq.mpr c28
                        clear c28
                        obtain rfl := Option.some.inj H
                        go_enter Tryd.func9, Tryd.ntmps9
                        go_wp2_with (first | ((with_reducible refine gate_callee (f := 16) rfl ?_); refine goesL_ (some 19) rfl rfl Tryd.func16 (by kernel_rfl) rfl #[.slice A0 l0.length c0] rfl (by (try simp only [List.map_toArray, List.map_cons, List.map_nil]); first | done | rfl | (simp only [List.length_drop, List.length_take]; rfl)) ?_; (with_reducible refine (laws_toByteS.calls k _ _ l0 t598 _ ?side1 ?side2 A5.out).mono ?_); (case side1 => repeat (first | exact HR0.out | (with_reducible refine Kd.C_alloc ?_ _) | (with_reducible refine Kd.C_drewN ?_ _) | (with_reducible refine Kd.C_drew ?_))); (case side2 => exact HC0.out); rintro e w29 ⟨v599, rfl, ho0, hb⟩; refine ⟨_, rfl, ?_⟩; have n0_ := Aside0.mk (Kd.R_lower ho0 (below_size (by repeat (first | (with_reducible first | exact HB.out | apply below_alloc | apply pw_below_drewN | apply below_drew1) | exact HB.out)))); have n1_ := Aside0.mk (below_step (by repeat (first | (with_reducible first | exact HB.out | apply below_alloc | apply pw_below_drewN | apply below_drew1) | exact HB.out)) hb); clear HB; have HO600 := n0_; have HB := n1_; clear n0_ n1_; (try clear hb); (try clear hb2); (try clear hk); (try clear hi); (try clear ho0); obtain ⟨Ao30, co30, eo30⟩ := Kd.R_slice HO600.out; subst eo30) | ((with_reducible refine gate_callee (f := 39) rfl ?_); refine goesL_ (some 21) rfl rfl Tryd.func39 (by kernel_rfl) rfl #[.slice Ao30 t598.length co30, .string a1] rfl (by (try simp only [List.map_toArray, List.map_cons, List.map_nil]); first | done | rfl | (simp only [List.length_drop, List.length_take]; rfl)) ?_; (with_reducible refine (spec_PutName.calls k _ _ t598 a1 t601 _ ?side1 ?side2 A6.out).mono ?_); (case side1 => repeat (first | exact (Kd.R_reads' HO600.out).2.2 | (with_reducible refine Kd.C_alloc ?_ _) | (with_reducible refine Kd.C_drewN ?_ _) | (with_reducible refine Kd.C_drew ?_))); (case side2 => exact (Kd.R_reads' HO600.out).2.1); rintro e w31 ⟨v602, rfl, ho0, hb⟩; refine ⟨_, rfl, ?_⟩; have n0_ := Aside0.mk (Kd.R_elder' (by (with_reducible repeat (first | apply Kd.R_alloc | apply Kd.R_drewN | apply Kd.R_drew)); exact HO600.out) (Kd.R_base ho0) hb); have n1_ := Aside0.mk (Kd.R_lower (Kd.R_new' ho0 (Kd.R_lt (by (with_reducible repeat (first | apply Kd.R_alloc | apply Kd.R_drewN | apply Kd.R_drew)); exact HO600.out))) (below_size (by repeat (first | (with_reducible first | exact HB.out | apply below_alloc | apply pw_below_drewN | apply below_drew1) | exact HB.out)))); have n2_ := Aside0.mk (below_step (by repeat (first | (with_reducible first | exact HB.out | apply below_alloc | apply pw_below_drewN | apply below_drew1) | exact HB.out)) hb); clear HO600; clear HB; have HO600 := n0_; have HO603 := n1_; have HB := n2_; clear n0_ n1_ n2_; (try clear hb); (try clear hb2); (try clear hk); (try clear hi); (try clear ho0)) | ((with_reducible refine gate_callee (f := 16) rfl ?_); refine goesL_ (some 23) rfl rfl Tryd.func16 (by kernel_rfl) rfl #[.slice A0 l0.length c0] rfl (by (try simp only [List.map_toArray, List.map_cons, List.map_nil]); first | done | rfl | (simp only [List.length_drop, List.length_take]; rfl)) ?_; (with_reducible refine (laws_toByteS.calls k _ _ l0 t604 _ ?side1 ?side2 A7.out).mono ?_); (case side1 => repeat (first | exact (Kd.C_below HR0.out HB.out) | (with_reducible refine Kd.C_alloc ?_ _) | (with_reducible refine Kd.C_drewN ?_ _) | (with_reducible refine Kd.C_drew ?_))); (case side2 => exact HC0.out); rintro e w32 ⟨v605, rfl, ho0, hb⟩; refine ⟨_, rfl, ?_⟩; have n0_ := Aside0.mk (Kd.R_elder' (by (with_reducible repeat (first | apply Kd.R_alloc | apply Kd.R_drewN | apply Kd.R_drew)); exact HO603.out) (Kd.R_base ho0) hb); have n1_ := Aside0.mk (Kd.R_lower (Kd.R_new' ho0 (Kd.R_lt (by (with_reducible repeat (first | apply Kd.R_alloc | apply Kd.R_drewN | apply Kd.R_drew)); exact HO603.out))) (below_size (by repeat (first | (with_reducible first | exact HB.out | apply below_alloc | apply pw_below_drewN | apply below_drew1) | exact HB.out)))); have n2_ := Aside0.mk (below_step (by repeat (first | (with_reducible first | exact HB.out | apply below_alloc | apply pw_below_drewN | apply below_drew1) | exact HB.out)) hb); clear HO603; clear HB; have HO603 := n0_; have HO606 := n1_; have HB := n2_; clear n0_ n1_ n2_; (try clear hb); (try clear hb2); (try clear hk); (try clear hi); (try clear ho0); obtain ⟨Ao33, co33, eo33⟩ := Kd.R_slice HO606.out; subst eo33) | ((with_reducible refine gate_callee (f := 40) rfl ?_); refine goesL_ (some 26) rfl rfl Tryd.func40 (by kernel_rfl) rfl #[.slice Ao33 t604.length co33, .string a1] rfl (by (try simp only [List.map_toArray, List.map_cons, List.map_nil]); first | done | rfl | (simp only [List.length_drop, List.length_take]; rfl)) ?_; (with_reducible refine (impl_PutName.calls k _ _ t604 a1 t607 _ ?side1 ?side2 A8.out).mono ?_); (case side1 => repeat (first | exact (Kd.R_reads' HO606.out).2.2 | (with_reducible refine Kd.C_alloc ?_ _) | (with_reducible refine Kd.C_drewN ?_ _) | (with_reducible refine Kd.C_drew ?_))); (case side2 => exact (Kd.R_reads' HO606.out).2.1); rintro e w34 ⟨v608, rfl, ho0, hb⟩; refine ⟨_, rfl, ?_⟩; have n0_ := Aside0.mk (Kd.R_elder' (by (with_reducible repeat (first | apply Kd.R_alloc | apply Kd.R_drewN | apply Kd.R_drew)); exact HO603.out) (Kd.R_base ho0) hb); have n1_ := Aside0.mk (Kd.R_elder' (by (with_reducible repeat (first | apply Kd.R_alloc | apply Kd.R_drewN | apply Kd.R_drew)); exact HO606.out) (Kd.R_base ho0) hb); have n2_ := Aside0.mk (Kd.R_lower (Kd.R_new' (Kd.R_new' ho0 (Kd.R_lt (by (with_reducible repeat (first | apply Kd.R_alloc | apply Kd.R_drewN | apply Kd.R_drew)); exact HO603.out))) (Kd.R_lt (by (with_reducible repeat (first | apply Kd.R_alloc | apply Kd.R_drewN | apply Kd.R_drew)); exact HO606.out))) (below_size (by repeat (first | (with_reducible first | exact HB.out | apply below_alloc | apply pw_below_drewN | apply below_drew1) | exact HB.out)))); have n3_ := Aside0.mk (below_step (by repeat (first | (with_reducible first | exact HB.out | apply below_alloc | apply pw_below_drewN | apply below_drew1) | exact HB.out)) hb); clear HO603; clear HO606; clear HB; have HO603 := n0_; have HO606 := n1_; have HO609 := n2_; have HB := n3_; clear n0_ n1_ n2_ n3_; (try clear hb); (try clear hb2); (try clear hk); (try clear hi); (try clear ho0); obtain ⟨Ao35, co35, eo35⟩ := Kd.R_slice HO609.out; subst eo35; obtain ⟨Ao36, co36, eo36⟩ := Kd.R_slice HO603.out; subst eo36) | ((with_reducible refine gate_callee (f := 18) rfl ?_); refine goesL_ (some 29) rfl rfl Tryd.func18 (by kernel_rfl) rfl #[.slice Ao35 t607.length co35, .slice Ao36 t601.length co36] rfl (by (try simp only [List.map_toArray, List.map_cons, List.map_nil]); first | done | rfl | (simp only [List.length_drop, List.length_take]; rfl)) ?_; (with_reducible refine (laws_eqByteS.calls k _ _ t607 _ _ t601 true _ ?side1 ?side2 ?side3 ?side4 A9.out).mono ?_); (case side1 => repeat (first | exact (Kd.R_reads' HO609.out).2.2 | (with_reducible refine Kd.C_alloc ?_ _) | (with_reducible refine Kd.C_drewN ?_ _) | (with_reducible refine Kd.C_drew ?_))); (case side2 => exact (Kd.R_reads' HO609.out).2.1); (case side3 => repeat (first | exact (Kd.R_reads' HO603.out).2.2 | (with_reducible refine Kd.C_alloc ?_ _) | (with_reducible refine Kd.C_drewN ?_ _) | (with_reducible refine Kd.C_drew ?_))); (case side4 => exact (Kd.R_reads' HO603.out).2.1); rintro e w' ⟨rfl, ⟨nd, rfl⟩⟩; refine ⟨_, rfl, ?_⟩) | ((with_reducible refine gate_callee (f := 16) rfl ?_); refine goesL_ (some 33) rfl rfl Tryd.func16 (by kernel_rfl) rfl #[.slice A0 l0.length c0] rfl (by (try simp only [List.map_toArray, List.map_cons, List.map_nil]); first | done | rfl | (simp only [List.length_drop, List.length_take]; rfl)) ?_; (with_reducible refine (laws_toByteS.calls k _ _ l0 t611 _ ?side1 ?side2 A11.out).mono ?_); (case side1 => repeat (first | exact (Kd.C_below HR0.out (by repeat (first | (with_reducible first | exact HB.out | apply below_alloc | apply pw_below_drewN | apply below_drew1) | exact HB.out))) | (with_reducible refine Kd.C_alloc ?_ _) | (with_reducible refine Kd.C_drewN ?_ _) | (with_reducible refine Kd.C_drew ?_))); (case side2 => exact HC0.out); rintro e w37 ⟨v612, rfl, ho0, hb⟩; refine ⟨_, rfl, ?_⟩; have n0_ := Aside0.mk (Kd.R_elder' (by (with_reducible repeat (first | apply Kd.R_alloc | apply Kd.R_drewN | apply Kd.R_drew)); exact HO603.out) (Kd.R_base ho0) hb); have n1_ := Aside0.mk (Kd.R_elder' (by (with_reducible repeat (first | apply Kd.R_alloc | apply Kd.R_drewN | apply Kd.R_drew)); exact HO606.out) (Kd.R_base ho0) hb); have n2_ := Aside0.mk (Kd.R_elder' (by (with_reducible repeat (first | apply Kd.R_alloc | apply Kd.R_drewN | apply Kd.R_drew)); exact HO609.out) (Kd.R_base ho0) hb); have n3_ := Aside0.mk (Kd.R_lower (Kd.R_new' (Kd.R_new' (Kd.R_new' ho0 (Kd.R_lt (by (with_reducible repeat (first | apply Kd.R_alloc | apply Kd.R_drewN | apply Kd.R_drew)); exact HO603.out))) (Kd.R_lt (by (with_reducible repeat (first | apply Kd.R_alloc | apply Kd.R_drewN | apply Kd.R_drew)); exact HO606.out))) (Kd.R_lt (by (with_reducible repeat (first | apply Kd.R_alloc | apply Kd.R_drewN | apply Kd.R_drew)); exact HO609.out))) (below_size (by repeat (first | (with_reducible first | exact HB.out | apply below_alloc | apply pw_below_drewN | apply below_drew1) | exact HB.out)))); have n4_ := Aside0.mk (below_step (by repeat (first | (with_reducible first | exact HB.out | apply below_alloc | apply pw_below_drewN | apply below_drew1) | exact HB.out)) hb); clear HO603; clear HO606; clear HO609; clear HB; have HO603 := n0_; have HO606 := n1_; have HO609 := n2_; have HO613 := n3_; have HB := n4_; clear n0_ n1_ n2_ n3_ n4_; (try clear hb); (try clear hb2); (try clear hk); (try clear hi); (try clear ho0); obtain ⟨Ao38, co38, eo38⟩ := Kd.R_slice HO613.out; subst eo38) | ((with_reducible refine gate_callee (f := 18) rfl ?_); refine goesL_ (some 34) rfl rfl Tryd.func18 (by kernel_rfl) rfl #[.slice Ao33 t604.length co33, .slice Ao38 t611.length co38] rfl (by (try simp only [List.map_toArray, List.map_cons, List.map_nil]); first | done | rfl | (simp only [List.length_drop, List.length_take]; rfl)) ?_; (with_reducible refine (laws_eqByteS.calls k _ _ t604 _ _ t611 true _ ?side1 ?side2 ?side3 ?side4 A12.out).mono ?_); (case side1 => repeat (first | exact (Kd.R_reads' HO606.out).2.2 | (with_reducible refine Kd.C_alloc ?_ _) | (with_reducible refine Kd.C_drewN ?_ _) | (with_reducible refine Kd.C_drew ?_))); (case side2 => exact (Kd.R_reads' HO606.out).2.1); (case side3 => repeat (first | exact (Kd.R_reads' HO613.out).2.2 | (with_reducible refine Kd.C_alloc ?_ _) | (with_reducible refine Kd.C_drewN ?_ _) | (with_reducible refine Kd.C_drew ?_))); (case side4 => exact (Kd.R_reads' HO613.out).2.1); rintro e w' ⟨rfl, ⟨nd, rfl⟩⟩; refine ⟨_, rfl, ?_⟩) | ((with_reducible refine gate_callee (f := 41) rfl ?_); refine goesL_ (some 38) rfl rfl Tryd.func41 (by kernel_rfl) rfl #[.slice Ao33 t604.length co33, .int .i64 1] rfl (by (try simp only [List.map_toArray, List.map_cons, List.map_nil]); first | done | rfl | (simp only [List.length_drop, List.length_take]; rfl)) ?_; (with_reducible refine (laws_markByteS.calls k (fun k_ => some k_ = (.slice Ao33 t604.length co33 : Value).ownBlock) (.slice Ao33 t604.length co33) t604 1 t615 t616 w _ ?side1 ?side2 A14.out).mono ?_); (case side1 => repeat (first | (with_reducible first | exact HB.out | apply below_alloc | apply pw_below_drewN | apply below_drew1) | exact HB.out)); (case side2 => exact Kd.R_tight rfl HO606.out); rintro e w39 ⟨rfl, hy0, hb, hkp⟩; refine ⟨_, rfl, ?_⟩; have n0_ := Aside0.mk (Kd.R_mono (ok' := fun k_ => some k_ ≠ (.slice Ao33 t604.length co33 : Value).ownBlock ∧ some k_ ≠ (.slice Ao35 t607.length co35 : Value).ownBlock) (Kd.R_keptB (HO603.out) hkp (fun k_ hk_ hs_ => (hk_.1.1.2) hs_)) (fun k_ hk_ => ⟨hk_.1.1.1.2, hk_.1.1.2⟩)); have n1_ := Aside0.mk (Kd.R_reok rfl hy0 (fun k_ e_ => HO606.out.1 k_ e_)); have n2_ := Aside0.mk (Kd.R_mono (ok' := fun k_ => some k_ ≠ (.slice Ao36 t601.length co36 : Value).ownBlock ∧ some k_ ≠ (.slice Ao33 t604.length co33 : Value).ownBlock) (Kd.R_keptB (HO609.out) hkp (fun k_ hk_ hs_ => (hk_.1.2) hs_)) (fun k_ hk_ => ⟨hk_.1.1.1.2, hk_.1.1.2⟩)); have n3_ := Aside0.mk (hb); clear HO603; clear HO606; clear HO609; clear HB; have HO603 := n0_; have HO606 := n1_; have HO609 := n2_; have HB := n3_; clear n0_ n1_ n2_ n3_; (try clear hb); (try clear hkp); (try clear hy0)) | (go_at_call 18; (with_reducible refine (laws_eqByteS.calls k _ _ t607 _ _ t601 true _ ?side1 ?side2 ?side3 ?side4 A16.out).mono ?_); (case side1 => repeat (first | exact (Kd.R_reads' HO609.out).2.2 | (with_reducible refine Kd.C_alloc ?_ _) | (with_reducible refine Kd.C_drewN ?_ _) | (with_reducible refine Kd.C_drew ?_))); (case side2 => exact (Kd.R_reads' HO609.out).2.1); (case side3 => repeat (first | exact (Kd.R_reads' HO603.out).2.2 | (with_reducible refine Kd.C_alloc ?_ _) | (with_reducible refine Kd.C_drewN ?_ _) | (with_reducible refine Kd.C_drew ?_))); (case side4 => exact (Kd.R_reads' HO603.out).2.1); rintro e w' ⟨rfl, ⟨nd, rfl⟩⟩) | ((with_reducible refine gate_callee (f := 41) rfl ?_); refine goesL_ (some 49) rfl rfl Tryd.func41 (by kernel_rfl) rfl #[.slice Ao35 t607.length co35, .int .i64 1] rfl (by (try simp only [List.map_toArray, List.map_cons, List.map_nil]); first | done | rfl | (simp only [List.length_drop, List.length_take]; rfl)) ?_; (with_reducible refine (laws_markByteS.calls k (fun k_ => some k_ = (.slice Ao35 t607.length co35 : Value).ownBlock) (.slice Ao35 t607.length co35) t607 1 t618 t619 w _ ?side1 ?side2 A18.out).mono ?_); (case side1 => repeat (first | (with_reducible first | exact HB.out | apply below_alloc | apply pw_below_drewN | apply below_drew1) | exact HB.out)); (case side2 => exact Kd.R_tight rfl HO609.out); rintro e w40 ⟨rfl, hy0, hb, hkp⟩; refine ⟨_, rfl, ?_⟩; have n0_ := Aside0.mk (Kd.R_mono (ok' := fun k_ => some k_ ≠ (.slice Ao35 t607.length co35 : Value).ownBlock) (Kd.R_keptB (HO603.out) hkp (fun k_ hk_ hs_ => (hk_.2) hs_)) (fun k_ hk_ => hk_.1.2)); have n1_ := Aside0.mk (Kd.R_reok rfl hy0 (fun k_ e_ => HO609.out.1 k_ e_)); have n2_ := Aside0.mk (hb); clear HO603; clear HO609; clear HB; have HO603 := n0_; have HO609 := n1_; have HB := n2_; clear n0_ n1_ n2_; (try clear hb); (try clear hkp); (try clear hy0)) | ((with_reducible refine gate_callee (f := 42) rfl ?_); refine goesL_ (some 52) rfl rfl Tryd.func42 (by kernel_rfl) rfl #[.slice Ao35 t619.length co35, .int .i64 1] rfl (by (try simp only [List.map_toArray, List.map_cons, List.map_nil]); first | done | (rw [show t619.length = t607.length from (Kd.R_reads' HO609.out).1.symm] <;> rfl) | rfl | (simp only [List.length_drop, List.length_take]; rfl)) ?_; (with_reducible refine (laws_heldByteS.calls k _ _ t619 1 t620 _ ?side1 ?side2 A19.out).mono ?_); (case side1 => repeat (first | exact (Kd.R_reads' HO609.out).2.2 | (with_reducible refine Kd.C_alloc ?_ _) | (with_reducible refine Kd.C_drewN ?_ _) | (with_reducible refine Kd.C_drew ?_))); (case side2 => rw [show t619.length = t607.length from (Kd.R_reads' HO609.out).1.symm]; exact (Kd.R_reads' HO609.out).2.1); rintro e w' ⟨rfl, ⟨nd, rfl⟩⟩; refine ⟨_, rfl, ?_⟩) | ((with_reducible refine gate_callee (f := 16) rfl ?_); refine goesL_ (some 59) rfl rfl Tryd.func16 (by kernel_rfl) rfl #[.slice A0 l0.length c0] rfl (by (try simp only [List.map_toArray, List.map_cons, List.map_nil]); first | done | rfl | (simp only [List.length_drop, List.length_take]; rfl)) ?_; (with_reducible refine (laws_toByteS.calls k _ _ l0 t621 _ ?side1 ?side2 A22.out).mono ?_); (case side1 => repeat (first | exact (Kd.C_below HR0.out (by repeat (first | (with_reducible first | exact HB.out | apply below_alloc | apply pw_below_drewN | apply below_drew1) | exact HB.out))) | (with_reducible refine Kd.C_alloc ?_ _) | (with_reducible refine Kd.C_drewN ?_ _) | (with_reducible refine Kd.C_drew ?_))); (case side2 => exact HC0.out); rintro e w41 ⟨v622, rfl, ho0, hb⟩; refine ⟨_, rfl, ?_⟩; have n0_ := Aside0.mk (Kd.R_elder' (by (with_reducible repeat (first | apply Kd.R_alloc | apply Kd.R_drewN | apply Kd.R_drew)); exact HO603.out) (Kd.R_base ho0) hb); have n1_ := Aside0.mk (Kd.R_elder' (by (with_reducible repeat (first | apply Kd.R_alloc | apply Kd.R_drewN | apply Kd.R_drew)); exact HO609.out) (Kd.R_base ho0) hb); have n2_ := Aside0.mk (Kd.R_lower (Kd.R_new' (Kd.R_new' ho0 (Kd.R_lt (by (with_reducible repeat (first | apply Kd.R_alloc | apply Kd.R_drewN | apply Kd.R_drew)); exact HO603.out))) (Kd.R_lt (by (with_reducible repeat (first | apply Kd.R_alloc | apply Kd.R_drewN | apply Kd.R_drew)); exact HO609.out))) (below_size (by repeat (first | (with_reducible first | exact HB.out | apply below_alloc | apply pw_below_drewN | apply below_drew1) | exact HB.out)))); have n3_ := Aside0.mk (below_step (by repeat (first | (with_reducible first | exact HB.out | apply below_alloc | apply pw_below_drewN | apply below_drew1) | exact HB.out)) hb); clear HO603; clear HO609; clear HB; have HO603 := n0_; have HO609 := n1_; have HO623 := n2_; have HB := n3_; clear n0_ n1_ n2_ n3_; (try clear hb); (try clear hb2); (try clear hk); (try clear hi); (try clear ho0); obtain ⟨Ao42, co42, eo42⟩ := Kd.R_slice HO623.out; subst eo42) | ((with_reducible refine gate_callee (f := 40) rfl ?_); refine goesL_ (some 61) rfl rfl Tryd.func40 (by kernel_rfl) rfl #[.slice Ao42 t621.length co42, .string a1] rfl (by (try simp only [List.map_toArray, List.map_cons, List.map_nil]); first | done | rfl | (simp only [List.length_drop, List.length_take]; rfl)) ?_; (with_reducible refine (impl_PutName.calls k _ _ t621 a1 t624 _ ?side1 ?side2 A23.out).mono ?_); (case side1 => repeat (first | exact (Kd.R_reads' HO623.out).2.2 | (with_reducible refine Kd.C_alloc ?_ _) | (with_reducible refine Kd.C_drewN ?_ _) | (with_reducible refine Kd.C_drew ?_))); (case side2 => exact (Kd.R_reads' HO623.out).2.1); rintro e w43 ⟨v625, rfl, ho0, hb⟩; refine ⟨_, rfl, ?_⟩; have n0_ := Aside0.mk (Kd.R_elder' (by (with_reducible repeat (first | apply Kd.R_alloc | apply Kd.R_drewN | apply Kd.R_drew)); exact HO603.out) (Kd.R_base ho0) hb); have n1_ := Aside0.mk (Kd.R_elder' (by (with_reducible repeat (first | apply Kd.R_alloc | apply Kd.R_drewN | apply Kd.R_drew)); exact HO609.out) (Kd.R_base ho0) hb); have n2_ := Aside0.mk (Kd.R_elder' (by (with_reducible repeat (first | apply Kd.R_alloc | apply Kd.R_drewN | apply Kd.R_drew)); exact HO623.out) (Kd.R_base ho0) hb); have n3_ := Aside0.mk (Kd.R_lower (Kd.R_new' (Kd.R_new' (Kd.R_new' ho0 (Kd.R_lt (by (with_reducible repeat (first | apply Kd.R_alloc | apply Kd.R_drewN | apply Kd.R_drew)); exact HO603.out))) (Kd.R_lt (by (with_reducible repeat (first | apply Kd.R_alloc | apply Kd.R_drewN | apply Kd.R_drew)); exact HO609.out))) (Kd.R_lt (by (with_reducible repeat (first | apply Kd.R_alloc | apply Kd.R_drewN | apply Kd.R_drew)); exact HO623.out))) (below_size (by repeat (first | (with_reducible first | exact HB.out | apply below_alloc | apply pw_below_drewN | apply below_drew1) | exact HB.out)))); have n4_ := Aside0.mk (below_step (by repeat (first | (with_reducible first | exact HB.out | apply below_alloc | apply pw_below_drewN | apply below_drew1) | exact HB.out)) hb); clear HO603; clear HO609; clear HO623; clear HB; have HO603 := n0_; have HO609 := n1_; have HO623 := n2_; have HO626 := n3_; have HB := n4_; clear n0_ n1_ n2_ n3_ n4_; (try clear hb); (try clear hb2); (try clear hk); (try clear hi); (try clear ho0); obtain ⟨Ao44, co44, eo44⟩ := Kd.R_slice HO626.out; subst eo44) | ((with_reducible refine gate_callee (f := 18) rfl ?_); refine goesL_ (some 64) rfl rfl Tryd.func18 (by kernel_rfl) rfl #[.slice Ao44 t624.length co44, .slice Ao36 t601.length co36] rfl (by (try simp only [List.map_toArray, List.map_cons, List.map_nil]); first | done | rfl | (simp only [List.length_drop, List.length_take]; rfl)) ?_; (with_reducible refine (laws_eqByteS.calls k _ _ t624 _ _ t601 true _ ?side1 ?side2 ?side3 ?side4 A24.out).mono ?_); (case side1 => repeat (first | exact (Kd.R_reads' HO626.out).2.2 | (with_reducible refine Kd.C_alloc ?_ _) | (with_reducible refine Kd.C_drewN ?_ _) | (with_reducible refine Kd.C_drew ?_))); (case side2 => exact (Kd.R_reads' HO626.out).2.1); (case side3 => repeat (first | exact (Kd.R_reads' HO603.out).2.2 | (with_reducible refine Kd.C_alloc ?_ _) | (with_reducible refine Kd.C_drewN ?_ _) | (with_reducible refine Kd.C_drew ?_))); (case side4 => exact (Kd.R_reads' HO603.out).2.1); rintro e w' ⟨rfl, ⟨nd, rfl⟩⟩; refine ⟨_, rfl, ?_⟩) | ((with_reducible refine gate_callee (f := 42) rfl ?_); refine goesL_ (some 68) rfl rfl Tryd.func42 (by kernel_rfl) rfl #[.slice Ao35 t619.length co35, .int .i64 1] rfl (by (try simp only [List.map_toArray, List.map_cons, List.map_nil]); first | done | (rw [show t619.length = t607.length from (Kd.R_reads' HO609.out).1.symm] <;> rfl) | rfl | (simp only [List.length_drop, List.length_take]; rfl)) ?_; (with_reducible refine (laws_heldByteS.calls k _ _ t619 1 t628 _ ?side1 ?side2 A26.out).mono ?_); (case side1 => repeat (first | exact (Kd.R_reads' HO609.out).2.2 | (with_reducible refine Kd.C_alloc ?_ _) | (with_reducible refine Kd.C_drewN ?_ _) | (with_reducible refine Kd.C_drew ?_))); (case side2 => rw [show t619.length = t607.length from (Kd.R_reads' HO609.out).1.symm]; exact (Kd.R_reads' HO609.out).2.1); rintro e w' ⟨rfl, ⟨nd, rfl⟩⟩; refine ⟨_, rfl, ?_⟩))
                        go_ret
                        exact ⟨by first | rfl | (simp [errW_none, errW_some] <;> rfl) | (simp [*, errW_none, errW_some] <;> rfl), by repeat (first | (with_reducible first | exact HB.out | apply below_alloc | apply pw_below_drewN | apply below_drew1) | exact HB.out)⟩
                      · rw [if_neg c28] at H
                        have c28b0 : (t628 == t618) = false := beq_eq_false_iff_ne.mpr c28
                        have c28b1 : (t628 != t618) = true := bne_iff_ne.mpr c28
                        exact absurd (H.trans (congrArg some hrt_)) (by simp)
                  · replace c25 := Bool.eq_false_iff.mpr c25
                    subst c25
                    have H1 : (some false) = some r := by rw [if_neg (show ¬ (false = true) by decide)] at H; exact H
                    clear H
                    have H := H1
                    clear H1
                    exact absurd (H.trans (congrArg some hrt_)) (by simp)
                · rw [if_neg c21] at H
                  have c21b0 : (t620 == t618) = false := beq_eq_false_iff_ne.mpr c21
                  have c21b1 : (t620 != t618) = true := bne_iff_ne.mpr c21
                  exact absurd (H.trans (congrArg some hrt_)) (by simp)
            · replace c17 := Bool.eq_false_iff.mpr c17
              subst c17
              have H1 : (some false) = some r := by rw [if_neg (show ¬ (false = true) by decide)] at H; exact H
              clear H
              have H := H1
              clear H1
              exact absurd (H.trans (congrArg some hrt_)) (by simp)
        · replace c13 := Bool.eq_false_iff.mpr c13
          subst c13
          have H1 : (some false) = some r := by rw [if_neg (show ¬ (false = true) by decide)] at H; exact H
          clear H
          have H := H1
          clear H1
          exact absurd (H.trans (congrArg some hrt_)) (by simp)
      · replace c10 := Bool.eq_false_iff.mpr c10
        subst c10
        have H1 : (some false) = some r := by rw [if_neg (show ¬ (false = true) by decide)] at H; exact H
        clear H
        have H := H1
        clear H1
        exact absurd (H.trans (congrArg some hrt_)) (by simp)

/-- The one pure statement of laws_FnExactPutName. -/
def laws_FnExactPutName.Pure : Prop := ∀ (l0 : List Int) (a1 : ByteArray), (l0.length ≤ maxLen ∧ l0.length * 1 ≤ 140737488351232 ∧ ∀ y_ ∈ l0, (Lit.int .u8 y_).wf = true) → a1.size ≤ 140737488351232 → ∃ k, laws_FnExactPutName.f k l0 a1 = some true

end Go.Proofs.YtfmnofjijodgcaaDoor.Pr
