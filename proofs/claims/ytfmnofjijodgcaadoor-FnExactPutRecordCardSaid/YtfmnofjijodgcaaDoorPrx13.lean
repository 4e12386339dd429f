-- Written for this claim by a program of this session (wip/tool/pr.py, over the kit's printer).
import Derived.Test.YtfmnofjijodgcaaDoorPrx0
import Derived.Test.YtfmnofjijodgcaaDoorPrx1
import Derived.Test.YtfmnofjijodgcaaDoorPrx6
import Derived.Test.YtfmnofjijodgcaaDoorPrx12
namespace Go.Proofs.YtfmnofjijodgcaaDoor.Pr
open Go.RowKit Go.Proofs.YtfmnofjijodgcaaDoorW.PrintWords Go.Proofs.YtfmnofjijodgcaaDoorW.PrintLast Go.Proofs.YtfmnofjijodgcaaDoorW.PrintMore
attribute [local go_sem] max2_int min2_int max_two min_two max_three min_three max_four min_four   -- for this text's walks alone
set_option linter.unusedVariables false
set_option linter.unusedSimpArgs false

/-! ### laws_FnExactPutRecord: function 13 -/
def laws_FnExactPutRecord.f (k : Nat) (l0 : List Int) (a1_0 : ByteArray) (a1_1 : Int) (a1_2 : Int) (a1_3 : Int) (a1_4 : ByteArray) (a1_5 : ByteArray) : Option (Bool) := if (l0.length : Int) > 1048576 then (some true) else ((laws_szRecord.f a1_0 a1_1 a1_2 a1_3 a1_4 a1_5 1048576).bind fun t513 => (if t513 < 0 then (some true) else ((laws_toByteS.f k l0).bind fun t514 => ((laws_toRecord.f a1_0 a1_1 a1_2 a1_3 a1_4 a1_5).bind fun bt517 => ((spec_PutRecord.f k t514 bt517.1 bt517.2.1 bt517.2.2.1 bt517.2.2.2.1 bt517.2.2.2.2.1 bt517.2.2.2.2.2).bind fun t523 => ((laws_toByteS.f k l0).bind fun t526 => ((laws_toRecord.f a1_0 a1_1 a1_2 a1_3 a1_4 a1_5).bind fun bt529 => ((impl_PutRecord.f k t526 bt529.1 bt529.2.1 bt529.2.2.1 bt529.2.2.2.1 bt529.2.2.2.2.1 bt529.2.2.2.2.2).bind fun t535 => ((laws_eqByteS.f k t535 t523).bind fun t538 => (if t538 = true then ((laws_toByteS.f k l0).bind fun t539 => ((laws_eqByteS.f k t526 t539).bind fun t542 => (if t542 = true then ((laws_markByteS.f k t526 1).bind fun bt543 => (if bt543.1 < 0 then (some false) else ((laws_eqByteS.f k t535 t523).bind fun t545 => (if t545 = true then ((laws_markByteS.f k t535 1).bind fun bt546 => ((laws_heldByteS.f k bt546.2 1).bind fun t548 => (if t548 < 0 then (some false) else (if t548 = bt546.1 then ((laws_toByteS.f k l0).bind fun t549 => ((laws_toRecord.f a1_0 a1_1 a1_2 a1_3 a1_4 a1_5).bind fun bt552 => ((impl_PutRecord.f k t549 bt552.1 bt552.2.1 bt552.2.2.1 bt552.2.2.2.1 bt552.2.2.2.2.1 bt552.2.2.2.2.2).bind fun t558 => ((laws_eqByteS.f k t558 t523).bind fun t561 => (if t561 = true then ((laws_heldByteS.f k bt546.2 1).bind fun t562 => (if t562 < 0 then (some false) else (if t562 = bt546.1 then (some true) else (some false)))) else (some false)))))) else (some false))))) else (some false))))) else (some false)))) else (some false)))))))))))
theorem laws_FnExactPutRecord.mono : ∀ a0 a1 a2 a3 a4 a5 a6 k, LeO (laws_FnExactPutRecord.f k a0 a1 a2 a3 a4 a5 a6) (laws_FnExactPutRecord.f (k + 1) a0 a1 a2 a3 a4 a5 a6) := by
  intro a0 a1 a2 a3 a4 a5 a6 k
  unfold laws_FnExactPutRecord.f
  repeat' first
      | (with_reducible exact impl_PutRecord.mono _ _ _ _ _ _ _ _)
      | (with_reducible exact laws_eqByteS.mono _ _ _)
      | (with_reducible exact laws_heldByteS.mono _ _ _)
      | (with_reducible exact laws_markByteS.mono _ _ _)
      | (with_reducible exact laws_toByteS.mono _ _)
      | (with_reducible exact spec_PutRecord.mono _ _ _ _ _ _ _ _)
      | (with_reducible exact LeO.refl _)
      | (with_reducible exact LeO.none _)
      | (with_reducible refine LeO.ite ?_ ?_)
      | (with_reducible refine LeO.bind ?_ (fun _ => ?_))
      | exact impl_PutRecord.mono _ _ _ _ _ _ _ _
      | exact laws_eqByteS.mono _ _ _
      | exact laws_heldByteS.mono _ _ _
      | exact laws_markByteS.mono _ _ _
      | exact laws_toByteS.mono _ _
      | exact spec_PutRecord.mono _ _ _ _ _ _ _ _
      | exact LeO.none _
      | refine LeO.ite ?_ ?_
      | refine LeO.bind ?_ (fun _ => ?_)
set_option maxHeartbeats 8000000 in
set_option maxRecDepth 100000 in
theorem laws_FnExactPutRecord.calls (k : Nat) (A0 : Option Addr) (c0 : Nat) (l0 : List Int) (a1_0 : ByteArray) (a1_1 : Int) (a1_2 : Int) (a1_3 : Int) (a1_4 : ByteArray) (a1_5 : ByteArray) (r : Bool) (w : World) (hr0 : Kd.C (Kd.int .u8) w A0 l0.length l0) (hc0 : l0.length ≤ c0) (hrt_ : r = true) (h : laws_FnExactPutRecord.f k l0 a1_0 a1_1 a1_2 a1_3 a1_4 a1_5 = some r) :
    Calls Tryd.prog 13 #[.slice A0 l0.length c0, .agg #[.string a1_0, .int .i64 a1_1, .int .i64 a1_2, .int .i64 a1_3, .string a1_4, .string a1_5]] w fun e w' => e = .returned (.bool r) ∧ Below w.heap.size w w' := by
  have hu30 := Tryd.underlying30
  have HR0 := Aside0.mk hr0
  have HC0 := Aside0.mk hc0
  clear hr0 hc0
  have HB := Aside0.mk (Below.refl w.heap.size w)
  have H : (if (l0.length : Int) > 1048576 then (some true) else ((laws_szRecord.f a1_0 a1_1 a1_2 a1_3 a1_4 a1_5 1048576).bind fun t513 => (if t513 < 0 then (some true) else ((laws_toByteS.f k l0).bind fun t514 => ((laws_toRecord.f a1_0 a1_1 a1_2 a1_3 a1_4 a1_5).bind fun bt517 => ((spec_PutRecord.f k t514 bt517.1 bt517.2.1 bt517.2.2.1 bt517.2.2.2.1 bt517.2.2.2.2.1 bt517.2.2.2.2.2).bind fun t523 => ((laws_toByteS.f k l0).bind fun t526 => ((laws_toRecord.f a1_0 a1_1 a1_2 a1_3 a1_4 a1_5).bind fun bt529 => ((impl_PutRecord.f k t526 bt529.1 bt529.2.1 bt529.2.2.1 bt529.2.2.2.1 bt529.2.2.2.2.1 bt529.2.2.2.2.2).bind fun t535 => ((laws_eqByteS.f k t535 t523).bind fun t538 => (if t538 = true then ((laws_toByteS.f k l0).bind fun t539 => ((laws_eqByteS.f k t526 t539).bind fun t542 => (if t542 = true then ((laws_markByteS.f k t526 1).bind fun bt543 => (if bt543.1 < 0 then (some false) else ((laws_eqByteS.f k t535 t523).bind fun t545 => (if t545 = true then ((laws_markByteS.f k t535 1).bind fun bt546 => ((laws_heldByteS.f k bt546.2 1).bind fun t548 => (if t548 < 0 then (some false) else (if t548 = bt546.1 then ((laws_toByteS.f k l0).bind fun t549 => ((laws_toRecord.f a1_0 a1_1 a1_2 a1_3 a1_4 a1_5).bind fun bt552 => ((impl_PutRecord.f k t549 bt552.1 bt552.2.1 bt552.2.2.1 bt552.2.2.2.1 bt552.2.2.2.2.1 bt552.2.2.2.2.2).bind fun t558 => ((laws_eqByteS.f k t558 t523).bind fun t561 => (if t561 = true then ((laws_heldByteS.f k bt546.2 1).bind fun t562 => (if t562 < 0 then (some false) else (if t562 = bt546.1 then (some true) else (some false)))) else (some false)))))) else (some false))))) else (some false))))) else (some false)))) else (some false)))))))))))) = some r := h
  clear h
  by_cases c3 : (l0.length : Int) > 1048576
  · rw [if_pos c3] at H
    have c3b0 : decide (1048576 < (l0.length : Int)) = true := decide_eq_true c3
    have c3b1 : decide (1048576 < l0.length) = true := decide_eq_true (by omega)
    clear c3
    obtain rfl := Option.some.inj H
    go_enter Tryd.func13, Tryd.ntmps13
    go_wp2_with (first | ((with_reducible refine gate_dst (N := 3) rfl ?_); refine box_event ?hg (N := 3) ?hd (cs := #[.string a1_0, .int .i64 a1_1, .int .i64 a1_2, .int .i64 a1_3, .string a1_4, .string a1_5]) (t := 30) ?hr ?_; (case hd => rfl); (case hg => rfl); (case hr => first | (go_simp; done) | (go_simp; rfl)); intro gb512 hg w4 hbox hb; have n0_ := Aside0.mk (below_step (wU HB.out) hb); have n1_ := Aside0.mk (hbox); have n2_ := Aside0.mk ((by rw [hg]; exact (below_size (wU HB.out)) : w.heap.size ≤ gb512)); have n3_ := Aside0.mk ((by rw [hg]; exact (below_size (wU HB.out)) : w.heap.size ≤ gb512)); clear HB; have HB := n0_; have BK512 := n1_; have GW512 := n2_; have GE512 := n3_; clear n0_ n1_ n2_ n3_; clear hb hbox hg))
    go_ret
    exact ⟨by first | rfl | (simp [errW_none, errW_some] <;> rfl) | (simp [*, errW_none, errW_some] <;> rfl) | (exfalso; simp_all; done) | ((have ai_ : ∀ p : Prop, Aside0 p ↔ p := fun p => ⟨fun h => h.out, fun h => ⟨h⟩⟩); simp_all [ai_]; done), by repeat (first | (with_reducible first | exact HB.out | apply below_alloc | apply pw_below_drewN | apply below_drew1 | refine below_set ?_ GE512.out) | exact HB.out)⟩
  · rw [if_neg c3] at H
    have c3b0 : decide (1048576 < (l0.length : Int)) = false := decide_eq_false c3
    have c3b1 : decide (1048576 < l0.length) = false := decide_eq_false (by omega)
    clear c3
    replace H := Option.bind_eq_some_iff.mp H
    obtain ⟨t513, A50, H⟩ := H
    replace H : (if t513 < 0 then (some true) else ((laws_toByteS.f k l0).bind fun t514 => ((laws_toRecord.f a1_0 a1_1 a1_2 a1_3 a1_4 a1_5).bind fun bt517 => ((spec_PutRecord.f k t514 bt517.1 bt517.2.1 bt517.2.2.1 bt517.2.2.2.1 bt517.2.2.2.2.1 bt517.2.2.2.2.2).bind fun t523 => ((laws_toByteS.f k l0).bind fun t526 => ((laws_toRecord.f a1_0 a1_1 a1_2 a1_3 a1_4 a1_5).bind fun bt529 => ((impl_PutRecord.f k t526 bt529.1 bt529.2.1 bt529.2.2.1 bt529.2.2.2.1 bt529.2.2.2.2.1 bt529.2.2.2.2.2).bind fun t535 => ((laws_eqByteS.f k t535 t523).bind fun t538 => (if t538 = true then ((laws_toByteS.f k l0).bind fun t539 => ((laws_eqByteS.f k t526 t539).bind fun t542 => (if t542 = true then ((laws_markByteS.f k t526 1).bind fun bt543 => (if bt543.1 < 0 then (some false) else ((laws_eqByteS.f k t535 t523).bind fun t545 => (if t545 = true then ((laws_markByteS.f k t535 1).bind fun bt546 => ((laws_heldByteS.f k bt546.2 1).bind fun t548 => (if t548 < 0 then (some false) else (if t548 = bt546.1 then ((laws_toByteS.f k l0).bind fun t549 => ((laws_toRecord.f a1_0 a1_1 a1_2 a1_3 a1_4 a1_5).bind fun bt552 => ((impl_PutRecord.f k t549 bt552.1 bt552.2.1 bt552.2.2.1 bt552.2.2.2.1 bt552.2.2.2.2.1 bt552.2.2.2.2.2).bind fun t558 => ((laws_eqByteS.f k t558 t523).bind fun t561 => (if t561 = true then ((laws_heldByteS.f k bt546.2 1).bind fun t562 => (if t562 < 0 then (some false) else (if t562 = bt546.1 then (some true) else (some false)))) else (some false)))))) else (some false))))) else (some false))))) else (some false)))) else (some false)))))))))) = some r := H
    have A5 := Aside0.mk A50
    clear A50
    by_cases c6 : t513 < 0
    · rw [if_pos c6] at H
      have c6b0 : decide (t513 < 0) = true := decide_eq_true c6
      clear c6
      obtain rfl := Option.some.inj H
      go_enter Tryd.func13, Tryd.ntmps13
      go_wp2_with (first | ((with_reducible refine gate_dst (N := 3) rfl ?_); refine box_event ?hg (N := 3) ?hd (cs := #[.string a1_0, .int .i64 a1_1, .int .i64 a1_2, .int .i64 a1_3, .string a1_4, .string a1_5]) (t := 30) ?hr ?_; (case hd => rfl); (case hg => rfl); (case hr => first | (go_simp; done) | (go_simp; rfl)); intro gb512 hg w7 hbox hb; have n0_ := Aside0.mk (below_step (wU HB.out) hb); have n1_ := Aside0.mk (hbox); have n2_ := Aside0.mk ((by rw [hg]; exact (below_size (wU HB.out)) : w.heap.size ≤ gb512)); have n3_ := Aside0.mk ((by rw [hg]; exact (below_size (wU HB.out)) : w.heap.size ≤ gb512)); clear HB; have HB := n0_; have BK512 := n1_; have GW512 := n2_; have GE512 := n3_; clear n0_ n1_ n2_ n3_; clear hb hbox hg; obtain ⟨hcz8_0, hcz8_1, hcz8_2, hcz8_3, hcz8_4, hcz8_5, hfz8_0, hfz8_1, hfz8_2, hfz8_3, hfz8_4, hfz8_5⟩ := cells6f BK512.out) | ((with_reducible refine gate_callee (f := 21) rfl ?_); refine goesL_ (some 18) rfl rfl Tryd.func21 (by kernel_rfl) rfl #[.agg #[.string a1_0, .int .i64 a1_1, .int .i64 a1_2, .int .i64 a1_3, .string a1_4, .string a1_5], .int .i64 1048576] rfl (by (try simp only [List.map_toArray, List.map_cons, List.map_nil]); first | done | rfl | (simp only [List.length_drop, List.length_take]; rfl)) ?_; (with_reducible refine (laws_szRecord.calls a1_0 a1_1 a1_2 a1_3 a1_4 a1_5 1048576 t513 _ A5.out).mono ?_); rintro e w9 ⟨rfl, hb⟩; refine ⟨_, rfl, ?_⟩; have n0_ := Aside0.mk (blk_below (g := gb512) (o := .cells #[.string a1_0, .int .i64 a1_1, .int .i64 a1_2, .int .i64 a1_3, .string a1_4, .string a1_5] 30 (0, 0)) (bU BK512.out) hb); have n1_ := Aside0.mk (below_step (by repeat (first | (with_reducible first | exact HB.out | apply below_alloc | apply pw_below_drewN | apply below_drew1 | refine below_set ?_ GE512.out) | exact HB.out)) hb); clear BK512; clear HB; have BK512 := n0_; have HB := n1_; clear n0_ n1_; (try clear hb); (try clear hb2); (try clear hk); (try clear hi)))
      go_ret
      exact ⟨by first | rfl | (simp [errW_none, errW_some] <;> rfl) | (simp [*, errW_none, errW_some] <;> rfl) | (exfalso; simp_all; done) | ((have ai_ : ∀ p : Prop, Aside0 p ↔ p := fun p => ⟨fun h => h.out, fun h => ⟨h⟩⟩); simp_all [ai_]; done), by repeat (first | (with_reducible first | exact HB.out | apply below_alloc | apply pw_below_drewN | apply below_drew1 | refine below_set ?_ GE512.out) | exact HB.out)⟩
    · rw [if_neg c6] at H
      have c6b0 : decide (t513 < 0) = false := decide_eq_false c6
      clear c6
      replace H := Option.bind_eq_some_iff.mp H
      obtain ⟨t514, A100, H⟩ := H
      replace H : ((laws_toRecord.f a1_0 a1_1 a1_2 a1_3 a1_4 a1_5).bind fun bt517 => ((spec_PutRecord.f k t514 bt517.1 bt517.2.1 bt517.2.2.1 bt517.2.2.2.1 bt517.2.2.2.2.1 bt517.2.2.2.2.2).bind fun t523 => ((laws_toByteS.f k l0).bind fun t526 => ((laws_toRecord.f a1_0 a1_1 a1_2 a1_3 a1_4 a1_5).bind fun bt529 => ((impl_PutRecord.f k t526 bt529.1 bt529.2.1 bt529.2.2.1 bt529.2.2.2.1 bt529.2.2.2.2.1 bt529.2.2.2.2.2).bind fun t535 => ((laws_eqByteS.f k t535 t523).bind fun t538 => (if t538 = true then ((laws_toByteS.f k l0).bind fun t539 => ((laws_eqByteS.f k t526 t539).bind fun t542 => (if t542 = true then ((laws_markByteS.f k t526 1).bind fun bt543 => (if bt543.1 < 0 then (some false) else ((laws_eqByteS.f k t535 t523).bind fun t545 => (if t545 = true then ((laws_markByteS.f k t535 1).bind fun bt546 => ((laws_heldByteS.f k bt546.2 1).bind fun t548 => (if t548 < 0 then (some false) else (if t548 = bt546.1 then ((laws_toByteS.f k l0).bind fun t549 => ((laws_toRecord.f a1_0 a1_1 a1_2 a1_3 a1_4 a1_5).bind fun bt552 => ((impl_PutRecord.f k t549 bt552.1 bt552.2.1 bt552.2.2.1 bt552.2.2.2.1 bt552.2.2.2.2.1 bt552.2.2.2.2.2).bind fun t558 => ((laws_eqByteS.f k t558 t523).bind fun t561 => (if t561 = true then ((laws_heldByteS.f k bt546.2 1).bind fun t562 => (if t562 < 0 then (some false) else (if t562 = bt546.1 then (some true) else (some false)))) else (some false)))))) else (some false))))) else (some false))))) else (some false)))) else (some false)))))))) = some r := H
      have A10 := Aside0.mk A100
      clear A100
      replace H := Option.bind_eq_some_iff.mp H
      obtain ⟨⟨t517, t518, t519, t520, t521, t522⟩, A110, H⟩ := H
      replace H : ((spec_PutRecord.f k t514 t517 t518 t519 t520 t521 t522).bind fun t523 => ((laws_toByteS.f k l0).bind fun t526 => ((laws_toRecord.f a1_0 a1_1 a1_2 a1_3 a1_4 a1_5).bind fun bt529 => ((impl_PutRecord.f k t526 bt529.1 bt529.2.1 bt529.2.2.1 bt529.2.2.2.1 bt529.2.2.2.2.1 bt529.2.2.2.2.2).bind fun t535 => ((laws_eqByteS.f k t535 t523).bind fun t538 => (if t538 = true then ((laws_toByteS.f k l0).bind fun t539 => ((laws_eqByteS.f k t526 t539).bind fun t542 => (if t542 = true then ((laws_markByteS.f k t526 1).bind fun bt543 => (if bt543.1 < 0 then (some false) else ((laws_eqByteS.f k t535 t523).bind fun t545 => (if t545 = true then ((laws_markByteS.f k t535 1).bind fun bt546 => ((laws_heldByteS.f k bt546.2 1).bind fun t548 => (if t548 < 0 then (some false) else (if t548 = bt546.1 then ((laws_toByteS.f k l0).bind fun t549 => ((laws_toRecord.f a1_0 a1_1 a1_2 a1_3 a1_4 a1_5).bind fun bt552 => ((impl_PutRecord.f k t549 bt552.1 bt552.2.1 bt552.2.2.1 bt552.2.2.2.1 bt552.2.2.2.2.1 bt552.2.2.2.2.2).bind fun t558 => ((laws_eqByteS.f k t558 t523).bind fun t561 => (if t561 = true then ((laws_heldByteS.f k bt546.2 1).bind fun t562 => (if t562 < 0 then (some false) else (if t562 = bt546.1 then (some true) else (some false)))) else (some false)))))) else (some false))))) else (some false))))) else (some false)))) else (some false))))))) = some r := H
      have A11 := Aside0.mk A110
      clear A110
      replace H := Option.bind_eq_some_iff.mp H
      obtain ⟨t523, A120, H⟩ := H
      replace H : ((laws_toByteS.f k l0).bind fun t526 => ((laws_toRecord.f a1_0 a1_1 a1_2 a1_3 a1_4 a1_5).bind fun bt529 => ((impl_PutRecord.f k t526 bt529.1 bt529.2.1 bt529.2.2.1 bt529.2.2.2.1 bt529.2.2.2.2.1 bt529.2.2.2.2.2).bind fun t535 => ((laws_eqByteS.f k t535 t523).bind fun t538 => (if t538 = true then ((laws_toByteS.f k l0).bind fun t539 => ((laws_eqByteS.f k t526 t539).bind fun t542 => (if t542 = true then ((laws_markByteS.f k t526 1).bind fun bt543 => (if bt543.1 < 0 then (some false) else ((laws_eqByteS.f k t535 t523).bind fun t545 => (if t545 = true then ((laws_markByteS.f k t535 1).bind fun bt546 => ((laws_heldByteS.f k bt546.2 1).bind fun t548 => (if t548 < 0 then (some false) else (if t548 = bt546.1 then ((laws_toByteS.f k l0).bind fun t549 => ((laws_toRecord.f a1_0 a1_1 a1_2 a1_3 a1_4 a1_5).bind fun bt552 => ((impl_PutRecord.f k t549 bt552.1 bt552.2.1 bt552.2.2.1 bt552.2.2.2.1 bt552.2.2.2.2.1 bt552.2.2.2.2.2).bind fun t558 => ((laws_eqByteS.f k t558 t523).bind fun t561 => (if t561 = true then ((laws_heldByteS.f k bt546.2 1).bind fun t562 => (if t562 < 0 then (some false) else (if t562 = bt546.1 then (some true) else (some false)))) else (some false)))))) else (some false))))) else (some false))))) else (some false)))) else (some false)))))) = some r := H
      have A12 := Aside0.mk A120
      clear A120
      replace H := Option.bind_eq_some_iff.mp H
      obtain ⟨t526, A130, H⟩ := H
      replace H : ((laws_toRecord.f a1_0 a1_1 a1_2 a1_3 a1_4 a1_5).bind fun bt529 => ((impl_PutRecord.f k t526 bt529.1 bt529.2.1 bt529.2.2.1 bt529.2.2.2.1 bt529.2.2.2.2.1 bt529.2.2.2.2.2).bind fun t535 => ((laws_eqByteS.f k t535 t523).bind fun t538 => (if t538 = true then ((laws_toByteS.f k l0).bind fun t539 => ((laws_eqByteS.f k t526 t539).bind fun t542 => (if t542 = true then ((laws_markByteS.f k t526 1).bind fun bt543 => (if bt543.1 < 0 then (some false) else ((laws_eqByteS.f k t535 t523).bind fun t545 => (if t545 = true then ((laws_markByteS.f k t535 1).bind fun bt546 => ((laws_heldByteS.f k bt546.2 1).bind fun t548 => (if t548 < 0 then (some false) else (if t548 = bt546.1 then ((laws_toByteS.f k l0).bind fun t549 => ((laws_toRecord.f a1_0 a1_1 a1_2 a1_3 a1_4 a1_5).bind fun bt552 => ((impl_PutRecord.f k t549 bt552.1 bt552.2.1 bt552.2.2.1 bt552.2.2.2.1 bt552.2.2.2.2.1 bt552.2.2.2.2.2).bind fun t558 => ((laws_eqByteS.f k t558 t523).bind fun t561 => (if t561 = true then ((laws_heldByteS.f k bt546.2 1).bind fun t562 => (if t562 < 0 then (some false) else (if t562 = bt546.1 then (some true) else (some false)))) else (some false)))))) else (some false))))) else (some false))))) else (some false)))) else (some false))))) = some r := H
      have A13 := Aside0.mk A130
      clear A130
      replace H := Option.bind_eq_some_iff.mp H
      obtain ⟨⟨t529, t530, t531, t532, t533, t534⟩, A140, H⟩ := H
      replace H : ((impl_PutRecord.f k t526 t529 t530 t531 t532 t533 t534).bind fun t535 => ((laws_eqByteS.f k t535 t523).bind fun t538 => (if t538 = true then ((laws_toByteS.f k l0).bind fun t539 => ((laws_eqByteS.f k t526 t539).bind fun t542 => (if t542 = true then ((laws_markByteS.f k t526 1).bind fun bt543 => (if bt543.1 < 0 then (some false) else ((laws_eqByteS.f k t535 t523).bind fun t545 => (if t545 = true then ((laws_markByteS.f k t535 1).bind fun bt546 => ((laws_heldByteS.f k bt546.2 1).bind fun t548 => (if t548 < 0 then (some false) else (if t548 = bt546.1 then ((laws_toByteS.f k l0).bind fun t549 => ((laws_toRecord.f a1_0 a1_1 a1_2 a1_3 a1_4 a1_5).bind fun bt552 => ((impl_PutRecord.f k t549 bt552.1 bt552.2.1 bt552.2.2.1 bt552.2.2.2.1 bt552.2.2.2.2.1 bt552.2.2.2.2.2).bind fun t558 => ((laws_eqByteS.f k t558 t523).bind fun t561 => (if t561 = true then ((laws_heldByteS.f k bt546.2 1).bind fun t562 => (if t562 < 0 then (some false) else (if t562 = bt546.1 then (some true) else (some false)))) else (some false)))))) else (some false))))) else (some false))))) else (some false)))) else (some false)))) = some r := H
      have A14 := Aside0.mk A140
      clear A140
      replace H := Option.bind_eq_some_iff.mp H
      obtain ⟨t535, A150, H⟩ := H
      replace H : ((laws_eqByteS.f k t535 t523).bind fun t538 => (if t538 = true then ((laws_toByteS.f k l0).bind fun t539 => ((laws_eqByteS.f k t526 t539).bind fun t542 => (if t542 = true then ((laws_markByteS.f k t526 1).bind fun bt543 => (if bt543.1 < 0 then (some false) else ((laws_eqByteS.f k t535 t523).bind fun t545 => (if t545 = true then ((laws_markByteS.f k t535 1).bind fun bt546 => ((laws_heldByteS.f k bt546.2 1).bind fun t548 => (if t548 < 0 then (some false) else (if t548 = bt546.1 then ((laws_toByteS.f k l0).bind fun t549 => ((laws_toRecord.f a1_0 a1_1 a1_2 a1_3 a1_4 a1_5).bind fun bt552 => ((impl_PutRecord.f k t549 bt552.1 bt552.2.1 bt552.2.2.1 bt552.2.2.2.1 bt552.2.2.2.2.1 bt552.2.2.2.2.2).bind fun t558 => ((laws_eqByteS.f k t558 t523).bind fun t561 => (if t561 = true then ((laws_heldByteS.f k bt546.2 1).bind fun t562 => (if t562 < 0 then (some false) else (if t562 = bt546.1 then (some true) else (some false)))) else (some false)))))) else (some false))))) else (some false))))) else (some false)))) else (some false))) = some r := H
      have A15 := Aside0.mk A150
      clear A150
      replace H := Option.bind_eq_some_iff.mp H
      obtain ⟨t538, A160, H⟩ := H
      replace H : (if t538 = true then ((laws_toByteS.f k l0).bind fun t539 => ((laws_eqByteS.f k t526 t539).bind fun t542 => (if t542 = true then ((laws_markByteS.f k t526 1).bind fun bt543 => (if bt543.1 < 0 then (some false) else ((laws_eqByteS.f k t535 t523).bind fun t545 => (if t545 = true then ((laws_markByteS.f k t535 1).bind fun bt546 => ((laws_heldByteS.f k bt546.2 1).bind fun t548 => (if t548 < 0 then (some false) else (if t548 = bt546.1 then ((laws_toByteS.f k l0).bind fun t549 => ((laws_toRecord.f a1_0 a1_1 a1_2 a1_3 a1_4 a1_5).bind fun bt552 => ((impl_PutRecord.f k t549 bt552.1 bt552.2.1 bt552.2.2.1 bt552.2.2.2.1 bt552.2.2.2.2.1 bt552.2.2.2.2.2).bind fun t558 => ((laws_eqByteS.f k t558 t523).bind fun t561 => (if t561 = true then ((laws_heldByteS.f k bt546.2 1).bind fun t562 => (if t562 < 0 then (some false) else (if t562 = bt546.1 then (some true) else (some false)))) else (some false)))))) else (some false))))) else (some false))))) else (some false)))) else (some false)) = some r := H
      have A16 := Aside0.mk A160
      clear A160
      by_cases c17 : t538 = true
      · subst c17
        have H1 : ((laws_toByteS.f k l0).bind fun t539 => ((laws_eqByteS.f k t526 t539).bind fun t542 => (if t542 = true then ((laws_markByteS.f k t526 1).bind fun bt543 => (if bt543.1 < 0 then (some false) else ((laws_eqByteS.f k t535 t523).bind fun t545 => (if t545 = true then ((laws_markByteS.f k t535 1).bind fun bt546 => ((laws_heldByteS.f k bt546.2 1).bind fun t548 => (if t548 < 0 then (some false) else (if t548 = bt546.1 then ((laws_toByteS.f k l0).bind fun t549 => ((laws_toRecord.f a1_0 a1_1 a1_2 a1_3 a1_4 a1_5).bind fun bt552 => ((impl_PutRecord.f k t549 bt552.1 bt552.2.1 bt552.2.2.1 bt552.2.2.2.1 bt552.2.2.2.2.1 bt552.2.2.2.2.2).bind fun t558 => ((laws_eqByteS.f k t558 t523).bind fun t561 => (if t561 = true then ((laws_heldByteS.f k bt546.2 1).bind fun t562 => (if t562 < 0 then (some false) else (if t562 = bt546.1 then (some true) else (some false)))) else (some false)))))) else (some false))))) else (some false))))) else (some false)))) = some r := by rw [if_pos rfl] at H; exact H
        clear H
        have H := H1
        clear H1
        replace H := Option.bind_eq_some_iff.mp H
        obtain ⟨t539, A180, H⟩ := H
        replace H : ((laws_eqByteS.f k t526 t539).bind fun t542 => (if t542 = true then ((laws_markByteS.f k t526 1).bind fun bt543 => (if bt543.1 < 0 then (some false) else ((laws_eqByteS.f k t535 t523).bind fun t545 => (if t545 = true then ((laws_markByteS.f k t535 1).bind fun bt546 => ((laws_heldByteS.f k bt546.2 1).bind fun t548 => (if t548 < 0 then (some false) else (if t548 = bt546.1 then ((laws_toByteS.f k l0).bind fun t549 => ((laws_toRecord.f a1_0 a1_1 a1_2 a1_3 a1_4 a1_5).bind fun bt552 => ((impl_PutRecord.f k t549 bt552.1 bt552.2.1 bt552.2.2.1 bt552.2.2.2.1 bt552.2.2.2.2.1 bt552.2.2.2.2.2).bind fun t558 => ((laws_eqByteS.f k t558 t523).bind fun t561 => (if t561 = true then ((laws_heldByteS.f k bt546.2 1).bind fun t562 => (if t562 < 0 then (some false) else (if t562 = bt546.1 then (some true) else (some false)))) else (some false)))))) else (some false))))) else (some false))))) else (some false))) = some r := H
        have A18 := Aside0.mk A180
        clear A180
        replace H := Option.bind_eq_some_iff.mp H
        obtain ⟨t542, A190, H⟩ := H
        replace H : (if t542 = true then ((laws_markByteS.f k t526 1).bind fun bt543 => (if bt543.1 < 0 then (some false) else ((laws_eqByteS.f k t535 t523).bind fun t545 => (if t545 = true then ((laws_markByteS.f k t535 1).bind fun bt546 => ((laws_heldByteS.f k bt546.2 1).bind fun t548 => (if t548 < 0 then (some false) else (if t548 = bt546.1 then ((laws_toByteS.f k l0).bind fun t549 => ((laws_toRecord.f a1_0 a1_1 a1_2 a1_3 a1_4 a1_5).bind fun bt552 => ((impl_PutRecord.f k t549 bt552.1 bt552.2.1 bt552.2.2.1 bt552.2.2.2.1 bt552.2.2.2.2.1 bt552.2.2.2.2.2).bind fun t558 => ((laws_eqByteS.f k t558 t523).bind fun t561 => (if t561 = true then ((laws_heldByteS.f k bt546.2 1).bind fun t562 => (if t562 < 0 then (some false) else (if t562 = bt546.1 then (some true) else (some false)))) else (some false)))))) else (some false))))) else (some false))))) else (some false)) = some r := H
        have A19 := Aside0.mk A190
        clear A190
        by_cases c20 : t542 = true
        · subst c20
          have H1 : ((laws_markByteS.f k t526 1).bind fun bt543 => (if bt543.1 < 0 then (some false) else ((laws_eqByteS.f k t535 t523).bind fun t545 => (if t545 = true then ((laws_markByteS.f k t535 1).bind fun bt546 => ((laws_heldByteS.f k bt546.2 1).bind fun t548 => (if t548 < 0 then (some false) else (if t548 = bt546.1 then ((laws_toByteS.f k l0).bind fun t549 => ((laws_toRecord.f a1_0 a1_1 a1_2 a1_3 a1_4 a1_5).bind fun bt552 => ((impl_PutRecord.f k t549 bt552.1 bt552.2.1 bt552.2.2.1 bt552.2.2.2.1 bt552.2.2.2.2.1 bt552.2.2.2.2.2).bind fun t558 => ((laws_eqByteS.f k t558 t523).bind fun t561 => (if t561 = true then ((laws_heldByteS.f k bt546.2 1).bind fun t562 => (if t562 < 0 then (some false) else (if t562 = bt546.1 then (some true) else (some false)))) else (some false)))))) else (some false))))) else (some false))))) = some r := by rw [if_pos rfl] at H; exact H
          clear H
          have H := H1
          clear H1
          replace H := Option.bind_eq_some_iff.mp H
          obtain ⟨⟨t543, t544⟩, A210, H⟩ := H
          replace H : (if t543 < 0 then (some false) else ((laws_eqByteS.f k t535 t523).bind fun t545 => (if t545 = true then ((laws_markByteS.f k t535 1).bind fun bt546 => ((laws_heldByteS.f k bt546.2 1).bind fun t548 => (if t548 < 0 then (some false) else (if t548 = bt546.1 then ((laws_toByteS.f k l0).bind fun t549 => ((laws_toRecord.f a1_0 a1_1 a1_2 a1_3 a1_4 a1_5).bind fun bt552 => ((impl_PutRecord.f k t549 bt552.1 bt552.2.1 bt552.2.2.1 bt552.2.2.2.1 bt552.2.2.2.2.1 bt552.2.2.2.2.2).bind fun t558 => ((laws_eqByteS.f k t558 t523).bind fun t561 => (if t561 = true then ((laws_heldByteS.f k bt546.2 1).bind fun t562 => (if t562 < 0 then (some false) else (if t562 = bt546.1 then (some true) else (some false)))) else (some false)))))) else (some false))))) else (some false)))) = some r := H
          have A21 := Aside0.mk A210
          clear A210
          by_cases c22 : t543 < 0
          · rw [if_pos c22] at H
            have c22b0 : decide (t543 < 0) = true := decide_eq_true c22
            clear c22
            exact absurd (H.trans (congrArg some hrt_)) (by simp)
          · rw [if_neg c22] at H
            have c22b0 : decide (t543 < 0) = false := decide_eq_false c22
            clear c22
            replace H := Option.bind_eq_some_iff.mp H
            obtain ⟨t545, A230, H⟩ := H
            replace H : (if t545 = true then ((laws_markByteS.f k t535 1).bind fun bt546 => ((laws_heldByteS.f k bt546.2 1).bind fun t548 => (if t548 < 0 then (some false) else (if t548 = bt546.1 then ((laws_toByteS.f k l0).bind fun t549 => ((laws_toRecord.f a1_0 a1_1 a1_2 a1_3 a1_4 a1_5).bind fun bt552 => ((impl_PutRecord.f k t549 bt552.1 bt552.2.1 bt552.2.2.1 bt552.2.2.2.1 bt552.2.2.2.2.1 bt552.2.2.2.2.2).bind fun t558 => ((laws_eqByteS.f k t558 t523).bind fun t561 => (if t561 = true then ((laws_heldByteS.f k bt546.2 1).bind fun t562 => (if t562 < 0 then (some false) else (if t562 = bt546.1 then (some true) else (some false)))) else (some false)))))) else (some false))))) else (some false)) = some r := H
            have A23 := Aside0.mk A230
            clear A230
            by_cases c24 : t545 = true
            · subst c24
              have H1 : ((laws_markByteS.f k t535 1).bind fun bt546 => ((laws_heldByteS.f k bt546.2 1).bind fun t548 => (if t548 < 0 then (some false) else (if t548 = bt546.1 then ((laws_toByteS.f k l0).bind fun t549 => ((laws_toRecord.f a1_0 a1_1 a1_2 a1_3 a1_4 a1_5).bind fun bt552 => ((impl_PutRecord.f k t549 bt552.1 bt552.2.1 bt552.2.2.1 bt552.2.2.2.1 bt552.2.2.2.2.1 bt552.2.2.2.2.2).bind fun t558 => ((laws_eqByteS.f k t558 t523).bind fun t561 => (if t561 = true then ((laws_heldByteS.f k bt546.2 1).bind fun t562 => (if t562 < 0 then (some false) else (if t562 = bt546.1 then (some true) else (some false)))) else (some false)))))) else (some false))))) = some r := by rw [if_pos rfl] at H; exact H
              clear H
              have H := H1
              clear H1
              replace H := Option.bind_eq_some_iff.mp H
              obtain ⟨⟨t546, t547⟩, A250, H⟩ := H
              replace H : ((laws_heldByteS.f k t547 1).bind fun t548 => (if t548 < 0 then (some false) else (if t548 = t546 then ((laws_toByteS.f k l0).bind fun t549 => ((laws_toRecord.f a1_0 a1_1 a1_2 a1_3 a1_4 a1_5).bind fun bt552 => ((impl_PutRecord.f k t549 bt552.1 bt552.2.1 bt552.2.2.1 bt552.2.2.2.1 bt552.2.2.2.2.1 bt552.2.2.2.2.2).bind fun t558 => ((laws_eqByteS.f k t558 t523).bind fun t561 => (if t561 = true then ((laws_heldByteS.f k t547 1).bind fun t562 => (if t562 < 0 then (some false) else (if t562 = t546 then (some true) else (some false)))) else (some false)))))) else (some false)))) = some r := H
              have A25 := Aside0.mk A250
              clear A250
              replace H := Option.bind_eq_some_iff.mp H
              obtain ⟨t548, A260, H⟩ := H
              replace H : (if t548 < 0 then (some false) else (if t548 = t546 then ((laws_toByteS.f k l0).bind fun t549 => ((laws_toRecord.f a1_0 a1_1 a1_2 a1_3 a1_4 a1_5).bind fun bt552 => ((impl_PutRecord.f k t549 bt552.1 bt552.2.1 bt552.2.2.1 bt552.2.2.2.1 bt552.2.2.2.2.1 bt552.2.2.2.2.2).bind fun t558 => ((laws_eqByteS.f k t558 t523).bind fun t561 => (if t561 = true then ((laws_heldByteS.f k t547 1).bind fun t562 => (if t562 < 0 then (some false) else (if t562 = t546 then (some true) else (some false)))) else (some false)))))) else (some false))) = some r := H
              have A26 := Aside0.mk A260
              clear A260
              by_cases c27 : t548 < 0
              · rw [if_pos c27] at H
                have c27b0 : decide (t548 < 0) = true := decide_eq_true c27
                clear c27
                exact absurd (H.trans (congrArg some hrt_)) (by simp)
              · rw [if_neg c27] at H
                have c27b0 : decide (t548 < 0) = false := decide_eq_false c27
                clear c27
                by_cases c28 : t548 = t546
                · rw [if_pos c28] at H
                  have c28b0 : (t548 == t546) = true := beq_iff_eq.mpr c28
                  have c28b1 : (t548 != t546) = false := bne_eq_false_iff_eq.mpr c28
                  clear c28
                  replace H := Option.bind_eq_some_iff.mp H
                  obtain ⟨t549, A290, H⟩ := H
                  replace H : ((laws_toRecord.f a1_0 a1_1 a1_2 a1_3 a1_4 a1_5).bind fun bt552 => ((impl_PutRecord.f k t549 bt552.1 bt552.2.1 bt552.2.2.1 bt552.2.2.2.1 bt552.2.2.2.2.1 bt552.2.2.2.2.2).bind fun t558 => ((laws_eqByteS.f k t558 t523).bind fun t561 => (if t561 = true then ((laws_heldByteS.f k t547 1).bind fun t562 => (if t562 < 0 then (some false) else (if t562 = t546 then (some true) else (some false)))) else (some false))))) = some r := H
                  have A29 := Aside0.mk A290
                  clear A290
                  replace H := Option.bind_eq_some_iff.mp H
                  obtain ⟨⟨t552, t553, t554, t555, t556, t557⟩, A300, H⟩ := H
                  replace H : ((impl_PutRecord.f k t549 t552 t553 t554 t555 t556 t557).bind fun t558 => ((laws_eqByteS.f k t558 t523).bind fun t561 => (if t561 = true then ((laws_heldByteS.f k t547 1).bind fun t562 => (if t562 < 0 then (some false) else (if t562 = t546 then (some true) else (some false)))) else (some false)))) = some r := H
                  have A30 := Aside0.mk A300
                  clear A300
                  replace H := Option.bind_eq_some_iff.mp H
                  obtain ⟨t558, A310, H⟩ := H
                  replace H : ((laws_eqByteS.f k t558 t523).bind fun t561 => (if t561 = true then ((laws_heldByteS.f k t547 1).bind fun t562 => (if t562 < 0 then (some false) else (if t562 = t546 then (some true) else (some false)))) else (some false))) = some r := H
                  have A31 := Aside0.mk A310
                  clear A310
                  replace H := Option.bind_eq_some_iff.mp H
                  obtain ⟨t561, A320, H⟩ := H
                  replace H : (if t561 = true then ((laws_heldByteS.f k t547 1).bind fun t562 => (if t562 < 0 then (some false) else (if t562 = t546 then (some true) else (some false)))) else (some false)) = some r := H
                  have A32 := Aside0.mk A320
                  clear A320
                  by_cases c33 : t561 = true
                  · subst c33
                    have H1 : ((laws_heldByteS.f k t547 1).bind fun t562 => (if t562 < 0 then (some false) else (if t562 = t546 then (some true) else (some false)))) = some r := by rw [if_pos rfl] at H; exact H
                    clear H
                    have H := H1
                    clear H1
                    replace H := Option.bind_eq_some_iff.mp H
                    obtain ⟨t562, A340, H⟩ := H
                    replace H : (if t562 < 0 then (some false) else (if t562 = t546 then (some true) else (some false))) = some r := H
                    have A34 := Aside0.mk A340
                    clear A340
                    by_cases c35 : t562 < 0
                    · rw [if_pos c35] at H
                      have c35b0 : decide (t562 < 0) = true := decide_eq_true c35
                      clear c35
                      exact absurd (H.trans (congrArg some hrt_)) (by simp)
                    · rw [if_neg c35] at H
                      have c35b0 : decide (t562 < 0) = false := decide_eq_false c35
                      clear c35
                      by_cases c36 : t562 = t546
                      · rw [if_pos c36] at H
                        have c36b0 : (t562 == t546) = true := beq_iff_eq.mpr c36
                        have c36b1 : (t562 != t546) = false := bne_eq_false_iff_eq.mpr c36
                        clear c36
                        obtain rfl := Option.some.inj H
                        go_enter Tryd.func13, Tryd.ntmps13
                        try go_wp2_with (first | ((with_reducible refine gate_dst (N := 3) rfl ?_); refine box_event ?hg (N := 3) ?hd (cs := #[.string a1_0, .int .i64 a1_1, .int .i64 a1_2, .int .i64 a1_3, .string a1_4, .string a1_5]) (t := 30) ?hr ?_; (case hd => rfl); (case hg => rfl); (case hr => first | (go_simp; done) | (go_simp; rfl)); intro gb512 hg w37 hbox hb; have n0_ := Aside0.mk (below_step (wU HB.out) hb); have n1_ := Aside0.mk (hbox); have n2_ := Aside0.mk ((by rw [hg]; exact (below_size (wU HB.out)) : w.heap.size ≤ gb512)); have n3_ := Aside0.mk ((by rw [hg]; exact (below_size (wU HB.out)) : w.heap.size ≤ gb512)); clear HB; have HB := n0_; have BK512 := n1_; have GW512 := n2_; have GE512 := n3_; clear n0_ n1_ n2_ n3_; clear hb hbox hg; obtain ⟨hcz38_0, hcz38_1, hcz38_2, hcz38_3, hcz38_4, hcz38_5, hfz38_0, hfz38_1, hfz38_2, hfz38_3, hfz38_4, hfz38_5⟩ := cells6f BK512.out) | ((with_reducible refine gate_callee (f := 21) rfl ?_); refine goesL_ (some 18) rfl rfl Tryd.func21 (by kernel_rfl) rfl #[.agg #[.string a1_0, .int .i64 a1_1, .int .i64 a1_2, .int .i64 a1_3, .string a1_4, .string a1_5], .int .i64 1048576] rfl (by (try simp only [List.map_toArray, List.map_cons, List.map_nil]); first | done | rfl | (simp only [List.length_drop, List.length_take]; rfl)) ?_; (with_reducible refine (laws_szRecord.calls a1_0 a1_1 a1_2 a1_3 a1_4 a1_5 1048576 t513 _ A5.out).mono ?_); rintro e w39 ⟨rfl, hb⟩; refine ⟨_, rfl, ?_⟩; have n0_ := Aside0.mk (blk_below (g := gb512) (o := .cells #[.string a1_0, .int .i64 a1_1, .int .i64 a1_2, .int .i64 a1_3, .string a1_4, .string a1_5] 30 (0, 0)) (bU BK512.out) hb); have n1_ := Aside0.mk (below_step (by repeat (first | (with_reducible first | exact HB.out | apply below_alloc | apply pw_below_drewN | apply below_drew1 | refine below_set ?_ GE512.out) | exact HB.out)) hb); clear BK512; clear HB; have BK512 := n0_; have HB := n1_; clear n0_ n1_; (try clear hb); (try clear hb2); (try clear hk); (try clear hi)))
                        have n0_ := Aside0.mk (blk_drew BK512.out)
                        have n1_ := Aside0.mk (below_drew1 HB.out)
                        clear BK512
                        clear HB
                        have BK512 := n0_
                        have HB := n1_
                        clear n0_ n1_
                        refine start_ (n := 6) (S := fun w' => w'.cell? ⟨gb512, 0, none⟩ = some (.string a1_0) ∧ w'.cell? ⟨gb512, 1, none⟩ = some (.int .i64 a1_1) ∧ w'.cell? ⟨gb512, 2, none⟩ = some (.int .i64 a1_2) ∧ w'.cell? ⟨gb512, 3, none⟩ = some (.int .i64 a1_3) ∧ w'.cell? ⟨gb512, 4, none⟩ = some (.string a1_4) ∧ w'.cell? ⟨gb512, 5, none⟩ = some (.string a1_5)) (ds := []) #[false, false, false, false, false, false] (by kernel_rfl) rfl rfl ⟨(blk_cell BK512.out 0).trans rfl, (blk_cell BK512.out 1).trans rfl, (blk_cell BK512.out 2).trans rfl, (blk_cell BK512.out 3).trans rfl, (blk_cell BK512.out 4).trans rfl, (blk_cell BK512.out 5).trans rfl⟩ (fun hHeld => ?_)
                        generalize w39.drew = w40 at BK512 HB hHeld ⊢
                        refine pure_ (i := 0) (N := some 21) (v := ?_) (a' := ?_) #[true, false, false, false, false, false] rfl rfl (by kernel_rfl) (fun _ _ _ h => h) (Or.inl ⟨by rfl, ?_⟩) ?_ ?_
                        rotate_left
                        · intro w'
                          go_simp
                          with_reducible rfl
                        rotate_left
                        · simp only [Act.put, List.setIfInBounds_toArray, List.set_cons_zero, List.set_cons_succ, i64_w, i32_w]
                          rfl
                        refine take_ (i := 2) (N := some 23) (v := ?_) (a' := ?_) #[true, false, true, false, false, false] rfl rfl (by kernel_rfl) (fun _ _ _ h => h) (Or.inl ⟨by rfl, ?_⟩) hHeld ?_ ?_
                        rotate_left
                        · rintro w' ⟨s0, s1, s2, s3, s4, s5⟩
                          go_simp
                          with_reducible rfl
                        rotate_left
                        · simp only [Act.put, List.setIfInBounds_toArray, List.set_cons_zero, List.set_cons_succ, i64_w, i32_w]
                          rfl
                        refine one_ (i := 1) (N := some 22) #[true, true, true, false, false, false] rfl rfl (by kernel_rfl) (by decide) (fun K hK => ?_)
                        refine goes_ Tryd.func16 (by kernel_rfl) rfl #[.slice A0 l0.length c0] (by rfl) rfl rfl (by (try simp only [List.map_toArray, List.map_cons, List.map_nil]); first | done | rfl | (simp only [List.length_drop, List.length_take]; rfl)) ?_
                        with_reducible refine (laws_toByteS.calls k _ _ l0 t514 _ ?side1 ?side2 A10.out).mono ?_
                        (case side1 => exact cU ((Kd.C_below HR0.out HB.out)))
                        (case side2 => exact HC0.out)
                        rintro e w41 ⟨v515, rfl, ho0, hb⟩
                        refine ⟨_, rfl, ?_⟩
                        have n0_ := Aside0.mk (Kd.R_lower ho0 (below_size (by repeat (first | (with_reducible first | exact HB.out | apply below_alloc | apply pw_below_drewN | apply below_drew1 | refine below_set ?_ GE512.out) | exact HB.out))))
                        have n1_ := Aside0.mk (blk_below (g := gb512) (o := .cells #[.string a1_0, .int .i64 a1_1, .int .i64 a1_2, .int .i64 a1_3, .string a1_4, .string a1_5] 30 (0, 0)) (bU BK512.out) hb)
                        have n2_ := Aside0.mk (below_step (by repeat (first | (with_reducible first | exact HB.out | apply below_alloc | apply pw_below_drewN | apply below_drew1 | refine below_set ?_ GE512.out) | exact HB.out)) hb)
                        clear BK512
                        clear HB
                        have HO516 := n0_
                        have BK512 := n1_
                        have HB := n2_
                        clear n0_ n1_ n2_
                        (try clear hb)
                        (try clear hb2)
                        (try clear hk)
                        (try clear hi)
                        (try clear ho0)
                        refine hK.out _ _ ⟨(blk_cell BK512.out 0).trans rfl, (blk_cell BK512.out 1).trans rfl, (blk_cell BK512.out 2).trans rfl, (blk_cell BK512.out 3).trans rfl, (blk_cell BK512.out 4).trans rfl, (blk_cell BK512.out 5).trans rfl⟩ (fun hHeld => ?_)
                        clear hK K
                        refine norm_ (a' := ?_) ?_ ?_
                        rotate_left
                        · show Act.put _ (some 22) _ = _
                          simp only [Act.put, List.setIfInBounds_toArray, List.set_cons_zero, List.set_cons_succ, i64_w, i32_w]
                          rfl
                        refine one_ (i := 3) (N := some 24) #[true, true, true, true, false, false] rfl rfl (by kernel_rfl) (by decide) (fun K hK => ?_)
                        refine goes_ Tryd.func23 (by kernel_rfl) rfl #[.agg #[.string a1_0, .int .i64 a1_1, .int .i64 a1_2, .int .i64 a1_3, .string a1_4, .string a1_5]] (by rfl) rfl rfl (by (try simp only [List.map_toArray, List.map_cons, List.map_nil]); first | done | rfl | (simp only [List.length_drop, List.length_take]; rfl)) ?_
                        with_reducible refine (laws_toRecord.calls a1_0 a1_1 a1_2 a1_3 a1_4 a1_5 t517 t518 t519 t520 t521 t522 _ A11.out).mono ?_
                        rintro e w42 ⟨rfl, hb⟩
                        refine ⟨_, rfl, ?_⟩
                        have n0_ := Aside0.mk (Kd.R_below (rU HO516.out) hb)
                        have n1_ := Aside0.mk (blk_below (g := gb512) (o := .cells #[.string a1_0, .int .i64 a1_1, .int .i64 a1_2, .int .i64 a1_3, .string a1_4, .string a1_5] 30 (0, 0)) (bU BK512.out) hb)
                        have n2_ := Aside0.mk (below_step (by repeat (first | (with_reducible first | exact HB.out | apply below_alloc | apply pw_below_drewN | apply below_drew1 | refine below_set ?_ GE512.out) | exact HB.out)) hb)
                        clear HO516
                        clear BK512
                        clear HB
                        have HO516 := n0_
                        have BK512 := n1_
                        have HB := n2_
                        clear n0_ n1_ n2_
                        (try clear hb)
                        (try clear hb2)
                        (try clear hk)
                        (try clear hi)
                        obtain ⟨Ao43, co43, eo43⟩ := Kd.R_slice HO516.out
                        (first | subst eo43 | (injection eo43 with f1_ f2_ f3_; have f4_ := f1_.symm; have f5_ := f3_.symm; clear f1_ f2_ f3_; subst f4_; subst f5_))
                        refine hK.out _ _ ⟨(blk_cell BK512.out 0).trans rfl, (blk_cell BK512.out 1).trans rfl, (blk_cell BK512.out 2).trans rfl, (blk_cell BK512.out 3).trans rfl, (blk_cell BK512.out 4).trans rfl, (blk_cell BK512.out 5).trans rfl⟩ (fun hHeld => ?_)
                        clear hK K
                        refine norm_ (a' := ?_) ?_ ?_
                        rotate_left
                        · show Act.put _ (some 24) _ = _
                          simp only [Act.put, List.setIfInBounds_toArray, List.set_cons_zero, List.set_cons_succ, i64_w, i32_w]
                          rfl
                        refine one_ (i := 4) (N := some 25) #[true, true, true, true, true, false] rfl rfl (by kernel_rfl) (by decide) (fun K hK => ?_)
                        refine goes_ Tryd.func50 (by kernel_rfl) rfl #[.slice Ao43 t514.length co43, .agg #[.string t517, .int .i64 t518, .int .i64 t519, .int .i64 t520, .string t521, .string t522]] (by rfl) rfl rfl (by (try simp only [List.map_toArray, List.map_cons, List.map_nil]); first | done | rfl | (simp only [List.length_drop, List.length_take]; rfl)) ?_
                        with_reducible refine (spec_PutRecord.calls k _ _ t514 t517 t518 t519 t520 t521 t522 t523 _ ?side1 ?side2 A12.out).mono ?_
                        (case side1 => exact cU ((Kd.R_reads' HO516.out).2.2))
                        (case side2 => exact (Kd.R_reads' HO516.out).2.1)
                        rintro e w44 ⟨v524, rfl, ho0, hb⟩
                        refine ⟨_, rfl, ?_⟩
                        have n0_ := Aside0.mk (Kd.R_elder' (rU HO516.out) (Kd.R_base ho0) hb)
                        have n1_ := Aside0.mk (Kd.R_lower (Kd.R_new' ho0 (Kd.R_lt (rU HO516.out))) (below_size (by repeat (first | (with_reducible first | exact HB.out | apply below_alloc | apply pw_below_drewN | apply below_drew1 | refine below_set ?_ GE512.out) | exact HB.out))))
                        have n2_ := Aside0.mk (blk_below (g := gb512) (o := .cells #[.string a1_0, .int .i64 a1_1, .int .i64 a1_2, .int .i64 a1_3, .string a1_4, .string a1_5] 30 (0, 0)) (bU BK512.out) hb)
                        have n3_ := Aside0.mk (below_step (by repeat (first | (with_reducible first | exact HB.out | apply below_alloc | apply pw_below_drewN | apply below_drew1 | refine below_set ?_ GE512.out) | exact HB.out)) hb)
                        clear HO516
                        clear BK512
                        clear HB
                        have HO516 := n0_
                        have HO525 := n1_
                        have BK512 := n2_
                        have HB := n3_
                        clear n0_ n1_ n2_ n3_
                        (try clear hb)
                        (try clear hb2)
                        (try clear hk)
                        (try clear hi)
                        (try clear ho0)
                        refine hK.out _ _ ⟨(blk_cell BK512.out 0).trans rfl, (blk_cell BK512.out 1).trans rfl, (blk_cell BK512.out 2).trans rfl, (blk_cell BK512.out 3).trans rfl, (blk_cell BK512.out 4).trans rfl, (blk_cell BK512.out 5).trans rfl⟩ (fun hHeld => ?_)
                        clear hK K
                        refine norm_ (a' := ?_) ?_ ?_
                        rotate_left
                        · show Act.put _ (some 25) _ = _
                          simp only [Act.put, List.setIfInBounds_toArray, List.set_cons_zero, List.set_cons_succ, i64_w, i32_w]
                          rfl
                        refine pure_ (i := 5) (N := some 6) (v := ?_) (a' := ?_) #[true, true, true, true, true, true] rfl rfl (by kernel_rfl) (fun _ _ _ h => h) (Or.inl ⟨by rfl, ?_⟩) ?_ ?_
                        rotate_left
                        · intro w'
                          go_simp
                          with_reducible rfl
                        rotate_left
                        · simp only [Act.put, List.setIfInBounds_toArray, List.set_cons_zero, List.set_cons_succ, i64_w, i32_w]
                          rfl
                        refine done_ (by kernel_rfl) ?_
                        try go_wp2_with (first | ((with_reducible refine gate_callee (f := 16) rfl ?_); refine goesL_ (some 27) rfl rfl Tryd.func16 (by kernel_rfl) rfl #[.slice A0 l0.length c0] rfl (by (try simp only [List.map_toArray, List.map_cons, List.map_nil]); first | done | rfl | (simp only [List.length_drop, List.length_take]; rfl)) ?_; (with_reducible refine (laws_toByteS.calls k _ _ l0 t526 _ ?side1 ?side2 A13.out).mono ?_); (case side1 => exact cU ((Kd.C_below HR0.out HB.out))); (case side2 => exact HC0.out); rintro e w45 ⟨v527, rfl, ho0, hb⟩; refine ⟨_, rfl, ?_⟩; have n0_ := Aside0.mk (Kd.R_elder' (rU HO516.out) (Kd.R_base ho0) hb); have n1_ := Aside0.mk (Kd.R_elder' (rU HO525.out) (Kd.R_base ho0) hb); have n2_ := Aside0.mk (Kd.R_lower (Kd.R_new' (Kd.R_new' ho0 (Kd.R_lt (rU HO516.out))) (Kd.R_lt (rU HO525.out))) (below_size (by repeat (first | (with_reducible first | exact HB.out | apply below_alloc | apply pw_below_drewN | apply below_drew1 | refine below_set ?_ GE512.out) | exact HB.out)))); have n3_ := Aside0.mk (blk_below (g := gb512) (o := .cells #[.string a1_0, .int .i64 a1_1, .int .i64 a1_2, .int .i64 a1_3, .string a1_4, .string a1_5] 30 (0, 0)) (bU BK512.out) hb); have n4_ := Aside0.mk (below_step (by repeat (first | (with_reducible first | exact HB.out | apply below_alloc | apply pw_below_drewN | apply below_drew1 | refine below_set ?_ GE512.out) | exact HB.out)) hb); clear HO516; clear HO525; clear BK512; clear HB; have HO516 := n0_; have HO525 := n1_; have HO528 := n2_; have BK512 := n3_; have HB := n4_; clear n0_ n1_ n2_ n3_ n4_; (try clear hb); (try clear hb2); (try clear hk); (try clear hi); (try clear ho0); obtain ⟨hcz46_0, hcz46_1, hcz46_2, hcz46_3, hcz46_4, hcz46_5, hfz46_0, hfz46_1, hfz46_2, hfz46_3, hfz46_4, hfz46_5⟩ := cells6f BK512.out) | ((with_reducible refine gate_callee (f := 23) rfl ?_); refine goesL_ (some 30) rfl rfl Tryd.func23 (by kernel_rfl) rfl #[.agg #[.string a1_0, .int .i64 a1_1, .int .i64 a1_2, .int .i64 a1_3, .string a1_4, .string a1_5]] rfl (by (try simp only [List.map_toArray, List.map_cons, List.map_nil]); first | done | rfl | (simp only [List.length_drop, List.length_take]; rfl)) ?_; (with_reducible refine (laws_toRecord.calls a1_0 a1_1 a1_2 a1_3 a1_4 a1_5 t529 t530 t531 t532 t533 t534 _ A14.out).mono ?_); rintro e w47 ⟨rfl, hb⟩; refine ⟨_, rfl, ?_⟩; have n0_ := Aside0.mk (Kd.R_below (rU HO516.out) hb); have n1_ := Aside0.mk (Kd.R_below (rU HO525.out) hb); have n2_ := Aside0.mk (Kd.R_below (rU HO528.out) hb); have n3_ := Aside0.mk (blk_below (g := gb512) (o := .cells #[.string a1_0, .int .i64 a1_1, .int .i64 a1_2, .int .i64 a1_3, .string a1_4, .string a1_5] 30 (0, 0)) (bU BK512.out) hb); have n4_ := Aside0.mk (below_step (by repeat (first | (with_reducible first | exact HB.out | apply below_alloc | apply pw_below_drewN | apply below_drew1 | refine below_set ?_ GE512.out) | exact HB.out)) hb); clear HO516; clear HO525; clear HO528; clear BK512; clear HB; have HO516 := n0_; have HO525 := n1_; have HO528 := n2_; have BK512 := n3_; have HB := n4_; clear n0_ n1_ n2_ n3_ n4_; (try clear hb); (try clear hb2); (try clear hk); (try clear hi); obtain ⟨Ao48, co48, eo48⟩ := Kd.R_slice HO528.out; subst eo48) | ((with_reducible refine gate_callee (f := 51) rfl ?_); refine goesL_ (some 31) rfl rfl Tryd.func51 (by kernel_rfl) rfl #[.slice Ao48 t526.length co48, .agg #[.string t529, .int .i64 t530, .int .i64 t531, .int .i64 t532, .string t533, .string t534]] rfl (by (try simp only [List.map_toArray, List.map_cons, List.map_nil]); first | done | rfl | (simp only [List.length_drop, List.length_take]; rfl)) ?_; (with_reducible refine (impl_PutRecord.calls k _ _ t526 t529 t530 t531 t532 t533 t534 t535 _ ?side1 ?side2 A15.out).mono ?_); (case side1 => exact cU ((Kd.R_reads' HO528.out).2.2)); (case side2 => exact (Kd.R_reads' HO528.out).2.1); rintro e w49 ⟨v536, rfl, ho0, hb⟩; refine ⟨_, rfl, ?_⟩; have n0_ := Aside0.mk (Kd.R_elder' (rU HO516.out) (Kd.R_base ho0) hb); have n1_ := Aside0.mk (Kd.R_elder' (rU HO525.out) (Kd.R_base ho0) hb); have n2_ := Aside0.mk (Kd.R_elder' (rU HO528.out) (Kd.R_base ho0) hb); have n3_ := Aside0.mk (Kd.R_lower (Kd.R_new' (Kd.R_new' (Kd.R_new' ho0 (Kd.R_lt (rU HO516.out))) (Kd.R_lt (rU HO525.out))) (Kd.R_lt (rU HO528.out))) (below_size (by repeat (first | (with_reducible first | exact HB.out | apply below_alloc | apply pw_below_drewN | apply below_drew1 | refine below_set ?_ GE512.out) | exact HB.out)))); have n4_ := Aside0.mk (blk_below (g := gb512) (o := .cells #[.string a1_0, .int .i64 a1_1, .int .i64 a1_2, .int .i64 a1_3, .string a1_4, .string a1_5] 30 (0, 0)) (bU BK512.out) hb); have n5_ := Aside0.mk (below_step (by repeat (first | (with_reducible first | exact HB.out | apply below_alloc | apply pw_below_drewN | apply below_drew1 | refine below_set ?_ GE512.out) | exact HB.out)) hb); clear HO516; clear HO525; clear HO528; clear BK512; clear HB; have HO516 := n0_; have HO525 := n1_; have HO528 := n2_; have HO537 := n3_; have BK512 := n4_; have HB := n5_; clear n0_ n1_ n2_ n3_ n4_ n5_; (try clear hb); (try clear hb2); (try clear hk); (try clear hi); (try clear ho0); obtain ⟨Ao50, co50, eo50⟩ := Kd.R_slice HO537.out; subst eo50; obtain ⟨Ao51, co51, eo51⟩ := Kd.R_slice HO525.out; subst eo51) | ((with_reducible refine gate_callee (f := 18) rfl ?_); refine goesL_ (some 34) rfl rfl Tryd.func18 (by kernel_rfl) rfl #[.slice Ao50 t535.length co50, .slice Ao51 t523.length co51] rfl (by (try simp only [List.map_toArray, List.map_cons, List.map_nil]); first | done | rfl | (simp only [List.length_drop, List.length_take]; rfl)) ?_; (with_reducible refine (laws_eqByteS.calls k _ _ t535 _ _ t523 true _ ?side1 ?side2 ?side3 ?side4 A16.out).mono ?_); (case side1 => exact cU ((Kd.R_reads' HO537.out).2.2)); (case side2 => exact (Kd.R_reads' HO537.out).2.1); (case side3 => exact cU ((Kd.R_reads' HO525.out).2.2)); (case side4 => exact (Kd.R_reads' HO525.out).2.1); rintro e w' ⟨rfl, ⟨nd, rfl⟩⟩; refine ⟨_, rfl, ?_⟩) | ((with_reducible refine gate_callee (f := 16) rfl ?_); refine goesL_ (some 38) rfl rfl Tryd.func16 (by kernel_rfl) rfl #[.slice A0 l0.length c0] rfl (by (try simp only [List.map_toArray, List.map_cons, List.map_nil]); first | done | rfl | (simp only [List.length_drop, List.length_take]; rfl)) ?_; (with_reducible refine (laws_toByteS.calls k _ _ l0 t539 _ ?side1 ?side2 A18.out).mono ?_); (case side1 => repeat (first | exact (Kd.C_below HR0.out (by repeat (first | (with_reducible first | exact HB.out | apply below_alloc | apply pw_below_drewN | apply below_drew1 | refine below_set ?_ GE512.out) | exact HB.out))) | (with_reducible refine Kd.C_alloc ?_ _) | (with_reducible refine Kd.C_drewN ?_ _) | (with_reducible refine Kd.C_drew ?_))); (case side2 => exact HC0.out); rintro e w52 ⟨v540, rfl, ho0, hb⟩; refine ⟨_, rfl, ?_⟩; have n0_ := Aside0.mk (Kd.R_elder' (rU HO516.out) (Kd.R_base ho0) hb); have n1_ := Aside0.mk (Kd.R_elder' (rU HO525.out) (Kd.R_base ho0) hb); have n2_ := Aside0.mk (Kd.R_elder' (rU HO528.out) (Kd.R_base ho0) hb); have n3_ := Aside0.mk (Kd.R_elder' (rU HO537.out) (Kd.R_base ho0) hb); have n4_ := Aside0.mk (Kd.R_lower (Kd.R_new' (Kd.R_new' (Kd.R_new' (Kd.R_new' ho0 (Kd.R_lt (rU HO516.out))) (Kd.R_lt (rU HO525.out))) (Kd.R_lt (rU HO528.out))) (Kd.R_lt (rU HO537.out))) (below_size (by repeat (first | (with_reducible first | exact HB.out | apply below_alloc | apply pw_below_drewN | apply below_drew1 | refine below_set ?_ GE512.out) | exact HB.out)))); have n5_ := Aside0.mk (blk_below (g := gb512) (o := .cells #[.string a1_0, .int .i64 a1_1, .int .i64 a1_2, .int .i64 a1_3, .string a1_4, .string a1_5] 30 (0, 0)) (bU BK512.out) hb); have n6_ := Aside0.mk (below_step (by repeat (first | (with_reducible first | exact HB.out | apply below_alloc | apply pw_below_drewN | apply below_drew1 | refine below_set ?_ GE512.out) | exact HB.out)) hb); clear HO516; clear HO525; clear HO528; clear HO537; clear BK512; clear HB; have HO516 := n0_; have HO525 := n1_; have HO528 := n2_; have HO537 := n3_; have HO541 := n4_; have BK512 := n5_; have HB := n6_; clear n0_ n1_ n2_ n3_ n4_ n5_ n6_; (try clear hb); (try clear hb2); (try clear hk); (try clear hi); (try clear ho0); obtain ⟨Ao53, co53, eo53⟩ := Kd.R_slice HO541.out; subst eo53) | ((with_reducible refine gate_callee (f := 18) rfl ?_); refine goesL_ (some 39) rfl rfl Tryd.func18 (by kernel_rfl) rfl #[.slice Ao48 t526.length co48, .slice Ao53 t539.length co53] rfl (by (try simp only [List.map_toArray, List.map_cons, List.map_nil]); first | done | rfl | (simp only [List.length_drop, List.length_take]; rfl)) ?_; (with_reducible refine (laws_eqByteS.calls k _ _ t526 _ _ t539 true _ ?side1 ?side2 ?side3 ?side4 A19.out).mono ?_); (case side1 => exact cU ((Kd.R_reads' HO528.out).2.2)); (case side2 => exact (Kd.R_reads' HO528.out).2.1); (case side3 => exact cU ((Kd.R_reads' HO541.out).2.2)); (case side4 => exact (Kd.R_reads' HO541.out).2.1); rintro e w' ⟨rfl, ⟨nd, rfl⟩⟩; refine ⟨_, rfl, ?_⟩) | ((with_reducible refine gate_callee (f := 41) rfl ?_); refine goesL_ (some 43) rfl rfl Tryd.func41 (by kernel_rfl) rfl #[.slice Ao48 t526.length co48, .int .i64 1] rfl (by (try simp only [List.map_toArray, List.map_cons, List.map_nil]); first | done | rfl | (simp only [List.length_drop, List.length_take]; rfl)) ?_; (with_reducible refine (laws_markByteS.calls k (fun k_ => some k_ = (.slice Ao48 t526.length co48 : Value).ownBlock) (.slice Ao48 t526.length co48) t526 1 t543 t544 w _ ?side1 ?side2 A21.out).mono ?_); (case side1 => repeat (first | (with_reducible first | exact HB.out | apply below_alloc | apply pw_below_drewN | apply below_drew1 | refine below_set ?_ GE512.out) | exact HB.out)); (case side2 => exact Kd.R_tight rfl HO528.out); rintro e w54 ⟨rfl, hy0, hb, hkp⟩; refine ⟨_, rfl, ?_⟩; have n0_ := Aside0.mk (blk_kept (bU BK512.out) hkp (fun hs_ => (fun e_ => (Kd.R_ne HO528.out BK512.out (by decide)) e_) hs_)); have n1_ := Aside0.mk (Kd.R_mono (ok' := fun k_ => some k_ ≠ (.slice Ao51 t523.length co51 : Value).ownBlock ∧ some k_ ≠ (.slice Ao48 t526.length co48 : Value).ownBlock ∧ some k_ ≠ (.slice Ao50 t535.length co50 : Value).ownBlock ∧ some k_ ≠ (.slice Ao53 t539.length co53 : Value).ownBlock) (Kd.R_keptB (HO516.out) hkp (fun k_ hk_ hs_ => (hk_.1.1.2) hs_)) (fun k_ hk_ => ⟨hk_.1.1.1.1.2, hk_.1.1.1.2, hk_.1.1.2, hk_.1.2⟩)); have n2_ := Aside0.mk (Kd.R_mono (ok' := fun k_ => some k_ ≠ (.slice Ao43 t514.length co43 : Value).ownBlock ∧ some k_ ≠ (.slice Ao48 t526.length co48 : Value).ownBlock ∧ some k_ ≠ (.slice Ao50 t535.length co50 : Value).ownBlock ∧ some k_ ≠ (.slice Ao53 t539.length co53 : Value).ownBlock) (Kd.R_keptB (HO525.out) hkp (fun k_ hk_ hs_ => (hk_.1.1.2) hs_)) (fun k_ hk_ => ⟨hk_.1.1.1.1.2, hk_.1.1.1.2, hk_.1.1.2, hk_.1.2⟩)); have n3_ := Aside0.mk (Kd.R_reok rfl hy0 (fun k_ e_ => HO528.out.1 k_ e_)); have n4_ := Aside0.mk (Kd.R_mono (ok' := fun k_ => some k_ ≠ (.slice Ao43 t514.length co43 : Value).ownBlock ∧ some k_ ≠ (.slice Ao51 t523.length co51 : Value).ownBlock ∧ some k_ ≠ (.slice Ao48 t526.length co48 : Value).ownBlock ∧ some k_ ≠ (.slice Ao53 t539.length co53 : Value).ownBlock) (Kd.R_keptB (HO537.out) hkp (fun k_ hk_ hs_ => (hk_.1.2) hs_)) (fun k_ hk_ => ⟨hk_.1.1.1.1.2, hk_.1.1.1.2, hk_.1.1.2, hk_.1.2⟩)); have n5_ := Aside0.mk (Kd.R_mono (ok' := fun k_ => some k_ ≠ (.slice Ao43 t514.length co43 : Value).ownBlock ∧ some k_ ≠ (.slice Ao51 t523.length co51 : Value).ownBlock ∧ some k_ ≠ (.slice Ao48 t526.length co48 : Value).ownBlock ∧ some k_ ≠ (.slice Ao50 t535.length co50 : Value).ownBlock) (Kd.R_keptB (HO541.out) hkp (fun k_ hk_ hs_ => (hk_.1.2) hs_)) (fun k_ hk_ => ⟨hk_.1.1.1.1.2, hk_.1.1.1.2, hk_.1.1.2, hk_.1.2⟩)); have n6_ := Aside0.mk (hb); clear BK512; clear HO516; clear HO525; clear HO528; clear HO537; clear HO541; clear HB; have BK512 := n0_; have HO516 := n1_; have HO525 := n2_; have HO528 := n3_; have HO537 := n4_; have HO541 := n5_; have HB := n6_; clear n0_ n1_ n2_ n3_ n4_ n5_ n6_; (try clear hb); (try clear hkp); (try clear hy0)) | (go_at_call 18; (with_reducible refine (laws_eqByteS.calls k _ _ t535 _ _ t523 true _ ?side1 ?side2 ?side3 ?side4 A23.out).mono ?_); (case side1 => exact cU ((Kd.R_reads' HO537.out).2.2)); (case side2 => exact (Kd.R_reads' HO537.out).2.1); (case side3 => exact cU ((Kd.R_reads' HO525.out).2.2)); (case side4 => exact (Kd.R_reads' HO525.out).2.1); rintro e w' ⟨rfl, ⟨nd, rfl⟩⟩) | ((with_reducible refine gate_callee (f := 41) rfl ?_); refine goesL_ (some 54) rfl rfl Tryd.func41 (by kernel_rfl) rfl #[.slice Ao50 t535.length co50, .int .i64 1] rfl (by (try simp only [List.map_toArray, List.map_cons, List.map_nil]); first | done | rfl | (simp only [List.length_drop, List.length_take]; rfl)) ?_; (with_reducible refine (laws_markByteS.calls k (fun k_ => some k_ = (.slice Ao50 t535.length co50 : Value).ownBlock) (.slice Ao50 t535.length co50) t535 1 t546 t547 w _ ?side1 ?side2 A25.out).mono ?_); (case side1 => repeat (first | (with_reducible first | exact HB.out | apply below_alloc | apply pw_below_drewN | apply below_drew1 | refine below_set ?_ GE512.out) | exact HB.out)); (case side2 => exact Kd.R_tight rfl HO537.out); rintro e w55 ⟨rfl, hy0, hb, hkp⟩; refine ⟨_, rfl, ?_⟩; have n0_ := Aside0.mk (blk_kept (bU BK512.out) hkp (fun hs_ => (fun e_ => (Kd.R_ne HO537.out BK512.out (by decide)) e_) hs_)); have n1_ := Aside0.mk (Kd.R_mono (ok' := fun k_ => some k_ ≠ (.slice Ao51 t523.length co51 : Value).ownBlock ∧ some k_ ≠ (.slice Ao48 t526.length co48 : Value).ownBlock ∧ some k_ ≠ (.slice Ao50 t535.length co50 : Value).ownBlock ∧ some k_ ≠ (.slice Ao53 t539.length co53 : Value).ownBlock) (Kd.R_keptB (HO516.out) hkp (fun k_ hk_ hs_ => (hk_.2.2.1) hs_)) (fun k_ hk_ => ⟨hk_.1.1, hk_.1.2.1, hk_.1.2.2.1, hk_.1.2.2.2⟩)); have n2_ := Aside0.mk (Kd.R_mono (ok' := fun k_ => some k_ ≠ (.slice Ao43 t514.length co43 : Value).ownBlock ∧ some k_ ≠ (.slice Ao48 t526.length co48 : Value).ownBlock ∧ some k_ ≠ (.slice Ao50 t535.length co50 : Value).ownBlock ∧ some k_ ≠ (.slice Ao53 t539.length co53 : Value).ownBlock) (Kd.R_keptB (HO525.out) hkp (fun k_ hk_ hs_ => (hk_.2.2.1) hs_)) (fun k_ hk_ => ⟨hk_.1.1, hk_.1.2.1, hk_.1.2.2.1, hk_.1.2.2.2⟩)); have n3_ := Aside0.mk (Kd.R_mono (ok' := fun k_ => some k_ ≠ (.slice Ao43 t514.length co43 : Value).ownBlock ∧ some k_ ≠ (.slice Ao51 t523.length co51 : Value).ownBlock ∧ some k_ ≠ (.slice Ao50 t535.length co50 : Value).ownBlock ∧ some k_ ≠ (.slice Ao53 t539.length co53 : Value).ownBlock) (Kd.R_keptB (HO528.out) hkp (fun k_ hk_ hs_ => (hk_.1.2) hs_)) (fun k_ hk_ => ⟨hk_.1.1.1.1.2, hk_.1.1.1.2, hk_.1.1.2, hk_.1.2⟩)); have n4_ := Aside0.mk (Kd.R_reok rfl hy0 (fun k_ e_ => HO537.out.1 k_ e_)); have n5_ := Aside0.mk (Kd.R_mono (ok' := fun k_ => some k_ ≠ (.slice Ao43 t514.length co43 : Value).ownBlock ∧ some k_ ≠ (.slice Ao51 t523.length co51 : Value).ownBlock ∧ some k_ ≠ (.slice Ao48 t526.length co48 : Value).ownBlock ∧ some k_ ≠ (.slice Ao50 t535.length co50 : Value).ownBlock) (Kd.R_keptB (HO541.out) hkp (fun k_ hk_ hs_ => (hk_.2.2.2) hs_)) (fun k_ hk_ => ⟨hk_.1.1, hk_.1.2.1, hk_.1.2.2.1, hk_.1.2.2.2⟩)); have n6_ := Aside0.mk (hb); clear BK512; clear HO516; clear HO525; clear HO528; clear HO537; clear HO541; clear HB; have BK512 := n0_; have HO516 := n1_; have HO525 := n2_; have HO528 := n3_; have HO537 := n4_; have HO541 := n5_; have HB := n6_; clear n0_ n1_ n2_ n3_ n4_ n5_ n6_; (try clear hb); (try clear hkp); (try clear hy0)) | ((with_reducible refine gate_callee (f := 42) rfl ?_); refine goesL_ (some 57) rfl rfl Tryd.func42 (by kernel_rfl) rfl #[.slice Ao50 t547.length co50, .int .i64 1] rfl (by (try simp only [List.map_toArray, List.map_cons, List.map_nil]); first | done | (rw [show t547.length = t535.length from (Kd.R_reads' HO537.out).1.symm] <;> rfl) | rfl | (simp only [List.length_drop, List.length_take]; rfl)) ?_; (with_reducible refine (laws_heldByteS.calls k _ _ t547 1 t548 _ ?side1 ?side2 A26.out).mono ?_); (case side1 => exact cU ((Kd.R_reads' HO537.out).2.2)); (case side2 => rw [show t547.length = t535.length from (Kd.R_reads' HO537.out).1.symm]; exact (Kd.R_reads' HO537.out).2.1); rintro e w' ⟨rfl, ⟨nd, rfl⟩⟩; refine ⟨_, rfl, ?_⟩))
                        (try (rw [drewN_self w55]; generalize hq_ : World.drewN w55 _ = w55; have n0_ : Aside0 (Kd.R (Kd.int .u8) 5 w55 w.heap.size (fun k_ => some k_ ≠ (.slice Ao51 t523.length co51 : Value).ownBlock ∧ some k_ ≠ (.slice Ao48 t526.length co48 : Value).ownBlock ∧ some k_ ≠ (.slice Ao50 t535.length co50 : Value).ownBlock ∧ some k_ ≠ (.slice Ao53 t539.length co53 : Value).ownBlock) (.slice Ao43 t514.length co43) t514) := ⟨by rw [← hq_]; exact (rU HO516.out)⟩; have n1_ : Aside0 (Kd.R (Kd.int .u8) 5 w55 w.heap.size (fun k_ => some k_ ≠ (.slice Ao43 t514.length co43 : Value).ownBlock ∧ some k_ ≠ (.slice Ao48 t526.length co48 : Value).ownBlock ∧ some k_ ≠ (.slice Ao50 t535.length co50 : Value).ownBlock ∧ some k_ ≠ (.slice Ao53 t539.length co53 : Value).ownBlock) (.slice Ao51 t523.length co51) t523) := ⟨by rw [← hq_]; exact (rU HO525.out)⟩; have n2_ : Aside0 (Kd.R (Kd.int .u8) 5 w55 w.heap.size (fun k_ => some k_ ≠ (.slice Ao43 t514.length co43 : Value).ownBlock ∧ some k_ ≠ (.slice Ao51 t523.length co51 : Value).ownBlock ∧ some k_ ≠ (.slice Ao50 t535.length co50 : Value).ownBlock ∧ some k_ ≠ (.slice Ao53 t539.length co53 : Value).ownBlock) (.slice Ao48 t526.length co48) t544) := ⟨by rw [← hq_]; exact (rU HO528.out)⟩; have n3_ : Aside0 (Kd.R (Kd.int .u8) 5 w55 w.heap.size (fun k_ => some k_ ≠ (.slice Ao43 t514.length co43 : Value).ownBlock ∧ some k_ ≠ (.slice Ao51 t523.length co51 : Value).ownBlock ∧ some k_ ≠ (.slice Ao48 t526.length co48 : Value).ownBlock ∧ some k_ ≠ (.slice Ao53 t539.length co53 : Value).ownBlock) (.slice Ao50 t535.length co50) t547) := ⟨by rw [← hq_]; exact (rU HO537.out)⟩; have n4_ : Aside0 (Kd.R (Kd.int .u8) 5 w55 w.heap.size (fun k_ => some k_ ≠ (.slice Ao43 t514.length co43 : Value).ownBlock ∧ some k_ ≠ (.slice Ao51 t523.length co51 : Value).ownBlock ∧ some k_ ≠ (.slice Ao48 t526.length co48 : Value).ownBlock ∧ some k_ ≠ (.slice Ao50 t535.length co50 : Value).ownBlock) (.slice Ao53 t539.length co53) t539) := ⟨by rw [← hq_]; exact (rU HO541.out)⟩; have n5_ : Aside0 (w55.heap[gb512]? = some (.cells #[.string a1_0, .int .i64 a1_1, .int .i64 a1_2, .int .i64 a1_3, .string a1_4, .string a1_5] 30 (0, 0))) := ⟨by rw [← hq_]; exact (bU BK512.out)⟩; have n6_ : Aside0 (Below w.heap.size w w55) := ⟨by rw [← hq_]; exact (by repeat (first | (with_reducible first | exact HB.out | apply below_alloc | apply pw_below_drewN | apply below_drew1 | refine below_set ?_ GE512.out) | exact HB.out))⟩; clear HO516 HO525 HO528 HO537 HO541 BK512 HB hq_; have HO516 := n0_; have HO525 := n1_; have HO528 := n2_; have HO537 := n3_; have HO541 := n4_; have BK512 := n5_; have HB := n6_; clear n0_ n1_ n2_ n3_ n4_ n5_ n6_))
                        have n0_ := Aside0.mk (Kd.R_drew HO516.out)
                        have n1_ := Aside0.mk (Kd.R_drew HO525.out)
                        have n2_ := Aside0.mk (Kd.R_drew HO528.out)
                        have n3_ := Aside0.mk (Kd.R_drew HO537.out)
                        have n4_ := Aside0.mk (Kd.R_drew HO541.out)
                        have n5_ := Aside0.mk (blk_drew BK512.out)
                        have n6_ := Aside0.mk (below_drew1 HB.out)
                        clear HO516
                        clear HO525
                        clear HO528
                        clear HO537
                        clear HO541
                        clear BK512
                        clear HB
                        have HO516 := n0_
                        have HO525 := n1_
                        have HO528 := n2_
                        have HO537 := n3_
                        have HO541 := n4_
                        have BK512 := n5_
                        have HB := n6_
                        clear n0_ n1_ n2_ n3_ n4_ n5_ n6_
                        refine start_ (n := 6) (S := fun w' => w'.cell? ⟨gb512, 0, none⟩ = some (.string a1_0) ∧ w'.cell? ⟨gb512, 1, none⟩ = some (.int .i64 a1_1) ∧ w'.cell? ⟨gb512, 2, none⟩ = some (.int .i64 a1_2) ∧ w'.cell? ⟨gb512, 3, none⟩ = some (.int .i64 a1_3) ∧ w'.cell? ⟨gb512, 4, none⟩ = some (.string a1_4) ∧ w'.cell? ⟨gb512, 5, none⟩ = some (.string a1_5)) (ds := []) #[false, false, false, false, false, false] (by kernel_rfl) rfl rfl ⟨(blk_cell BK512.out 0).trans rfl, (blk_cell BK512.out 1).trans rfl, (blk_cell BK512.out 2).trans rfl, (blk_cell BK512.out 3).trans rfl, (blk_cell BK512.out 4).trans rfl, (blk_cell BK512.out 5).trans rfl⟩ (fun hHeld => ?_)
                        generalize w55.drew = w56 at HO516 HO525 HO528 HO537 HO541 BK512 HB hHeld ⊢
                        refine pure_ (i := 0) (N := some 63) (v := ?_) (a' := ?_) #[true, false, false, false, false, false] rfl rfl (by kernel_rfl) (fun _ _ _ h => h) (Or.inl ⟨by rfl, ?_⟩) ?_ ?_
                        rotate_left
                        · intro w'
                          go_simp
                          with_reducible rfl
                        rotate_left
                        · simp only [Act.put, List.setIfInBounds_toArray, List.set_cons_zero, List.set_cons_succ, i64_w, i32_w]
                          rfl
                        refine take_ (i := 2) (N := some 65) (v := ?_) (a' := ?_) #[true, false, true, false, false, false] rfl rfl (by kernel_rfl) (fun _ _ _ h => h) (Or.inl ⟨by rfl, ?_⟩) hHeld ?_ ?_
                        rotate_left
                        · rintro w' ⟨s0, s1, s2, s3, s4, s5⟩
                          go_simp
                          with_reducible rfl
                        rotate_left
                        · simp only [Act.put, List.setIfInBounds_toArray, List.set_cons_zero, List.set_cons_succ, i64_w, i32_w]
                          rfl
                        refine one_ (i := 1) (N := some 64) #[true, true, true, false, false, false] rfl rfl (by kernel_rfl) (by decide) (fun K hK => ?_)
                        refine goes_ Tryd.func16 (by kernel_rfl) rfl #[.slice A0 l0.length c0] (by rfl) rfl rfl (by (try simp only [List.map_toArray, List.map_cons, List.map_nil]); first | done | rfl | (simp only [List.length_drop, List.length_take]; rfl)) ?_
                        with_reducible refine (laws_toByteS.calls k _ _ l0 t549 _ ?side1 ?side2 A29.out).mono ?_
                        (case side1 => exact cU ((Kd.C_below HR0.out HB.out)))
                        (case side2 => exact HC0.out)
                        rintro e w57 ⟨v550, rfl, ho0, hb⟩
                        refine ⟨_, rfl, ?_⟩
                        have n0_ := Aside0.mk (Kd.R_elder' (rU HO516.out) (Kd.R_base ho0) hb)
                        have n1_ := Aside0.mk (Kd.R_elder' (rU HO525.out) (Kd.R_base ho0) hb)
                        have n2_ := Aside0.mk (Kd.R_elder' (rU HO528.out) (Kd.R_base ho0) hb)
                        have n3_ := Aside0.mk (Kd.R_elder' (rU HO537.out) (Kd.R_base ho0) hb)
                        have n4_ := Aside0.mk (Kd.R_elder' (rU HO541.out) (Kd.R_base ho0) hb)
                        have n5_ := Aside0.mk (Kd.R_lower (Kd.R_new' (Kd.R_new' (Kd.R_new' (Kd.R_new' (Kd.R_new' ho0 (Kd.R_lt (rU HO516.out))) (Kd.R_lt (rU HO525.out))) (Kd.R_lt (rU HO528.out))) (Kd.R_lt (rU HO537.out))) (Kd.R_lt (rU HO541.out))) (below_size (by repeat (first | (with_reducible first | exact HB.out | apply below_alloc | apply pw_below_drewN | apply below_drew1 | refine below_set ?_ GE512.out) | exact HB.out))))
                        have n6_ := Aside0.mk (blk_below (g := gb512) (o := .cells #[.string a1_0, .int .i64 a1_1, .int .i64 a1_2, .int .i64 a1_3, .string a1_4, .string a1_5] 30 (0, 0)) (bU BK512.out) hb)
                        have n7_ := Aside0.mk (below_step (by repeat (first | (with_reducible first | exact HB.out | apply below_alloc | apply pw_below_drewN | apply below_drew1 | refine below_set ?_ GE512.out) | exact HB.out)) hb)
                        clear HO516
                        clear HO525
                        clear HO528
                        clear HO537
                        clear HO541
                        clear BK512
                        clear HB
                        have HO516 := n0_
                        have HO525 := n1_
                        have HO528 := n2_
                        have HO537 := n3_
                        have HO541 := n4_
                        have HO551 := n5_
                        have BK512 := n6_
                        have HB := n7_
                        clear n0_ n1_ n2_ n3_ n4_ n5_ n6_ n7_
                        (try clear hb)
                        (try clear hb2)
                        (try clear hk)
                        (try clear hi)
                        (try clear ho0)
                        refine hK.out _ _ ⟨(blk_cell BK512.out 0).trans rfl, (blk_cell BK512.out 1).trans rfl, (blk_cell BK512.out 2).trans rfl, (blk_cell BK512.out 3).trans rfl, (blk_cell BK512.out 4).trans rfl, (blk_cell BK512.out 5).trans rfl⟩ (fun hHeld => ?_)
                        clear hK K
                        refine norm_ (a' := ?_) ?_ ?_
                        rotate_left
                        · show Act.put _ (some 64) _ = _
                          simp only [Act.put, List.setIfInBounds_toArray, List.set_cons_zero, List.set_cons_succ, i64_w, i32_w]
                          rfl
                        refine one_ (i := 3) (N := some 66) #[true, true, true, true, false, false] rfl rfl (by kernel_rfl) (by decide) (fun K hK => ?_)
                        refine goes_ Tryd.func23 (by kernel_rfl) rfl #[.agg #[.string a1_0, .int .i64 a1_1, .int .i64 a1_2, .int .i64 a1_3, .string a1_4, .string a1_5]] (by rfl) rfl rfl (by (try simp only [List.map_toArray, List.map_cons, List.map_nil]); first | done | rfl | (simp only [List.length_drop, List.length_take]; rfl)) ?_
                        with_reducible refine (laws_toRecord.calls a1_0 a1_1 a1_2 a1_3 a1_4 a1_5 t552 t553 t554 t555 t556 t557 _ A30.out).mono ?_
                        rintro e w58 ⟨rfl, hb⟩
                        refine ⟨_, rfl, ?_⟩
                        have n0_ := Aside0.mk (Kd.R_below (rU HO516.out) hb)
                        have n1_ := Aside0.mk (Kd.R_below (rU HO525.out) hb)
                        have n2_ := Aside0.mk (Kd.R_below (rU HO528.out) hb)
                        have n3_ := Aside0.mk (Kd.R_below (rU HO537.out) hb)
                        have n4_ := Aside0.mk (Kd.R_below (rU HO541.out) hb)
                        have n5_ := Aside0.mk (Kd.R_below (rU HO551.out) hb)
                        have n6_ := Aside0.mk (blk_below (g := gb512) (o := .cells #[.string a1_0, .int .i64 a1_1, .int .i64 a1_2, .int .i64 a1_3, .string a1_4, .string a1_5] 30 (0, 0)) (bU BK512.out) hb)
                        have n7_ := Aside0.mk (below_step (by repeat (first | (with_reducible first | exact HB.out | apply below_alloc | apply pw_below_drewN | apply below_drew1 | refine below_set ?_ GE512.out) | exact HB.out)) hb)
                        clear HO516
                        clear HO525
                        clear HO528
                        clear HO537
                        clear HO541
                        clear HO551
                        clear BK512
                        clear HB
                        have HO516 := n0_
                        have HO525 := n1_
                        have HO528 := n2_
                        have HO537 := n3_
                        have HO541 := n4_
                        have HO551 := n5_
                        have BK512 := n6_
                        have HB := n7_
                        clear n0_ n1_ n2_ n3_ n4_ n5_ n6_ n7_
                        (try clear hb)
                        (try clear hb2)
                        (try clear hk)
                        (try clear hi)
                        obtain ⟨Ao59, co59, eo59⟩ := Kd.R_slice HO551.out
                        (first | subst eo59 | (injection eo59 with f1_ f2_ f3_; have f4_ := f1_.symm; have f5_ := f3_.symm; clear f1_ f2_ f3_; subst f4_; subst f5_))
                        refine hK.out _ _ ⟨(blk_cell BK512.out 0).trans rfl, (blk_cell BK512.out 1).trans rfl, (blk_cell BK512.out 2).trans rfl, (blk_cell BK512.out 3).trans rfl, (blk_cell BK512.out 4).trans rfl, (blk_cell BK512.out 5).trans rfl⟩ (fun hHeld => ?_)
                        clear hK K
                        refine norm_ (a' := ?_) ?_ ?_
                        rotate_left
                        · show Act.put _ (some 66) _ = _
                          simp only [Act.put, List.setIfInBounds_toArray, List.set_cons_zero, List.set_cons_succ, i64_w, i32_w]
                          rfl
                        refine one_ (i := 4) (N := some 67) #[true, true, true, true, true, false] rfl rfl (by kernel_rfl) (by decide) (fun K hK => ?_)
                        refine goes_ Tryd.func51 (by kernel_rfl) rfl #[.slice Ao59 t549.length co59, .agg #[.string t552, .int .i64 t553, .int .i64 t554, .int .i64 t555, .string t556, .string t557]] (by rfl) rfl rfl (by (try simp only [List.map_toArray, List.map_cons, List.map_nil]); first | done | rfl | (simp only [List.length_drop, List.length_take]; rfl)) ?_
                        with_reducible refine (impl_PutRecord.calls k _ _ t549 t552 t553 t554 t555 t556 t557 t558 _ ?side1 ?side2 A31.out).mono ?_
                        (case side1 => exact cU ((Kd.R_reads' HO551.out).2.2))
                        (case side2 => exact (Kd.R_reads' HO551.out).2.1)
                        rintro e w60 ⟨v559, rfl, ho0, hb⟩
                        refine ⟨_, rfl, ?_⟩
                        have n0_ := Aside0.mk (Kd.R_elder' (rU HO516.out) (Kd.R_base ho0) hb)
                        have n1_ := Aside0.mk (Kd.R_elder' (rU HO525.out) (Kd.R_base ho0) hb)
                        have n2_ := Aside0.mk (Kd.R_elder' (rU HO528.out) (Kd.R_base ho0) hb)
                        have n3_ := Aside0.mk (Kd.R_elder' (rU HO537.out) (Kd.R_base ho0) hb)
                        have n4_ := Aside0.mk (Kd.R_elder' (rU HO541.out) (Kd.R_base ho0) hb)
                        have n5_ := Aside0.mk (Kd.R_elder' (rU HO551.out) (Kd.R_base ho0) hb)
                        have n6_ := Aside0.mk (Kd.R_lower (Kd.R_new' (Kd.R_new' (Kd.R_new' (Kd.R_new' (Kd.R_new' (Kd.R_new' ho0 (Kd.R_lt (rU HO516.out))) (Kd.R_lt (rU HO525.out))) (Kd.R_lt (rU HO528.out))) (Kd.R_lt (rU HO537.out))) (Kd.R_lt (rU HO541.out))) (Kd.R_lt (rU HO551.out))) (below_size (by repeat (first | (with_reducible first | exact HB.out | apply below_alloc | apply pw_below_drewN | apply below_drew1 | refine below_set ?_ GE512.out) | exact HB.out))))
                        have n7_ := Aside0.mk (blk_below (g := gb512) (o := .cells #[.string a1_0, .int .i64 a1_1, .int .i64 a1_2, .int .i64 a1_3, .string a1_4, .string a1_5] 30 (0, 0)) (bU BK512.out) hb)
                        have n8_ := Aside0.mk (below_step (by repeat (first | (with_reducible first | exact HB.out | apply below_alloc | apply pw_below_drewN | apply below_drew1 | refine below_set ?_ GE512.out) | exact HB.out)) hb)
                        clear HO516
                        clear HO525
                        clear HO528
                        clear HO537
                        clear HO541
                        clear HO551
                        clear BK512
                        clear HB
                        have HO516 := n0_
                        have HO525 := n1_
                        have HO528 := n2_
                        have HO537 := n3_
                        have HO541 := n4_
                        have HO551 := n5_
                        have HO560 := n6_
                        have BK512 := n7_
                        have HB := n8_
                        clear n0_ n1_ n2_ n3_ n4_ n5_ n6_ n7_ n8_
                        (try clear hb)
                        (try clear hb2)
                        (try clear hk)
                        (try clear hi)
                        (try clear ho0)
                        refine hK.out _ _ ⟨(blk_cell BK512.out 0).trans rfl, (blk_cell BK512.out 1).trans rfl, (blk_cell BK512.out 2).trans rfl, (blk_cell BK512.out 3).trans rfl, (blk_cell BK512.out 4).trans rfl, (blk_cell BK512.out 5).trans rfl⟩ (fun hHeld => ?_)
                        clear hK K
                        refine norm_ (a' := ?_) ?_ ?_
                        rotate_left
                        · show Act.put _ (some 67) _ = _
                          simp only [Act.put, List.setIfInBounds_toArray, List.set_cons_zero, List.set_cons_succ, i64_w, i32_w]
                          rfl
                        refine pure_ (i := 5) (N := some 12) (v := ?_) (a' := ?_) #[true, true, true, true, true, true] rfl rfl (by kernel_rfl) (fun _ _ _ h => h) (Or.inl ⟨by rfl, ?_⟩) ?_ ?_
                        rotate_left
                        · intro w'
                          go_simp
                          with_reducible rfl
                        rotate_left
                        · simp only [Act.put, List.setIfInBounds_toArray, List.set_cons_zero, List.set_cons_succ, i64_w, i32_w]
                          rfl
                        refine done_ (by kernel_rfl) ?_
                        obtain ⟨Ao61, co61, eo61⟩ := Kd.R_slice HO560.out
                        subst eo61
                        try go_wp2_with (first | ((with_reducible refine gate_callee (f := 18) rfl ?_); refine goesL_ (some 70) rfl rfl Tryd.func18 (by kernel_rfl) rfl #[.slice Ao61 t558.length co61, .slice Ao51 t523.length co51] rfl (by (try simp only [List.map_toArray, List.map_cons, List.map_nil]); first | done | rfl | (simp only [List.length_drop, List.length_take]; rfl)) ?_; (with_reducible refine (laws_eqByteS.calls k _ _ t558 _ _ t523 true _ ?side1 ?side2 ?side3 ?side4 A32.out).mono ?_); (case side1 => exact cU ((Kd.R_reads' HO560.out).2.2)); (case side2 => exact (Kd.R_reads' HO560.out).2.1); (case side3 => exact cU ((Kd.R_reads' HO525.out).2.2)); (case side4 => exact (Kd.R_reads' HO525.out).2.1); rintro e w' ⟨rfl, ⟨nd, rfl⟩⟩; refine ⟨_, rfl, ?_⟩) | ((with_reducible refine gate_callee (f := 42) rfl ?_); refine goesL_ (some 74) rfl rfl Tryd.func42 (by kernel_rfl) rfl #[.slice Ao50 t547.length co50, .int .i64 1] rfl (by (try simp only [List.map_toArray, List.map_cons, List.map_nil]); first | done | (rw [show t547.length = t535.length from (Kd.R_reads' HO537.out).1.symm] <;> rfl) | rfl | (simp only [List.length_drop, List.length_take]; rfl)) ?_; (with_reducible refine (laws_heldByteS.calls k _ _ t547 1 t562 _ ?side1 ?side2 A34.out).mono ?_); (case side1 => exact cU ((Kd.R_reads' HO537.out).2.2)); (case side2 => rw [show t547.length = t535.length from (Kd.R_reads' HO537.out).1.symm]; exact (Kd.R_reads' HO537.out).2.1); rintro e w' ⟨rfl, ⟨nd, rfl⟩⟩; refine ⟨_, rfl, ?_⟩))
                        go_ret
                        exact ⟨by first | rfl | (simp [errW_none, errW_some] <;> rfl) | (simp [*, errW_none, errW_some] <;> rfl) | (exfalso; simp_all; done) | ((have ai_ : ∀ p : Prop, Aside0 p ↔ p := fun p => ⟨fun h => h.out, fun h => ⟨h⟩⟩); simp_all [ai_]; done), by repeat (first | (with_reducible first | exact HB.out | apply below_alloc | apply pw_below_drewN | apply below_drew1 | refine below_set ?_ GE512.out) | exact HB.out)⟩
                      · rw [if_neg c36] at H
                        have c36b0 : (t562 == t546) = false := beq_eq_false_iff_ne.mpr c36
                        have c36b1 : (t562 != t546) = true := bne_iff_ne.mpr c36
                        exact absurd (H.trans (congrArg some hrt_)) (by simp)
                  · replace c33 := Bool.eq_false_iff.mpr c33
                    subst c33
                    have H1 : (some false) = some r := by rw [if_neg (show ¬ (false = true) by decide)] at H; exact H
                    clear H
                    have H := H1
                    clear H1
                    exact absurd (H.trans (congrArg some hrt_)) (by simp)
                · rw [if_neg c28] at H
                  have c28b0 : (t548 == t546) = false := beq_eq_false_iff_ne.mpr c28
                  have c28b1 : (t548 != t546) = true := bne_iff_ne.mpr c28
                  exact absurd (H.trans (congrArg some hrt_)) (by simp)
            · replace c24 := Bool.eq_false_iff.mpr c24
              subst c24
              have H1 : (some false) = some r := by rw [if_neg (show ¬ (false = true) by decide)] at H; exact H
              clear H
              have H := H1
              clear H1
              exact absurd (H.trans (congrArg some hrt_)) (by simp)
        · replace c20 := Bool.eq_false_iff.mpr c20
          subst c20
          have H1 : (some false) = some r := by rw [if_neg (show ¬ (false = true) by decide)] at H; exact H
          clear H
          have H := H1
          clear H1
          exact absurd (H.trans (congrArg some hrt_)) (by simp)
      · replace c17 := Bool.eq_false_iff.mpr c17
        subst c17
        have H1 : (some false) = some r := by rw [if_neg (show ¬ (false = true) by decide)] at H; exact H
        clear H
        have H := H1
        clear H1
        exact absurd (H.trans (congrArg some hrt_)) (by simp)

/-- The one pure statement of laws_FnExactPutRecord. -/
def laws_FnExactPutRecord.Pure : Prop := ∀ (l0 : List Int) (a1_0 : ByteArray) (a1_1 : Int) (a1_2 : Int) (a1_3 : Int) (a1_4 : ByteArray) (a1_5 : ByteArray), (l0.length ≤ maxLen ∧ l0.length * 1 ≤ 140737488351232 ∧ ∀ y_ ∈ l0, (Lit.int .u8 y_).wf = true) → g30 (⟨a1_0, a1_1, a1_2, a1_3, a1_4, a1_5⟩ : S30) → ∃ k, laws_FnExactPutRecord.f k l0 a1_0 a1_1 a1_2 a1_3 a1_4 a1_5 = some true

end Go.Proofs.YtfmnofjijodgcaaDoor.Pr
