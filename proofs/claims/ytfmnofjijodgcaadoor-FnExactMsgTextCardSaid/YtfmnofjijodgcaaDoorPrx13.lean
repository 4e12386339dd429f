-- Written for this claim by a program of this session (wip/tool/pr.py, over the kit's printer).
-- half
import Derived.Test.YtfmnofjijodgcaaDoorPrx0
import Derived.Test.YtfmnofjijodgcaaDoorPrx1
import Derived.Test.YtfmnofjijodgcaaDoorPrx2
import Derived.Test.YtfmnofjijodgcaaDoorPrx7
import Derived.Test.YtfmnofjijodgcaaDoorPrx12
namespace Go.Proofs.YtfmnofjijodgcaaDoor.Pr
open Go.RowKit Go.Proofs.YtfmnofjijodgcaaDoorW.PrintWords Go.Proofs.YtfmnofjijodgcaaDoorW.PrintLast Go.Proofs.YtfmnofjijodgcaaDoorW.PrintMore
attribute [local go_sem] max2_int min2_int max_two min_two max_three min_three max_four min_four   -- for this text's walks alone
set_option linter.unusedVariables false
set_option linter.unusedSimpArgs false

/-! ### laws_FnExactMsgText: function 11 -/
def laws_FnExactMsgText.f (k : Nat) (a0_0 : Int) (a0_1 : Bool) (a0_2 : Bool) (a0_3 : Bool) (a0_4 : Bool) (a0_5 : Bool) (a0_6 : Int) (a0_7 : ByteArray) (a0_8 : Int) (l0_9 : List (S30)) (l0_10 : List (S30)) (l0_11 : List (S30)) : Option (Bool) := (laws_szMsg.f k a0_0 a0_1 a0_2 a0_3 a0_4 a0_5 a0_6 a0_7 a0_8 l0_9 l0_10 l0_11 1048576).bind fun t316 => (if t316 < 0 then (some true) else ((laws_toMsg.f k a0_0 a0_1 a0_2 a0_3 a0_4 a0_5 a0_6 a0_7 a0_8 l0_9 l0_10 l0_11).bind fun bt317 => ((spec_MsgText.f k bt317.1 bt317.2.1 bt317.2.2.1 bt317.2.2.2.1 bt317.2.2.2.2.1 bt317.2.2.2.2.2.1 bt317.2.2.2.2.2.2.1 bt317.2.2.2.2.2.2.2.1 bt317.2.2.2.2.2.2.2.2.1 bt317.2.2.2.2.2.2.2.2.2.1 bt317.2.2.2.2.2.2.2.2.2.2.1 bt317.2.2.2.2.2.2.2.2.2.2.2).bind fun t335 => ((laws_toMsg.f k a0_0 a0_1 a0_2 a0_3 a0_4 a0_5 a0_6 a0_7 a0_8 l0_9 l0_10 l0_11).bind fun bt336 => ((impl_MsgText.f k bt336.1 bt336.2.1 bt336.2.2.1 bt336.2.2.2.1 bt336.2.2.2.2.1 bt336.2.2.2.2.2.1 bt336.2.2.2.2.2.2.1 bt336.2.2.2.2.2.2.2.1 bt336.2.2.2.2.2.2.2.2.1 bt336.2.2.2.2.2.2.2.2.2.1 bt336.2.2.2.2.2.2.2.2.2.2.1 bt336.2.2.2.2.2.2.2.2.2.2.2).bind fun t355 => (if t355.toList = t335.toList then ((laws_toMsg.f k a0_0 a0_1 a0_2 a0_3 a0_4 a0_5 a0_6 a0_7 a0_8 l0_9 l0_10 l0_11).bind fun bt356 => ((laws_eqMsg.f k bt336.1 bt336.2.1 bt336.2.2.1 bt336.2.2.2.1 bt336.2.2.2.2.1 bt336.2.2.2.2.2.1 bt336.2.2.2.2.2.2.1 bt336.2.2.2.2.2.2.2.1 bt336.2.2.2.2.2.2.2.2.1 bt336.2.2.2.2.2.2.2.2.2.1 bt336.2.2.2.2.2.2.2.2.2.2.1 bt336.2.2.2.2.2.2.2.2.2.2.2 bt356.1 bt356.2.1 bt356.2.2.1 bt356.2.2.2.1 bt356.2.2.2.2.1 bt356.2.2.2.2.2.1 bt356.2.2.2.2.2.2.1 bt356.2.2.2.2.2.2.2.1 bt356.2.2.2.2.2.2.2.2.1 bt356.2.2.2.2.2.2.2.2.2.1 bt356.2.2.2.2.2.2.2.2.2.2.1 bt356.2.2.2.2.2.2.2.2.2.2.2).bind fun t374 => (if t374 = true then (some true) else (some false)))) else (some false)))))))
theorem laws_FnExactMsgText.mono : ∀ a0 a1 a2 a3 a4 a5 a6 a7 a8 a9 a10 a11 k, LeO (laws_FnExactMsgText.f k a0 a1 a2 a3 a4 a5 a6 a7 a8 a9 a10 a11) (laws_FnExactMsgText.f (k + 1) a0 a1 a2 a3 a4 a5 a6 a7 a8 a9 a10 a11) := by
 intro a0 a1 a2 a3 a4 a5 a6 a7 a8 a9 a10 a11 k
 unfold laws_FnExactMsgText.f
 repeat' first
   | (with_reducible first | exact impl_MsgText.mono _ _ _ _ _ _ _ _ _ _ _ _ _ | exact laws_eqMsg.mono _ _ _ _ _ _ _ _ _ _ _ _ _ _ _ _ _ _ _ _ _ _ _ _ _ | exact laws_szMsg.mono _ _ _ _ _ _ _ _ _ _ _ _ _ _ | exact laws_toMsg.mono _ _ _ _ _ _ _ _ _ _ _ _ _ | exact spec_MsgText.mono _ _ _ _ _ _ _ _ _ _ _ _ _ | exact LeO.refl _ | exact LeO.none _ | refine LeO.ite ?_ ?_ | refine LeO.bind ?_ (fun _ => ?_))
   | exact impl_MsgText.mono _ _ _ _ _ _ _ _ _ _ _ _ _
   | exact laws_eqMsg.mono _ _ _ _ _ _ _ _ _ _ _ _ _ _ _ _ _ _ _ _ _ _ _ _ _
   | exact laws_szMsg.mono _ _ _ _ _ _ _ _ _ _ _ _ _ _
   | exact laws_toMsg.mono _ _ _ _ _ _ _ _ _ _ _ _ _
   | exact spec_MsgText.mono _ _ _ _ _ _ _ _ _ _ _ _ _
   | exact LeO.none _
   | refine LeO.ite ?_ ?_
   | refine LeO.bind ?_ (fun _ => ?_)
set_option maxHeartbeats 8000000 in
set_option maxRecDepth 100000 in
theorem laws_FnExactMsgText.calls (k : Nat) (a0_0 : Int) (a0_1 : Bool) (a0_2 : Bool) (a0_3 : Bool) (a0_4 : Bool) (a0_5 : Bool) (a0_6 : Int) (a0_7 : ByteArray) (a0_8 : Int) (A0_9 : Option Addr) (c0_9 : Nat) (l0_9 : List (S30)) (A0_10 : Option Addr) (c0_10 : Nat) (l0_10 : List (S30)) (A0_11 : Option Addr) (c0_11 : Nat) (l0_11 : List (S30)) (r : Bool) (w : World) (hr0_9 : Kd.C k30 w A0_9 l0_9.length l0_9) (hc0_9 : l0_9.length ≤ c0_9) (hr0_10 : Kd.C k30 w A0_10 l0_10.length l0_10) (hc0_10 : l0_10.length ≤ c0_10) (hr0_11 : Kd.C k30 w A0_11 l0_11.length l0_11) (hc0_11 : l0_11.length ≤ c0_11) (hrt_ : r = true) (h : laws_FnExactMsgText.f k a0_0 a0_1 a0_2 a0_3 a0_4 a0_5 a0_6 a0_7 a0_8 l0_9 l0_10 l0_11 = some r) :
  Calls Tryd.prog 11 #[.agg #[.int .i64 a0_0, .bool a0_1, .bool a0_2, .bool a0_3, .bool a0_4, .bool a0_5, .int .i64 a0_6, .string a0_7, .int .i64 a0_8, .slice A0_9 l0_9.length c0_9, .slice A0_10 l0_10.length c0_10, .slice A0_11 l0_11.length c0_11]] w fun e w' => e = .returned (.bool r) ∧ Below w.heap.size w w' := by
 have hu42 := Tryd.underlying42
 have hu48 := Tryd.underlying48
 have HR0_9 := aS hr0_9
 have HC0_9 := aS hc0_9
 clear hr0_9 hc0_9
 have HR0_10 := aS hr0_10
 have HC0_10 := aS hc0_10
 clear hr0_10 hc0_10
 have HR0_11 := aS hr0_11
 have HC0_11 := aS hc0_11
 clear hr0_11 hc0_11
 have HB := aS (Below.refl w.heap.size w)
 have H : ((laws_szMsg.f k a0_0 a0_1 a0_2 a0_3 a0_4 a0_5 a0_6 a0_7 a0_8 l0_9 l0_10 l0_11 1048576).bind fun t316 => (if t316 < 0 then (some true) else ((laws_toMsg.f k a0_0 a0_1 a0_2 a0_3 a0_4 a0_5 a0_6 a0_7 a0_8 l0_9 l0_10 l0_11).bind fun bt317 => ((spec_MsgText.f k bt317.1 bt317.2.1 bt317.2.2.1 bt317.2.2.2.1 bt317.2.2.2.2.1 bt317.2.2.2.2.2.1 bt317.2.2.2.2.2.2.1 bt317.2.2.2.2.2.2.2.1 bt317.2.2.2.2.2.2.2.2.1 bt317.2.2.2.2.2.2.2.2.2.1 bt317.2.2.2.2.2.2.2.2.2.2.1 bt317.2.2.2.2.2.2.2.2.2.2.2).bind fun t335 => ((laws_toMsg.f k a0_0 a0_1 a0_2 a0_3 a0_4 a0_5 a0_6 a0_7 a0_8 l0_9 l0_10 l0_11).bind fun bt336 => ((impl_MsgText.f k bt336.1 bt336.2.1 bt336.2.2.1 bt336.2.2.2.1 bt336.2.2.2.2.1 bt336.2.2.2.2.2.1 bt336.2.2.2.2.2.2.1 bt336.2.2.2.2.2.2.2.1 bt336.2.2.2.2.2.2.2.2.1 bt336.2.2.2.2.2.2.2.2.2.1 bt336.2.2.2.2.2.2.2.2.2.2.1 bt336.2.2.2.2.2.2.2.2.2.2.2).bind fun t355 => (if t355.toList = t335.toList then ((laws_toMsg.f k a0_0 a0_1 a0_2 a0_3 a0_4 a0_5 a0_6 a0_7 a0_8 l0_9 l0_10 l0_11).bind fun bt356 => ((laws_eqMsg.f k bt336.1 bt336.2.1 bt336.2.2.1 bt336.2.2.2.1 bt336.2.2.2.2.1 bt336.2.2.2.2.2.1 bt336.2.2.2.2.2.2.1 bt336.2.2.2.2.2.2.2.1 bt336.2.2.2.2.2.2.2.2.1 bt336.2.2.2.2.2.2.2.2.2.1 bt336.2.2.2.2.2.2.2.2.2.2.1 bt336.2.2.2.2.2.2.2.2.2.2.2 bt356.1 bt356.2.1 bt356.2.2.1 bt356.2.2.2.1 bt356.2.2.2.2.1 bt356.2.2.2.2.2.1 bt356.2.2.2.2.2.2.1 bt356.2.2.2.2.2.2.2.1 bt356.2.2.2.2.2.2.2.2.1 bt356.2.2.2.2.2.2.2.2.2.1 bt356.2.2.2.2.2.2.2.2.2.2.1 bt356.2.2.2.2.2.2.2.2.2.2.2).bind fun t374 => (if t374 = true then (some true) else (some false)))) else (some false)))))))) = some r := h
 clear h
 replace H := Option.bind_eq_some_iff.mp H
 obtain ⟨t316, A2, H⟩ := H
 try dsimp only at H
 replace A2 := aS A2
 by_cases c3 : t316 < 0
 ·rw [if_pos c3] at H
  have c3b0 : decide (t316 < 0) = true := decide_eq_true c3
  clear c3
  obtain rfl := Option.some.inj H
  go_enter Tryd.func11, Tryd.ntmps11
  go_wp2_with (first | ((with_reducible refine gate_dst (N := 1) rfl ?_); refine box_event ?hg (N := 1) ?hd (cs := #[.int .i64 a0_0, .bool a0_1, .bool a0_2, .bool a0_3, .bool a0_4, .bool a0_5, .int .i64 a0_6, .string a0_7, .int .i64 a0_8, .slice A0_9 l0_9.length c0_9, .slice A0_10 l0_10.length c0_10, .slice A0_11 l0_11.length c0_11]) (t := 42) ?hr ?_; (case hd => rfl); (case hg => rfl); (case hr => first | (go_simp; done) | (go_simp; rfl)); intro gb315 hg w4 hbox hb; have n0_ := aS (below_step (wU HB.out) hb); have n1_ := aS (hbox); have n2_ := aS ((by rw [hg]; exact (below_size (wU HB.out)) : w.heap.size ≤ gb315)); have n3_ := aS ((by rw [hg]; exact (below_size (wU HB.out)) : w.heap.size ≤ gb315)); clear HB; revert n0_ n1_ n2_ n3_; intro HB BK315 GW315 GE315; clear hb hbox hg; have hcz5 := cells12f BK315.out) | ((with_reducible refine gate_callee (f := 27) rfl ?_); refine goesL_ (some 9) rfl rfl Tryd.func27 jK rfl #[.agg #[.int .i64 a0_0, .bool a0_1, .bool a0_2, .bool a0_3, .bool a0_4, .bool a0_5, .int .i64 a0_6, .string a0_7, .int .i64 a0_8, .slice A0_9 l0_9.length c0_9, .slice A0_10 l0_10.length c0_10, .slice A0_11 l0_11.length c0_11], .int .i64 1048576] rfl jA ?_; (with_reducible refine (laws_szMsg.calls k a0_0 a0_1 a0_2 a0_3 a0_4 a0_5 a0_6 a0_7 a0_8 _ _ l0_9 _ _ l0_10 _ _ l0_11 1048576 t316 _ ?side1 ?side2 ?side3 ?side4 ?side5 ?side6 A2.out).mono ?_); (case side1 => exact cU ((Kd.C_below HR0_9.out HB.out))); (case side2 => exact HC0_9.out); (case side3 => exact cU ((Kd.C_below HR0_10.out HB.out))); (case side4 => exact HC0_10.out); (case side5 => exact cU ((Kd.C_below HR0_11.out HB.out))); (case side6 => exact HC0_11.out); rintro e w6 ⟨rfl, hb⟩; refine ⟨_, rfl, ?_⟩; have n0_ := aS (blk_below (bU BK315.out) hb); have n1_ := aS (below_step (wS1 HB.out GE315.out) hb); clear BK315 HB; revert n0_ n1_; intro BK315 HB; clear hb))
  go_ret
  exact ⟨by first | rfl | (simp [errW_none, errW_some] <;> rfl) | (simp [*, errW_none, errW_some] <;> rfl) | (exfalso; simp_all; done) | ((have ai_ : ∀ p : Prop, Aside0 p ↔ p := fun p => ⟨fun h => h.out, fun h => ⟨h⟩⟩); simp_all [ai_]; done), by exact wS1 HB.out GE315.out⟩
 ·rw [if_neg c3] at H
  have c3b0 : decide (t316 < 0) = false := decide_eq_false c3
  clear c3
  replace H := Option.bind_eq_some_iff.mp H
  obtain ⟨⟨t317, t318, t319, t320, t321, t322, t323, t324, t325, t326, t329, t332⟩, A7, H⟩ := H
  try dsimp only at H
  replace A7 := aS A7
  replace H := Option.bind_eq_some_iff.mp H
  obtain ⟨t335, A8, H⟩ := H
  try dsimp only at H
  replace A8 := aS A8
  replace H := Option.bind_eq_some_iff.mp H
  obtain ⟨⟨t336, t337, t338, t339, t340, t341, t342, t343, t344, t345, t348, t351⟩, A9, H⟩ := H
  try dsimp only at H
  replace A9 := aS A9
  replace H := Option.bind_eq_some_iff.mp H
  obtain ⟨t355, A10, H⟩ := H
  try dsimp only at H
  replace A10 := aS A10
  by_cases c11 : t355.toList = t335.toList
  ·rw [if_pos c11] at H
   have c11b0 : (t355.toList == t335.toList) = true := beq_iff_eq.mpr c11
   have c11b1 : (t355.toList != t335.toList) = false := bne_eq_false_iff_eq.mpr c11
   clear c11
   replace H := Option.bind_eq_some_iff.mp H
   obtain ⟨⟨t356, t357, t358, t359, t360, t361, t362, t363, t364, t365, t368, t371⟩, A12, H⟩ := H
   try dsimp only at H
   replace A12 := aS A12
   replace H := Option.bind_eq_some_iff.mp H
   obtain ⟨t374, A13, H⟩ := H
   try dsimp only at H
   replace A13 := aS A13
   by_cases c14 : t374 = true
   ·subst c14
    have H1 : (some true) = some r := by rw [if_pos rfl] at H; exact H
    clear H
    have H := H1
    clear H1
    obtain rfl := Option.some.inj H
    go_enter Tryd.func11, Tryd.ntmps11
    try go_wp2_with (first | ((with_reducible refine gate_dst (N := 1) rfl ?_); refine box_event ?hg (N := 1) ?hd (cs := #[.int .i64 a0_0, .bool a0_1, .bool a0_2, .bool a0_3, .bool a0_4, .bool a0_5, .int .i64 a0_6, .string a0_7, .int .i64 a0_8, .slice A0_9 l0_9.length c0_9, .slice A0_10 l0_10.length c0_10, .slice A0_11 l0_11.length c0_11]) (t := 42) ?hr ?_; (case hd => rfl); (case hg => rfl); (case hr => first | (go_simp; done) | (go_simp; rfl)); intro gb315 hg w15 hbox hb; have n0_ := aS (below_step (wU HB.out) hb); have n1_ := aS (hbox); have n2_ := aS ((by rw [hg]; exact (below_size (wU HB.out)) : w.heap.size ≤ gb315)); have n3_ := aS ((by rw [hg]; exact (below_size (wU HB.out)) : w.heap.size ≤ gb315)); clear HB; revert n0_ n1_ n2_ n3_; intro HB BK315 GW315 GE315; clear hb hbox hg; have hcz16 := cells12f BK315.out) | ((with_reducible refine gate_callee (f := 27) rfl ?_); refine goesL_ (some 9) rfl rfl Tryd.func27 jK rfl #[.agg #[.int .i64 a0_0, .bool a0_1, .bool a0_2, .bool a0_3, .bool a0_4, .bool a0_5, .int .i64 a0_6, .string a0_7, .int .i64 a0_8, .slice A0_9 l0_9.length c0_9, .slice A0_10 l0_10.length c0_10, .slice A0_11 l0_11.length c0_11], .int .i64 1048576] rfl jA ?_; (with_reducible refine (laws_szMsg.calls k a0_0 a0_1 a0_2 a0_3 a0_4 a0_5 a0_6 a0_7 a0_8 _ _ l0_9 _ _ l0_10 _ _ l0_11 1048576 t316 _ ?side1 ?side2 ?side3 ?side4 ?side5 ?side6 A2.out).mono ?_); (case side1 => exact cU ((Kd.C_below HR0_9.out HB.out))); (case side2 => exact HC0_9.out); (case side3 => exact cU ((Kd.C_below HR0_10.out HB.out))); (case side4 => exact HC0_10.out); (case side5 => exact cU ((Kd.C_below HR0_11.out HB.out))); (case side6 => exact HC0_11.out); rintro e w17 ⟨rfl, hb⟩; refine ⟨_, rfl, ?_⟩; have n0_ := aS (blk_below (bU BK315.out) hb); have n1_ := aS (below_step (wS1 HB.out GE315.out) hb); clear BK315 HB; revert n0_ n1_; intro BK315 HB; clear hb; have hcz18 := cells12f BK315.out) | ((with_reducible refine gate_callee (f := 29) rfl ?_); refine goesL_ (some 13) rfl rfl Tryd.func29 jK rfl #[.agg #[.int .i64 a0_0, .bool a0_1, .bool a0_2, .bool a0_3, .bool a0_4, .bool a0_5, .int .i64 a0_6, .string a0_7, .int .i64 a0_8, .slice A0_9 l0_9.length c0_9, .slice A0_10 l0_10.length c0_10, .slice A0_11 l0_11.length c0_11]] rfl jA ?_; (with_reducible refine (laws_toMsg.calls k a0_0 a0_1 a0_2 a0_3 a0_4 a0_5 a0_6 a0_7 a0_8 _ _ l0_9 _ _ l0_10 _ _ l0_11 t317 t318 t319 t320 t321 t322 t323 t324 t325 t326 t329 t332 _ ?side1 ?side2 ?side3 ?side4 ?side5 ?side6 A7.out).mono ?_); (case side1 => exact cU ((Kd.C_below HR0_9.out HB.out))); (case side2 => exact HC0_9.out); (case side3 => exact cU ((Kd.C_below HR0_10.out HB.out))); (case side4 => exact HC0_10.out); (case side5 => exact cU ((Kd.C_below HR0_11.out HB.out))); (case side6 => exact HC0_11.out); rintro e w19 ⟨v327, v330, v333, rfl, ho0, ho1, ho2, hb⟩; refine ⟨_, rfl, ?_⟩; have n0_ := aS (Kd.R_lower ho0 (below_size (wS1 HB.out GE315.out))); have n1_ := aS (Kd.R_lower ho1 (below_size (wS1 HB.out GE315.out))); have n2_ := aS (Kd.R_lower ho2 (below_size (wS1 HB.out GE315.out))); have n3_ := aS (blk_below (bU BK315.out) hb); have n4_ := aS (below_step (wS1 HB.out GE315.out) hb); clear BK315 HB; revert n0_ n1_ n2_ n3_ n4_; intro HO328 HO331 HO334 BK315 HB; clear hb; (try clear ho0); (try clear ho1); (try clear ho2); obtain ⟨Ao20, co20, eo20⟩ := Kd.R_slice HO328.out; subst eo20; obtain ⟨Ao21, co21, eo21⟩ := Kd.R_slice HO331.out; subst eo21; obtain ⟨Ao22, co22, eo22⟩ := Kd.R_slice HO334.out; subst eo22) | ((with_reducible refine gate_callee (f := 46) rfl ?_); refine goesL_ (some 14) rfl rfl Tryd.func46 jK rfl #[.agg #[.int .i64 t317, .bool t318, .bool t319, .bool t320, .bool t321, .bool t322, .int .i64 t323, .string t324, .int .i64 t325, .slice Ao20 t326.length co20, .slice Ao21 t329.length co21, .slice Ao22 t332.length co22]] rfl jA ?_; (with_reducible refine (spec_MsgText.calls k t317 t318 t319 t320 t321 t322 t323 t324 t325 _ _ t326 _ _ t329 _ _ t332 t335 _ ?side1 ?side2 ?side3 ?side4 ?side5 ?side6 A8.out).mono ?_); (case side1 => exact cU ((Kd.R_reads' HO328.out).2.2)); (case side2 => exact (Kd.R_reads' HO328.out).2.1); (case side3 => exact cU ((Kd.R_reads' HO331.out).2.2)); (case side4 => exact (Kd.R_reads' HO331.out).2.1); (case side5 => exact cU ((Kd.R_reads' HO334.out).2.2)); (case side6 => exact (Kd.R_reads' HO334.out).2.1); rintro e w23 ⟨rfl, hb⟩; refine ⟨_, rfl, ?_⟩; have n0_ := aS (Kd.R_below (rU HO328.out) hb); have n1_ := aS (Kd.R_below (rU HO331.out) hb); have n2_ := aS (Kd.R_below (rU HO334.out) hb); have n3_ := aS (blk_below (bU BK315.out) hb); have n4_ := aS (below_step (wS1 HB.out GE315.out) hb); clear HO328 HO331 HO334 BK315 HB; revert n0_ n1_ n2_ n3_ n4_; intro HO328 HO331 HO334 BK315 HB; clear hb; have hcz24 := cells12f BK315.out) | ((with_reducible refine gate_callee (f := 29) rfl ?_); refine goesL_ (some 16) rfl rfl Tryd.func29 jK rfl #[.agg #[.int .i64 a0_0, .bool a0_1, .bool a0_2, .bool a0_3, .bool a0_4, .bool a0_5, .int .i64 a0_6, .string a0_7, .int .i64 a0_8, .slice A0_9 l0_9.length c0_9, .slice A0_10 l0_10.length c0_10, .slice A0_11 l0_11.length c0_11]] rfl jA ?_; (with_reducible refine (laws_toMsg.calls k a0_0 a0_1 a0_2 a0_3 a0_4 a0_5 a0_6 a0_7 a0_8 _ _ l0_9 _ _ l0_10 _ _ l0_11 t336 t337 t338 t339 t340 t341 t342 t343 t344 t345 t348 t351 _ ?side1 ?side2 ?side3 ?side4 ?side5 ?side6 A9.out).mono ?_); (case side1 => exact cU ((Kd.C_below HR0_9.out HB.out))); (case side2 => exact HC0_9.out); (case side3 => exact cU ((Kd.C_below HR0_10.out HB.out))); (case side4 => exact HC0_10.out); (case side5 => exact cU ((Kd.C_below HR0_11.out HB.out))); (case side6 => exact HC0_11.out); rintro e w25 ⟨v346, v349, v352, rfl, ho0, ho1, ho2, hb⟩; refine ⟨_, rfl, ?_⟩; have n0_ := aS (Kd.R_mono (Kd.R_told (Kd.R_told (Kd.R_told (Kd.R_old (rU HO328.out) hb) (Kd.R_base ho0)) (Kd.R_base ho1)) (Kd.R_base ho2)) (fun _ h_ => h_.1)); have n1_ := aS (Kd.R_mono (Kd.R_told (Kd.R_told (Kd.R_told (Kd.R_old (rU HO331.out) hb) (Kd.R_base ho0)) (Kd.R_base ho1)) (Kd.R_base ho2)) (fun _ h_ => h_.1)); have n2_ := aS (Kd.R_mono (Kd.R_told (Kd.R_told (Kd.R_told (Kd.R_old (rU HO334.out) hb) (Kd.R_base ho0)) (Kd.R_base ho1)) (Kd.R_base ho2)) (fun _ h_ => h_.1)); have n3_ := aS (Kd.R_lower (Kd.R_new' (Kd.R_new' (Kd.R_new' ho0 (Kd.R_lt (rU HO328.out))) (Kd.R_lt (rU HO331.out))) (Kd.R_lt (rU HO334.out))) (below_size (wS1 HB.out GE315.out))); have n4_ := aS (Kd.R_lower (Kd.R_new' (Kd.R_new' (Kd.R_new' ho1 (Kd.R_lt (rU HO328.out))) (Kd.R_lt (rU HO331.out))) (Kd.R_lt (rU HO334.out))) (below_size (wS1 HB.out GE315.out))); have n5_ := aS (Kd.R_lower (Kd.R_new' (Kd.R_new' (Kd.R_new' ho2 (Kd.R_lt (rU HO328.out))) (Kd.R_lt (rU HO331.out))) (Kd.R_lt (rU HO334.out))) (below_size (wS1 HB.out GE315.out))); have n6_ := aS (blk_below (bU BK315.out) hb); have n7_ := aS (below_step (wS1 HB.out GE315.out) hb); clear HO328 HO331 HO334 BK315 HB; revert n0_ n1_ n2_ n3_ n4_ n5_ n6_ n7_; intro HO328 HO331 HO334 HO347 HO350 HO353 BK315 HB; clear hb; (try clear ho0); (try clear ho1); (try clear ho2)) | ((with_reducible refine gate_dst (N := 5) rfl ?_); refine box_event ?hg (N := 5) ?hd (cs := #[.int .i64 0, .bool false, .bool false, .bool false, .bool false, .bool false, .int .i64 0, .string (⟨#[]⟩ : ByteArray), .int .i64 0, .slice none 0 0, .slice none 0 0, .slice none 0 0]) (t := 48) ?hr ?_; (case hd => rfl); (case hg => rfl); (case hr => first | (go_simp; done) | (go_simp; rfl)); intro gb354 hg w26 hbox hb; have n0_ := aS (Kd.R_below (rU HO328.out) hb); have n1_ := aS (Kd.R_below (rU HO331.out) hb); have n2_ := aS (Kd.R_below (rU HO334.out) hb); have n3_ := aS (Kd.R_below (rU HO347.out) hb); have n4_ := aS (Kd.R_below (rU HO350.out) hb); have n5_ := aS (Kd.R_below (rU HO353.out) hb); have n6_ := aS (blk_below (bU BK315.out) hb); have n7_ := aS (below_step (wS1 HB.out GE315.out) hb); have n8_ := aS (hbox); have n9_ := aS ((by rw [hg]; exact (below_size (wS1 HB.out GE315.out)) : w.heap.size ≤ gb354)); have n10_ := aS ((by rw [hg]; exact (below_size (wS1 HB.out GE315.out)) : w.heap.size ≤ gb354)); have n11_ := aS ((by rw [hg]; exact Nat.ne_of_lt (blk_lt (bU BK315.out)) : gb315 ≠ gb354)); have n12_ := aS ((by rw [hg]; exact Nat.ne_of_gt (blk_lt (bU BK315.out)) : gb354 ≠ gb315)); clear HO328 HO331 HO334 HO347 HO350 HO353 BK315 HB; revert n0_ n1_ n2_ n3_ n4_ n5_ n6_ n7_ n8_ n9_ n10_ n11_ n12_; intro HO328 HO331 HO334 HO347 HO350 HO353 BK315 HB BK354 GW354 GE354 NB315_354 NB354_315; clear hb hbox hg; have hnb27 := NB354_315.out; have hnc27 := NB315_354.out; have hcz28 := cells12f BK354.out; obtain ⟨Ao29, co29, eo29⟩ := Kd.R_slice HO347.out; subst eo29; obtain ⟨Ao30, co30, eo30⟩ := Kd.R_slice HO350.out; subst eo30; obtain ⟨Ao31, co31, eo31⟩ := Kd.R_slice HO353.out; subst eo31) | ((with_reducible refine gate_store (t := 48) (p := 5) rfl ?_); refine store_event (t := 48) (p := 5) (v := ?vo_w32) (w1 := ((((((((((((w26.setCell ⟨gb354, 0, none⟩ (.int .i64 t336)).setCell ⟨gb354, 1, none⟩ (.bool t337)).setCell ⟨gb354, 2, none⟩ (.bool t338)).setCell ⟨gb354, 3, none⟩ (.bool t339)).setCell ⟨gb354, 4, none⟩ (.bool t340)).setCell ⟨gb354, 5, none⟩ (.bool t341)).setCell ⟨gb354, 6, none⟩ (.int .i64 t342)).setCell ⟨gb354, 7, none⟩ (.string t343)).setCell ⟨gb354, 8, none⟩ (.int .i64 t344)).setCell ⟨gb354, 9, none⟩ (.slice Ao29 t345.length co29)).setCell ⟨gb354, 10, none⟩ (.slice Ao30 t348.length co30)).setCell ⟨gb354, 11, none⟩ (.slice Ao31 t351.length co31))) ?hg ?ho ?hn ?hr ?_; (case ho => rfl); (case hg => rfl); (case hn => rfl); (case hr => first | (go_simp; done) | (go_simp; rfl)); intro w32 hw; have n0_ : Aside0 (Kd.R k33 33 w32 w.heap.size (fun k_ => some k_ ≠ (.slice Ao21 t329.length co21 : Value).ownBlock ∧ some k_ ≠ (.slice Ao22 t332.length co22 : Value).ownBlock ∧ some k_ ≠ (.slice Ao29 t345.length co29 : Value).ownBlock ∧ some k_ ≠ (.slice Ao30 t348.length co30 : Value).ownBlock ∧ some k_ ≠ (.slice Ao31 t351.length co31 : Value).ownBlock) (.slice Ao20 t326.length co20) t326) := ⟨(by rw [hw]; exact (by (with_reducible repeat (first | apply Kd.R_alloc | apply Kd.R_drewN | apply Kd.R_drew)); exact Kd.R_mono (Kd.R_far (p := ⟨gb354, 11, none⟩) (Kd.R_far (p := ⟨gb354, 10, none⟩) (Kd.R_far (p := ⟨gb354, 9, none⟩) (Kd.R_far (p := ⟨gb354, 8, none⟩) (Kd.R_far (p := ⟨gb354, 7, none⟩) (Kd.R_far (p := ⟨gb354, 6, none⟩) (Kd.R_far (p := ⟨gb354, 5, none⟩) (Kd.R_far (p := ⟨gb354, 4, none⟩) (Kd.R_far (p := ⟨gb354, 3, none⟩) (Kd.R_far (p := ⟨gb354, 2, none⟩) (Kd.R_far (p := ⟨gb354, 1, none⟩) (Kd.R_far (p := ⟨gb354, 0, none⟩) (Kd.R_types HO328.out BK354.out (by decide)) (fun _ hk => hk.2) (.int .i64 t336)) (fun _ hk => hk.2) (.bool t337)) (fun _ hk => hk.2) (.bool t338)) (fun _ hk => hk.2) (.bool t339)) (fun _ hk => hk.2) (.bool t340)) (fun _ hk => hk.2) (.bool t341)) (fun _ hk => hk.2) (.int .i64 t342)) (fun _ hk => hk.2) (.string t343)) (fun _ hk => hk.2) (.int .i64 t344)) (fun _ hk => hk.2) (.slice Ao29 t345.length co29)) (fun _ hk => hk.2) (.slice Ao30 t348.length co30)) (fun _ hk => hk.2) (.slice Ao31 t351.length co31)) (fun _ hk => ⟨hk.1.1.1.1.1, ⟨hk.1.1.1.1.2, ⟨hk.1.1.1.2, ⟨hk.1.1.2, hk.1.2⟩⟩⟩⟩)))⟩; have n1_ : Aside0 (Kd.R k33 33 w32 w.heap.size (fun k_ => some k_ ≠ (.slice Ao20 t326.length co20 : Value).ownBlock ∧ some k_ ≠ (.slice Ao22 t332.length co22 : Value).ownBlock ∧ some k_ ≠ (.slice Ao29 t345.length co29 : Value).ownBlock ∧ some k_ ≠ (.slice Ao30 t348.length co30 : Value).ownBlock ∧ some k_ ≠ (.slice Ao31 t351.length co31 : Value).ownBlock) (.slice Ao21 t329.length co21) t329) := ⟨(by rw [hw]; exact (by (with_reducible repeat (first | apply Kd.R_alloc | apply Kd.R_drewN | apply Kd.R_drew)); exact Kd.R_mono (Kd.R_far (p := ⟨gb354, 11, none⟩) (Kd.R_far (p := ⟨gb354, 10, none⟩) (Kd.R_far (p := ⟨gb354, 9, none⟩) (Kd.R_far (p := ⟨gb354, 8, none⟩) (Kd.R_far (p := ⟨gb354, 7, none⟩) (Kd.R_far (p := ⟨gb354, 6, none⟩) (Kd.R_far (p := ⟨gb354, 5, none⟩) (Kd.R_far (p := ⟨gb354, 4, none⟩) (Kd.R_far (p := ⟨gb354, 3, none⟩) (Kd.R_far (p := ⟨gb354, 2, none⟩) (Kd.R_far (p := ⟨gb354, 1, none⟩) (Kd.R_far (p := ⟨gb354, 0, none⟩) (Kd.R_types HO331.out BK354.out (by decide)) (fun _ hk => hk.2) (.int .i64 t336)) (fun _ hk => hk.2) (.bool t337)) (fun _ hk => hk.2) (.bool t338)) (fun _ hk => hk.2) (.bool t339)) (fun _ hk => hk.2) (.bool t340)) (fun _ hk => hk.2) (.bool t341)) (fun _ hk => hk.2) (.int .i64 t342)) (fun _ hk => hk.2) (.string t343)) (fun _ hk => hk.2) (.int .i64 t344)) (fun _ hk => hk.2) (.slice Ao29 t345.length co29)) (fun _ hk => hk.2) (.slice Ao30 t348.length co30)) (fun _ hk => hk.2) (.slice Ao31 t351.length co31)) (fun _ hk => ⟨hk.1.1.1.1.1, ⟨hk.1.1.1.1.2, ⟨hk.1.1.1.2, ⟨hk.1.1.2, hk.1.2⟩⟩⟩⟩)))⟩; have n2_ : Aside0 (Kd.R k33 33 w32 w.heap.size (fun k_ => some k_ ≠ (.slice Ao20 t326.length co20 : Value).ownBlock ∧ some k_ ≠ (.slice Ao21 t329.length co21 : Value).ownBlock ∧ some k_ ≠ (.slice Ao29 t345.length co29 : Value).ownBlock ∧ some k_ ≠ (.slice Ao30 t348.length co30 : Value).ownBlock ∧ some k_ ≠ (.slice Ao31 t351.length co31 : Value).ownBlock) (.slice Ao22 t332.length co22) t332) := ⟨(by rw [hw]; exact (by (with_reducible repeat (first | apply Kd.R_alloc | apply Kd.R_drewN | apply Kd.R_drew)); exact Kd.R_mono (Kd.R_far (p := ⟨gb354, 11, none⟩) (Kd.R_far (p := ⟨gb354, 10, none⟩) (Kd.R_far (p := ⟨gb354, 9, none⟩) (Kd.R_far (p := ⟨gb354, 8, none⟩) (Kd.R_far (p := ⟨gb354, 7, none⟩) (Kd.R_far (p := ⟨gb354, 6, none⟩) (Kd.R_far (p := ⟨gb354, 5, none⟩) (Kd.R_far (p := ⟨gb354, 4, none⟩) (Kd.R_far (p := ⟨gb354, 3, none⟩) (Kd.R_far (p := ⟨gb354, 2, none⟩) (Kd.R_far (p := ⟨gb354, 1, none⟩) (Kd.R_far (p := ⟨gb354, 0, none⟩) (Kd.R_types HO334.out BK354.out (by decide)) (fun _ hk => hk.2) (.int .i64 t336)) (fun _ hk => hk.2) (.bool t337)) (fun _ hk => hk.2) (.bool t338)) (fun _ hk => hk.2) (.bool t339)) (fun _ hk => hk.2) (.bool t340)) (fun _ hk => hk.2) (.bool t341)) (fun _ hk => hk.2) (.int .i64 t342)) (fun _ hk => hk.2) (.string t343)) (fun _ hk => hk.2) (.int .i64 t344)) (fun _ hk => hk.2) (.slice Ao29 t345.length co29)) (fun _ hk => hk.2) (.slice Ao30 t348.length co30)) (fun _ hk => hk.2) (.slice Ao31 t351.length co31)) (fun _ hk => ⟨hk.1.1.1.1.1, ⟨hk.1.1.1.1.2, ⟨hk.1.1.1.2, ⟨hk.1.1.2, hk.1.2⟩⟩⟩⟩)))⟩; have n3_ : Aside0 (Kd.R k33 33 w32 w.heap.size (fun k_ => some k_ ≠ (.slice Ao20 t326.length co20 : Value).ownBlock ∧ some k_ ≠ (.slice Ao21 t329.length co21 : Value).ownBlock ∧ some k_ ≠ (.slice Ao22 t332.length co22 : Value).ownBlock ∧ some k_ ≠ (.slice Ao30 t348.length co30 : Value).ownBlock ∧ some k_ ≠ (.slice Ao31 t351.length co31 : Value).ownBlock) (.slice Ao29 t345.length co29) t345) := ⟨(by rw [hw]; exact (by (with_reducible repeat (first | apply Kd.R_alloc | apply Kd.R_drewN | apply Kd.R_drew)); exact Kd.R_mono (Kd.R_far (p := ⟨gb354, 11, none⟩) (Kd.R_far (p := ⟨gb354, 10, none⟩) (Kd.R_far (p := ⟨gb354, 9, none⟩) (Kd.R_far (p := ⟨gb354, 8, none⟩) (Kd.R_far (p := ⟨gb354, 7, none⟩) (Kd.R_far (p := ⟨gb354, 6, none⟩) (Kd.R_far (p := ⟨gb354, 5, none⟩) (Kd.R_far (p := ⟨gb354, 4, none⟩) (Kd.R_far (p := ⟨gb354, 3, none⟩) (Kd.R_far (p := ⟨gb354, 2, none⟩) (Kd.R_far (p := ⟨gb354, 1, none⟩) (Kd.R_far (p := ⟨gb354, 0, none⟩) (Kd.R_types HO347.out BK354.out (by decide)) (fun _ hk => hk.2) (.int .i64 t336)) (fun _ hk => hk.2) (.bool t337)) (fun _ hk => hk.2) (.bool t338)) (fun _ hk => hk.2) (.bool t339)) (fun _ hk => hk.2) (.bool t340)) (fun _ hk => hk.2) (.bool t341)) (fun _ hk => hk.2) (.int .i64 t342)) (fun _ hk => hk.2) (.string t343)) (fun _ hk => hk.2) (.int .i64 t344)) (fun _ hk => hk.2) (.slice Ao29 t345.length co29)) (fun _ hk => hk.2) (.slice Ao30 t348.length co30)) (fun _ hk => hk.2) (.slice Ao31 t351.length co31)) (fun _ hk => ⟨hk.1.1.1.2, ⟨hk.1.1.2, ⟨hk.1.2, ⟨hk.1.1.1.1.1, hk.1.1.1.1.2⟩⟩⟩⟩)))⟩; have n4_ : Aside0 (Kd.R k33 33 w32 w.heap.size (fun k_ => some k_ ≠ (.slice Ao20 t326.length co20 : Value).ownBlock ∧ some k_ ≠ (.slice Ao21 t329.length co21 : Value).ownBlock ∧ some k_ ≠ (.slice Ao22 t332.length co22 : Value).ownBlock ∧ some k_ ≠ (.slice Ao29 t345.length co29 : Value).ownBlock ∧ some k_ ≠ (.slice Ao31 t351.length co31 : Value).ownBlock) (.slice Ao30 t348.length co30) t348) := ⟨(by rw [hw]; exact (by (with_reducible repeat (first | apply Kd.R_alloc | apply Kd.R_drewN | apply Kd.R_drew)); exact Kd.R_mono (Kd.R_far (p := ⟨gb354, 11, none⟩) (Kd.R_far (p := ⟨gb354, 10, none⟩) (Kd.R_far (p := ⟨gb354, 9, none⟩) (Kd.R_far (p := ⟨gb354, 8, none⟩) (Kd.R_far (p := ⟨gb354, 7, none⟩) (Kd.R_far (p := ⟨gb354, 6, none⟩) (Kd.R_far (p := ⟨gb354, 5, none⟩) (Kd.R_far (p := ⟨gb354, 4, none⟩) (Kd.R_far (p := ⟨gb354, 3, none⟩) (Kd.R_far (p := ⟨gb354, 2, none⟩) (Kd.R_far (p := ⟨gb354, 1, none⟩) (Kd.R_far (p := ⟨gb354, 0, none⟩) (Kd.R_types HO350.out BK354.out (by decide)) (fun _ hk => hk.2) (.int .i64 t336)) (fun _ hk => hk.2) (.bool t337)) (fun _ hk => hk.2) (.bool t338)) (fun _ hk => hk.2) (.bool t339)) (fun _ hk => hk.2) (.bool t340)) (fun _ hk => hk.2) (.bool t341)) (fun _ hk => hk.2) (.int .i64 t342)) (fun _ hk => hk.2) (.string t343)) (fun _ hk => hk.2) (.int .i64 t344)) (fun _ hk => hk.2) (.slice Ao29 t345.length co29)) (fun _ hk => hk.2) (.slice Ao30 t348.length co30)) (fun _ hk => hk.2) (.slice Ao31 t351.length co31)) (fun _ hk => ⟨hk.1.1.1.2, ⟨hk.1.1.2, ⟨hk.1.2, ⟨hk.1.1.1.1.1, hk.1.1.1.1.2⟩⟩⟩⟩)))⟩; have n5_ : Aside0 (Kd.R k33 33 w32 w.heap.size (fun k_ => some k_ ≠ (.slice Ao20 t326.length co20 : Value).ownBlock ∧ some k_ ≠ (.slice Ao21 t329.length co21 : Value).ownBlock ∧ some k_ ≠ (.slice Ao22 t332.length co22 : Value).ownBlock ∧ some k_ ≠ (.slice Ao29 t345.length co29 : Value).ownBlock ∧ some k_ ≠ (.slice Ao30 t348.length co30 : Value).ownBlock) (.slice Ao31 t351.length co31) t351) := ⟨(by rw [hw]; exact (by (with_reducible repeat (first | apply Kd.R_alloc | apply Kd.R_drewN | apply Kd.R_drew)); exact Kd.R_mono (Kd.R_far (p := ⟨gb354, 11, none⟩) (Kd.R_far (p := ⟨gb354, 10, none⟩) (Kd.R_far (p := ⟨gb354, 9, none⟩) (Kd.R_far (p := ⟨gb354, 8, none⟩) (Kd.R_far (p := ⟨gb354, 7, none⟩) (Kd.R_far (p := ⟨gb354, 6, none⟩) (Kd.R_far (p := ⟨gb354, 5, none⟩) (Kd.R_far (p := ⟨gb354, 4, none⟩) (Kd.R_far (p := ⟨gb354, 3, none⟩) (Kd.R_far (p := ⟨gb354, 2, none⟩) (Kd.R_far (p := ⟨gb354, 1, none⟩) (Kd.R_far (p := ⟨gb354, 0, none⟩) (Kd.R_types HO353.out BK354.out (by decide)) (fun _ hk => hk.2) (.int .i64 t336)) (fun _ hk => hk.2) (.bool t337)) (fun _ hk => hk.2) (.bool t338)) (fun _ hk => hk.2) (.bool t339)) (fun _ hk => hk.2) (.bool t340)) (fun _ hk => hk.2) (.bool t341)) (fun _ hk => hk.2) (.int .i64 t342)) (fun _ hk => hk.2) (.string t343)) (fun _ hk => hk.2) (.int .i64 t344)) (fun _ hk => hk.2) (.slice Ao29 t345.length co29)) (fun _ hk => hk.2) (.slice Ao30 t348.length co30)) (fun _ hk => hk.2) (.slice Ao31 t351.length co31)) (fun _ hk => ⟨hk.1.1.1.2, ⟨hk.1.1.2, ⟨hk.1.2, ⟨hk.1.1.1.1.1, hk.1.1.1.1.2⟩⟩⟩⟩)))⟩; have n6_ : Aside0 (w32.heap[gb315]? = some (.cells #[.int .i64 a0_0, .bool a0_1, .bool a0_2, .bool a0_3, .bool a0_4, .bool a0_5, .int .i64 a0_6, .string a0_7, .int .i64 a0_8, .slice A0_9 l0_9.length c0_9, .slice A0_10 l0_10.length c0_10, .slice A0_11 l0_11.length c0_11] 42 (0, 0))) := ⟨(by rw [hw]; exact (by (iterate 12 ((with_reducible repeat (first | refine blk_drewN ?_ _ | refine blk_drew ?_ | refine blk_alloc ?_ _)); refine blk_far ?_ NB315_354.out _)); (with_reducible repeat (first | refine blk_drewN ?_ _ | refine blk_drew ?_ | refine blk_alloc ?_ _)); exact BK315.out))⟩; have n7_ : Aside0 (w32.heap[gb354]? = some (.cells #[.int .i64 t336, .bool t337, .bool t338, .bool t339, .bool t340, .bool t341, .int .i64 t342, .string t343, .int .i64 t344, .slice Ao29 t345.length co29, .slice Ao30 t348.length co30, .slice Ao31 t351.length co31] 48 (0, 0))) := ⟨(by rw [hw]; exact (by (with_reducible repeat (first | refine blk_drewN ?_ _ | refine blk_drew ?_ | refine blk_alloc ?_ _)); refine blk_put_12 (.int .i64 0) (.bool false) (.bool false) (.bool false) (.bool false) (.bool false) (.int .i64 0) (.string (⟨#[]⟩ : ByteArray)) (.int .i64 0) (.slice none 0 0) (.slice none 0 0) (.slice none 0 0) ?_; (with_reducible repeat (first | refine blk_drewN ?_ _ | refine blk_drew ?_ | refine blk_alloc ?_ _)); exact BK354.out))⟩; have n8_ : Aside0 (Below w.heap.size w w32) := ⟨(by rw [hw]; exact (wS2 HB.out GE315.out GE354.out))⟩; clear hw HO328 HO331 HO334 HO347 HO350 HO353 BK315 BK354 HB; revert n0_ n1_ n2_ n3_ n4_ n5_ n6_ n7_ n8_; intro HO328 HO331 HO334 HO347 HO350 HO353 BK315 BK354 HB; have hcz33 := cells12f BK354.out) | ((with_reducible refine gate_callee (f := 47) rfl ?_); refine goesL_ (some 18) rfl rfl Tryd.func47 jK rfl #[.agg #[.int .i64 t336, .bool t337, .bool t338, .bool t339, .bool t340, .bool t341, .int .i64 t342, .string t343, .int .i64 t344, .slice Ao29 t345.length co29, .slice Ao30 t348.length co30, .slice Ao31 t351.length co31]] rfl jA ?_; (with_reducible refine (impl_MsgText.calls k t336 t337 t338 t339 t340 t341 t342 t343 t344 (fun k_ => some k_ = (.slice Ao29 t345.length co29 : Value).ownBlock) _ _ t345 (fun k_ => some k_ = (.slice Ao30 t348.length co30 : Value).ownBlock) _ _ t348 (fun k_ => some k_ = (.slice Ao31 t351.length co31 : Value).ownBlock) _ _ t351 t355 _ ?side1 ?side2 ?side3 A10.out).mono ?_); (case side1 => exact Kd.R_V (Kd.R_tight rfl (Kd.R_types (Kd.R_types (HO347.out) BK315.out (by decide)) BK354.out (by decide)))); (case side2 => exact Kd.R_V (Kd.R_tight rfl (Kd.R_types (Kd.R_types (HO350.out) BK315.out (by decide)) BK354.out (by decide)))); (case side3 => exact Kd.R_V (Kd.R_tight rfl (Kd.R_types (Kd.R_types (HO353.out) BK315.out (by decide)) BK354.out (by decide)))); rintro e w34 ⟨rfl, hb⟩; refine ⟨_, rfl, ?_⟩; have n0_ := aS (Kd.R_below (rU HO328.out) hb); have n1_ := aS (Kd.R_below (rU HO331.out) hb); have n2_ := aS (Kd.R_below (rU HO334.out) hb); have n3_ := aS (Kd.R_below (rU HO347.out) hb); have n4_ := aS (Kd.R_below (rU HO350.out) hb); have n5_ := aS (Kd.R_below (rU HO353.out) hb); have n6_ := aS (blk_below (bU BK315.out) hb); have n7_ := aS (blk_below (bU BK354.out) hb); have n8_ := aS (below_step (wS2 HB.out GE315.out GE354.out) hb); clear HO328 HO331 HO334 HO347 HO350 HO353 BK315 BK354 HB; revert n0_ n1_ n2_ n3_ n4_ n5_ n6_ n7_ n8_; intro HO328 HO331 HO334 HO347 HO350 HO353 BK315 BK354 HB; clear hb))
    have n0_ := aS (Kd.R_drew HO328.out)
    have n1_ := aS (Kd.R_drew HO331.out)
    have n2_ := aS (Kd.R_drew HO334.out)
    have n3_ := aS (Kd.R_drew HO347.out)
    have n4_ := aS (Kd.R_drew HO350.out)
    have n5_ := aS (Kd.R_drew HO353.out)
    have n6_ := aS (blk_drew BK315.out)
    have n7_ := aS (blk_drew BK354.out)
    have n8_ := aS (below_drew1 HB.out)
    clear HO328
    clear HO331
    clear HO334
    clear HO347
    clear HO350
    clear HO353
    clear BK315
    clear BK354
    clear HB
    have HO328 := n0_
    have HO331 := n1_
    have HO334 := n2_
    have HO347 := n3_
    have HO350 := n4_
    have HO353 := n5_
    have BK315 := n6_
    have BK354 := n7_
    have HB := n8_
    clear n0_ n1_ n2_ n3_ n4_ n5_ n6_ n7_ n8_
    refine start_ (n := 5) (S := fun w' => w'.cell? ⟨gb354, 0, none⟩ = some (.int .i64 t336) ∧ w'.cell? ⟨gb354, 1, none⟩ = some (.bool t337) ∧ w'.cell? ⟨gb354, 2, none⟩ = some (.bool t338) ∧ w'.cell? ⟨gb354, 3, none⟩ = some (.bool t339) ∧ w'.cell? ⟨gb354, 4, none⟩ = some (.bool t340) ∧ w'.cell? ⟨gb354, 5, none⟩ = some (.bool t341) ∧ w'.cell? ⟨gb354, 6, none⟩ = some (.int .i64 t342) ∧ w'.cell? ⟨gb354, 7, none⟩ = some (.string t343) ∧ w'.cell? ⟨gb354, 8, none⟩ = some (.int .i64 t344) ∧ w'.cell? ⟨gb354, 9, none⟩ = some (.slice Ao29 t345.length co29) ∧ w'.cell? ⟨gb354, 10, none⟩ = some (.slice Ao30 t348.length co30) ∧ w'.cell? ⟨gb354, 11, none⟩ = some (.slice Ao31 t351.length co31) ∧ w'.cell? ⟨gb315, 0, none⟩ = some (.int .i64 a0_0) ∧ w'.cell? ⟨gb315, 1, none⟩ = some (.bool a0_1) ∧ w'.cell? ⟨gb315, 2, none⟩ = some (.bool a0_2) ∧ w'.cell? ⟨gb315, 3, none⟩ = some (.bool a0_3) ∧ w'.cell? ⟨gb315, 4, none⟩ = some (.bool a0_4) ∧ w'.cell? ⟨gb315, 5, none⟩ = some (.bool a0_5) ∧ w'.cell? ⟨gb315, 6, none⟩ = some (.int .i64 a0_6) ∧ w'.cell? ⟨gb315, 7, none⟩ = some (.string a0_7) ∧ w'.cell? ⟨gb315, 8, none⟩ = some (.int .i64 a0_8) ∧ w'.cell? ⟨gb315, 9, none⟩ = some (.slice A0_9 l0_9.length c0_9) ∧ w'.cell? ⟨gb315, 10, none⟩ = some (.slice A0_10 l0_10.length c0_10) ∧ w'.cell? ⟨gb315, 11, none⟩ = some (.slice A0_11 l0_11.length c0_11)) (ds := []) #[false, false, false, false, false] jK rfl rfl ⟨(blk_cell BK354.out 0).trans rfl, (blk_cell BK354.out 1).trans rfl, (blk_cell BK354.out 2).trans rfl, (blk_cell BK354.out 3).trans rfl, (blk_cell BK354.out 4).trans rfl, (blk_cell BK354.out 5).trans rfl, (blk_cell BK354.out 6).trans rfl, (blk_cell BK354.out 7).trans rfl, (blk_cell BK354.out 8).trans rfl, (blk_cell BK354.out 9).trans rfl, (blk_cell BK354.out 10).trans rfl, (blk_cell BK354.out 11).trans rfl, (blk_cell BK315.out 0).trans rfl, (blk_cell BK315.out 1).trans rfl, (blk_cell BK315.out 2).trans rfl, (blk_cell BK315.out 3).trans rfl, (blk_cell BK315.out 4).trans rfl, (blk_cell BK315.out 5).trans rfl, (blk_cell BK315.out 6).trans rfl, (blk_cell BK315.out 7).trans rfl, (blk_cell BK315.out 8).trans rfl, (blk_cell BK315.out 9).trans rfl, (blk_cell BK315.out 10).trans rfl, (blk_cell BK315.out 11).trans rfl⟩ (fun hHeld => ?_)
    generalize w34.drew = w35 at HO328 HO331 HO334 HO347 HO350 HO353 BK315 BK354 HB hHeld ⊢
    refine take_ (i := 0) (N := some 22) (v := ?_) (a' := ?_) #[true, false, false, false, false] rfl rfl jK (fun _ _ _ h => h) (Or.inl ⟨by rfl, ?_⟩) hHeld ?_ ?_
    rotate_left
    ·rintro w' ⟨s0, s1, s2, s3, s4, s5, s6, s7, s8, s9, s10, s11, s12, s13, s14, s15, s16, s17, s18, s19, s20, s21, s22, s23⟩
     go_simp
     with_reducible rfl
    rotate_left
    ·simp only [Act.put, List.setIfInBounds_toArray, List.set_cons_zero, List.set_cons_succ, i64_w, i32_w]
     rfl
    refine take_ (i := 1) (N := some 23) (v := ?_) (a' := ?_) #[true, true, false, false, false] rfl rfl jK (fun _ _ _ h => h) (Or.inl ⟨by rfl, ?_⟩) hHeld ?_ ?_
    rotate_left
    ·rintro w' ⟨s0, s1, s2, s3, s4, s5, s6, s7, s8, s9, s10, s11, s12, s13, s14, s15, s16, s17, s18, s19, s20, s21, s22, s23⟩
     go_simp
     with_reducible rfl
    rotate_left
    ·simp only [Act.put, List.setIfInBounds_toArray, List.set_cons_zero, List.set_cons_succ, i64_w, i32_w]
     rfl
    refine one_ (i := 2) (N := some 24) #[true, true, true, false, false] rfl rfl jK (by decide) (fun K hK => ?_)
    refine goes_ Tryd.func29 jK rfl #[.agg #[.int .i64 a0_0, .bool a0_1, .bool a0_2, .bool a0_3, .bool a0_4, .bool a0_5, .int .i64 a0_6, .string a0_7, .int .i64 a0_8, .slice A0_9 l0_9.length c0_9, .slice A0_10 l0_10.length c0_10, .slice A0_11 l0_11.length c0_11]] (by rfl) rfl rfl jA ?_
    with_reducible refine (laws_toMsg.calls k a0_0 a0_1 a0_2 a0_3 a0_4 a0_5 a0_6 a0_7 a0_8 _ _ l0_9 _ _ l0_10 _ _ l0_11 t356 t357 t358 t359 t360 t361 t362 t363 t364 t365 t368 t371 _ ?side1 ?side2 ?side3 ?side4 ?side5 ?side6 A12.out).mono ?_
    (case side1 => exact cU ((Kd.C_below HR0_9.out HB.out)))
    (case side2 => exact HC0_9.out)
    (case side3 => exact cU ((Kd.C_below HR0_10.out HB.out)))
    (case side4 => exact HC0_10.out)
    (case side5 => exact cU ((Kd.C_below HR0_11.out HB.out)))
    (case side6 => exact HC0_11.out)
    rintro e w36 ⟨v366, v369, v372, rfl, ho0, ho1, ho2, hb⟩
    refine ⟨_, rfl, ?_⟩
    have n0_ := aS (Kd.R_mono (Kd.R_told (Kd.R_told (Kd.R_told (Kd.R_old (rU HO328.out) hb) (Kd.R_base ho0)) (Kd.R_base ho1)) (Kd.R_base ho2)) (fun _ h_ => h_.1))
    have n1_ := aS (Kd.R_mono (Kd.R_told (Kd.R_told (Kd.R_told (Kd.R_old (rU HO331.out) hb) (Kd.R_base ho0)) (Kd.R_base ho1)) (Kd.R_base ho2)) (fun _ h_ => h_.1))
    have n2_ := aS (Kd.R_mono (Kd.R_told (Kd.R_told (Kd.R_told (Kd.R_old (rU HO334.out) hb) (Kd.R_base ho0)) (Kd.R_base ho1)) (Kd.R_base ho2)) (fun _ h_ => h_.1))
    have n3_ := aS (Kd.R_mono (Kd.R_told (Kd.R_told (Kd.R_told (Kd.R_old (rU HO347.out) hb) (Kd.R_base ho0)) (Kd.R_base ho1)) (Kd.R_base ho2)) (fun _ h_ => h_.1))
    have n4_ := aS (Kd.R_mono (Kd.R_told (Kd.R_told (Kd.R_told (Kd.R_old (rU HO350.out) hb) (Kd.R_base ho0)) (Kd.R_base ho1)) (Kd.R_base ho2)) (fun _ h_ => h_.1))
    have n5_ := aS (Kd.R_mono (Kd.R_told (Kd.R_told (Kd.R_told (Kd.R_old (rU HO353.out) hb) (Kd.R_base ho0)) (Kd.R_base ho1)) (Kd.R_base ho2)) (fun _ h_ => h_.1))
    have n6_ := aS (Kd.R_lower (Kd.R_new' (Kd.R_new' (Kd.R_new' (Kd.R_new' (Kd.R_new' (Kd.R_new' ho0 (Kd.R_lt (rU HO328.out))) (Kd.R_lt (rU HO331.out))) (Kd.R_lt (rU HO334.out))) (Kd.R_lt (rU HO347.out))) (Kd.R_lt (rU HO350.out))) (Kd.R_lt (rU HO353.out))) (below_size (wS2 HB.out GE315.out GE354.out)))
    have n7_ := aS (Kd.R_lower (Kd.R_new' (Kd.R_new' (Kd.R_new' (Kd.R_new' (Kd.R_new' (Kd.R_new' ho1 (Kd.R_lt (rU HO328.out))) (Kd.R_lt (rU HO331.out))) (Kd.R_lt (rU HO334.out))) (Kd.R_lt (rU HO347.out))) (Kd.R_lt (rU HO350.out))) (Kd.R_lt (rU HO353.out))) (below_size (wS2 HB.out GE315.out GE354.out)))
    have n8_ := aS (Kd.R_lower (Kd.R_new' (Kd.R_new' (Kd.R_new' (Kd.R_new' (Kd.R_new' (Kd.R_new' ho2 (Kd.R_lt (rU HO328.out))) (Kd.R_lt (rU HO331.out))) (Kd.R_lt (rU HO334.out))) (Kd.R_lt (rU HO347.out))) (Kd.R_lt (rU HO350.out))) (Kd.R_lt (rU HO353.out))) (below_size (wS2 HB.out GE315.out GE354.out)))
    have n9_ := aS (blk_below (bU BK315.out) hb)
    have n10_ := aS (blk_below (bU BK354.out) hb)
    have n11_ := aS (below_step (wS2 HB.out GE315.out GE354.out) hb)
    clear HO328
    clear HO331
    clear HO334
    clear HO347
    clear HO350
    clear HO353
    clear BK315
    clear BK354
    clear HB
    have HO328 := n0_
    have HO331 := n1_
    have HO334 := n2_
    have HO347 := n3_
    have HO350 := n4_
    have HO353 := n5_
    have HO367 := n6_
    have HO370 := n7_
    have HO373 := n8_
    have BK315 := n9_
    have BK354 := n10_
    have HB := n11_
    clear n0_ n1_ n2_ n3_ n4_ n5_ n6_ n7_ n8_ n9_ n10_ n11_
    (try clear hb)
    (try clear hb2)
    (try clear hk)
    (try clear hi)
    (try clear ho0)
    (try clear ho1)
    (try clear ho2)
    obtain ⟨Ao37, co37, eo37⟩ := Kd.R_slice HO367.out
    (first | subst eo37 | (injection eo37 with f1_ f2_ f3_; have f4_ := f1_.symm; have f5_ := f3_.symm; clear f1_ f2_ f3_; subst f4_; subst f5_))
    obtain ⟨Ao38, co38, eo38⟩ := Kd.R_slice HO370.out
    (first | subst eo38 | (injection eo38 with f1_ f2_ f3_; have f4_ := f1_.symm; have f5_ := f3_.symm; clear f1_ f2_ f3_; subst f4_; subst f5_))
    obtain ⟨Ao39, co39, eo39⟩ := Kd.R_slice HO373.out
    (first | subst eo39 | (injection eo39 with f1_ f2_ f3_; have f4_ := f1_.symm; have f5_ := f3_.symm; clear f1_ f2_ f3_; subst f4_; subst f5_))
    refine hK.out _ _ ⟨(blk_cell BK354.out 0).trans rfl, (blk_cell BK354.out 1).trans rfl, (blk_cell BK354.out 2).trans rfl, (blk_cell BK354.out 3).trans rfl, (blk_cell BK354.out 4).trans rfl, (blk_cell BK354.out 5).trans rfl, (blk_cell BK354.out 6).trans rfl, (blk_cell BK354.out 7).trans rfl, (blk_cell BK354.out 8).trans rfl, (blk_cell BK354.out 9).trans rfl, (blk_cell BK354.out 10).trans rfl, (blk_cell BK354.out 11).trans rfl, (blk_cell BK315.out 0).trans rfl, (blk_cell BK315.out 1).trans rfl, (blk_cell BK315.out 2).trans rfl, (blk_cell BK315.out 3).trans rfl, (blk_cell BK315.out 4).trans rfl, (blk_cell BK315.out 5).trans rfl, (blk_cell BK315.out 6).trans rfl, (blk_cell BK315.out 7).trans rfl, (blk_cell BK315.out 8).trans rfl, (blk_cell BK315.out 9).trans rfl, (blk_cell BK315.out 10).trans rfl, (blk_cell BK315.out 11).trans rfl⟩ (fun hHeld => ?_)
    clear hK K
    refine norm_ (a' := ?_) ?_ ?_
    rotate_left
    ·show Act.put _ (some 24) _ = _
     simp only [Act.put, List.setIfInBounds_toArray, List.set_cons_zero, List.set_cons_succ, i64_w, i32_w]
     rfl
    refine one_ (i := 3) (N := some 25) #[true, true, true, true, false] rfl rfl jK (by decide) (fun K hK => ?_)
    refine goes_ Tryd.func31 jK rfl #[.agg #[.int .i64 t336, .bool t337, .bool t338, .bool t339, .bool t340, .bool t341, .int .i64 t342, .string t343, .int .i64 t344, .slice Ao29 t345.length co29, .slice Ao30 t348.length co30, .slice Ao31 t351.length co31], .agg #[.int .i64 t356, .bool t357, .bool t358, .bool t359, .bool t360, .bool t361, .int .i64 t362, .string t363, .int .i64 t364, .slice Ao37 t365.length co37, .slice Ao38 t368.length co38, .slice Ao39 t371.length co39]] (by rfl) rfl rfl jA ?_
    with_reducible refine (laws_eqMsg.calls k t336 t337 t338 t339 t340 t341 t342 t343 t344 _ _ t345 _ _ t348 _ _ t351 t356 t357 t358 t359 t360 t361 t362 t363 t364 _ _ t365 _ _ t368 _ _ t371 true _ ?side1 ?side2 ?side3 ?side4 ?side5 ?side6 ?side7 ?side8 ?side9 ?side10 ?side11 ?side12 A13.out).mono ?_
    (case side1 => exact cU ((Kd.R_reads' HO347.out).2.2))
    (case side2 => exact (Kd.R_reads' HO347.out).2.1)
    (case side3 => exact cU ((Kd.R_reads' HO350.out).2.2))
    (case side4 => exact (Kd.R_reads' HO350.out).2.1)
    (case side5 => exact cU ((Kd.R_reads' HO353.out).2.2))
    (case side6 => exact (Kd.R_reads' HO353.out).2.1)
    (case side7 => exact cU ((Kd.R_reads' HO367.out).2.2))
    (case side8 => exact (Kd.R_reads' HO367.out).2.1)
    (case side9 => exact cU ((Kd.R_reads' HO370.out).2.2))
    (case side10 => exact (Kd.R_reads' HO370.out).2.1)
    (case side11 => exact cU ((Kd.R_reads' HO373.out).2.2))
    (case side12 => exact (Kd.R_reads' HO373.out).2.1)
    rintro e w40 ⟨rfl, hb⟩
    refine ⟨_, rfl, ?_⟩
    have n0_ := aS (Kd.R_below (rU HO328.out) hb)
    have n1_ := aS (Kd.R_below (rU HO331.out) hb)
    have n2_ := aS (Kd.R_below (rU HO334.out) hb)
    have n3_ := aS (Kd.R_below (rU HO347.out) hb)
    have n4_ := aS (Kd.R_below (rU HO350.out) hb)
    have n5_ := aS (Kd.R_below (rU HO353.out) hb)
    have n6_ := aS (Kd.R_below (rU HO367.out) hb)
    have n7_ := aS (Kd.R_below (rU HO370.out) hb)
    have n8_ := aS (Kd.R_below (rU HO373.out) hb)
    have n9_ := aS (blk_below (bU BK315.out) hb)
    have n10_ := aS (blk_below (bU BK354.out) hb)
    have n11_ := aS (below_step (wS2 HB.out GE315.out GE354.out) hb)
    clear HO328
    clear HO331
    clear HO334
    clear HO347
    clear HO350
    clear HO353
    clear HO367
    clear HO370
    clear HO373
    clear BK315
    clear BK354
    clear HB
    have HO328 := n0_
    have HO331 := n1_
    have HO334 := n2_
    have HO347 := n3_
    have HO350 := n4_
    have HO353 := n5_
    have HO367 := n6_
    have HO370 := n7_
    have HO373 := n8_
    have BK315 := n9_
    have BK354 := n10_
    have HB := n11_
    clear n0_ n1_ n2_ n3_ n4_ n5_ n6_ n7_ n8_ n9_ n10_ n11_
    (try clear hb)
    (try clear hb2)
    (try clear hk)
    (try clear hi)
    refine hK.out _ _ ⟨(blk_cell BK354.out 0).trans rfl, (blk_cell BK354.out 1).trans rfl, (blk_cell BK354.out 2).trans rfl, (blk_cell BK354.out 3).trans rfl, (blk_cell BK354.out 4).trans rfl, (blk_cell BK354.out 5).trans rfl, (blk_cell BK354.out 6).trans rfl, (blk_cell BK354.out 7).trans rfl, (blk_cell BK354.out 8).trans rfl, (blk_cell BK354.out 9).trans rfl, (blk_cell BK354.out 10).trans rfl, (blk_cell BK354.out 11).trans rfl, (blk_cell BK315.out 0).trans rfl, (blk_cell BK315.out 1).trans rfl, (blk_cell BK315.out 2).trans rfl, (blk_cell BK315.out 3).trans rfl, (blk_cell BK315.out 4).trans rfl, (blk_cell BK315.out 5).trans rfl, (blk_cell BK315.out 6).trans rfl, (blk_cell BK315.out 7).trans rfl, (blk_cell BK315.out 8).trans rfl, (blk_cell BK315.out 9).trans rfl, (blk_cell BK315.out 10).trans rfl, (blk_cell BK315.out 11).trans rfl⟩ (fun hHeld => ?_)
    clear hK K
    refine norm_ (a' := ?_) ?_ ?_
    rotate_left
    ·show Act.put _ (some 25) _ = _
     simp only [Act.put, List.setIfInBounds_toArray, List.set_cons_zero, List.set_cons_succ, i64_w, i32_w]
     rfl
    refine pure_ (i := 4) (N := some 26) (v := ?_) (a' := ?_) #[true, true, true, true, true] rfl rfl jK (fun _ _ _ h => h) (Or.inl ⟨by rfl, ?_⟩) ?_ ?_
    rotate_left
    ·intro w'
     go_simp
     with_reducible rfl
    rotate_left
    ·simp only [Act.put, List.setIfInBounds_toArray, List.set_cons_zero, List.set_cons_succ, i64_w, i32_w]
     rfl
    refine done_ jK ?_
    try go_wp2
    go_ret
    exact ⟨by first | rfl | (simp [errW_none, errW_some] <;> rfl) | (simp [*, errW_none, errW_some] <;> rfl) | (exfalso; simp_all; done) | ((have ai_ : ∀ p : Prop, Aside0 p ↔ p := fun p => ⟨fun h => h.out, fun h => ⟨h⟩⟩); simp_all [ai_]; done), by exact wS2 HB.out GE315.out GE354.out⟩
   ·replace c14 := Bool.eq_false_iff.mpr c14
    subst c14
    have H1 : (some false) = some r := by rw [if_neg (show ¬ (false = true) by decide)] at H; exact H
    clear H
    have H := H1
    clear H1
    exact absurd (H.trans (congrArg some hrt_)) (by simp)
  ·rw [if_neg c11] at H
   have c11b0 : (t355.toList == t335.toList) = false := beq_eq_false_iff_ne.mpr c11
   have c11b1 : (t355.toList != t335.toList) = true := bne_iff_ne.mpr c11
   exact absurd (H.trans (congrArg some hrt_)) (by simp)

/-- The one pure statement of laws_FnExactMsgText. -/
def laws_FnExactMsgText.Pure : Prop := ∀ (a0_0 : Int) (a0_1 : Bool) (a0_2 : Bool) (a0_3 : Bool) (a0_4 : Bool) (a0_5 : Bool) (a0_6 : Int) (a0_7 : ByteArray) (a0_8 : Int) (l0_9 : List (S30)) (l0_10 : List (S30)) (l0_11 : List (S30)), g42 (⟨a0_0, a0_1, a0_2, a0_3, a0_4, a0_5, a0_6, (⟨a0_7, a0_8⟩ : S39), l0_9, l0_10, l0_11⟩ : S42) → ∃ k, laws_FnExactMsgText.f k a0_0 a0_1 a0_2 a0_3 a0_4 a0_5 a0_6 a0_7 a0_8 l0_9 l0_10 l0_11 = some true

end Go.Proofs.YtfmnofjijodgcaaDoor.Pr
