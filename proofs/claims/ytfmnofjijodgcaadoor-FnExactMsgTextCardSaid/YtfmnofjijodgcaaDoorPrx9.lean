-- Written for this claim by a program of this session (wip/tool/pr.py, over the kit's printer).
-- half
import Derived.Test.YtfmnofjijodgcaaDoorPrx0
import Derived.Test.YtfmnofjijodgcaaDoorPrx8
namespace Go.Proofs.YtfmnofjijodgcaaDoor.Pr
open Go.RowKit Go.Proofs.YtfmnofjijodgcaaDoorW.PrintWords Go.Proofs.YtfmnofjijodgcaaDoorW.PrintLast Go.Proofs.YtfmnofjijodgcaaDoorW.PrintMore
attribute [local go_sem] max2_int min2_int max_two min_two max_three min_three max_four min_four   -- for this text's walks alone
set_option linter.unusedVariables false
set_option linter.unusedSimpArgs false

/-! ### impl_RecordOk: function 60 -/
mutual
def impl_RecordOk.j0 : Nat → Bool → ByteArray → Int → Int → Int → ByteArray → ByteArray → Option (Bool)
 | 0, _, _, _, _, _, _, _ => none
 | k + 1, x12, x234000, x234001, x234002, x234003, x234004, x234005 => if x12 = true then (some false) else (if x234001 = 1 then ((impl_isFour.f x234003).bind fun t236 => (if t236 = true then (if x234004.toList = ([] : List UInt8) then (some (x234005.toList == ([] : List UInt8))) else (some false)) else (some false))) else (if x234001 = 2 then (impl_RecordOk.j1 k x234001 (x234001 == 2) x234000 x234001 x234002 x234003 x234004 x234005) else (impl_RecordOk.j1 k x234001 (x234001 == 5) x234000 x234001 x234002 x234003 x234004 x234005)))
def impl_RecordOk.j1 : Nat → Int → Bool → ByteArray → Int → Int → Int → ByteArray → ByteArray → Option (Bool)
 | 0, _, _, _, _, _, _, _, _ => none
 | k + 1, x14, x30, x234000, x234001, x234002, x234003, x234004, x234005 => if x30 = true then (if x234003 = 0 then ((impl_NameOk.f k x234004).bind fun t237 => (if t237 = true then (some (x234005.toList == ([] : List UInt8))) else (some false))) else (some false)) else (if x14 = 6 then ((impl_isTtl.f x234003).bind fun t238 => (if t238 = true then ((impl_NameOk.f k x234004).bind fun t239 => (if t239 = true then (some (x234005.toList == ([] : List UInt8))) else (some false))) else (some false))) else (if x14 = 16 then (if x234003 = 0 then (if x234004.toList = ([] : List UInt8) then ((impl_isText.f k x234005).bind fun t240 => (some t240)) else (some false)) else (some false)) else (some false)))
end
def impl_RecordOk.f (k : Nat) (a0_0 : ByteArray) (a0_1 : Int) (a0_2 : Int) (a0_3 : Int) (a0_4 : ByteArray) (a0_5 : ByteArray) : Option (Bool) := (impl_NameOk.f k a0_0).bind fun t234 => (if t234 = true then ((impl_isTtl.f a0_2).bind fun t235 => (impl_RecordOk.j0 k (!t235) a0_0 a0_1 a0_2 a0_3 a0_4 a0_5)) else (impl_RecordOk.j0 k true a0_0 a0_1 a0_2 a0_3 a0_4 a0_5))
theorem impl_RecordOk.mono_l : ∀ k, (∀ y0 y1 y2 y3 y4 y5 y6, LeO (impl_RecordOk.j0 k y0 y1 y2 y3 y4 y5 y6) (impl_RecordOk.j0 (k + 1) y0 y1 y2 y3 y4 y5 y6)) ∧ (∀ y0 y1 y2 y3 y4 y5 y6 y7, LeO (impl_RecordOk.j1 k y0 y1 y2 y3 y4 y5 y6 y7) (impl_RecordOk.j1 (k + 1) y0 y1 y2 y3 y4 y5 y6 y7))
 | 0 => ⟨fun _ _ _ _ _ _ _ r h => by simp [impl_RecordOk.j0] at h, fun _ _ _ _ _ _ _ _ r h => by simp [impl_RecordOk.j1] at h⟩
 | k + 1 => by
  obtain ⟨ih0, ih1⟩ := impl_RecordOk.mono_l k
  refine ⟨?_, ?_⟩
  ·intro y0 y1 y2 y3 y4 y5 y6
   unfold impl_RecordOk.j0
   repeat' first
   | (with_reducible first | exact ih0 _ _ _ _ _ _ _ | exact ih1 _ _ _ _ _ _ _ _ | exact impl_NameOk.mono _ _ | exact impl_isText.mono _ _ | exact LeO.refl _ | exact LeO.none _ | refine LeO.ite ?_ ?_ | refine LeO.bind ?_ (fun _ => ?_))
   | exact ih0 _ _ _ _ _ _ _
   | exact ih1 _ _ _ _ _ _ _ _
   | exact impl_NameOk.mono _ _
   | exact impl_isText.mono _ _
   | exact LeO.none _
   | refine LeO.ite ?_ ?_
   | refine LeO.bind ?_ (fun _ => ?_)
  ·intro y0 y1 y2 y3 y4 y5 y6 y7
   unfold impl_RecordOk.j1
   repeat' first
   | (with_reducible first | exact ih0 _ _ _ _ _ _ _ | exact ih1 _ _ _ _ _ _ _ _ | exact impl_NameOk.mono _ _ | exact impl_isText.mono _ _ | exact LeO.refl _ | exact LeO.none _ | refine LeO.ite ?_ ?_ | refine LeO.bind ?_ (fun _ => ?_))
   | exact ih0 _ _ _ _ _ _ _
   | exact ih1 _ _ _ _ _ _ _ _
   | exact impl_NameOk.mono _ _
   | exact impl_isText.mono _ _
   | exact LeO.none _
   | refine LeO.ite ?_ ?_
   | refine LeO.bind ?_ (fun _ => ?_)
theorem impl_RecordOk.mono : ∀ a0 a1 a2 a3 a4 a5 k, LeO (impl_RecordOk.f k a0 a1 a2 a3 a4 a5) (impl_RecordOk.f (k + 1) a0 a1 a2 a3 a4 a5) := by
 intro a0 a1 a2 a3 a4 a5 k
 obtain ⟨ih0, ih1⟩ := impl_RecordOk.mono_l k
 unfold impl_RecordOk.f
 repeat' first
   | (with_reducible first | exact ih0 _ _ _ _ _ _ _ | exact ih1 _ _ _ _ _ _ _ _ | exact impl_NameOk.mono _ _ | exact impl_isText.mono _ _ | exact LeO.refl _ | exact LeO.none _ | refine LeO.ite ?_ ?_ | refine LeO.bind ?_ (fun _ => ?_))
   | exact ih0 _ _ _ _ _ _ _
   | exact ih1 _ _ _ _ _ _ _ _
   | exact impl_NameOk.mono _ _
   | exact impl_isText.mono _ _
   | exact LeO.none _
   | refine LeO.ite ?_ ?_
   | refine LeO.bind ?_ (fun _ => ?_)
set_option maxHeartbeats 8000000 in
set_option maxRecDepth 100000 in
theorem impl_RecordOk.calls (k : Nat) (a0_0 : ByteArray) (a0_1 : Int) (a0_2 : Int) (a0_3 : Int) (a0_4 : ByteArray) (a0_5 : ByteArray) (r : Bool) (w : World) (h : impl_RecordOk.f k a0_0 a0_1 a0_2 a0_3 a0_4 a0_5 = some r) :
  Calls Tryd.prog 60 #[.agg #[.string a0_0, .int .i64 a0_1, .int .i64 a0_2, .int .i64 a0_3, .string a0_4, .string a0_5]] w fun e w' => e = .returned (.bool r) ∧ Below w.heap.size w w' := by
 have hu33 := Tryd.underlying33
 have HB := aS (Below.refl w.heap.size w)
 have H : ((impl_NameOk.f k a0_0).bind fun t234 => (if t234 = true then ((impl_isTtl.f a0_2).bind fun t235 => (impl_RecordOk.j0 k (!t235) a0_0 a0_1 a0_2 a0_3 a0_4 a0_5)) else (impl_RecordOk.j0 k true a0_0 a0_1 a0_2 a0_3 a0_4 a0_5))) = some r := h
 clear h
 have HC2 := aS H
 clear H
 go_enter Tryd.func60, Tryd.ntmps60
 go_upto_region 1 with (first | ((with_reducible refine gate_dst (N := 1) rfl ?_); refine box_event ?hg (N := 1) ?hd (cs := #[.string a0_0, .int .i64 a0_1, .int .i64 a0_2, .int .i64 a0_3, .string a0_4, .string a0_5]) (t := 33) ?hr ?_; (case hd => rfl); (case hg => rfl); (case hr => first | (go_simp; done) | (go_simp; rfl)); intro gb233 hg w3 hbox hb; have n0_ := aS (below_step (wU HB.out) hb); have n1_ := aS (hbox); have n2_ := aS ((by rw [hg]; exact (below_size (wU HB.out)) : w.heap.size ≤ gb233)); have n3_ := aS ((by rw [hg]; exact (below_size (wU HB.out)) : w.heap.size ≤ gb233)); clear HB; revert n0_ n1_ n2_ n3_; intro HB BK233 GW233 GE233; clear hb hbox hg))
 (try simp only [Act.put, List.setIfInBounds_toArray, List.set_cons_zero, List.set_cons_succ])
 go_cut [12] (fun v12 wc => ∃ (kq : Nat) (x12_1 : Bool), v12 = .bool x12_1 ∧ Aside0 (impl_RecordOk.j0 kq x12_1 a0_0 a0_1 a0_2 a0_3 a0_4 a0_5 = some r) ∧ Aside0 (kq ≤ k) ∧ Aside0 (wc.heap[gb233]? = some (.cells #[.string a0_0, .int .i64 a0_1, .int .i64 a0_2, .int .i64 a0_3, .string a0_4, .string a0_5] 33 (0, 0))) ∧ Aside0 (Below w.heap.size w wc))
 case first =>
  have H := HC2.out
  clear HC2
  replace H := Option.bind_eq_some_iff.mp H
  obtain ⟨t234, A4, H⟩ := H
  try dsimp only at H
  replace A4 := aS A4
  by_cases c5 : t234 = true
  ·subst c5
   have H1 : ((impl_isTtl.f a0_2).bind fun t235 => (impl_RecordOk.j0 k (!t235) a0_0 a0_1 a0_2 a0_3 a0_4 a0_5)) = some r := by rw [if_pos rfl] at H; exact H
   clear H
   have H := H1
   clear H1
   replace H := Option.bind_eq_some_iff.mp H
   obtain ⟨t235, A6, H⟩ := H
   try dsimp only at H
   replace A6 := aS A6
   have H' := aS H
   clear H
   have hcz7 := cells6f BK233.out
   go_wp2_with (first | ((with_reducible refine gate_callee (f := 83) rfl ?_); refine goesL_ (some 5) rfl rfl Tryd.func83 jK rfl #[.string a0_0] rfl jA ?_; (with_reducible refine (impl_NameOk.calls k a0_0 true _ A4.out).mono ?_); rintro e w8 ⟨rfl, hb⟩; refine ⟨_, rfl, ?_⟩; have n0_ := aS (blk_below (bU BK233.out) hb); have n1_ := aS (below_step (wS1 HB.out GE233.out) hb); clear BK233 HB; revert n0_ n1_; intro BK233 HB; clear hb; have hcz9 := cells6f BK233.out) | (go_at_call 107; (with_reducible refine (impl_isTtl.calls a0_2 t235 _ A6.out).mono ?_); rintro e w' ⟨rfl, ⟨nd, rfl⟩⟩))
   go_meet
   case rel => exact ⟨_, (!t235), jB, H', ⟨by first | omega | exact Nat.le_refl _⟩, ⟨by (with_reducible repeat (first | refine blk_drewN ?_ _ | refine blk_drew ?_ | refine blk_alloc ?_ _)); exact BK233.out⟩, ⟨by exact wS1 HB.out GE233.out⟩⟩
  ·replace c5 := Bool.eq_false_iff.mpr c5
   subst c5
   have H1 : (impl_RecordOk.j0 k true a0_0 a0_1 a0_2 a0_3 a0_4 a0_5) = some r := by rw [if_neg (show ¬ (false = true) by decide)] at H; exact H
   clear H
   have H := H1
   clear H1
   have H' := aS H
   clear H
   have hcz10 := cells6f BK233.out
   go_wp2_with (first | ((with_reducible refine gate_callee (f := 83) rfl ?_); refine goesL_ (some 5) rfl rfl Tryd.func83 jK rfl #[.string a0_0] rfl jA ?_; (with_reducible refine (impl_NameOk.calls k a0_0 false _ A4.out).mono ?_); rintro e w11 ⟨rfl, hb⟩; refine ⟨_, rfl, ?_⟩; have n0_ := aS (blk_below (bU BK233.out) hb); have n1_ := aS (below_step (wS1 HB.out GE233.out) hb); clear BK233 HB; revert n0_ n1_; intro BK233 HB; clear hb))
   go_meet
   case rel => exact ⟨_, (true), jB, H', ⟨by first | omega | exact Nat.le_refl _⟩, ⟨by (with_reducible repeat (first | refine blk_drewN ?_ _ | refine blk_drew ?_ | refine blk_alloc ?_ _)); exact BK233.out⟩, ⟨by exact wS1 HB.out GE233.out⟩⟩
 case rest =>
  clear HC2
  try clear p2
  try clear c5
  try clear c6
  try clear c8
  try clear hcz10
  try clear hcz7
  try clear hcz9
  obtain ⟨kq, x12_1, rfl, HA, HJ1, BK233, HB⟩ := hcut
  cases kq with
  | zero => exact absurd HA.out (by simp [impl_RecordOk.j0])
  | succ kj1 =>
   have H := HA.out
   clear HA
   simp only [impl_RecordOk.j0] at H
   by_cases c12 : x12_1 = true
   ·subst c12
    have H1 : (some false) = some r := by rw [if_pos rfl] at H; exact H
    clear H
    have H := H1
    clear H1
    obtain rfl := Option.some.inj H
    go_wp2
    go_ret
    exact ⟨jE, by exact wS1 HB.out GE233.out⟩
   ·replace c12 := Bool.eq_false_iff.mpr c12
    subst c12
    have H1 : (if a0_1 = 1 then ((impl_isFour.f a0_3).bind fun t236 => (if t236 = true then (if a0_4.toList = ([] : List UInt8) then (some (a0_5.toList == ([] : List UInt8))) else (some false)) else (some false))) else (if a0_1 = 2 then (impl_RecordOk.j1 kj1 a0_1 (a0_1 == 2) a0_0 a0_1 a0_2 a0_3 a0_4 a0_5) else (impl_RecordOk.j1 kj1 a0_1 (a0_1 == 5) a0_0 a0_1 a0_2 a0_3 a0_4 a0_5))) = some r := by rw [if_neg (show ¬ (false = true) by decide)] at H; exact H
    clear H
    have H := H1
    clear H1
    by_cases c13 : a0_1 = 1
    ·rw [if_pos c13] at H
     have c13b0 : (a0_1 == 1) = true := beq_iff_eq.mpr c13
     have c13b1 : (a0_1 != 1) = false := bne_eq_false_iff_eq.mpr c13
     clear c13
     replace H := Option.bind_eq_some_iff.mp H
     obtain ⟨t236, A14, H⟩ := H
     try dsimp only at H
     replace A14 := aS A14
     by_cases c15 : t236 = true
     ·subst c15
      have H1 : (if a0_4.toList = ([] : List UInt8) then (some (a0_5.toList == ([] : List UInt8))) else (some false)) = some r := by rw [if_pos rfl] at H; exact H
      clear H
      have H := H1
      clear H1
      by_cases c16 : a0_4.toList = ([] : List UInt8)
      ·rw [if_pos c16] at H
       have c16b0 : (a0_4.toList == ([] : List UInt8)) = true := beq_iff_eq.mpr c16
       have c16b1 : (a0_4.toList != ([] : List UInt8)) = false := bne_eq_false_iff_eq.mpr c16
       clear c16
       obtain rfl := Option.some.inj H
       have hcz17 := cells6f BK233.out
       go_wp2_with (first | ((with_reducible refine gate_callee (f := 108) rfl ?_); refine goesL_ (some 19) rfl rfl Tryd.func108 jK rfl #[.int .i64 a0_3] rfl jA ?_; (with_reducible refine (impl_isFour.calls a0_3 true _ A14.out).mono ?_); rintro e w' ⟨rfl, ⟨nd, rfl⟩⟩; refine ⟨_, rfl, ?_⟩))
       go_ret
       exact ⟨jE, by exact wS1 HB.out GE233.out⟩
      ·rw [if_neg c16] at H
       have c16b0 : (a0_4.toList == ([] : List UInt8)) = false := beq_eq_false_iff_ne.mpr c16
       have c16b1 : (a0_4.toList != ([] : List UInt8)) = true := bne_iff_ne.mpr c16
       obtain rfl := Option.some.inj H
       have hcz18 := cells6f BK233.out
       go_wp2_with (first | ((with_reducible refine gate_callee (f := 108) rfl ?_); refine goesL_ (some 19) rfl rfl Tryd.func108 jK rfl #[.int .i64 a0_3] rfl jA ?_; (with_reducible refine (impl_isFour.calls a0_3 true _ A14.out).mono ?_); rintro e w' ⟨rfl, ⟨nd, rfl⟩⟩; refine ⟨_, rfl, ?_⟩))
       go_ret
       exact ⟨jE, by exact wS1 HB.out GE233.out⟩
     ·replace c15 := Bool.eq_false_iff.mpr c15
      subst c15
      have H1 : (some false) = some r := by rw [if_neg (show ¬ (false = true) by decide)] at H; exact H
      clear H
      have H := H1
      clear H1
      obtain rfl := Option.some.inj H
      have hcz19 := cells6f BK233.out
      go_wp2_with (first | ((with_reducible refine gate_callee (f := 108) rfl ?_); refine goesL_ (some 19) rfl rfl Tryd.func108 jK rfl #[.int .i64 a0_3] rfl jA ?_; (with_reducible refine (impl_isFour.calls a0_3 false _ A14.out).mono ?_); rintro e w' ⟨rfl, ⟨nd, rfl⟩⟩; refine ⟨_, rfl, ?_⟩))
      go_ret
      exact ⟨jE, by exact wS1 HB.out GE233.out⟩
    ·rw [if_neg c13] at H
     have c13b0 : (a0_1 == 1) = false := beq_eq_false_iff_ne.mpr c13
     have c13b1 : (a0_1 != 1) = true := bne_iff_ne.mpr c13
     have HC20 := aS H
     clear H
     have hcz21 := cells6f BK233.out
     go_upto_if 30 with (fail)
     go_cut [30] (fun v30 wc => ∃ (kq : Nat) (x30_19 : Bool), v30 = .bool x30_19 ∧ Aside0 (impl_RecordOk.j1 kq a0_1 x30_19 a0_0 a0_1 a0_2 a0_3 a0_4 a0_5 = some r) ∧ Aside0 (kq ≤ kj1) ∧ Aside0 (wc.heap[gb233]? = some (.cells #[.string a0_0, .int .i64 a0_1, .int .i64 a0_2, .int .i64 a0_3, .string a0_4, .string a0_5] 33 (0, 0))) ∧ Aside0 (Below w.heap.size w wc))
     case first =>
      have H := HC20.out
      clear HC20
      by_cases c22 : a0_1 = 2
      ·rw [if_pos c22] at H
       have c22b0 : (a0_1 == 2) = true := beq_iff_eq.mpr c22
       have c22b1 : (a0_1 != 2) = false := bne_eq_false_iff_eq.mpr c22
       clear c22
       (first | rw [c22b0] | (simp only [i64_w, i32_w]; rw [c22b0]) | skip)
       have H' := aS H
       clear H
       go_wp2
       go_meet
       case rel => exact ⟨_, ((a0_1 == 2)), jB, H', ⟨by have := HJ1.out; first | omega | exact Nat.le_refl _⟩, ⟨by (with_reducible repeat (first | refine blk_drewN ?_ _ | refine blk_drew ?_ | refine blk_alloc ?_ _)); exact BK233.out⟩, ⟨by exact wS1 HB.out GE233.out⟩⟩
      ·rw [if_neg c22] at H
       have c22b0 : (a0_1 == 2) = false := beq_eq_false_iff_ne.mpr c22
       have c22b1 : (a0_1 != 2) = true := bne_iff_ne.mpr c22
       (first | rw [c22b0] | (simp only [i64_w, i32_w]; rw [c22b0]) | skip)
       have H' := aS H
       clear H
       go_wp2
       go_meet
       case rel => exact ⟨_, ((a0_1 == 5)), jB, H', ⟨by have := HJ1.out; first | omega | exact Nat.le_refl _⟩, ⟨by (with_reducible repeat (first | refine blk_drewN ?_ _ | refine blk_drew ?_ | refine blk_alloc ?_ _)); exact BK233.out⟩, ⟨by exact wS1 HB.out GE233.out⟩⟩
     case rest =>
      clear HC20
      try clear c1
      try clear c2
      try clear p2
      try clear c5
      try clear c6
      try clear c8
      try clear c10
      try clear c12
      try clear c13
      try clear c13b0
      try clear c13b1
      try clear c15
      try clear c16
      try clear c16b0
      try clear c16b1
      try clear c22
      try clear c22b0
      try clear c22b1
      try clear hcz10
      try clear hcz17
      try clear hcz18
      try clear hcz19
      try clear hcz21
      try clear hcz7
      try clear hcz9
      try clear p2
      obtain ⟨kq, x30_19, rfl, HA, HJ19, BK233, HB⟩ := hcut
      cases kq with
      | zero => exact absurd HA.out (by simp [impl_RecordOk.j1])
      | succ kj19 =>
       have H := HA.out
       clear HA
       simp only [impl_RecordOk.j1] at H
       by_cases c23 : x30_19 = true
       ·subst c23
        have H1 : (if a0_3 = 0 then ((impl_NameOk.f kj19 a0_4).bind fun t237 => (if t237 = true then (some (a0_5.toList == ([] : List UInt8))) else (some false))) else (some false)) = some r := by rw [if_pos rfl] at H; exact H
        clear H
        have H := H1
        clear H1
        by_cases c24 : a0_3 = 0
        ·rw [if_pos c24] at H
         have c24b0 : (a0_3 == 0) = true := beq_iff_eq.mpr c24
         have c24b1 : (a0_3 != 0) = false := bne_eq_false_iff_eq.mpr c24
         clear c24
         replace H := Option.bind_eq_some_iff.mp H
         obtain ⟨t237, A25, H⟩ := H
         try dsimp only at H
         replace A25 := aS A25
         by_cases c26 : t237 = true
         ·subst c26
          have H1 : (some (a0_5.toList == ([] : List UInt8))) = some r := by rw [if_pos rfl] at H; exact H
          clear H
          have H := H1
          clear H1
          obtain rfl := Option.some.inj H
          have hcz27 := cells6f BK233.out
          go_wp2_with (first | (go_at_call 83; (with_reducible refine (impl_NameOk.calls kj19 a0_4 true _ A25.out).mono ?_); rintro e w28 ⟨rfl, hb⟩; have n0_ := aS (blk_below (bU BK233.out) hb); have n1_ := aS (below_step (wS1 HB.out GE233.out) hb); clear BK233 HB; revert n0_ n1_; intro BK233 HB; clear hb; have hcz29 := cells6f BK233.out))
          go_ret
          exact ⟨jE, by exact wS1 HB.out GE233.out⟩
         ·replace c26 := Bool.eq_false_iff.mpr c26
          subst c26
          have H1 : (some false) = some r := by rw [if_neg (show ¬ (false = true) by decide)] at H; exact H
          clear H
          have H := H1
          clear H1
          obtain rfl := Option.some.inj H
          have hcz30 := cells6f BK233.out
          go_wp2_with (first | (go_at_call 83; (with_reducible refine (impl_NameOk.calls kj19 a0_4 false _ A25.out).mono ?_); rintro e w31 ⟨rfl, hb⟩; have n0_ := aS (blk_below (bU BK233.out) hb); have n1_ := aS (below_step (wS1 HB.out GE233.out) hb); clear BK233 HB; revert n0_ n1_; intro BK233 HB; clear hb))
          go_ret
          exact ⟨jE, by exact wS1 HB.out GE233.out⟩
        ·rw [if_neg c24] at H
         have c24b0 : (a0_3 == 0) = false := beq_eq_false_iff_ne.mpr c24
         have c24b1 : (a0_3 != 0) = true := bne_iff_ne.mpr c24
         obtain rfl := Option.some.inj H
         have hcz32 := cells6f BK233.out
         go_wp2
         go_ret
         exact ⟨jE, by exact wS1 HB.out GE233.out⟩
       ·replace c23 := Bool.eq_false_iff.mpr c23
        subst c23
        have H1 : (if a0_1 = 6 then ((impl_isTtl.f a0_3).bind fun t238 => (if t238 = true then ((impl_NameOk.f kj19 a0_4).bind fun t239 => (if t239 = true then (some (a0_5.toList == ([] : List UInt8))) else (some false))) else (some false))) else (if a0_1 = 16 then (if a0_3 = 0 then (if a0_4.toList = ([] : List UInt8) then ((impl_isText.f kj19 a0_5).bind fun t240 => (some t240)) else (some false)) else (some false)) else (some false))) = some r := by rw [if_neg (show ¬ (false = true) by decide)] at H; exact H
        clear H
        have H := H1
        clear H1
        by_cases c33 : a0_1 = 6
        ·rw [if_pos c33] at H
         have c33b0 : (a0_1 == 6) = true := beq_iff_eq.mpr c33
         have c33b1 : (a0_1 != 6) = false := bne_eq_false_iff_eq.mpr c33
         clear c33
         replace H := Option.bind_eq_some_iff.mp H
         obtain ⟨t238, A34, H⟩ := H
         try dsimp only at H
         replace A34 := aS A34
         by_cases c35 : t238 = true
         ·subst c35
          have H1 : ((impl_NameOk.f kj19 a0_4).bind fun t239 => (if t239 = true then (some (a0_5.toList == ([] : List UInt8))) else (some false))) = some r := by rw [if_pos rfl] at H; exact H
          clear H
          have H := H1
          clear H1
          replace H := Option.bind_eq_some_iff.mp H
          obtain ⟨t239, A36, H⟩ := H
          try dsimp only at H
          replace A36 := aS A36
          by_cases c37 : t239 = true
          ·subst c37
           have H1 : (some (a0_5.toList == ([] : List UInt8))) = some r := by rw [if_pos rfl] at H; exact H
           clear H
           have H := H1
           clear H1
           obtain rfl := Option.some.inj H
           have hcz38 := cells6f BK233.out
           go_wp2_with (first | ((with_reducible refine gate_callee (f := 107) rfl ?_); refine goesL_ (some 50) rfl rfl Tryd.func107 jK rfl #[.int .i64 a0_3] rfl jA ?_; (with_reducible refine (impl_isTtl.calls a0_3 true _ A34.out).mono ?_); rintro e w' ⟨rfl, ⟨nd, rfl⟩⟩; refine ⟨_, rfl, ?_⟩) | (go_at_call 83; (with_reducible refine (impl_NameOk.calls kj19 a0_4 true _ A36.out).mono ?_); rintro e w39 ⟨rfl, hb⟩; have n0_ := aS (blk_below (bU BK233.out) hb); have n1_ := aS (below_step (wS1 HB.out GE233.out) hb); clear BK233 HB; revert n0_ n1_; intro BK233 HB; clear hb; have hcz40 := cells6f BK233.out))
           go_ret
           exact ⟨jE, by exact wS1 HB.out GE233.out⟩
          ·replace c37 := Bool.eq_false_iff.mpr c37
           subst c37
           have H1 : (some false) = some r := by rw [if_neg (show ¬ (false = true) by decide)] at H; exact H
           clear H
           have H := H1
           clear H1
           obtain rfl := Option.some.inj H
           have hcz41 := cells6f BK233.out
           go_wp2_with (first | ((with_reducible refine gate_callee (f := 107) rfl ?_); refine goesL_ (some 50) rfl rfl Tryd.func107 jK rfl #[.int .i64 a0_3] rfl jA ?_; (with_reducible refine (impl_isTtl.calls a0_3 true _ A34.out).mono ?_); rintro e w' ⟨rfl, ⟨nd, rfl⟩⟩; refine ⟨_, rfl, ?_⟩) | (go_at_call 83; (with_reducible refine (impl_NameOk.calls kj19 a0_4 false _ A36.out).mono ?_); rintro e w42 ⟨rfl, hb⟩; have n0_ := aS (blk_below (bU BK233.out) hb); have n1_ := aS (below_step (wS1 HB.out GE233.out) hb); clear BK233 HB; revert n0_ n1_; intro BK233 HB; clear hb))
           go_ret
           exact ⟨jE, by exact wS1 HB.out GE233.out⟩
         ·replace c35 := Bool.eq_false_iff.mpr c35
          subst c35
          have H1 : (some false) = some r := by rw [if_neg (show ¬ (false = true) by decide)] at H; exact H
          clear H
          have H := H1
          clear H1
          obtain rfl := Option.some.inj H
          have hcz43 := cells6f BK233.out
          go_wp2_with (first | ((with_reducible refine gate_callee (f := 107) rfl ?_); refine goesL_ (some 50) rfl rfl Tryd.func107 jK rfl #[.int .i64 a0_3] rfl jA ?_; (with_reducible refine (impl_isTtl.calls a0_3 false _ A34.out).mono ?_); rintro e w' ⟨rfl, ⟨nd, rfl⟩⟩; refine ⟨_, rfl, ?_⟩))
          go_ret
          exact ⟨jE, by exact wS1 HB.out GE233.out⟩
        ·rw [if_neg c33] at H
         have c33b0 : (a0_1 == 6) = false := beq_eq_false_iff_ne.mpr c33
         have c33b1 : (a0_1 != 6) = true := bne_iff_ne.mpr c33
         by_cases c44 : a0_1 = 16
         ·rw [if_pos c44] at H
          have c44b0 : (a0_1 == 16) = true := beq_iff_eq.mpr c44
          have c44b1 : (a0_1 != 16) = false := bne_eq_false_iff_eq.mpr c44
          clear c44
          by_cases c45 : a0_3 = 0
          ·rw [if_pos c45] at H
           have c45b0 : (a0_3 == 0) = true := beq_iff_eq.mpr c45
           have c45b1 : (a0_3 != 0) = false := bne_eq_false_iff_eq.mpr c45
           clear c45
           by_cases c46 : a0_4.toList = ([] : List UInt8)
           ·rw [if_pos c46] at H
            have c46b0 : (a0_4.toList == ([] : List UInt8)) = true := beq_iff_eq.mpr c46
            have c46b1 : (a0_4.toList != ([] : List UInt8)) = false := bne_eq_false_iff_eq.mpr c46
            clear c46
            replace H := Option.bind_eq_some_iff.mp H
            obtain ⟨t240, A47, H⟩ := H
            try dsimp only at H
            replace A47 := aS A47
            obtain rfl := Option.some.inj H
            have hcz48 := cells6f BK233.out
            go_wp2_with (first | (go_at_call 93; (with_reducible refine (impl_isText.calls kj19 a0_5 t240 _ A47.out).mono ?_); rintro e w' ⟨rfl, ⟨nd, rfl⟩⟩))
            go_ret
            exact ⟨jE, by exact wS1 HB.out GE233.out⟩
           ·rw [if_neg c46] at H
            have c46b0 : (a0_4.toList == ([] : List UInt8)) = false := beq_eq_false_iff_ne.mpr c46
            have c46b1 : (a0_4.toList != ([] : List UInt8)) = true := bne_iff_ne.mpr c46
            obtain rfl := Option.some.inj H
            have hcz49 := cells6f BK233.out
            go_wp2
            go_ret
            exact ⟨jE, by exact wS1 HB.out GE233.out⟩
          ·rw [if_neg c45] at H
           have c45b0 : (a0_3 == 0) = false := beq_eq_false_iff_ne.mpr c45
           have c45b1 : (a0_3 != 0) = true := bne_iff_ne.mpr c45
           obtain rfl := Option.some.inj H
           have hcz50 := cells6f BK233.out
           go_wp2
           go_ret
           exact ⟨jE, by exact wS1 HB.out GE233.out⟩
         ·rw [if_neg c44] at H
          have c44b0 : (a0_1 == 16) = false := beq_eq_false_iff_ne.mpr c44
          have c44b1 : (a0_1 != 16) = true := bne_iff_ne.mpr c44
          obtain rfl := Option.some.inj H
          go_wp2
          go_ret
          exact ⟨jE, by exact wS1 HB.out GE233.out⟩

/-! ### impl_nameText: function 61 -/
def impl_nameText.f (a0 : ByteArray) : Option (ByteArray) := if a0.toList = ([] : List UInt8) then (some (⟨#[46]⟩ : ByteArray)) else (some a0)
set_option maxHeartbeats 8000000 in
set_option maxRecDepth 100000 in
theorem impl_nameText.calls (a0 : ByteArray) (r : ByteArray) (w : World) (h : impl_nameText.f a0 = some r) :
  Calls Tryd.prog 61 #[.string a0] w fun e w' => e = .returned (.string r) ∧ Drawn0 w w' := by
 have H : (if a0.toList = ([] : List UInt8) then (some (⟨#[46]⟩ : ByteArray)) else (some a0)) = some r := h
 clear h
 by_cases c2 : a0.toList = ([] : List UInt8)
 ·rw [if_pos c2] at H
  have c2b0 : (a0.toList == ([] : List UInt8)) = true := beq_iff_eq.mpr c2
  have c2b1 : (a0.toList != ([] : List UInt8)) = false := bne_eq_false_iff_eq.mpr c2
  clear c2
  obtain rfl := Option.some.inj H
  go_enter Tryd.func61, Tryd.ntmps61
  go_wp2
  go_ret
  exact ⟨by first | rfl | (simp; done) | (simp [*]; done) | (simp [X.bne_nil, X.beq_nil]; done) | (simp [*, X.bne_nil, X.beq_nil]; done) | (simp [X.bne_nil, X.beq_nil]; done), by repeat (first | exact Drawn0.refl _ | apply Drawn0.step)⟩
 ·rw [if_neg c2] at H
  have c2b0 : (a0.toList == ([] : List UInt8)) = false := beq_eq_false_iff_ne.mpr c2
  have c2b1 : (a0.toList != ([] : List UInt8)) = true := bne_iff_ne.mpr c2
  obtain rfl := Option.some.inj H
  go_enter Tryd.func61, Tryd.ntmps61
  go_wp2
  go_ret
  exact ⟨by first | rfl | (simp; done) | (simp [*]; done) | (simp [X.bne_nil, X.beq_nil]; done) | (simp [*, X.bne_nil, X.beq_nil]; done) | (simp [X.bne_nil, X.beq_nil]; done), by repeat (first | exact Drawn0.refl _ | apply Drawn0.step)⟩

/-! ### impl_NumText: function 62 -/
mutual
def impl_NumText.j0 : Nat → Int → Bool → Option (ByteArray)
 | 0, _, _ => none
 | k + 1, x0, x3 => if x3 = true then ((impl_NumText.f k (wrap64 (-x0))).bind fun t241 => (if 1 + t241.size ≤ 9223372036854775807 then (some ((⟨#[45]⟩ : ByteArray) ++ t241)) else (none))) else (if x0 < 0 then ((impl_NumText.f k (wrap64 (Int.tdiv x0 10))).bind fun t242 => ((impl_NumText.f k (wrap64 (-(Int.tmod x0 10)))).bind fun t243 => (if t242.size + t243.size ≤ 9223372036854775807 then (some (t242 ++ t243)) else (none)))) else (if x0 < 10 then (some (Utf8.encode (wrap32 (wrap64 (48 + x0))))) else ((impl_NumText.f k (wrap64 (Int.tdiv x0 10))).bind fun t244 => (if t244.size + (Utf8.encode (wrap32 (wrap64 (48 + (Int.tmod x0 10))))).size ≤ 9223372036854775807 then (some (t244 ++ (Utf8.encode (wrap32 (wrap64 (48 + (Int.tmod x0 10))))))) else (none)))))
def impl_NumText.f : Nat → Int → Option (ByteArray)
 | 0, _ => none
 | k + 1, a0 => if a0 < 0 then (impl_NumText.j0 k a0 (decide (a0 > (-10)))) else (impl_NumText.j0 k a0 false)
end
theorem impl_NumText.mono_l : ∀ k, (∀ y0, LeO (impl_NumText.f k y0) (impl_NumText.f (k + 1) y0)) ∧ (∀ y0 y1, LeO (impl_NumText.j0 k y0 y1) (impl_NumText.j0 (k + 1) y0 y1))
 | 0 => ⟨fun _ r h => by simp [impl_NumText.f] at h, fun _ _ r h => by simp [impl_NumText.j0] at h⟩
 | k + 1 => by
  obtain ⟨ih0, ih1⟩ := impl_NumText.mono_l k
  refine ⟨?_, ?_⟩
  ·intro y0
   unfold impl_NumText.f
   repeat' first
   | (with_reducible first | exact ih0 _ | exact ih1 _ _ | exact LeO.refl _ | exact LeO.none _ | refine LeO.ite ?_ ?_ | refine LeO.bind ?_ (fun _ => ?_))
   | exact ih0 _
   | exact ih1 _ _
   | exact LeO.none _
   | refine LeO.ite ?_ ?_
   | refine LeO.bind ?_ (fun _ => ?_)
  ·intro y0 y1
   unfold impl_NumText.j0
   repeat' first
   | (with_reducible first | exact ih0 _ | exact ih1 _ _ | exact LeO.refl _ | exact LeO.none _ | refine LeO.ite ?_ ?_ | refine LeO.bind ?_ (fun _ => ?_))
   | exact ih0 _
   | exact ih1 _ _
   | exact LeO.none _
   | refine LeO.ite ?_ ?_
   | refine LeO.bind ?_ (fun _ => ?_)
theorem impl_NumText.mono : ∀ a0 k, LeO (impl_NumText.f k a0) (impl_NumText.f (k + 1) a0) := by
 intro a0 k
 obtain ⟨ih0, ih1⟩ := impl_NumText.mono_l k
 exact ih0 a0
set_option maxHeartbeats 8000000 in
set_option maxRecDepth 100000 in
theorem impl_NumText.calls (k : Nat) : ∀ (a0 : Int) (r : ByteArray) (w : World) (h : impl_NumText.f k a0 = some r),
  Calls Tryd.prog 62 #[.int .i64 a0] w fun e w' => e = .returned (.string r) ∧ Drawn0 w w' := by
 induction k using Nat.strongRecOn with
 | _ k ih =>
 intro a0 r w h
 cases k with
 | zero => exact absurd h (by simp [impl_NumText.f])
 | succ k =>
 simp only [impl_NumText.f] at h
 have H : (if a0 < 0 then (impl_NumText.j0 k a0 (decide (a0 > (-10)))) else (impl_NumText.j0 k a0 false)) = some r := h
 clear h
 have HC2 := aS H
 clear H
 go_enter Tryd.func62, Tryd.ntmps62
 go_upto_region 1 with (fail)
 go_cut [3] (fun v3 wc => ∃ (kq : Nat) (x3_1 : Bool), v3 = .bool x3_1 ∧ Aside0 (impl_NumText.j0 kq a0 x3_1 = some r) ∧ Aside0 (kq ≤ k) ∧ Drawn0 w wc)
 case first =>
  have H := HC2.out
  clear HC2
  by_cases c3 : a0 < 0
  ·rw [if_pos c3] at H
   have c3b0 : decide (a0 < 0) = true := decide_eq_true c3
   clear c3
   (first | rw [c3b0] | (simp only [i64_w, i32_w]; rw [c3b0]) | skip)
   have H' := aS H
   clear H
   go_wp2
   go_meet
   case rel => exact ⟨_, (decide (a0 > (-10))), jB, H', ⟨by first | omega | exact Nat.le_refl _⟩, by repeat (first | exact Drawn0.refl _ | apply Drawn0.step)⟩
  ·rw [if_neg c3] at H
   have c3b0 : decide (a0 < 0) = false := decide_eq_false c3
   clear c3
   (first | rw [c3b0] | (simp only [i64_w, i32_w]; rw [c3b0]) | skip)
   have H' := aS H
   clear H
   go_wp2
   go_meet
   case rel => exact ⟨_, (false), jB, H', ⟨by first | omega | exact Nat.le_refl _⟩, by repeat (first | exact Drawn0.refl _ | apply Drawn0.step)⟩
 case rest =>
  clear HC2
  try clear p2
  try clear c3
  try clear c3b0
  obtain ⟨kq, x3_1, rfl, HA, HJ1, ⟨mc1, rfl⟩⟩ := hcut
  cases kq with
  | zero => exact absurd HA.out (by simp [impl_NumText.j0])
  | succ kj1 =>
   have H := HA.out
   clear HA
   simp only [impl_NumText.j0] at H
   by_cases c4 : x3_1 = true
   ·subst c4
    have H1 : ((impl_NumText.f kj1 (wrap64 (-a0))).bind fun t241 => (if 1 + t241.size ≤ 9223372036854775807 then (some ((⟨#[45]⟩ : ByteArray) ++ t241)) else (none))) = some r := by rw [if_pos rfl] at H; exact H
    clear H
    have H := H1
    clear H1
    replace H := Option.bind_eq_some_iff.mp H
    obtain ⟨t241, A5, H⟩ := H
    try dsimp only at H
    replace A5 := aS A5
    by_cases c6 : 1 + t241.size ≤ 9223372036854775807
    ·rw [if_pos c6] at H
     have c6b0 := eq_true c6
     have c6b1 : decide (1 + t241.size ≤ 9223372036854775807) = true := decide_eq_true c6
     try have c6b2 : (9223372036854775807 < 1 + t241.size) = False := eq_false (Nat.not_lt.2 c6)
     obtain rfl := Option.some.inj H
     go_wp2_with (first | ((with_reducible refine gate_callee (f := 62) rfl ?_); refine goesL_ (some 12) rfl rfl Tryd.func62 jK rfl #[.int .i64 (wrap64 (-a0))] rfl jA ?_; (with_reducible refine (ih kj1 (by have := HJ1.out; omega) (wrap64 (-a0)) t241 _ A5.out).mono ?_); rintro e w' ⟨rfl, ⟨nd, rfl⟩⟩; refine ⟨_, rfl, ?_⟩))
     go_ret
     exact ⟨by first | rfl | (simp; done) | (simp [*]; done) | (simp [X.bne_nil, X.beq_nil]; done) | (simp [*, X.bne_nil, X.beq_nil]; done) | (simp [X.bne_nil, X.beq_nil]; done), by repeat (first | exact Drawn0.refl _ | apply Drawn0.step)⟩
    ·rw [if_neg c6] at H
     exact absurd H (by simp)
   ·replace c4 := Bool.eq_false_iff.mpr c4
    subst c4
    have H1 : (if a0 < 0 then ((impl_NumText.f kj1 (wrap64 (Int.tdiv a0 10))).bind fun t242 => ((impl_NumText.f kj1 (wrap64 (-(Int.tmod a0 10)))).bind fun t243 => (if t242.size + t243.size ≤ 9223372036854775807 then (some (t242 ++ t243)) else (none)))) else (if a0 < 10 then (some (Utf8.encode (wrap32 (wrap64 (48 + a0))))) else ((impl_NumText.f kj1 (wrap64 (Int.tdiv a0 10))).bind fun t244 => (if t244.size + (Utf8.encode (wrap32 (wrap64 (48 + (Int.tmod a0 10))))).size ≤ 9223372036854775807 then (some (t244 ++ (Utf8.encode (wrap32 (wrap64 (48 + (Int.tmod a0 10))))))) else (none))))) = some r := by rw [if_neg (show ¬ (false = true) by decide)] at H; exact H
    clear H
    have H := H1
    clear H1
    by_cases c7 : a0 < 0
    ·rw [if_pos c7] at H
     have c7b0 : decide (a0 < 0) = true := decide_eq_true c7
     clear c7
     replace H := Option.bind_eq_some_iff.mp H
     obtain ⟨t242, A8, H⟩ := H
     try dsimp only at H
     replace A8 := aS A8
     replace H := Option.bind_eq_some_iff.mp H
     obtain ⟨t243, A9, H⟩ := H
     try dsimp only at H
     replace A9 := aS A9
     by_cases c10 : t242.size + t243.size ≤ 9223372036854775807
     ·rw [if_pos c10] at H
      have c10b0 := eq_true c10
      have c10b1 : decide (t242.size + t243.size ≤ 9223372036854775807) = true := decide_eq_true c10
      try have c10b2 : (9223372036854775807 < t242.size + t243.size) = False := eq_false (Nat.not_lt.2 c10)
      obtain rfl := Option.some.inj H
      go_wp2_with (first | ((with_reducible refine gate_callee (f := 62) rfl ?_); refine goesL_ (some 19) rfl rfl Tryd.func62 jK rfl #[.int .i64 (wrap64 (Int.tdiv a0 10))] rfl jA ?_; (with_reducible refine (ih kj1 (by have := HJ1.out; omega) (wrap64 (Int.tdiv a0 10)) t242 _ A8.out).mono ?_); rintro e w' ⟨rfl, ⟨nd, rfl⟩⟩; refine ⟨_, rfl, ?_⟩) | ((with_reducible refine gate_callee (f := 62) rfl ?_); refine goesL_ (some 23) rfl rfl Tryd.func62 jK rfl #[.int .i64 (wrap64 (-(Int.tmod a0 10)))] rfl jA ?_; (with_reducible refine (ih kj1 (by have := HJ1.out; omega) (wrap64 (-(Int.tmod a0 10))) t243 _ A9.out).mono ?_); rintro e w' ⟨rfl, ⟨nd, rfl⟩⟩; refine ⟨_, rfl, ?_⟩))
      go_ret
      exact ⟨by first | rfl | (simp; done) | (simp [*]; done) | (simp [X.bne_nil, X.beq_nil]; done) | (simp [*, X.bne_nil, X.beq_nil]; done) | (simp [X.bne_nil, X.beq_nil]; done), by repeat (first | exact Drawn0.refl _ | apply Drawn0.step)⟩
     ·rw [if_neg c10] at H
      exact absurd H (by simp)
    ·rw [if_neg c7] at H
     have c7b0 : decide (a0 < 0) = false := decide_eq_false c7
     clear c7
     by_cases c11 : a0 < 10
     ·rw [if_pos c11] at H
      have c11b0 : decide (a0 < 10) = true := decide_eq_true c11
      clear c11
      obtain rfl := Option.some.inj H
      go_wp2
      go_ret
      exact ⟨by first | rfl | (simp; done) | (simp [*]; done) | (simp [X.bne_nil, X.beq_nil]; done) | (simp [*, X.bne_nil, X.beq_nil]; done) | (simp [X.bne_nil, X.beq_nil]; done), by repeat (first | exact Drawn0.refl _ | apply Drawn0.step)⟩
     ·rw [if_neg c11] at H
      have c11b0 : decide (a0 < 10) = false := decide_eq_false c11
      clear c11
      replace H := Option.bind_eq_some_iff.mp H
      obtain ⟨t244, A12, H⟩ := H
      try dsimp only at H
      replace A12 := aS A12
      by_cases c13 : t244.size + (Utf8.encode (wrap32 (wrap64 (48 + (Int.tmod a0 10))))).size ≤ 9223372036854775807
      ·rw [if_pos c13] at H
       have c13b0 := eq_true c13
       have c13b1 : decide (t244.size + (Utf8.encode (wrap32 (wrap64 (48 + (Int.tmod a0 10))))).size ≤ 9223372036854775807) = true := decide_eq_true c13
       try have c13b2 : (9223372036854775807 < t244.size + (Utf8.encode (wrap32 (wrap64 (48 + (Int.tmod a0 10))))).size) = False := eq_false (Nat.not_lt.2 c13)
       obtain rfl := Option.some.inj H
       go_wp2_with (first | ((with_reducible refine gate_callee (f := 62) rfl ?_); refine goesL_ (some 34) rfl rfl Tryd.func62 jK rfl #[.int .i64 (wrap64 (Int.tdiv a0 10))] rfl jA ?_; (with_reducible refine (ih kj1 (by have := HJ1.out; omega) (wrap64 (Int.tdiv a0 10)) t244 _ A12.out).mono ?_); rintro e w' ⟨rfl, ⟨nd, rfl⟩⟩; refine ⟨_, rfl, ?_⟩))
       go_ret
       exact ⟨by first | rfl | (simp; done) | (simp [*]; done) | (simp [X.bne_nil, X.beq_nil]; done) | (simp [*, X.bne_nil, X.beq_nil]; done) | (simp [X.bne_nil, X.beq_nil]; done), by repeat (first | exact Drawn0.refl _ | apply Drawn0.step)⟩
      ·rw [if_neg c13] at H
       exact absurd H (by simp)

/-! ### impl_TypeText: function 63 -/
def impl_TypeText.f (a0 : Int) : Option (ByteArray) := if a0 = 1 then (some (⟨#[97, 100, 100, 114]⟩ : ByteArray)) else (if a0 = 2 then (some (⟨#[115, 101, 114, 118, 101, 114]⟩ : ByteArray)) else (if a0 = 5 then (some (⟨#[97, 108, 105, 97, 115]⟩ : ByteArray)) else (if a0 = 6 then (some (⟨#[115, 116, 97, 114, 116]⟩ : ByteArray)) else (if a0 = 16 then (some (⟨#[116, 101, 120, 116]⟩ : ByteArray)) else (some (⟨#[]⟩ : ByteArray))))))
set_option maxHeartbeats 8000000 in
set_option maxRecDepth 100000 in
theorem impl_TypeText.calls (a0 : Int) (r : ByteArray) (w : World) (h : impl_TypeText.f a0 = some r) :
  Calls Tryd.prog 63 #[.int .i64 a0] w fun e w' => e = .returned (.string r) ∧ Drawn0 w w' := by
 have H : (if a0 = 1 then (some (⟨#[97, 100, 100, 114]⟩ : ByteArray)) else (if a0 = 2 then (some (⟨#[115, 101, 114, 118, 101, 114]⟩ : ByteArray)) else (if a0 = 5 then (some (⟨#[97, 108, 105, 97, 115]⟩ : ByteArray)) else (if a0 = 6 then (some (⟨#[115, 116, 97, 114, 116]⟩ : ByteArray)) else (if a0 = 16 then (some (⟨#[116, 101, 120, 116]⟩ : ByteArray)) else (some (⟨#[]⟩ : ByteArray))))))) = some r := h
 clear h
 by_cases c2 : a0 = 1
 ·rw [if_pos c2] at H
  have c2b0 : (a0 == 1) = true := beq_iff_eq.mpr c2
  have c2b1 : (a0 != 1) = false := bne_eq_false_iff_eq.mpr c2
  clear c2
  obtain rfl := Option.some.inj H
  go_enter Tryd.func63, Tryd.ntmps63
  go_wp2
  go_ret
  exact ⟨by first | rfl | (simp; done) | (simp [*]; done) | (simp [X.bne_nil, X.beq_nil]; done) | (simp [*, X.bne_nil, X.beq_nil]; done) | (simp [X.bne_nil, X.beq_nil]; done), by repeat (first | exact Drawn0.refl _ | apply Drawn0.step)⟩
 ·rw [if_neg c2] at H
  have c2b0 : (a0 == 1) = false := beq_eq_false_iff_ne.mpr c2
  have c2b1 : (a0 != 1) = true := bne_iff_ne.mpr c2
  by_cases c3 : a0 = 2
  ·rw [if_pos c3] at H
   have c3b0 : (a0 == 2) = true := beq_iff_eq.mpr c3
   have c3b1 : (a0 != 2) = false := bne_eq_false_iff_eq.mpr c3
   clear c3
   obtain rfl := Option.some.inj H
   go_enter Tryd.func63, Tryd.ntmps63
   go_wp2
   go_ret
   exact ⟨by first | rfl | (simp; done) | (simp [*]; done) | (simp [X.bne_nil, X.beq_nil]; done) | (simp [*, X.bne_nil, X.beq_nil]; done) | (simp [X.bne_nil, X.beq_nil]; done), by repeat (first | exact Drawn0.refl _ | apply Drawn0.step)⟩
  ·rw [if_neg c3] at H
   have c3b0 : (a0 == 2) = false := beq_eq_false_iff_ne.mpr c3
   have c3b1 : (a0 != 2) = true := bne_iff_ne.mpr c3
   by_cases c4 : a0 = 5
   ·rw [if_pos c4] at H
    have c4b0 : (a0 == 5) = true := beq_iff_eq.mpr c4
    have c4b1 : (a0 != 5) = false := bne_eq_false_iff_eq.mpr c4
    clear c4
    obtain rfl := Option.some.inj H
    go_enter Tryd.func63, Tryd.ntmps63
    go_wp2
    go_ret
    exact ⟨by first | rfl | (simp; done) | (simp [*]; done) | (simp [X.bne_nil, X.beq_nil]; done) | (simp [*, X.bne_nil, X.beq_nil]; done) | (simp [X.bne_nil, X.beq_nil]; done), by repeat (first | exact Drawn0.refl _ | apply Drawn0.step)⟩
   ·rw [if_neg c4] at H
    have c4b0 : (a0 == 5) = false := beq_eq_false_iff_ne.mpr c4
    have c4b1 : (a0 != 5) = true := bne_iff_ne.mpr c4
    by_cases c5 : a0 = 6
    ·rw [if_pos c5] at H
     have c5b0 : (a0 == 6) = true := beq_iff_eq.mpr c5
     have c5b1 : (a0 != 6) = false := bne_eq_false_iff_eq.mpr c5
     clear c5
     obtain rfl := Option.some.inj H
     go_enter Tryd.func63, Tryd.ntmps63
     go_wp2
     go_ret
     exact ⟨by first | rfl | (simp; done) | (simp [*]; done) | (simp [X.bne_nil, X.beq_nil]; done) | (simp [*, X.bne_nil, X.beq_nil]; done) | (simp [X.bne_nil, X.beq_nil]; done), by repeat (first | exact Drawn0.refl _ | apply Drawn0.step)⟩
    ·rw [if_neg c5] at H
     have c5b0 : (a0 == 6) = false := beq_eq_false_iff_ne.mpr c5
     have c5b1 : (a0 != 6) = true := bne_iff_ne.mpr c5
     by_cases c6 : a0 = 16
     ·rw [if_pos c6] at H
      have c6b0 : (a0 == 16) = true := beq_iff_eq.mpr c6
      have c6b1 : (a0 != 16) = false := bne_eq_false_iff_eq.mpr c6
      clear c6
      obtain rfl := Option.some.inj H
      go_enter Tryd.func63, Tryd.ntmps63
      go_wp2
      go_ret
      exact ⟨by first | rfl | (simp; done) | (simp [*]; done) | (simp [X.bne_nil, X.beq_nil]; done) | (simp [*, X.bne_nil, X.beq_nil]; done) | (simp [X.bne_nil, X.beq_nil]; done), by repeat (first | exact Drawn0.refl _ | apply Drawn0.step)⟩
     ·rw [if_neg c6] at H
      have c6b0 : (a0 == 16) = false := beq_eq_false_iff_ne.mpr c6
      have c6b1 : (a0 != 16) = true := bne_iff_ne.mpr c6
      obtain rfl := Option.some.inj H
      go_enter Tryd.func63, Tryd.ntmps63
      go_wp2
      go_ret
      exact ⟨by first | rfl | (simp; done) | (simp [*]; done) | (simp [X.bne_nil, X.beq_nil]; done) | (simp [*, X.bne_nil, X.beq_nil]; done) | (simp [X.bne_nil, X.beq_nil]; done), by repeat (first | exact Drawn0.refl _ | apply Drawn0.step)⟩

/-! ### strings_Join: function 64 -/
def strings_Join.f (l0 : List ByteArray) (a1 : ByteArray) : Option (ByteArray) := if (Lib.join (l0.map (·.data.toList)) a1.data.toList).length ≤ 140737488355328 ∧ l0.length ≤ 140737488355328 then some ⟨(Lib.join (l0.map (·.data.toList)) a1.data.toList).toArray⟩ else none
theorem strings_Join.calls (A0 : Option Addr) (c0 : Nat) (l0 : List ByteArray) (a1 : ByteArray) (r : ByteArray) (w : World) (hr0 : Kd.C Kd.string w A0 l0.length l0) (hc0 : l0.length ≤ c0) (h : strings_Join.f l0 a1 = some r) :
  Calls Tryd.prog 64 #[.slice A0 l0.length c0, .string a1] w fun e w' => e = .returned (.string r) ∧ Below w.heap.size w w' := by
 by_cases hb : (Lib.join (l0.map (·.data.toList)) a1.data.toList).length ≤ 140737488355328 ∧ l0.length ≤ 140737488355328
 ·rw [strings_Join.f, if_pos hb] at h
  obtain rfl := Option.some.inj h
  by_cases hne : l0 = []
  ·subst hne
   exact (Any.strings_Join_none Tryd.lays156 Tryd.Builder_Extra_156 A0 c0 a1 w).mono fun e w' ⟨he, hw⟩ => ⟨he, hw ▸ Below.refl _ _⟩
  ·obtain ⟨b, o, rfl, hcells, hlt⟩ := X.C_strings hr0 hne
   exact Any.strings_Join Tryd.lays156 Tryd.Builder_Extra_156 b o c0 l0 a1 w hcells hlt hb.2 hc0 hb.1
 ·rw [strings_Join.f, if_neg hb] at h
  cases h


end Go.Proofs.YtfmnofjijodgcaaDoor.Pr
