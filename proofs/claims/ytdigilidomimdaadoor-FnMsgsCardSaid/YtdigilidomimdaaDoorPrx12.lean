-- Written for this claim by a program of this session (wip/tool/pr.py, over the kit's printer).
-- half
import Derived.Test.YtdigilidomimdaaDoorPrx0
import Derived.Test.YtdigilidomimdaaDoorPrx11
namespace Go.Proofs.YtdigilidomimdaaDoor.Pr
open Go.RowKit Go.Proofs.YtdigilidomimdaaDoorW.PrintWords Go.Proofs.YtdigilidomimdaaDoorW.PrintLast Go.Proofs.YtdigilidomimdaaDoorW.PrintMore
attribute [local go_sem] max2_int min2_int max_two min_two max_three min_three max_four min_four   -- for this text's walks alone
set_option linter.unusedVariables false
set_option linter.unusedSimpArgs false

/-! ### spec_l5Text: function 88 -/
def spec_l5Text.l0 : Nat → ByteArray → Int → Option (Bool)
 | 0, _, _ => none
 | k + 1, x0, x3 => if x3 < (x0.size : Int) then (if 0 ≤ x3 then ((spec_l1In.f (wrap64 (bt x0 x3)) 33 126).bind fun t620 => (if t620 = true then (spec_l5Text.l0 k x0 (wrap64 (x3 + 1))) else (some false))) else (none)) else (some (decide ((x0.size : Int) ≤ 12)))
def spec_l5Text.f (k : Nat) (a0 : ByteArray) : Option (Bool) := spec_l5Text.l0 k a0 0
theorem spec_l5Text.mono_l : ∀ k, (∀ y0 y1, LeO (spec_l5Text.l0 k y0 y1) (spec_l5Text.l0 (k + 1) y0 y1))
 | 0 => fun _ _ r h => by simp [spec_l5Text.l0] at h
 | k + 1 => by
  have ih0 := spec_l5Text.mono_l k
  ·intro y0 y1
   unfold spec_l5Text.l0
   repeat' first
   | (with_reducible first | exact ih0 _ _ | exact LeO.refl _ | exact LeO.none _ | refine LeO.ite ?_ ?_ | refine LeO.bind ?_ (fun _ => ?_))
   | refine LeO.ite ?_ ?_
   | refine LeO.bind ?_ (fun _ => ?_)
theorem spec_l5Text.mono : ∀ a0 k, LeO (spec_l5Text.f k a0) (spec_l5Text.f (k + 1) a0) := by
 intro a0 k
 have ih0 := spec_l5Text.mono_l k
 unfold spec_l5Text.f
 repeat' first
   | (with_reducible first | exact ih0 _ _ | exact LeO.refl _ | exact LeO.none _ | refine LeO.ite ?_ ?_ | refine LeO.bind ?_ (fun _ => ?_))
   | refine LeO.ite ?_ ?_
   | refine LeO.bind ?_ (fun _ => ?_)
set_option maxHeartbeats 8000000 in
set_option maxRecDepth 100000 in
theorem spec_l5Text.calls (k : Nat) (a0 : ByteArray) (r : Bool) (w : World) (h : spec_l5Text.f k a0 = some r) :
  Calls Tryd.prog 88 #[.string a0] w fun e w' => e = .returned (.bool r) ∧ Drawn0 w w' := by
 have H := h
 unfold spec_l5Text.f at H
 clear h
 have H' := aS H
 clear H
 go_enter Tryd.func88, Tryd.ntmps88
 go_wp2
 go_loopg [3] k (fun kq v3 w' => ∃ (x3_1 : Int), v3 = .int .i64 x3_1 ∧ Aside0 (spec_l5Text.l0 kq a0 x3_1 = some r) ∧ Aside0 (kq ≤ k) ∧ Drawn0 w w')
 case atStart => exact ⟨(0), jB, H', ⟨Nat.le_refl _⟩, by repeat (first | exact Drawn0.refl _ | apply Drawn0.step)⟩
 case round =>
  clear H'
  obtain ⟨x3_1, rfl, HA, HK1, ⟨m1, rfl⟩⟩ := hrel
  cases gk with
  | zero => exact absurd HA.out (by simp [spec_l5Text.l0])
  | succ k1 =>
   have H := HA.out
   clear HA
   simp only [spec_l5Text.l0] at H
   by_cases c2 : x3_1 < (a0.size : Int)
   ·rw [if_pos c2] at H
    have c2b0 := decide_eq_true c2
    clear c2
    by_cases c3 : 0 ≤ x3_1
    ·rw [if_pos c3] at H
     have c3b0 := decide_eq_true c3
     clear c3
     obtain ⟨t620, A5, H⟩ := bM H
     try dsimp only at H
     by_cases c6 : t620 = true
     ·subst c6
      rw [if_pos rfl] at H
      have H' := aS H
      clear H
      have p4 : 0 ≤ (x3_1 : Int) := of_decide_eq_true jC
      have q4 : x3_1 < (a0.size : Int) := of_decide_eq_true jC
      have hx4 := bt_at a0 x3_1
      replace p4 := eq_true p4
      replace q4 := eq_true q4
      go_wp2_with (first | ((with_reducible refine gate_callee (f := 86) rfl ?_); refine gL (some 14) Tryd.func86 #[.int .i64 (wrap64 (bt a0 x3_1)), .int .i64 33, .int .i64 126] ?_; (with_reducible refine (spec_l1In.calls (wrap64 (bt a0 x3_1)) 33 126 true _ A5.out).mono ?_); rintro e w' ⟨rfl, ⟨nd, rfl⟩⟩; refine ⟨_, rfl, ?_⟩))
      go_roundg k1
      case measure => have := HK1.out; omega
      case rel => exact ⟨(wrap64 (x3_1 + 1)), jB, H', ⟨by have := HK1.out; omega⟩, by repeat (first | exact Drawn0.refl _ | apply Drawn0.step)⟩
     ·replace c6 := Bool.eq_false_iff.mpr c6
      subst c6
      rw [if_neg Bool.false_ne_true] at H
      obtain rfl := Option.some.inj H
      have p4 : 0 ≤ (x3_1 : Int) := of_decide_eq_true jC
      have q4 : x3_1 < (a0.size : Int) := of_decide_eq_true jC
      have hx4 := bt_at a0 x3_1
      replace p4 := eq_true p4
      replace q4 := eq_true q4
      go_wp2_with (first | ((with_reducible refine gate_callee (f := 86) rfl ?_); refine gL (some 14) Tryd.func86 #[.int .i64 (wrap64 (bt a0 x3_1)), .int .i64 33, .int .i64 126] ?_; (with_reducible refine (spec_l1In.calls (wrap64 (bt a0 x3_1)) 33 126 false _ A5.out).mono ?_); rintro e w' ⟨rfl, ⟨nd, rfl⟩⟩; refine ⟨_, rfl, ?_⟩))
      go_ret
      exact ⟨by first | rfl | (simp; done) | (simp [*]; done) | (simp [X.bne_nil, X.beq_nil]; done) | (simp [*, X.bne_nil, X.beq_nil]; done) | (simp [X.bne_nil, X.beq_nil]; done), by repeat (first | exact Drawn0.refl _ | apply Drawn0.step)⟩
    ·rw [if_neg c3] at H
     exact absurd H (by simp)
   ·rw [if_neg c2] at H
    have c2b0 := decide_eq_false c2
    clear c2
    obtain rfl := Option.some.inj H
    go_wp2
    go_ret
    exact ⟨by first | rfl | (simp; done) | (simp [*]; done) | (simp [X.bne_nil, X.beq_nil]; done) | (simp [*, X.bne_nil, X.beq_nil]; done) | (simp [X.bne_nil, X.beq_nil]; done), by repeat (first | exact Drawn0.refl _ | apply Drawn0.step)⟩

/-! ### spec_RecordOk: function 54 -/
mutual
def spec_RecordOk.j0 : Nat → Bool → ByteArray → Int → Int → Int → ByteArray → ByteArray → Option (Bool)
 | 0, _, _, _, _, _, _, _ => none
 | k + 1, x12, x622000, x622001, x622002, x622003, x622004, x622005 => if x12 = true then (some false) else (if x622001 = 1 then ((spec_l1In.f x622003 0 2147483647).bind fun t624 => (if t624 = true then (if x622004.toList = ([] : List UInt8) then (some (x622005.toList == ([] : List UInt8))) else (some false)) else (some false))) else (if x622001 = 2 then (spec_RecordOk.j1 k x622001 (x622001 == 2) x622000 x622001 x622002 x622003 x622004 x622005) else (spec_RecordOk.j1 k x622001 (x622001 == 5) x622000 x622001 x622002 x622003 x622004 x622005)))
def spec_RecordOk.j1 : Nat → Int → Bool → ByteArray → Int → Int → Int → ByteArray → ByteArray → Option (Bool)
 | 0, _, _, _, _, _, _, _, _ => none
 | k + 1, x14, x30, x622000, x622001, x622002, x622003, x622004, x622005 => if x30 = true then (if x622003 = 0 then ((spec_NameOk.f k x622004).bind fun t625 => (if t625 = true then (some (x622005.toList == ([] : List UInt8))) else (some false))) else (some false)) else (if x14 = 6 then ((spec_l1In.f x622003 0 100000).bind fun t626 => (if t626 = true then ((spec_NameOk.f k x622004).bind fun t627 => (if t627 = true then (some (x622005.toList == ([] : List UInt8))) else (some false))) else (some false))) else (if x622001 = 16 then (if x622003 = 0 then (if x622004.toList = ([] : List UInt8) then ((spec_l5Text.f k x622005).bind fun t628 => (some t628)) else (some false)) else (some false)) else (some false)))
end
def spec_RecordOk.f (k : Nat) (a0_0 : ByteArray) (a0_1 : Int) (a0_2 : Int) (a0_3 : Int) (a0_4 : ByteArray) (a0_5 : ByteArray) : Option (Bool) := (spec_NameOk.f k a0_0).bind fun t622 => (if t622 = true then ((spec_l1In.f a0_2 0 100000).bind fun t623 => (spec_RecordOk.j0 k (!t623) a0_0 a0_1 a0_2 a0_3 a0_4 a0_5)) else (spec_RecordOk.j0 k true a0_0 a0_1 a0_2 a0_3 a0_4 a0_5))
theorem spec_RecordOk.mono_l : ∀ k, (∀ y0 y1 y2 y3 y4 y5 y6, LeO (spec_RecordOk.j0 k y0 y1 y2 y3 y4 y5 y6) (spec_RecordOk.j0 (k + 1) y0 y1 y2 y3 y4 y5 y6)) ∧ (∀ y0 y1 y2 y3 y4 y5 y6 y7, LeO (spec_RecordOk.j1 k y0 y1 y2 y3 y4 y5 y6 y7) (spec_RecordOk.j1 (k + 1) y0 y1 y2 y3 y4 y5 y6 y7))
 | 0 => ⟨fun _ _ _ _ _ _ _ r h => by simp [spec_RecordOk.j0] at h, fun _ _ _ _ _ _ _ _ r h => by simp [spec_RecordOk.j1] at h⟩
 | k + 1 => by
  obtain ⟨ih0, ih1⟩ := spec_RecordOk.mono_l k
  refine ⟨?_, ?_⟩
  ·intro y0 y1 y2 y3 y4 y5 y6
   unfold spec_RecordOk.j0
   repeat' first
   | (with_reducible first | exact ih0 _ _ _ _ _ _ _ | exact ih1 _ _ _ _ _ _ _ _ | exact spec_NameOk.mono _ _ | exact spec_l5Text.mono _ _ | exact LeO.refl _ | exact LeO.none _ | refine LeO.ite ?_ ?_ | refine LeO.bind ?_ (fun _ => ?_))
   | refine LeO.ite ?_ ?_
   | refine LeO.bind ?_ (fun _ => ?_)
  ·intro y0 y1 y2 y3 y4 y5 y6 y7
   unfold spec_RecordOk.j1
   repeat' first
   | (with_reducible first | exact ih0 _ _ _ _ _ _ _ | exact ih1 _ _ _ _ _ _ _ _ | exact spec_NameOk.mono _ _ | exact spec_l5Text.mono _ _ | exact LeO.refl _ | exact LeO.none _ | refine LeO.ite ?_ ?_ | refine LeO.bind ?_ (fun _ => ?_))
   | refine LeO.ite ?_ ?_
   | refine LeO.bind ?_ (fun _ => ?_)
theorem spec_RecordOk.mono : ∀ a0 a1 a2 a3 a4 a5 k, LeO (spec_RecordOk.f k a0 a1 a2 a3 a4 a5) (spec_RecordOk.f (k + 1) a0 a1 a2 a3 a4 a5) := by
 intro a0 a1 a2 a3 a4 a5 k
 obtain ⟨ih0, ih1⟩ := spec_RecordOk.mono_l k
 unfold spec_RecordOk.f
 repeat' first
   | (with_reducible first | exact ih0 _ _ _ _ _ _ _ | exact ih1 _ _ _ _ _ _ _ _ | exact spec_NameOk.mono _ _ | exact spec_l5Text.mono _ _ | exact LeO.refl _ | exact LeO.none _ | refine LeO.ite ?_ ?_ | refine LeO.bind ?_ (fun _ => ?_))
   | refine LeO.ite ?_ ?_
   | refine LeO.bind ?_ (fun _ => ?_)
set_option maxHeartbeats 8000000 in
set_option maxRecDepth 100000 in
theorem spec_RecordOk.calls (k : Nat) (a0_0 : ByteArray) (a0_1 : Int) (a0_2 : Int) (a0_3 : Int) (a0_4 : ByteArray) (a0_5 : ByteArray) (r : Bool) (w : World) (h : spec_RecordOk.f k a0_0 a0_1 a0_2 a0_3 a0_4 a0_5 = some r) :
  Calls Tryd.prog 54 #[.agg #[.string a0_0, .int .i64 a0_1, .int .i64 a0_2, .int .i64 a0_3, .string a0_4, .string a0_5]] w fun e w' => e = .returned (.bool r) ∧ Below w.heap.size w w' := by
 have hu25 := Tryd.underlying25
 have HB := aS (Below.refl w.heap.size w)
 have H := h
 unfold spec_RecordOk.f at H
 clear h
 have HC2 := aS H
 clear H
 go_enter Tryd.func54, Tryd.ntmps54
 go_upto_region 1 with (first | ((with_reducible refine gate_dst (N := 1) rfl ?_); refine xB 1 #[.string a0_0, .int .i64 a0_1, .int .i64 a0_2, .int .i64 a0_3, .string a0_4, .string a0_5] 25 ?_; intro gb621 hg w3 hbox hb; have BK621 := aS (hbox); have GW621 := gW hg (wU HB.out); have GE621 := gW hg (wU HB.out); replace HB := aS (below_step (wU HB.out) hb); clear hb hbox hg))
 (try simp only [Act.put, List.setIfInBounds_toArray, List.set_cons_zero, List.set_cons_succ])
 go_cut [12] (fun v12 wc => ∃ (kq : Nat) (x12_1 : Bool), v12 = .bool x12_1 ∧ Aside0 (spec_RecordOk.j0 kq x12_1 a0_0 a0_1 a0_2 a0_3 a0_4 a0_5 = some r) ∧ Aside0 (kq ≤ k) ∧ Aside0 (wc.heap[gb621]? = some (.cells #[.string a0_0, .int .i64 a0_1, .int .i64 a0_2, .int .i64 a0_3, .string a0_4, .string a0_5] 25 (0, 0))) ∧ Aside0 (Below w.heap.size w wc))
 case first =>
  have H := HC2.out
  clear HC2
  obtain ⟨t622, A4, H⟩ := bM H
  try dsimp only at H
  by_cases c5 : t622 = true
  ·subst c5
   rw [if_pos rfl] at H
   obtain ⟨t623, A6, H⟩ := bM H
   try dsimp only at H
   have H' := aS H
   clear H
   have hcz7 := cells6f BK621.out
   go_wp2_with (first | ((with_reducible refine gate_callee (f := 110) rfl ?_); refine gL (some 5) Tryd.func110 #[.string a0_0] ?_; (with_reducible refine (spec_NameOk.calls k a0_0 true _ A4.out).mono ?_); rintro e w8 ⟨rfl, hb⟩; refine ⟨_, rfl, ?_⟩; replace BK621 := bB BK621 hb; replace HB := aS (below_step (wS1 HB.out GE621.out) hb); clear hb; have hcz9 := cells6f BK621.out) | (go_at_call 86; (with_reducible refine (spec_l1In.calls a0_2 0 100000 t623 _ A6.out).mono ?_); rintro e w' ⟨rfl, ⟨nd, rfl⟩⟩))
   go_meet
   case rel => exact ⟨_, (!t623), jB, H', ⟨by first | omega | exact Nat.le_refl _⟩, ⟨by exact bU BK621.out⟩, ⟨by exact wS1 HB.out GE621.out⟩⟩
  ·replace c5 := Bool.eq_false_iff.mpr c5
   subst c5
   rw [if_neg Bool.false_ne_true] at H
   have H' := aS H
   clear H
   have hcz10 := cells6f BK621.out
   go_wp2_with (first | ((with_reducible refine gate_callee (f := 110) rfl ?_); refine gL (some 5) Tryd.func110 #[.string a0_0] ?_; (with_reducible refine (spec_NameOk.calls k a0_0 false _ A4.out).mono ?_); rintro e w11 ⟨rfl, hb⟩; refine ⟨_, rfl, ?_⟩; replace BK621 := bB BK621 hb; replace HB := aS (below_step (wS1 HB.out GE621.out) hb); clear hb))
   go_meet
   case rel => exact ⟨_, (true), jB, H', ⟨by first | omega | exact Nat.le_refl _⟩, ⟨by exact bU BK621.out⟩, ⟨by exact wS1 HB.out GE621.out⟩⟩
 case rest =>
  clear HC2
  try clear c1
  try clear p2
  try clear c5
  try clear c11
  try clear hcz10
  try clear hcz7
  try clear hcz9
  obtain ⟨kq, x12_1, rfl, HA, HJ1, BK621, HB⟩ := hcut
  cases kq with
  | zero => exact absurd HA.out (by simp [spec_RecordOk.j0])
  | succ kj1 =>
   have H := HA.out
   clear HA
   simp only [spec_RecordOk.j0] at H
   by_cases c12 : x12_1 = true
   ·subst c12
    rw [if_pos rfl] at H
    obtain rfl := Option.some.inj H
    go_wp2
    go_ret
    exact ⟨jE, by exact wS1 HB.out GE621.out⟩
   ·replace c12 := Bool.eq_false_iff.mpr c12
    subst c12
    rw [if_neg Bool.false_ne_true] at H
    by_cases c13 : a0_1 = 1
    ·rw [if_pos c13] at H
     have c13b0 := beq_iff_eq.mpr c13
     have c13b1 := bne_eq_false_iff_eq.mpr c13
     clear c13
     obtain ⟨t624, A14, H⟩ := bM H
     try dsimp only at H
     by_cases c15 : t624 = true
     ·subst c15
      rw [if_pos rfl] at H
      by_cases c16 : a0_4.toList = ([] : List UInt8)
      ·rw [if_pos c16] at H
       have c16b0 := beq_iff_eq.mpr c16
       have c16b1 := bne_eq_false_iff_eq.mpr c16
       clear c16
       obtain rfl := Option.some.inj H
       have hcz17 := cells6f BK621.out
       go_wp2_with (first | ((with_reducible refine gate_callee (f := 86) rfl ?_); refine gL (some 19) Tryd.func86 #[.int .i64 a0_3, .int .i64 0, .int .i64 2147483647] ?_; (with_reducible refine (spec_l1In.calls a0_3 0 2147483647 true _ A14.out).mono ?_); rintro e w' ⟨rfl, ⟨nd, rfl⟩⟩; refine ⟨_, rfl, ?_⟩))
       go_ret
       exact ⟨jE, by exact wS1 HB.out GE621.out⟩
      ·rw [if_neg c16] at H
       have c16b0 := beq_eq_false_iff_ne.mpr c16
       have c16b1 := bne_iff_ne.mpr c16
       obtain rfl := Option.some.inj H
       have hcz18 := cells6f BK621.out
       go_wp2_with (first | ((with_reducible refine gate_callee (f := 86) rfl ?_); refine gL (some 19) Tryd.func86 #[.int .i64 a0_3, .int .i64 0, .int .i64 2147483647] ?_; (with_reducible refine (spec_l1In.calls a0_3 0 2147483647 true _ A14.out).mono ?_); rintro e w' ⟨rfl, ⟨nd, rfl⟩⟩; refine ⟨_, rfl, ?_⟩))
       go_ret
       exact ⟨jE, by exact wS1 HB.out GE621.out⟩
     ·replace c15 := Bool.eq_false_iff.mpr c15
      subst c15
      rw [if_neg Bool.false_ne_true] at H
      obtain rfl := Option.some.inj H
      have hcz19 := cells6f BK621.out
      go_wp2_with (first | ((with_reducible refine gate_callee (f := 86) rfl ?_); refine gL (some 19) Tryd.func86 #[.int .i64 a0_3, .int .i64 0, .int .i64 2147483647] ?_; (with_reducible refine (spec_l1In.calls a0_3 0 2147483647 false _ A14.out).mono ?_); rintro e w' ⟨rfl, ⟨nd, rfl⟩⟩; refine ⟨_, rfl, ?_⟩))
      go_ret
      exact ⟨jE, by exact wS1 HB.out GE621.out⟩
    ·rw [if_neg c13] at H
     have c13b0 := beq_eq_false_iff_ne.mpr c13
     have c13b1 := bne_iff_ne.mpr c13
     have HC20 := aS H
     clear H
     have hcz21 := cells6f BK621.out
     go_upto_if 30 with (fail)
     go_cut [30] (fun v30 wc => ∃ (kq : Nat) (x30_19 : Bool), v30 = .bool x30_19 ∧ Aside0 (spec_RecordOk.j1 kq a0_1 x30_19 a0_0 a0_1 a0_2 a0_3 a0_4 a0_5 = some r) ∧ Aside0 (kq ≤ kj1) ∧ Aside0 (wc.heap[gb621]? = some (.cells #[.string a0_0, .int .i64 a0_1, .int .i64 a0_2, .int .i64 a0_3, .string a0_4, .string a0_5] 25 (0, 0))) ∧ Aside0 (Below w.heap.size w wc))
     case first =>
      have H := HC20.out
      clear HC20
      by_cases c22 : a0_1 = 2
      ·rw [if_pos c22] at H
       have c22b0 := beq_iff_eq.mpr c22
       have c22b1 := bne_eq_false_iff_eq.mpr c22
       clear c22
       (first | rw [c22b0] | (simp only [i64_w, i32_w]; rw [c22b0]) | skip)
       have H' := aS H
       clear H
       go_wp2
       go_meet
       case rel => exact ⟨_, ((a0_1 == 2)), jB, H', ⟨by have := HJ1.out; first | omega | exact Nat.le_refl _⟩, ⟨by exact bU BK621.out⟩, ⟨by exact wS1 HB.out GE621.out⟩⟩
      ·rw [if_neg c22] at H
       have c22b0 := beq_eq_false_iff_ne.mpr c22
       have c22b1 := bne_iff_ne.mpr c22
       (first | rw [c22b0] | (simp only [i64_w, i32_w]; rw [c22b0]) | skip)
       have H' := aS H
       clear H
       go_wp2
       go_meet
       case rel => exact ⟨_, ((a0_1 == 5)), jB, H', ⟨by have := HJ1.out; first | omega | exact Nat.le_refl _⟩, ⟨by exact bU BK621.out⟩, ⟨by exact wS1 HB.out GE621.out⟩⟩
     case rest =>
      clear HC20
      try clear c1
      try clear c2
      try clear p2
      try clear c5
      try clear c8
      try clear c11
      try clear c12
      try clear c13
      try clear c13b0
      try clear c13b1
      try clear c15
      try clear c16
      try clear c16b0
      try clear c16b1
      try clear c22
      try clear c22b0
      try clear c22b1
      try clear hcz10
      try clear hcz17
      try clear hcz18
      try clear hcz19
      try clear hcz21
      try clear hcz7
      try clear hcz9
      try clear p2
      obtain ⟨kq, x30_19, rfl, HA, HJ19, BK621, HB⟩ := hcut
      cases kq with
      | zero => exact absurd HA.out (by simp [spec_RecordOk.j1])
      | succ kj19 =>
       have H := HA.out
       clear HA
       simp only [spec_RecordOk.j1] at H
       by_cases c23 : x30_19 = true
       ·subst c23
        rw [if_pos rfl] at H
        by_cases c24 : a0_3 = 0
        ·rw [if_pos c24] at H
         have c24b0 := beq_iff_eq.mpr c24
         have c24b1 := bne_eq_false_iff_eq.mpr c24
         clear c24
         obtain ⟨t625, A25, H⟩ := bM H
         try dsimp only at H
         by_cases c26 : t625 = true
         ·subst c26
          rw [if_pos rfl] at H
          obtain rfl := Option.some.inj H
          have hcz27 := cells6f BK621.out
          go_wp2_with (first | (go_at_call 110; (with_reducible refine (spec_NameOk.calls kj19 a0_4 true _ A25.out).mono ?_); rintro e w28 ⟨rfl, hb⟩; replace BK621 := bB BK621 hb; replace HB := aS (below_step (wS1 HB.out GE621.out) hb); clear hb; have hcz29 := cells6f BK621.out))
          go_ret
          exact ⟨jE, by exact wS1 HB.out GE621.out⟩
         ·replace c26 := Bool.eq_false_iff.mpr c26
          subst c26
          rw [if_neg Bool.false_ne_true] at H
          obtain rfl := Option.some.inj H
          have hcz30 := cells6f BK621.out
          go_wp2_with (first | (go_at_call 110; (with_reducible refine (spec_NameOk.calls kj19 a0_4 false _ A25.out).mono ?_); rintro e w31 ⟨rfl, hb⟩; replace BK621 := bB BK621 hb; replace HB := aS (below_step (wS1 HB.out GE621.out) hb); clear hb))
          go_ret
          exact ⟨jE, by exact wS1 HB.out GE621.out⟩
        ·rw [if_neg c24] at H
         have c24b0 := beq_eq_false_iff_ne.mpr c24
         have c24b1 := bne_iff_ne.mpr c24
         obtain rfl := Option.some.inj H
         have hcz32 := cells6f BK621.out
         go_wp2
         go_ret
         exact ⟨jE, by exact wS1 HB.out GE621.out⟩
       ·replace c23 := Bool.eq_false_iff.mpr c23
        subst c23
        rw [if_neg Bool.false_ne_true] at H
        by_cases c33 : a0_1 = 6
        ·rw [if_pos c33] at H
         have c33b0 := beq_iff_eq.mpr c33
         have c33b1 := bne_eq_false_iff_eq.mpr c33
         clear c33
         obtain ⟨t626, A34, H⟩ := bM H
         try dsimp only at H
         by_cases c35 : t626 = true
         ·subst c35
          rw [if_pos rfl] at H
          obtain ⟨t627, A36, H⟩ := bM H
          try dsimp only at H
          by_cases c37 : t627 = true
          ·subst c37
           rw [if_pos rfl] at H
           obtain rfl := Option.some.inj H
           have hcz38 := cells6f BK621.out
           go_wp2_with (first | ((with_reducible refine gate_callee (f := 86) rfl ?_); refine gL (some 50) Tryd.func86 #[.int .i64 a0_3, .int .i64 0, .int .i64 100000] ?_; (with_reducible refine (spec_l1In.calls a0_3 0 100000 true _ A34.out).mono ?_); rintro e w' ⟨rfl, ⟨nd, rfl⟩⟩; refine ⟨_, rfl, ?_⟩) | (go_at_call 110; (with_reducible refine (spec_NameOk.calls kj19 a0_4 true _ A36.out).mono ?_); rintro e w39 ⟨rfl, hb⟩; replace BK621 := bB BK621 hb; replace HB := aS (below_step (wS1 HB.out GE621.out) hb); clear hb; have hcz40 := cells6f BK621.out))
           go_ret
           exact ⟨jE, by exact wS1 HB.out GE621.out⟩
          ·replace c37 := Bool.eq_false_iff.mpr c37
           subst c37
           rw [if_neg Bool.false_ne_true] at H
           obtain rfl := Option.some.inj H
           have hcz41 := cells6f BK621.out
           go_wp2_with (first | ((with_reducible refine gate_callee (f := 86) rfl ?_); refine gL (some 50) Tryd.func86 #[.int .i64 a0_3, .int .i64 0, .int .i64 100000] ?_; (with_reducible refine (spec_l1In.calls a0_3 0 100000 true _ A34.out).mono ?_); rintro e w' ⟨rfl, ⟨nd, rfl⟩⟩; refine ⟨_, rfl, ?_⟩) | (go_at_call 110; (with_reducible refine (spec_NameOk.calls kj19 a0_4 false _ A36.out).mono ?_); rintro e w42 ⟨rfl, hb⟩; replace BK621 := bB BK621 hb; replace HB := aS (below_step (wS1 HB.out GE621.out) hb); clear hb))
           go_ret
           exact ⟨jE, by exact wS1 HB.out GE621.out⟩
         ·replace c35 := Bool.eq_false_iff.mpr c35
          subst c35
          rw [if_neg Bool.false_ne_true] at H
          obtain rfl := Option.some.inj H
          have hcz43 := cells6f BK621.out
          go_wp2_with (first | ((with_reducible refine gate_callee (f := 86) rfl ?_); refine gL (some 50) Tryd.func86 #[.int .i64 a0_3, .int .i64 0, .int .i64 100000] ?_; (with_reducible refine (spec_l1In.calls a0_3 0 100000 false _ A34.out).mono ?_); rintro e w' ⟨rfl, ⟨nd, rfl⟩⟩; refine ⟨_, rfl, ?_⟩))
          go_ret
          exact ⟨jE, by exact wS1 HB.out GE621.out⟩
        ·rw [if_neg c33] at H
         have c33b0 := beq_eq_false_iff_ne.mpr c33
         have c33b1 := bne_iff_ne.mpr c33
         by_cases c44 : a0_1 = 16
         ·rw [if_pos c44] at H
          have c44b0 := beq_iff_eq.mpr c44
          have c44b1 := bne_eq_false_iff_eq.mpr c44
          clear c44
          by_cases c45 : a0_3 = 0
          ·rw [if_pos c45] at H
           have c45b0 := beq_iff_eq.mpr c45
           have c45b1 := bne_eq_false_iff_eq.mpr c45
           clear c45
           by_cases c46 : a0_4.toList = ([] : List UInt8)
           ·rw [if_pos c46] at H
            have c46b0 := beq_iff_eq.mpr c46
            have c46b1 := bne_eq_false_iff_eq.mpr c46
            clear c46
            obtain ⟨t628, A47, H⟩ := bM H
            try dsimp only at H
            obtain rfl := Option.some.inj H
            have hcz48 := cells6f BK621.out
            go_wp2_with (first | (go_at_call 88; (with_reducible refine (spec_l5Text.calls kj19 a0_5 t628 _ A47.out).mono ?_); rintro e w' ⟨rfl, ⟨nd, rfl⟩⟩))
            go_ret
            exact ⟨jE, by exact wS1 HB.out GE621.out⟩
           ·rw [if_neg c46] at H
            have c46b0 := beq_eq_false_iff_ne.mpr c46
            have c46b1 := bne_iff_ne.mpr c46
            obtain rfl := Option.some.inj H
            have hcz49 := cells6f BK621.out
            go_wp2
            go_ret
            exact ⟨jE, by exact wS1 HB.out GE621.out⟩
          ·rw [if_neg c45] at H
           have c45b0 := beq_eq_false_iff_ne.mpr c45
           have c45b1 := bne_iff_ne.mpr c45
           obtain rfl := Option.some.inj H
           have hcz50 := cells6f BK621.out
           go_wp2
           go_ret
           exact ⟨jE, by exact wS1 HB.out GE621.out⟩
         ·rw [if_neg c44] at H
          have c44b0 := beq_eq_false_iff_ne.mpr c44
          have c44b1 := bne_iff_ne.mpr c44
          obtain rfl := Option.some.inj H
          have hcz51 := cells6f BK621.out
          go_wp2
          go_ret
          exact ⟨jE, by exact wS1 HB.out GE621.out⟩

/-! ### spec_l7List: function 96 -/
def spec_l7List.l0 : Nat → List (S25) → Int → Option (Bool)
 | 0, _, _ => none
 | k + 1, x0, x3 => if x3 < (x0.length : Int) then (if 0 ≤ x3 then ((spec_RecordOk.f k ((rd_T25 x0 x3).f0) ((rd_T25 x0 x3).f1) ((rd_T25 x0 x3).f2) ((rd_T25 x0 x3).f3) ((rd_T25 x0 x3).f4) ((rd_T25 x0 x3).f5)).bind fun t630 => (if t630 = true then (spec_l7List.l0 k x0 (wrap64 (x3 + 1))) else (some false))) else (none)) else (some (decide ((x0.length : Int) ≤ 8)))
def spec_l7List.f (k : Nat) (l0 : List (S25)) : Option (Bool) := spec_l7List.l0 k l0 0
theorem spec_l7List.mono_l : ∀ k, (∀ y0 y1, LeO (spec_l7List.l0 k y0 y1) (spec_l7List.l0 (k + 1) y0 y1))
 | 0 => fun _ _ r h => by simp [spec_l7List.l0] at h
 | k + 1 => by
  have ih0 := spec_l7List.mono_l k
  ·intro y0 y1
   unfold spec_l7List.l0
   repeat' first
   | (with_reducible first | exact ih0 _ _ | exact spec_RecordOk.mono _ _ _ _ _ _ _ | exact LeO.refl _ | exact LeO.none _ | refine LeO.ite ?_ ?_ | refine LeO.bind ?_ (fun _ => ?_))
   | refine LeO.ite ?_ ?_
   | refine LeO.bind ?_ (fun _ => ?_)
theorem spec_l7List.mono : ∀ a0 k, LeO (spec_l7List.f k a0) (spec_l7List.f (k + 1) a0) := by
 intro a0 k
 have ih0 := spec_l7List.mono_l k
 unfold spec_l7List.f
 repeat' first
   | (with_reducible first | exact ih0 _ _ | exact spec_RecordOk.mono _ _ _ _ _ _ _ | exact LeO.refl _ | exact LeO.none _ | refine LeO.ite ?_ ?_ | refine LeO.bind ?_ (fun _ => ?_))
   | refine LeO.ite ?_ ?_
   | refine LeO.bind ?_ (fun _ => ?_)
set_option maxHeartbeats 8000000 in
set_option maxRecDepth 100000 in
theorem spec_l7List.calls (k : Nat) (A0 : Option Addr) (c0 : Nat) (l0 : List (S25)) (r : Bool) (w : World) (hr0 : Kd.C k25 w A0 l0.length l0) (hc0 : l0.length ≤ c0) (h : spec_l7List.f k l0 = some r) :
  Calls Tryd.prog 96 #[.slice A0 l0.length c0] w fun e w' => e = .returned (.bool r) ∧ Below w.heap.size w w' := by
 have hu25 := Tryd.underlying25
 have HR0 := aS hr0
 have HC0 := aS hc0
 clear hr0 hc0
 have HB := aS (Below.refl w.heap.size w)
 have H := h
 unfold spec_l7List.f at H
 clear h
 have H' := aS H
 clear H
 go_enter Tryd.func96, Tryd.ntmps96
 go_wp2
 go_loopg [3] k (fun kq v3 w' => ∃ (x3_1 : Int), v3 = .int .i64 x3_1 ∧ Aside0 (spec_l7List.l0 kq l0 x3_1 = some r) ∧ Aside0 (kq ≤ k) ∧ Aside0 (Below w.heap.size w w'))
 case atStart => exact ⟨(0), jB, H', ⟨Nat.le_refl _⟩, ⟨by exact wU HB.out⟩⟩
 case round =>
  clear H'
  obtain ⟨x3_1, rfl, HA, HK1, HB⟩ := hrel
  cases gk with
  | zero => exact absurd HA.out (by simp [spec_l7List.l0])
  | succ k1 =>
   have H := HA.out
   clear HA
   simp only [spec_l7List.l0] at H
   by_cases c2 : x3_1 < (l0.length : Int)
   ·rw [if_pos c2] at H
    have c2b0 := decide_eq_true c2
    clear c2
    by_cases c3 : 0 ≤ x3_1
    ·rw [if_pos c3] at H
     have c3b0 := decide_eq_true c3
     clear c3
     obtain ⟨t630, A4, H⟩ := bM H
     try dsimp only at H
     by_cases c5 : t630 = true
     ·subst c5
      rw [if_pos rfl] at H
      have H' := aS H
      clear H
      have p629 : 0 ≤ (x3_1 : Int) := of_decide_eq_true jC
      have q629 : x3_1 < (l0.length : Int) := of_decide_eq_true jC
      obtain ⟨ad629, e629, hx629_0, hx629_1, hx629_2, hx629_3, hx629_4, hx629_5⟩ := at_T25 HR0.out x3_1 p629 q629
      cases e629
      try replace hx629_0 := hC HB.out hx629_0
      try replace hx629_1 := hC HB.out hx629_1
      try replace hx629_2 := hC HB.out hx629_2
      try replace hx629_3 := hC HB.out hx629_3
      try replace hx629_4 := hC HB.out hx629_4
      try replace hx629_5 := hC HB.out hx629_5
      replace p629 := eq_true p629
      replace q629 := eq_true q629
      go_wp2_with (first | ((with_reducible refine gate_callee (f := 54) rfl ?_); refine gL (some 14) Tryd.func54 #[.agg #[.string ((rd_T25 l0 x3_1).f0), .int .i64 ((rd_T25 l0 x3_1).f1), .int .i64 ((rd_T25 l0 x3_1).f2), .int .i64 ((rd_T25 l0 x3_1).f3), .string ((rd_T25 l0 x3_1).f4), .string ((rd_T25 l0 x3_1).f5)]] ?_; (with_reducible refine (spec_RecordOk.calls k1 ((rd_T25 l0 x3_1).f0) ((rd_T25 l0 x3_1).f1) ((rd_T25 l0 x3_1).f2) ((rd_T25 l0 x3_1).f3) ((rd_T25 l0 x3_1).f4) ((rd_T25 l0 x3_1).f5) true _ A4.out).mono ?_); rintro e w6 ⟨rfl, hb⟩; refine ⟨_, rfl, ?_⟩; replace HB := aS (below_step (wU HB.out) hb); clear hb))
      go_roundg k1
      case measure => have := HK1.out; omega
      case rel => exact ⟨(wrap64 (x3_1 + 1)), jB, H', ⟨by have := HK1.out; omega⟩, ⟨by exact wU HB.out⟩⟩
     ·replace c5 := Bool.eq_false_iff.mpr c5
      subst c5
      rw [if_neg Bool.false_ne_true] at H
      obtain rfl := Option.some.inj H
      have p629 : 0 ≤ (x3_1 : Int) := of_decide_eq_true jC
      have q629 : x3_1 < (l0.length : Int) := of_decide_eq_true jC
      obtain ⟨ad629, e629, hx629_0, hx629_1, hx629_2, hx629_3, hx629_4, hx629_5⟩ := at_T25 HR0.out x3_1 p629 q629
      cases e629
      try replace hx629_0 := hC HB.out hx629_0
      try replace hx629_1 := hC HB.out hx629_1
      try replace hx629_2 := hC HB.out hx629_2
      try replace hx629_3 := hC HB.out hx629_3
      try replace hx629_4 := hC HB.out hx629_4
      try replace hx629_5 := hC HB.out hx629_5
      replace p629 := eq_true p629
      replace q629 := eq_true q629
      go_wp2_with (first | ((with_reducible refine gate_callee (f := 54) rfl ?_); refine gL (some 14) Tryd.func54 #[.agg #[.string ((rd_T25 l0 x3_1).f0), .int .i64 ((rd_T25 l0 x3_1).f1), .int .i64 ((rd_T25 l0 x3_1).f2), .int .i64 ((rd_T25 l0 x3_1).f3), .string ((rd_T25 l0 x3_1).f4), .string ((rd_T25 l0 x3_1).f5)]] ?_; (with_reducible refine (spec_RecordOk.calls k1 ((rd_T25 l0 x3_1).f0) ((rd_T25 l0 x3_1).f1) ((rd_T25 l0 x3_1).f2) ((rd_T25 l0 x3_1).f3) ((rd_T25 l0 x3_1).f4) ((rd_T25 l0 x3_1).f5) false _ A4.out).mono ?_); rintro e w7 ⟨rfl, hb⟩; refine ⟨_, rfl, ?_⟩; replace HB := aS (below_step (wU HB.out) hb); clear hb))
      go_ret
      exact ⟨jE, by exact wU HB.out⟩
    ·rw [if_neg c3] at H
     exact absurd H (by simp)
   ·rw [if_neg c2] at H
    have c2b0 := decide_eq_false c2
    clear c2
    obtain rfl := Option.some.inj H
    go_wp2
    go_ret
    exact ⟨jE, by exact wU HB.out⟩

/-! ### spec_MsgOk: function 39 -/
def spec_MsgOk.f (k : Nat) (a0_0 : Int) (a0_1 : Bool) (a0_2 : Bool) (a0_3 : Bool) (a0_4 : Bool) (a0_5 : Bool) (a0_6 : Int) (a0_7 : ByteArray) (a0_8 : Int) (l0_9 : List (S25)) (l0_10 : List (S25)) (l0_11 : List (S25)) : Option (Bool) := (spec_l1In.f a0_0 0 65535).bind fun t632 => (if t632 = true then ((spec_l1In.f a0_6 0 15).bind fun t633 => (if t633 = true then ((spec_QuestOk.f k a0_7 a0_8).bind fun t634 => (if t634 = true then ((spec_l7List.f k l0_9).bind fun t635 => (if t635 = true then ((spec_l7List.f k l0_10).bind fun t636 => (if t636 = true then ((spec_l7List.f k l0_11).bind fun t637 => (some t637)) else (some false))) else (some false))) else (some false))) else (some false))) else (some false))
theorem spec_MsgOk.mono : ∀ a0 a1 a2 a3 a4 a5 a6 a7 a8 a9 a10 a11 k, LeO (spec_MsgOk.f k a0 a1 a2 a3 a4 a5 a6 a7 a8 a9 a10 a11) (spec_MsgOk.f (k + 1) a0 a1 a2 a3 a4 a5 a6 a7 a8 a9 a10 a11) := by
 intro a0 a1 a2 a3 a4 a5 a6 a7 a8 a9 a10 a11 k
 unfold spec_MsgOk.f
 repeat' first
   | (with_reducible first | exact spec_QuestOk.mono _ _ _ | exact spec_l7List.mono _ _ | exact LeO.refl _ | exact LeO.none _ | refine LeO.ite ?_ ?_ | refine LeO.bind ?_ (fun _ => ?_))
   | refine LeO.ite ?_ ?_
   | refine LeO.bind ?_ (fun _ => ?_)
set_option maxHeartbeats 8000000 in
set_option maxRecDepth 100000 in
theorem spec_MsgOk.calls (k : Nat) (a0_0 : Int) (a0_1 : Bool) (a0_2 : Bool) (a0_3 : Bool) (a0_4 : Bool) (a0_5 : Bool) (a0_6 : Int) (a0_7 : ByteArray) (a0_8 : Int) (A0_9 : Option Addr) (c0_9 : Nat) (l0_9 : List (S25)) (A0_10 : Option Addr) (c0_10 : Nat) (l0_10 : List (S25)) (A0_11 : Option Addr) (c0_11 : Nat) (l0_11 : List (S25)) (r : Bool) (w : World) (hr0_9 : Kd.C k25 w A0_9 l0_9.length l0_9) (hc0_9 : l0_9.length ≤ c0_9) (hr0_10 : Kd.C k25 w A0_10 l0_10.length l0_10) (hc0_10 : l0_10.length ≤ c0_10) (hr0_11 : Kd.C k25 w A0_11 l0_11.length l0_11) (hc0_11 : l0_11.length ≤ c0_11) (h : spec_MsgOk.f k a0_0 a0_1 a0_2 a0_3 a0_4 a0_5 a0_6 a0_7 a0_8 l0_9 l0_10 l0_11 = some r) :
  Calls Tryd.prog 39 #[.agg #[.int .i64 a0_0, .bool a0_1, .bool a0_2, .bool a0_3, .bool a0_4, .bool a0_5, .int .i64 a0_6, .string a0_7, .int .i64 a0_8, .slice A0_9 l0_9.length c0_9, .slice A0_10 l0_10.length c0_10, .slice A0_11 l0_11.length c0_11]] w fun e w' => e = .returned (.bool r) ∧ Below w.heap.size w w' := by
 have hu52 := Tryd.underlying52
 have hu50 := Tryd.underlying50
 have HR0_9 := aS hr0_9
 have HC0_9 := aS hc0_9
 clear hr0_9 hc0_9
 have HR0_10 := aS hr0_10
 have HC0_10 := aS hc0_10
 clear hr0_10 hc0_10
 have HR0_11 := aS hr0_11
 have HC0_11 := aS hc0_11
 clear hr0_11 hc0_11
 have HB := aS (Below.refl w.heap.size w)
 have H := h
 unfold spec_MsgOk.f at H
 clear h
 obtain ⟨t632, A2, H⟩ := bM H
 try dsimp only at H
 by_cases c3 : t632 = true
 ·subst c3
  rw [if_pos rfl] at H
  obtain ⟨t633, A4, H⟩ := bM H
  try dsimp only at H
  by_cases c5 : t633 = true
  ·subst c5
   rw [if_pos rfl] at H
   obtain ⟨t634, A6, H⟩ := bM H
   try dsimp only at H
   by_cases c7 : t634 = true
   ·subst c7
    rw [if_pos rfl] at H
    obtain ⟨t635, A8, H⟩ := bM H
    try dsimp only at H
    by_cases c9 : t635 = true
    ·subst c9
     rw [if_pos rfl] at H
     obtain ⟨t636, A10, H⟩ := bM H
     try dsimp only at H
     by_cases c11 : t636 = true
     ·subst c11
      rw [if_pos rfl] at H
      obtain ⟨t637, A12, H⟩ := bM H
      try dsimp only at H
      obtain rfl := Option.some.inj H
      go_enter Tryd.func39, Tryd.ntmps39
      go_wp2_with (first | ((with_reducible refine gate_dst (N := 1) rfl ?_); refine xB 1 #[.int .i64 a0_0, .bool a0_1, .bool a0_2, .bool a0_3, .bool a0_4, .bool a0_5, .int .i64 a0_6, .string a0_7, .int .i64 a0_8, .slice A0_9 l0_9.length c0_9, .slice A0_10 l0_10.length c0_10, .slice A0_11 l0_11.length c0_11] 52 ?_; intro gb631 hg w13 hbox hb; have BK631 := aS (hbox); have GW631 := gW hg (wU HB.out); have GE631 := gW hg (wU HB.out); replace HB := aS (below_step (wU HB.out) hb); clear hb hbox hg; have hcz14 := cells12f BK631.out) | ((with_reducible refine gate_callee (f := 86) rfl ?_); refine gL (some 5) Tryd.func86 #[.int .i64 a0_0, .int .i64 0, .int .i64 65535] ?_; (with_reducible refine (spec_l1In.calls a0_0 0 65535 true _ A2.out).mono ?_); rintro e w' ⟨rfl, ⟨nd, rfl⟩⟩; refine ⟨_, rfl, ?_⟩) | (go_at_call 86; (with_reducible refine (spec_l1In.calls a0_6 0 15 true _ A4.out).mono ?_); rintro e w' ⟨rfl, ⟨nd, rfl⟩⟩) | (go_at_call 95; (with_reducible refine (spec_QuestOk.calls k a0_7 a0_8 true _ A6.out).mono ?_); rintro e w15 ⟨rfl, hb⟩; replace BK631 := bB BK631 hb; replace HB := aS (below_step (wS1 HB.out GE631.out) hb); clear hb; have hcz16 := cells12f BK631.out) | (go_at_call 96; (with_reducible refine (spec_l7List.calls k _ _ l0_9 true _ ?side1 ?side2 A8.out).mono ?_); (case side1 => exact cU ((Kd.C_below HR0_9.out HB.out))); (case side2 => exact HC0_9.out); rintro e w17 ⟨rfl, hb⟩; replace BK631 := bB BK631 hb; replace HB := aS (below_step (wS1 HB.out GE631.out) hb); clear hb; have hcz18 := cells12f BK631.out) | (go_at_call 96; (with_reducible refine (spec_l7List.calls k _ _ l0_10 true _ ?side1 ?side2 A10.out).mono ?_); (case side1 => exact cU ((Kd.C_below HR0_10.out HB.out))); (case side2 => exact HC0_10.out); rintro e w19 ⟨rfl, hb⟩; replace BK631 := bB BK631 hb; replace HB := aS (below_step (wS1 HB.out GE631.out) hb); clear hb; have hcz20 := cells12f BK631.out) | (go_at_call 96; (with_reducible refine (spec_l7List.calls k _ _ l0_11 t637 _ ?side1 ?side2 A12.out).mono ?_); (case side1 => exact cU ((Kd.C_below HR0_11.out HB.out))); (case side2 => exact HC0_11.out); rintro e w21 ⟨rfl, hb⟩; replace BK631 := bB BK631 hb; replace HB := aS (below_step (wS1 HB.out GE631.out) hb); clear hb))
      go_ret
      exact ⟨jE, by exact wS1 HB.out GE631.out⟩
     ·replace c11 := Bool.eq_false_iff.mpr c11
      subst c11
      rw [if_neg Bool.false_ne_true] at H
      obtain rfl := Option.some.inj H
      go_enter Tryd.func39, Tryd.ntmps39
      go_wp2_with (first | ((with_reducible refine gate_dst (N := 1) rfl ?_); refine xB 1 #[.int .i64 a0_0, .bool a0_1, .bool a0_2, .bool a0_3, .bool a0_4, .bool a0_5, .int .i64 a0_6, .string a0_7, .int .i64 a0_8, .slice A0_9 l0_9.length c0_9, .slice A0_10 l0_10.length c0_10, .slice A0_11 l0_11.length c0_11] 52 ?_; intro gb631 hg w22 hbox hb; have BK631 := aS (hbox); have GW631 := gW hg (wU HB.out); have GE631 := gW hg (wU HB.out); replace HB := aS (below_step (wU HB.out) hb); clear hb hbox hg; have hcz23 := cells12f BK631.out) | ((with_reducible refine gate_callee (f := 86) rfl ?_); refine gL (some 5) Tryd.func86 #[.int .i64 a0_0, .int .i64 0, .int .i64 65535] ?_; (with_reducible refine (spec_l1In.calls a0_0 0 65535 true _ A2.out).mono ?_); rintro e w' ⟨rfl, ⟨nd, rfl⟩⟩; refine ⟨_, rfl, ?_⟩) | (go_at_call 86; (with_reducible refine (spec_l1In.calls a0_6 0 15 true _ A4.out).mono ?_); rintro e w' ⟨rfl, ⟨nd, rfl⟩⟩) | (go_at_call 95; (with_reducible refine (spec_QuestOk.calls k a0_7 a0_8 true _ A6.out).mono ?_); rintro e w24 ⟨rfl, hb⟩; replace BK631 := bB BK631 hb; replace HB := aS (below_step (wS1 HB.out GE631.out) hb); clear hb; have hcz25 := cells12f BK631.out) | (go_at_call 96; (with_reducible refine (spec_l7List.calls k _ _ l0_9 true _ ?side1 ?side2 A8.out).mono ?_); (case side1 => exact cU ((Kd.C_below HR0_9.out HB.out))); (case side2 => exact HC0_9.out); rintro e w26 ⟨rfl, hb⟩; replace BK631 := bB BK631 hb; replace HB := aS (below_step (wS1 HB.out GE631.out) hb); clear hb; have hcz27 := cells12f BK631.out) | (go_at_call 96; (with_reducible refine (spec_l7List.calls k _ _ l0_10 false _ ?side1 ?side2 A10.out).mono ?_); (case side1 => exact cU ((Kd.C_below HR0_10.out HB.out))); (case side2 => exact HC0_10.out); rintro e w28 ⟨rfl, hb⟩; replace BK631 := bB BK631 hb; replace HB := aS (below_step (wS1 HB.out GE631.out) hb); clear hb))
      go_ret
      exact ⟨jE, by exact wS1 HB.out GE631.out⟩
    ·replace c9 := Bool.eq_false_iff.mpr c9
     subst c9
     rw [if_neg Bool.false_ne_true] at H
     obtain rfl := Option.some.inj H
     go_enter Tryd.func39, Tryd.ntmps39
     go_wp2_with (first | ((with_reducible refine gate_dst (N := 1) rfl ?_); refine xB 1 #[.int .i64 a0_0, .bool a0_1, .bool a0_2, .bool a0_3, .bool a0_4, .bool a0_5, .int .i64 a0_6, .string a0_7, .int .i64 a0_8, .slice A0_9 l0_9.length c0_9, .slice A0_10 l0_10.length c0_10, .slice A0_11 l0_11.length c0_11] 52 ?_; intro gb631 hg w29 hbox hb; have BK631 := aS (hbox); have GW631 := gW hg (wU HB.out); have GE631 := gW hg (wU HB.out); replace HB := aS (below_step (wU HB.out) hb); clear hb hbox hg; have hcz30 := cells12f BK631.out) | ((with_reducible refine gate_callee (f := 86) rfl ?_); refine gL (some 5) Tryd.func86 #[.int .i64 a0_0, .int .i64 0, .int .i64 65535] ?_; (with_reducible refine (spec_l1In.calls a0_0 0 65535 true _ A2.out).mono ?_); rintro e w' ⟨rfl, ⟨nd, rfl⟩⟩; refine ⟨_, rfl, ?_⟩) | (go_at_call 86; (with_reducible refine (spec_l1In.calls a0_6 0 15 true _ A4.out).mono ?_); rintro e w' ⟨rfl, ⟨nd, rfl⟩⟩) | (go_at_call 95; (with_reducible refine (spec_QuestOk.calls k a0_7 a0_8 true _ A6.out).mono ?_); rintro e w31 ⟨rfl, hb⟩; replace BK631 := bB BK631 hb; replace HB := aS (below_step (wS1 HB.out GE631.out) hb); clear hb; have hcz32 := cells12f BK631.out) | (go_at_call 96; (with_reducible refine (spec_l7List.calls k _ _ l0_9 false _ ?side1 ?side2 A8.out).mono ?_); (case side1 => exact cU ((Kd.C_below HR0_9.out HB.out))); (case side2 => exact HC0_9.out); rintro e w33 ⟨rfl, hb⟩; replace BK631 := bB BK631 hb; replace HB := aS (below_step (wS1 HB.out GE631.out) hb); clear hb))
     go_ret
     exact ⟨jE, by exact wS1 HB.out GE631.out⟩
   ·replace c7 := Bool.eq_false_iff.mpr c7
    subst c7
    rw [if_neg Bool.false_ne_true] at H
    obtain rfl := Option.some.inj H
    go_enter Tryd.func39, Tryd.ntmps39
    go_wp2_with (first | ((with_reducible refine gate_dst (N := 1) rfl ?_); refine xB 1 #[.int .i64 a0_0, .bool a0_1, .bool a0_2, .bool a0_3, .bool a0_4, .bool a0_5, .int .i64 a0_6, .string a0_7, .int .i64 a0_8, .slice A0_9 l0_9.length c0_9, .slice A0_10 l0_10.length c0_10, .slice A0_11 l0_11.length c0_11] 52 ?_; intro gb631 hg w34 hbox hb; have BK631 := aS (hbox); have GW631 := gW hg (wU HB.out); have GE631 := gW hg (wU HB.out); replace HB := aS (below_step (wU HB.out) hb); clear hb hbox hg; have hcz35 := cells12f BK631.out) | ((with_reducible refine gate_callee (f := 86) rfl ?_); refine gL (some 5) Tryd.func86 #[.int .i64 a0_0, .int .i64 0, .int .i64 65535] ?_; (with_reducible refine (spec_l1In.calls a0_0 0 65535 true _ A2.out).mono ?_); rintro e w' ⟨rfl, ⟨nd, rfl⟩⟩; refine ⟨_, rfl, ?_⟩) | (go_at_call 86; (with_reducible refine (spec_l1In.calls a0_6 0 15 true _ A4.out).mono ?_); rintro e w' ⟨rfl, ⟨nd, rfl⟩⟩) | (go_at_call 95; (with_reducible refine (spec_QuestOk.calls k a0_7 a0_8 false _ A6.out).mono ?_); rintro e w36 ⟨rfl, hb⟩; replace BK631 := bB BK631 hb; replace HB := aS (below_step (wS1 HB.out GE631.out) hb); clear hb))
    go_ret
    exact ⟨jE, by exact wS1 HB.out GE631.out⟩
  ·replace c5 := Bool.eq_false_iff.mpr c5
   subst c5
   rw [if_neg Bool.false_ne_true] at H
   obtain rfl := Option.some.inj H
   go_enter Tryd.func39, Tryd.ntmps39
   go_wp2_with (first | ((with_reducible refine gate_dst (N := 1) rfl ?_); refine xB 1 #[.int .i64 a0_0, .bool a0_1, .bool a0_2, .bool a0_3, .bool a0_4, .bool a0_5, .int .i64 a0_6, .string a0_7, .int .i64 a0_8, .slice A0_9 l0_9.length c0_9, .slice A0_10 l0_10.length c0_10, .slice A0_11 l0_11.length c0_11] 52 ?_; intro gb631 hg w37 hbox hb; have BK631 := aS (hbox); have GW631 := gW hg (wU HB.out); have GE631 := gW hg (wU HB.out); replace HB := aS (below_step (wU HB.out) hb); clear hb hbox hg; have hcz38 := cells12f BK631.out) | ((with_reducible refine gate_callee (f := 86) rfl ?_); refine gL (some 5) Tryd.func86 #[.int .i64 a0_0, .int .i64 0, .int .i64 65535] ?_; (with_reducible refine (spec_l1In.calls a0_0 0 65535 true _ A2.out).mono ?_); rintro e w' ⟨rfl, ⟨nd, rfl⟩⟩; refine ⟨_, rfl, ?_⟩) | (go_at_call 86; (with_reducible refine (spec_l1In.calls a0_6 0 15 false _ A4.out).mono ?_); rintro e w' ⟨rfl, ⟨nd, rfl⟩⟩))
   go_ret
   exact ⟨jE, by exact wS1 HB.out GE631.out⟩
 ·replace c3 := Bool.eq_false_iff.mpr c3
  subst c3
  rw [if_neg Bool.false_ne_true] at H
  obtain rfl := Option.some.inj H
  go_enter Tryd.func39, Tryd.ntmps39
  go_wp2_with (first | ((with_reducible refine gate_dst (N := 1) rfl ?_); refine xB 1 #[.int .i64 a0_0, .bool a0_1, .bool a0_2, .bool a0_3, .bool a0_4, .bool a0_5, .int .i64 a0_6, .string a0_7, .int .i64 a0_8, .slice A0_9 l0_9.length c0_9, .slice A0_10 l0_10.length c0_10, .slice A0_11 l0_11.length c0_11] 52 ?_; intro gb631 hg w39 hbox hb; have BK631 := aS (hbox); have GW631 := gW hg (wU HB.out); have GE631 := gW hg (wU HB.out); replace HB := aS (below_step (wU HB.out) hb); clear hb hbox hg; have hcz40 := cells12f BK631.out) | ((with_reducible refine gate_callee (f := 86) rfl ?_); refine gL (some 5) Tryd.func86 #[.int .i64 a0_0, .int .i64 0, .int .i64 65535] ?_; (with_reducible refine (spec_l1In.calls a0_0 0 65535 false _ A2.out).mono ?_); rintro e w' ⟨rfl, ⟨nd, rfl⟩⟩; refine ⟨_, rfl, ?_⟩))
  go_ret
  exact ⟨jE, by exact wS1 HB.out GE631.out⟩

end Go.Proofs.YtdigilidomimdaaDoor.Pr
