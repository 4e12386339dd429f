-- Written for this claim by a program of this session (wip/tool/pr.py, over the kit's printer).
-- half
import Derived.Test.YtdigilidomimdaaDoorPrx0
import Derived.Test.YtdigilidomimdaaDoorPrx1
import Derived.Test.YtdigilidomimdaaDoorPrx2
namespace Go.Proofs.YtdigilidomimdaaDoor.Pr
open Go.RowKit Go.Proofs.YtdigilidomimdaaDoorW.PrintWords Go.Proofs.YtdigilidomimdaaDoorW.PrintLast Go.Proofs.YtdigilidomimdaaDoorW.PrintMore
attribute [local go_sem] max2_int min2_int max_two min_two max_three min_three max_four min_four   -- for this text's walks alone
set_option linter.unusedVariables false
set_option linter.unusedSimpArgs false

attribute [local go_sem high] eqA25 eqA50
/-! ### laws_sameRecs: function 22 -/
def laws_sameRecs.l0 : Nat → List (S25) → List (S25) → Int → Option (Bool)
 | 0, _, _, _ => none
 | k + 1, x0, x1, x5 => if x5 < (x0.length : Int) then (if 0 ≤ x5 then (if x5 < (x1.length : Int) then (if (!((((rd_T25 x0 x5).f0).toList) == (((rd_T25 x1 x5).f0).toList)) || (!(((rd_T25 x0 x5).f1) == ((rd_T25 x1 x5).f1)) || (!(((rd_T25 x0 x5).f2) == ((rd_T25 x1 x5).f2)) || (!(((rd_T25 x0 x5).f3) == ((rd_T25 x1 x5).f3)) || (!((((rd_T25 x0 x5).f4).toList) == (((rd_T25 x1 x5).f4).toList)) || (!((((rd_T25 x0 x5).f5).toList) == (((rd_T25 x1 x5).f5).toList)))))))) = true then (some false) else (laws_sameRecs.l0 k x0 x1 (wrap64 (x5 + 1)))) else (none)) else (none)) else (some true)
def laws_sameRecs.f (k : Nat) (l0 : List (S25)) (l1 : List (S25)) : Option (Bool) := if (l0.length : Int) = (l1.length : Int) then (laws_sameRecs.l0 k l0 l1 0) else (some false)
theorem laws_sameRecs.mono_l : ∀ k, (∀ y0 y1 y2, LeO (laws_sameRecs.l0 k y0 y1 y2) (laws_sameRecs.l0 (k + 1) y0 y1 y2))
 | 0 => fun _ _ _ r h => by simp [laws_sameRecs.l0] at h
 | k + 1 => by
  have ih0 := laws_sameRecs.mono_l k
  ·intro y0 y1 y2
   unfold laws_sameRecs.l0
   repeat' first
   | (with_reducible first | exact ih0 _ _ _ | exact LeO.refl _ | exact LeO.none _ | refine LeO.ite ?_ ?_ | refine LeO.bind ?_ (fun _ => ?_))
   | refine LeO.ite ?_ ?_
   | refine LeO.bind ?_ (fun _ => ?_)
theorem laws_sameRecs.mono : ∀ a0 a1 k, LeO (laws_sameRecs.f k a0 a1) (laws_sameRecs.f (k + 1) a0 a1) := by
 intro a0 a1 k
 have ih0 := laws_sameRecs.mono_l k
 unfold laws_sameRecs.f
 repeat' first
   | (with_reducible first | exact ih0 _ _ _ | exact LeO.refl _ | exact LeO.none _ | refine LeO.ite ?_ ?_ | refine LeO.bind ?_ (fun _ => ?_))
   | refine LeO.ite ?_ ?_
   | refine LeO.bind ?_ (fun _ => ?_)
set_option maxHeartbeats 8000000 in
set_option maxRecDepth 100000 in
theorem laws_sameRecs.calls (k : Nat) (A0 : Option Addr) (c0 : Nat) (l0 : List (S25)) (A1 : Option Addr) (c1 : Nat) (l1 : List (S25)) (r : Bool) (w : World) (hr0 : Kd.C k25 w A0 l0.length l0) (hc0 : l0.length ≤ c0) (hr1 : Kd.C k25 w A1 l1.length l1) (hc1 : l1.length ≤ c1) (h : laws_sameRecs.f k l0 l1 = some r) :
  Calls Tryd.prog 22 #[.slice A0 l0.length c0, .slice A1 l1.length c1] w fun e w' => e = .returned (.bool r) ∧ Drawn0 w w' := by
 have hu25 := Tryd.underlying25
 have HR0 := aS hr0
 have HC0 := aS hc0
 clear hr0 hc0
 have HR1 := aS hr1
 have HC1 := aS hc1
 clear hr1 hc1
 have H := h
 unfold laws_sameRecs.f at H
 clear h
 by_cases c3 : (l0.length : Int) = (l1.length : Int)
 ·rw [if_pos c3] at H
  have c3b0 := beq_iff_eq.mpr c3
  have c3b1 := bne_eq_false_iff_eq.mpr c3
  have c3b2 : (l0.length == l1.length) = true := by first | simpa using c3 | (simp at c3 ⊢; omega)
  clear c3
  have H' := aS H
  clear H
  go_enter Tryd.func22, Tryd.ntmps22
  go_wp2
  repeat (go_quiet (fail); try go_wp2)
  go_loopg [5] k (fun kq v5 w' => ∃ (x5_1 : Int), v5 = .int .i64 x5_1 ∧ Aside0 (laws_sameRecs.l0 kq l0 l1 x5_1 = some r) ∧ Aside0 (kq ≤ k) ∧ Drawn0 w w')
  case atStart => exact ⟨(0), jB, H', ⟨Nat.le_refl _⟩, by repeat (first | exact Drawn0.refl _ | apply Drawn0.step)⟩
  case round =>
   clear H'
   try clear c1
   try clear c2
   try clear p2
   try clear c3
   try clear c3b0
   try clear c3b1
   try clear c3b2
   obtain ⟨x5_1, rfl, HA, HK1, ⟨m1, rfl⟩⟩ := hrel
   cases gk with
   | zero => exact absurd HA.out (by simp [laws_sameRecs.l0])
   | succ k1 =>
    have H := HA.out
    clear HA
    simp only [laws_sameRecs.l0] at H
    by_cases c4 : x5_1 < (l0.length : Int)
    ·rw [if_pos c4] at H
     have c4b0 := decide_eq_true c4
     clear c4
     by_cases c5 : 0 ≤ x5_1
     ·rw [if_pos c5] at H
      have c5b0 := decide_eq_true c5
      clear c5
      by_cases c6 : x5_1 < (l1.length : Int)
      ·rw [if_pos c6] at H
       have c6b0 := decide_eq_true c6
       clear c6
       by_cases c7 : (!((((rd_T25 l0 x5_1).f0).toList) == (((rd_T25 l1 x5_1).f0).toList)) || (!(((rd_T25 l0 x5_1).f1) == ((rd_T25 l1 x5_1).f1)) || (!(((rd_T25 l0 x5_1).f2) == ((rd_T25 l1 x5_1).f2)) || (!(((rd_T25 l0 x5_1).f3) == ((rd_T25 l1 x5_1).f3)) || (!((((rd_T25 l0 x5_1).f4).toList) == (((rd_T25 l1 x5_1).f4).toList)) || (!((((rd_T25 l0 x5_1).f5).toList) == (((rd_T25 l1 x5_1).f5).toList)))))))) = true
       ·rw [if_pos c7] at H
        have c7b0 : (!((((rd_T25 l0 x5_1).f0).toList) == (((rd_T25 l1 x5_1).f0).toList)) || (!(((rd_T25 l0 x5_1).f1) == ((rd_T25 l1 x5_1).f1)) || (!(((rd_T25 l0 x5_1).f2) == ((rd_T25 l1 x5_1).f2)) || (!(((rd_T25 l0 x5_1).f3) == ((rd_T25 l1 x5_1).f3)) || (!((((rd_T25 l0 x5_1).f4).toList) == (((rd_T25 l1 x5_1).f4).toList)) || (!((((rd_T25 l0 x5_1).f5).toList) == (((rd_T25 l1 x5_1).f5).toList)))))))) = true := c7
        clear c7
        obtain rfl := Option.some.inj H
        have p533 : 0 ≤ (x5_1 : Int) := of_decide_eq_true jC
        have q533 : x5_1 < (l0.length : Int) := of_decide_eq_true jC
        obtain ⟨ad533, e533, hx533_0, hx533_1, hx533_2, hx533_3, hx533_4, hx533_5⟩ := at_T25 HR0.out x5_1 p533 q533
        cases e533
        replace p533 := eq_true p533
        replace q533 := eq_true q533
        have p534 : 0 ≤ (x5_1 : Int) := of_decide_eq_true jC
        have q534 : x5_1 < (l1.length : Int) := of_decide_eq_true jC
        obtain ⟨ad534, e534, hx534_0, hx534_1, hx534_2, hx534_3, hx534_4, hx534_5⟩ := at_T25 HR1.out x5_1 p534 q534
        cases e534
        replace p534 := eq_true p534
        replace q534 := eq_true q534
        go_wp2
        repeat (go_quiet (fail); try go_wp2)
        go_ret
        exact ⟨by first | rfl | (simp; done) | (simp [*]; done) | (simp [X.bne_nil, X.beq_nil]; done) | (simp [*, X.bne_nil, X.beq_nil]; done) | (simp [X.bne_nil, X.beq_nil]; done), by repeat (first | exact Drawn0.refl _ | apply Drawn0.step)⟩
       ·rw [if_neg c7] at H
        have c7b0 : (!((((rd_T25 l0 x5_1).f0).toList) == (((rd_T25 l1 x5_1).f0).toList)) || (!(((rd_T25 l0 x5_1).f1) == ((rd_T25 l1 x5_1).f1)) || (!(((rd_T25 l0 x5_1).f2) == ((rd_T25 l1 x5_1).f2)) || (!(((rd_T25 l0 x5_1).f3) == ((rd_T25 l1 x5_1).f3)) || (!((((rd_T25 l0 x5_1).f4).toList) == (((rd_T25 l1 x5_1).f4).toList)) || (!((((rd_T25 l0 x5_1).f5).toList) == (((rd_T25 l1 x5_1).f5).toList)))))))) = false := by simpa using c7
        clear c7
        have H' := aS H
        clear H
        have p533 : 0 ≤ (x5_1 : Int) := of_decide_eq_true jC
        have q533 : x5_1 < (l0.length : Int) := of_decide_eq_true jC
        obtain ⟨ad533, e533, hx533_0, hx533_1, hx533_2, hx533_3, hx533_4, hx533_5⟩ := at_T25 HR0.out x5_1 p533 q533
        cases e533
        replace p533 := eq_true p533
        replace q533 := eq_true q533
        have p534 : 0 ≤ (x5_1 : Int) := of_decide_eq_true jC
        have q534 : x5_1 < (l1.length : Int) := of_decide_eq_true jC
        obtain ⟨ad534, e534, hx534_0, hx534_1, hx534_2, hx534_3, hx534_4, hx534_5⟩ := at_T25 HR1.out x5_1 p534 q534
        cases e534
        replace p534 := eq_true p534
        replace q534 := eq_true q534
        go_wp2
        repeat (go_quiet (fail); try go_wp2)
        go_roundg k1
        case measure => have := HK1.out; omega
        case rel => exact ⟨(wrap64 (x5_1 + 1)), jB, H', ⟨by have := HK1.out; omega⟩, by repeat (first | exact Drawn0.refl _ | apply Drawn0.step)⟩
      ·rw [if_neg c6] at H
       exact absurd H (by simp)
     ·rw [if_neg c5] at H
      exact absurd H (by simp)
    ·rw [if_neg c4] at H
     have c4b0 := decide_eq_false c4
     clear c4
     obtain rfl := Option.some.inj H
     go_wp2
     repeat (go_quiet (fail); try go_wp2)
     go_ret
     exact ⟨by first | rfl | (simp; done) | (simp [*]; done) | (simp [X.bne_nil, X.beq_nil]; done) | (simp [*, X.bne_nil, X.beq_nil]; done) | (simp [X.bne_nil, X.beq_nil]; done), by repeat (first | exact Drawn0.refl _ | apply Drawn0.step)⟩
 ·rw [if_neg c3] at H
  have c3b0 := beq_eq_false_iff_ne.mpr c3
  have c3b1 := bne_iff_ne.mpr c3
  have c3b2 : (l0.length == l1.length) = false := by first | simpa using c3 | (simp at c3 ⊢; omega)
  obtain rfl := Option.some.inj H
  go_enter Tryd.func22, Tryd.ntmps22
  go_wp2
  repeat (go_quiet (fail); try go_wp2)
  go_ret
  exact ⟨by first | rfl | (simp; done) | (simp [*]; done) | (simp [X.bne_nil, X.beq_nil]; done) | (simp [*, X.bne_nil, X.beq_nil]; done) | (simp [X.bne_nil, X.beq_nil]; done), by repeat (first | exact Drawn0.refl _ | apply Drawn0.step)⟩

/-! ### laws_sameMsg: function 34 -/
def laws_sameMsg.f (k : Nat) (a0_0 : Int) (a0_1 : Bool) (a0_2 : Bool) (a0_3 : Bool) (a0_4 : Bool) (a0_5 : Bool) (a0_6 : Int) (a0_7 : ByteArray) (a0_8 : Int) (l0_9 : List (S25)) (l0_10 : List (S25)) (l0_11 : List (S25)) (a1_0 : Int) (a1_1 : Bool) (a1_2 : Bool) (a1_3 : Bool) (a1_4 : Bool) (a1_5 : Bool) (a1_6 : Int) (a1_7 : ByteArray) (a1_8 : Int) (l1_9 : List (S25)) (l1_10 : List (S25)) (l1_11 : List (S25)) : Option (Bool) := if a0_0 = a1_0 then (if (a0_1 == a1_1) = true then (if (a0_2 == a1_2) = true then (if (a0_3 == a1_3) = true then (if (a0_4 == a1_4) = true then (if (a0_5 == a1_5) = true then (if a0_6 = a1_6 then (if (a0_7.toList == a1_7.toList && (a0_8 == a1_8)) = true then ((laws_sameRecs.f k l0_9 l1_9).bind fun t537 => (if t537 = true then ((laws_sameRecs.f k l0_10 l1_10).bind fun t538 => (if t538 = true then ((laws_sameRecs.f k l0_11 l1_11).bind fun t539 => (some t539)) else (some false))) else (some false))) else (some false)) else (some false)) else (some false)) else (some false)) else (some false)) else (some false)) else (some false)) else (some false)
theorem laws_sameMsg.mono : ∀ a0 a1 a2 a3 a4 a5 a6 a7 a8 a9 a10 a11 a12 a13 a14 a15 a16 a17 a18 a19 a20 a21 a22 a23 k, LeO (laws_sameMsg.f k a0 a1 a2 a3 a4 a5 a6 a7 a8 a9 a10 a11 a12 a13 a14 a15 a16 a17 a18 a19 a20 a21 a22 a23) (laws_sameMsg.f (k + 1) a0 a1 a2 a3 a4 a5 a6 a7 a8 a9 a10 a11 a12 a13 a14 a15 a16 a17 a18 a19 a20 a21 a22 a23) := by
 intro a0 a1 a2 a3 a4 a5 a6 a7 a8 a9 a10 a11 a12 a13 a14 a15 a16 a17 a18 a19 a20 a21 a22 a23 k
 unfold laws_sameMsg.f
 repeat' first
   | (with_reducible first | exact laws_sameRecs.mono _ _ _ | exact LeO.refl _ | exact LeO.none _ | refine LeO.ite ?_ ?_ | refine LeO.bind ?_ (fun _ => ?_))
   | refine LeO.ite ?_ ?_
   | refine LeO.bind ?_ (fun _ => ?_)
set_option maxHeartbeats 8000000 in
set_option maxRecDepth 100000 in
theorem laws_sameMsg.calls (k : Nat) (a0_0 : Int) (a0_1 : Bool) (a0_2 : Bool) (a0_3 : Bool) (a0_4 : Bool) (a0_5 : Bool) (a0_6 : Int) (a0_7 : ByteArray) (a0_8 : Int) (A0_9 : Option Addr) (c0_9 : Nat) (l0_9 : List (S25)) (A0_10 : Option Addr) (c0_10 : Nat) (l0_10 : List (S25)) (A0_11 : Option Addr) (c0_11 : Nat) (l0_11 : List (S25)) (a1_0 : Int) (a1_1 : Bool) (a1_2 : Bool) (a1_3 : Bool) (a1_4 : Bool) (a1_5 : Bool) (a1_6 : Int) (a1_7 : ByteArray) (a1_8 : Int) (A1_9 : Option Addr) (c1_9 : Nat) (l1_9 : List (S25)) (A1_10 : Option Addr) (c1_10 : Nat) (l1_10 : List (S25)) (A1_11 : Option Addr) (c1_11 : Nat) (l1_11 : List (S25)) (r : Bool) (w : World) (hr0_9 : Kd.C k25 w A0_9 l0_9.length l0_9) (hc0_9 : l0_9.length ≤ c0_9) (hr0_10 : Kd.C k25 w A0_10 l0_10.length l0_10) (hc0_10 : l0_10.length ≤ c0_10) (hr0_11 : Kd.C k25 w A0_11 l0_11.length l0_11) (hc0_11 : l0_11.length ≤ c0_11) (hr1_9 : Kd.C k25 w A1_9 l1_9.length l1_9) (hc1_9 : l1_9.length ≤ c1_9) (hr1_10 : Kd.C k25 w A1_10 l1_10.length l1_10) (hc1_10 : l1_10.length ≤ c1_10) (hr1_11 : Kd.C k25 w A1_11 l1_11.length l1_11) (hc1_11 : l1_11.length ≤ c1_11) (h : laws_sameMsg.f k a0_0 a0_1 a0_2 a0_3 a0_4 a0_5 a0_6 a0_7 a0_8 l0_9 l0_10 l0_11 a1_0 a1_1 a1_2 a1_3 a1_4 a1_5 a1_6 a1_7 a1_8 l1_9 l1_10 l1_11 = some r) :
  Calls Tryd.prog 34 #[.agg #[.int .i64 a0_0, .bool a0_1, .bool a0_2, .bool a0_3, .bool a0_4, .bool a0_5, .int .i64 a0_6, .string a0_7, .int .i64 a0_8, .slice A0_9 l0_9.length c0_9, .slice A0_10 l0_10.length c0_10, .slice A0_11 l0_11.length c0_11], .agg #[.int .i64 a1_0, .bool a1_1, .bool a1_2, .bool a1_3, .bool a1_4, .bool a1_5, .int .i64 a1_6, .string a1_7, .int .i64 a1_8, .slice A1_9 l1_9.length c1_9, .slice A1_10 l1_10.length c1_10, .slice A1_11 l1_11.length c1_11]] w fun e w' => e = .returned (.bool r) ∧ Below w.heap.size w w' := by
 have hu52 := Tryd.underlying52
 have hu50 := Tryd.underlying50
 have HR0_9 := aS hr0_9
 have HC0_9 := aS hc0_9
 clear hr0_9 hc0_9
 have HR0_10 := aS hr0_10
 have HC0_10 := aS hc0_10
 clear hr0_10 hc0_10
 have HR0_11 := aS hr0_11
 have HC0_11 := aS hc0_11
 clear hr0_11 hc0_11
 have HR1_9 := aS hr1_9
 have HC1_9 := aS hc1_9
 clear hr1_9 hc1_9
 have HR1_10 := aS hr1_10
 have HC1_10 := aS hc1_10
 clear hr1_10 hc1_10
 have HR1_11 := aS hr1_11
 have HC1_11 := aS hc1_11
 clear hr1_11 hc1_11
 have HB := aS (Below.refl w.heap.size w)
 have H := h
 unfold laws_sameMsg.f at H
 clear h
 by_cases c3 : a0_0 = a1_0
 ·rw [if_pos c3] at H
  have c3b0 := beq_iff_eq.mpr c3
  have c3b1 := bne_eq_false_iff_eq.mpr c3
  clear c3
  by_cases c4 : (a0_1 == a1_1) = true
  ·rw [if_pos c4] at H
   have c4b0 : (a0_1 == a1_1) = true := c4
   (try (have c4b1 : decide (a0_1 = a1_1) = true := by simpa using c4))
   (try (have c4b2 : (a0_1 == a1_1) = true := by simpa using c4))
   clear c4
   by_cases c5 : (a0_2 == a1_2) = true
   ·rw [if_pos c5] at H
    have c5b0 : (a0_2 == a1_2) = true := c5
    (try (have c5b1 : decide (a0_2 = a1_2) = true := by simpa using c5))
    (try (have c5b2 : (a0_2 == a1_2) = true := by simpa using c5))
    clear c5
    by_cases c6 : (a0_3 == a1_3) = true
    ·rw [if_pos c6] at H
     have c6b0 : (a0_3 == a1_3) = true := c6
     (try (have c6b1 : decide (a0_3 = a1_3) = true := by simpa using c6))
     (try (have c6b2 : (a0_3 == a1_3) = true := by simpa using c6))
     clear c6
     by_cases c7 : (a0_4 == a1_4) = true
     ·rw [if_pos c7] at H
      have c7b0 : (a0_4 == a1_4) = true := c7
      (try (have c7b1 : decide (a0_4 = a1_4) = true := by simpa using c7))
      (try (have c7b2 : (a0_4 == a1_4) = true := by simpa using c7))
      clear c7
      by_cases c8 : (a0_5 == a1_5) = true
      ·rw [if_pos c8] at H
       have c8b0 : (a0_5 == a1_5) = true := c8
       (try (have c8b1 : decide (a0_5 = a1_5) = true := by simpa using c8))
       (try (have c8b2 : (a0_5 == a1_5) = true := by simpa using c8))
       clear c8
       by_cases c9 : a0_6 = a1_6
       ·rw [if_pos c9] at H
        have c9b0 := beq_iff_eq.mpr c9
        have c9b1 := bne_eq_false_iff_eq.mpr c9
        clear c9
        by_cases c10 : (a0_7.toList == a1_7.toList && (a0_8 == a1_8)) = true
        ·rw [if_pos c10] at H
         have c10b0 : (a0_7.toList == a1_7.toList && (a0_8 == a1_8)) = true := c10
         (try (have c10b1 : decide (a0_7.toList = a1_7.toList && (a0_8 == a1_8)) = true := by simpa using c10))
         (try (have c10b2 : (a0_7.toList == a1_7.toList && (a0_8 == a1_8)) = true := by simpa using c10))
         clear c10
         obtain ⟨t537, A11, H⟩ := bM H
         try dsimp only at H
         by_cases c12 : t537 = true
         ·subst c12
          rw [if_pos rfl] at H
          obtain ⟨t538, A13, H⟩ := bM H
          try dsimp only at H
          by_cases c14 : t538 = true
          ·subst c14
           rw [if_pos rfl] at H
           obtain ⟨t539, A15, H⟩ := bM H
           try dsimp only at H
           obtain rfl := Option.some.inj H
           go_enter Tryd.func34, Tryd.ntmps34
           go_wp2_with (first | ((with_reducible refine gate_dst (N := 2) rfl ?_); refine xB 2 #[.int .i64 a0_0, .bool a0_1, .bool a0_2, .bool a0_3, .bool a0_4, .bool a0_5, .int .i64 a0_6, .string a0_7, .int .i64 a0_8, .slice A0_9 l0_9.length c0_9, .slice A0_10 l0_10.length c0_10, .slice A0_11 l0_11.length c0_11] 52 ?_; intro gb535 hg w16 hbox hb; have BK535 := aS (hbox); have GW535 := gW hg (wU HB.out); have GE535 := gW hg (wU HB.out); replace HB := aS (below_step (wU HB.out) hb); clear hb hbox hg) | ((with_reducible refine gate_dst (N := 3) rfl ?_); refine xB 3 #[.int .i64 a1_0, .bool a1_1, .bool a1_2, .bool a1_3, .bool a1_4, .bool a1_5, .int .i64 a1_6, .string a1_7, .int .i64 a1_8, .slice A1_9 l1_9.length c1_9, .slice A1_10 l1_10.length c1_10, .slice A1_11 l1_11.length c1_11] 52 ?_; intro gb536 hg w17 hbox hb; have BK536 := aS (hbox); have GW536 := gW hg (wS1 HB.out GE535.out); have GE536 := gW hg (wS1 HB.out GE535.out); replace HB := aS (below_step (wS1 HB.out GE535.out) hb); have NB535_536 := nB hg BK535; have NB536_535 := nS NB535_536; replace BK535 := bB BK535 hb; clear hb hbox hg; have hnb18 := NB535_536.out; have hnc18 := NB536_535.out; have hcz19 := cells12f BK535.out; have hcz20 := cells12f BK536.out) | (go_at_call 22; (with_reducible refine (laws_sameRecs.calls k _ _ l0_9 _ _ l1_9 true _ ?side1 ?side2 ?side3 ?side4 A11.out).mono ?_); (case side1 => exact cU ((Kd.C_below HR0_9.out HB.out))); (case side2 => exact HC0_9.out); (case side3 => exact cU ((Kd.C_below HR1_9.out HB.out))); (case side4 => exact HC1_9.out); rintro e w' ⟨rfl, ⟨nd, rfl⟩⟩) | (go_at_call 22; (with_reducible refine (laws_sameRecs.calls k _ _ l0_10 _ _ l1_10 true _ ?side1 ?side2 ?side3 ?side4 A13.out).mono ?_); (case side1 => repeat (first | exact (Kd.C_below HR0_10.out (wS2 HB.out GE535.out GE536.out)) | (with_reducible refine Kd.C_alloc ?_ _) | (with_reducible refine Kd.C_drewN ?_ _) | (with_reducible refine Kd.C_drew ?_))); (case side2 => exact HC0_10.out); (case side3 => repeat (first | exact (Kd.C_below HR1_10.out (wS2 HB.out GE535.out GE536.out)) | (with_reducible refine Kd.C_alloc ?_ _) | (with_reducible refine Kd.C_drewN ?_ _) | (with_reducible refine Kd.C_drew ?_))); (case side4 => exact HC1_10.out); rintro e w' ⟨rfl, ⟨nd, rfl⟩⟩) | (go_at_call 22; (with_reducible refine (laws_sameRecs.calls k _ _ l0_11 _ _ l1_11 t539 _ ?side1 ?side2 ?side3 ?side4 A15.out).mono ?_); (case side1 => repeat (first | exact (Kd.C_below HR0_11.out (wS2 HB.out GE535.out GE536.out)) | (with_reducible refine Kd.C_alloc ?_ _) | (with_reducible refine Kd.C_drewN ?_ _) | (with_reducible refine Kd.C_drew ?_))); (case side2 => exact HC0_11.out); (case side3 => repeat (first | exact (Kd.C_below HR1_11.out (wS2 HB.out GE535.out GE536.out)) | (with_reducible refine Kd.C_alloc ?_ _) | (with_reducible refine Kd.C_drewN ?_ _) | (with_reducible refine Kd.C_drew ?_))); (case side4 => exact HC1_11.out); rintro e w' ⟨rfl, ⟨nd, rfl⟩⟩))
           go_ret
           exact ⟨jE, by exact wS2 HB.out GE535.out GE536.out⟩
          ·replace c14 := Bool.eq_false_iff.mpr c14
           subst c14
           rw [if_neg Bool.false_ne_true] at H
           obtain rfl := Option.some.inj H
           go_enter Tryd.func34, Tryd.ntmps34
           go_wp2_with (first | ((with_reducible refine gate_dst (N := 2) rfl ?_); refine xB 2 #[.int .i64 a0_0, .bool a0_1, .bool a0_2, .bool a0_3, .bool a0_4, .bool a0_5, .int .i64 a0_6, .string a0_7, .int .i64 a0_8, .slice A0_9 l0_9.length c0_9, .slice A0_10 l0_10.length c0_10, .slice A0_11 l0_11.length c0_11] 52 ?_; intro gb535 hg w21 hbox hb; have BK535 := aS (hbox); have GW535 := gW hg (wU HB.out); have GE535 := gW hg (wU HB.out); replace HB := aS (below_step (wU HB.out) hb); clear hb hbox hg) | ((with_reducible refine gate_dst (N := 3) rfl ?_); refine xB 3 #[.int .i64 a1_0, .bool a1_1, .bool a1_2, .bool a1_3, .bool a1_4, .bool a1_5, .int .i64 a1_6, .string a1_7, .int .i64 a1_8, .slice A1_9 l1_9.length c1_9, .slice A1_10 l1_10.length c1_10, .slice A1_11 l1_11.length c1_11] 52 ?_; intro gb536 hg w22 hbox hb; have BK536 := aS (hbox); have GW536 := gW hg (wS1 HB.out GE535.out); have GE536 := gW hg (wS1 HB.out GE535.out); replace HB := aS (below_step (wS1 HB.out GE535.out) hb); have NB535_536 := nB hg BK535; have NB536_535 := nS NB535_536; replace BK535 := bB BK535 hb; clear hb hbox hg; have hnb23 := NB535_536.out; have hnc23 := NB536_535.out; have hcz24 := cells12f BK535.out; have hcz25 := cells12f BK536.out) | (go_at_call 22; (with_reducible refine (laws_sameRecs.calls k _ _ l0_9 _ _ l1_9 true _ ?side1 ?side2 ?side3 ?side4 A11.out).mono ?_); (case side1 => exact cU ((Kd.C_below HR0_9.out HB.out))); (case side2 => exact HC0_9.out); (case side3 => exact cU ((Kd.C_below HR1_9.out HB.out))); (case side4 => exact HC1_9.out); rintro e w' ⟨rfl, ⟨nd, rfl⟩⟩) | (go_at_call 22; (with_reducible refine (laws_sameRecs.calls k _ _ l0_10 _ _ l1_10 false _ ?side1 ?side2 ?side3 ?side4 A13.out).mono ?_); (case side1 => repeat (first | exact (Kd.C_below HR0_10.out (wS2 HB.out GE535.out GE536.out)) | (with_reducible refine Kd.C_alloc ?_ _) | (with_reducible refine Kd.C_drewN ?_ _) | (with_reducible refine Kd.C_drew ?_))); (case side2 => exact HC0_10.out); (case side3 => repeat (first | exact (Kd.C_below HR1_10.out (wS2 HB.out GE535.out GE536.out)) | (with_reducible refine Kd.C_alloc ?_ _) | (with_reducible refine Kd.C_drewN ?_ _) | (with_reducible refine Kd.C_drew ?_))); (case side4 => exact HC1_10.out); rintro e w' ⟨rfl, ⟨nd, rfl⟩⟩))
           go_ret
           exact ⟨jE, by exact wS2 HB.out GE535.out GE536.out⟩
         ·replace c12 := Bool.eq_false_iff.mpr c12
          subst c12
          rw [if_neg Bool.false_ne_true] at H
          obtain rfl := Option.some.inj H
          go_enter Tryd.func34, Tryd.ntmps34
          go_wp2_with (first | ((with_reducible refine gate_dst (N := 2) rfl ?_); refine xB 2 #[.int .i64 a0_0, .bool a0_1, .bool a0_2, .bool a0_3, .bool a0_4, .bool a0_5, .int .i64 a0_6, .string a0_7, .int .i64 a0_8, .slice A0_9 l0_9.length c0_9, .slice A0_10 l0_10.length c0_10, .slice A0_11 l0_11.length c0_11] 52 ?_; intro gb535 hg w26 hbox hb; have BK535 := aS (hbox); have GW535 := gW hg (wU HB.out); have GE535 := gW hg (wU HB.out); replace HB := aS (below_step (wU HB.out) hb); clear hb hbox hg) | ((with_reducible refine gate_dst (N := 3) rfl ?_); refine xB 3 #[.int .i64 a1_0, .bool a1_1, .bool a1_2, .bool a1_3, .bool a1_4, .bool a1_5, .int .i64 a1_6, .string a1_7, .int .i64 a1_8, .slice A1_9 l1_9.length c1_9, .slice A1_10 l1_10.length c1_10, .slice A1_11 l1_11.length c1_11] 52 ?_; intro gb536 hg w27 hbox hb; have BK536 := aS (hbox); have GW536 := gW hg (wS1 HB.out GE535.out); have GE536 := gW hg (wS1 HB.out GE535.out); replace HB := aS (below_step (wS1 HB.out GE535.out) hb); have NB535_536 := nB hg BK535; have NB536_535 := nS NB535_536; replace BK535 := bB BK535 hb; clear hb hbox hg; have hnb28 := NB535_536.out; have hnc28 := NB536_535.out; have hcz29 := cells12f BK535.out; have hcz30 := cells12f BK536.out) | (go_at_call 22; (with_reducible refine (laws_sameRecs.calls k _ _ l0_9 _ _ l1_9 false _ ?side1 ?side2 ?side3 ?side4 A11.out).mono ?_); (case side1 => exact cU ((Kd.C_below HR0_9.out HB.out))); (case side2 => exact HC0_9.out); (case side3 => exact cU ((Kd.C_below HR1_9.out HB.out))); (case side4 => exact HC1_9.out); rintro e w' ⟨rfl, ⟨nd, rfl⟩⟩))
          go_ret
          exact ⟨jE, by exact wS2 HB.out GE535.out GE536.out⟩
        ·rw [if_neg c10] at H
         have c10b0 : (a0_7.toList == a1_7.toList && (a0_8 == a1_8)) = false := by simpa using c10
         (try (have c10b1 : decide (a0_7.toList = a1_7.toList && (a0_8 == a1_8)) = false := by simpa using c10))
         (try (have c10b2 : (a0_7.toList == a1_7.toList && (a0_8 == a1_8)) = false := by simpa using c10))
         (try (have c10b3 : ¬ (a0_7.toList = a1_7.toList && (a0_8 == a1_8)) := by simpa using c10))
         clear c10
         obtain rfl := Option.some.inj H
         go_enter Tryd.func34, Tryd.ntmps34
         go_wp2_with (first | ((with_reducible refine gate_dst (N := 2) rfl ?_); refine xB 2 #[.int .i64 a0_0, .bool a0_1, .bool a0_2, .bool a0_3, .bool a0_4, .bool a0_5, .int .i64 a0_6, .string a0_7, .int .i64 a0_8, .slice A0_9 l0_9.length c0_9, .slice A0_10 l0_10.length c0_10, .slice A0_11 l0_11.length c0_11] 52 ?_; intro gb535 hg w31 hbox hb; have BK535 := aS (hbox); have GW535 := gW hg (wU HB.out); have GE535 := gW hg (wU HB.out); replace HB := aS (below_step (wU HB.out) hb); clear hb hbox hg) | ((with_reducible refine gate_dst (N := 3) rfl ?_); refine xB 3 #[.int .i64 a1_0, .bool a1_1, .bool a1_2, .bool a1_3, .bool a1_4, .bool a1_5, .int .i64 a1_6, .string a1_7, .int .i64 a1_8, .slice A1_9 l1_9.length c1_9, .slice A1_10 l1_10.length c1_10, .slice A1_11 l1_11.length c1_11] 52 ?_; intro gb536 hg w32 hbox hb; have BK536 := aS (hbox); have GW536 := gW hg (wS1 HB.out GE535.out); have GE536 := gW hg (wS1 HB.out GE535.out); replace HB := aS (below_step (wS1 HB.out GE535.out) hb); have NB535_536 := nB hg BK535; have NB536_535 := nS NB535_536; replace BK535 := bB BK535 hb; clear hb hbox hg; have hnb33 := NB535_536.out; have hnc33 := NB536_535.out; have hcz34 := cells12f BK535.out; have hcz35 := cells12f BK536.out))
         go_ret
         exact ⟨jE, by exact wS2 HB.out GE535.out GE536.out⟩
       ·rw [if_neg c9] at H
        have c9b0 := beq_eq_false_iff_ne.mpr c9
        have c9b1 := bne_iff_ne.mpr c9
        obtain rfl := Option.some.inj H
        go_enter Tryd.func34, Tryd.ntmps34
        go_wp2_with (first | ((with_reducible refine gate_dst (N := 2) rfl ?_); refine xB 2 #[.int .i64 a0_0, .bool a0_1, .bool a0_2, .bool a0_3, .bool a0_4, .bool a0_5, .int .i64 a0_6, .string a0_7, .int .i64 a0_8, .slice A0_9 l0_9.length c0_9, .slice A0_10 l0_10.length c0_10, .slice A0_11 l0_11.length c0_11] 52 ?_; intro gb535 hg w36 hbox hb; have BK535 := aS (hbox); have GW535 := gW hg (wU HB.out); have GE535 := gW hg (wU HB.out); replace HB := aS (below_step (wU HB.out) hb); clear hb hbox hg) | ((with_reducible refine gate_dst (N := 3) rfl ?_); refine xB 3 #[.int .i64 a1_0, .bool a1_1, .bool a1_2, .bool a1_3, .bool a1_4, .bool a1_5, .int .i64 a1_6, .string a1_7, .int .i64 a1_8, .slice A1_9 l1_9.length c1_9, .slice A1_10 l1_10.length c1_10, .slice A1_11 l1_11.length c1_11] 52 ?_; intro gb536 hg w37 hbox hb; have BK536 := aS (hbox); have GW536 := gW hg (wS1 HB.out GE535.out); have GE536 := gW hg (wS1 HB.out GE535.out); replace HB := aS (below_step (wS1 HB.out GE535.out) hb); have NB535_536 := nB hg BK535; have NB536_535 := nS NB535_536; replace BK535 := bB BK535 hb; clear hb hbox hg; have hnb38 := NB535_536.out; have hnc38 := NB536_535.out; have hcz39 := cells12f BK535.out; have hcz40 := cells12f BK536.out))
        go_ret
        exact ⟨jE, by exact wS2 HB.out GE535.out GE536.out⟩
      ·rw [if_neg c8] at H
       have c8b0 : (a0_5 == a1_5) = false := by simpa using c8
       (try (have c8b1 : decide (a0_5 = a1_5) = false := by simpa using c8))
       (try (have c8b2 : (a0_5 == a1_5) = false := by simpa using c8))
       (try (have c8b3 : ¬ (a0_5 = a1_5) := by simpa using c8))
       clear c8
       obtain rfl := Option.some.inj H
       go_enter Tryd.func34, Tryd.ntmps34
       go_wp2_with (first | ((with_reducible refine gate_dst (N := 2) rfl ?_); refine xB 2 #[.int .i64 a0_0, .bool a0_1, .bool a0_2, .bool a0_3, .bool a0_4, .bool a0_5, .int .i64 a0_6, .string a0_7, .int .i64 a0_8, .slice A0_9 l0_9.length c0_9, .slice A0_10 l0_10.length c0_10, .slice A0_11 l0_11.length c0_11] 52 ?_; intro gb535 hg w41 hbox hb; have BK535 := aS (hbox); have GW535 := gW hg (wU HB.out); have GE535 := gW hg (wU HB.out); replace HB := aS (below_step (wU HB.out) hb); clear hb hbox hg) | ((with_reducible refine gate_dst (N := 3) rfl ?_); refine xB 3 #[.int .i64 a1_0, .bool a1_1, .bool a1_2, .bool a1_3, .bool a1_4, .bool a1_5, .int .i64 a1_6, .string a1_7, .int .i64 a1_8, .slice A1_9 l1_9.length c1_9, .slice A1_10 l1_10.length c1_10, .slice A1_11 l1_11.length c1_11] 52 ?_; intro gb536 hg w42 hbox hb; have BK536 := aS (hbox); have GW536 := gW hg (wS1 HB.out GE535.out); have GE536 := gW hg (wS1 HB.out GE535.out); replace HB := aS (below_step (wS1 HB.out GE535.out) hb); have NB535_536 := nB hg BK535; have NB536_535 := nS NB535_536; replace BK535 := bB BK535 hb; clear hb hbox hg; have hnb43 := NB535_536.out; have hnc43 := NB536_535.out; have hcz44 := cells12f BK535.out; have hcz45 := cells12f BK536.out))
       go_ret
       exact ⟨jE, by exact wS2 HB.out GE535.out GE536.out⟩
     ·rw [if_neg c7] at H
      have c7b0 : (a0_4 == a1_4) = false := by simpa using c7
      (try (have c7b1 : decide (a0_4 = a1_4) = false := by simpa using c7))
      (try (have c7b2 : (a0_4 == a1_4) = false := by simpa using c7))
      (try (have c7b3 : ¬ (a0_4 = a1_4) := by simpa using c7))
      clear c7
      obtain rfl := Option.some.inj H
      go_enter Tryd.func34, Tryd.ntmps34
      go_wp2_with (first | ((with_reducible refine gate_dst (N := 2) rfl ?_); refine xB 2 #[.int .i64 a0_0, .bool a0_1, .bool a0_2, .bool a0_3, .bool a0_4, .bool a0_5, .int .i64 a0_6, .string a0_7, .int .i64 a0_8, .slice A0_9 l0_9.length c0_9, .slice A0_10 l0_10.length c0_10, .slice A0_11 l0_11.length c0_11] 52 ?_; intro gb535 hg w46 hbox hb; have BK535 := aS (hbox); have GW535 := gW hg (wU HB.out); have GE535 := gW hg (wU HB.out); replace HB := aS (below_step (wU HB.out) hb); clear hb hbox hg) | ((with_reducible refine gate_dst (N := 3) rfl ?_); refine xB 3 #[.int .i64 a1_0, .bool a1_1, .bool a1_2, .bool a1_3, .bool a1_4, .bool a1_5, .int .i64 a1_6, .string a1_7, .int .i64 a1_8, .slice A1_9 l1_9.length c1_9, .slice A1_10 l1_10.length c1_10, .slice A1_11 l1_11.length c1_11] 52 ?_; intro gb536 hg w47 hbox hb; have BK536 := aS (hbox); have GW536 := gW hg (wS1 HB.out GE535.out); have GE536 := gW hg (wS1 HB.out GE535.out); replace HB := aS (below_step (wS1 HB.out GE535.out) hb); have NB535_536 := nB hg BK535; have NB536_535 := nS NB535_536; replace BK535 := bB BK535 hb; clear hb hbox hg; have hnb48 := NB535_536.out; have hnc48 := NB536_535.out; have hcz49 := cells12f BK535.out; have hcz50 := cells12f BK536.out))
      go_ret
      exact ⟨jE, by exact wS2 HB.out GE535.out GE536.out⟩
    ·rw [if_neg c6] at H
     have c6b0 : (a0_3 == a1_3) = false := by simpa using c6
     (try (have c6b1 : decide (a0_3 = a1_3) = false := by simpa using c6))
     (try (have c6b2 : (a0_3 == a1_3) = false := by simpa using c6))
     (try (have c6b3 : ¬ (a0_3 = a1_3) := by simpa using c6))
     clear c6
     obtain rfl := Option.some.inj H
     go_enter Tryd.func34, Tryd.ntmps34
     go_wp2_with (first | ((with_reducible refine gate_dst (N := 2) rfl ?_); refine xB 2 #[.int .i64 a0_0, .bool a0_1, .bool a0_2, .bool a0_3, .bool a0_4, .bool a0_5, .int .i64 a0_6, .string a0_7, .int .i64 a0_8, .slice A0_9 l0_9.length c0_9, .slice A0_10 l0_10.length c0_10, .slice A0_11 l0_11.length c0_11] 52 ?_; intro gb535 hg w51 hbox hb; have BK535 := aS (hbox); have GW535 := gW hg (wU HB.out); have GE535 := gW hg (wU HB.out); replace HB := aS (below_step (wU HB.out) hb); clear hb hbox hg) | ((with_reducible refine gate_dst (N := 3) rfl ?_); refine xB 3 #[.int .i64 a1_0, .bool a1_1, .bool a1_2, .bool a1_3, .bool a1_4, .bool a1_5, .int .i64 a1_6, .string a1_7, .int .i64 a1_8, .slice A1_9 l1_9.length c1_9, .slice A1_10 l1_10.length c1_10, .slice A1_11 l1_11.length c1_11] 52 ?_; intro gb536 hg w52 hbox hb; have BK536 := aS (hbox); have GW536 := gW hg (wS1 HB.out GE535.out); have GE536 := gW hg (wS1 HB.out GE535.out); replace HB := aS (below_step (wS1 HB.out GE535.out) hb); have NB535_536 := nB hg BK535; have NB536_535 := nS NB535_536; replace BK535 := bB BK535 hb; clear hb hbox hg; have hnb53 := NB535_536.out; have hnc53 := NB536_535.out; have hcz54 := cells12f BK535.out; have hcz55 := cells12f BK536.out))
     go_ret
     exact ⟨jE, by exact wS2 HB.out GE535.out GE536.out⟩
   ·rw [if_neg c5] at H
    have c5b0 : (a0_2 == a1_2) = false := by simpa using c5
    (try (have c5b1 : decide (a0_2 = a1_2) = false := by simpa using c5))
    (try (have c5b2 : (a0_2 == a1_2) = false := by simpa using c5))
    (try (have c5b3 : ¬ (a0_2 = a1_2) := by simpa using c5))
    clear c5
    obtain rfl := Option.some.inj H
    go_enter Tryd.func34, Tryd.ntmps34
    go_wp2_with (first | ((with_reducible refine gate_dst (N := 2) rfl ?_); refine xB 2 #[.int .i64 a0_0, .bool a0_1, .bool a0_2, .bool a0_3, .bool a0_4, .bool a0_5, .int .i64 a0_6, .string a0_7, .int .i64 a0_8, .slice A0_9 l0_9.length c0_9, .slice A0_10 l0_10.length c0_10, .slice A0_11 l0_11.length c0_11] 52 ?_; intro gb535 hg w56 hbox hb; have BK535 := aS (hbox); have GW535 := gW hg (wU HB.out); have GE535 := gW hg (wU HB.out); replace HB := aS (below_step (wU HB.out) hb); clear hb hbox hg) | ((with_reducible refine gate_dst (N := 3) rfl ?_); refine xB 3 #[.int .i64 a1_0, .bool a1_1, .bool a1_2, .bool a1_3, .bool a1_4, .bool a1_5, .int .i64 a1_6, .string a1_7, .int .i64 a1_8, .slice A1_9 l1_9.length c1_9, .slice A1_10 l1_10.length c1_10, .slice A1_11 l1_11.length c1_11] 52 ?_; intro gb536 hg w57 hbox hb; have BK536 := aS (hbox); have GW536 := gW hg (wS1 HB.out GE535.out); have GE536 := gW hg (wS1 HB.out GE535.out); replace HB := aS (below_step (wS1 HB.out GE535.out) hb); have NB535_536 := nB hg BK535; have NB536_535 := nS NB535_536; replace BK535 := bB BK535 hb; clear hb hbox hg; have hnb58 := NB535_536.out; have hnc58 := NB536_535.out; have hcz59 := cells12f BK535.out; have hcz60 := cells12f BK536.out))
    go_ret
    exact ⟨jE, by exact wS2 HB.out GE535.out GE536.out⟩
  ·rw [if_neg c4] at H
   have c4b0 : (a0_1 == a1_1) = false := by simpa using c4
   (try (have c4b1 : decide (a0_1 = a1_1) = false := by simpa using c4))
   (try (have c4b2 : (a0_1 == a1_1) = false := by simpa using c4))
   (try (have c4b3 : ¬ (a0_1 = a1_1) := by simpa using c4))
   clear c4
   obtain rfl := Option.some.inj H
   go_enter Tryd.func34, Tryd.ntmps34
   go_wp2_with (first | ((with_reducible refine gate_dst (N := 2) rfl ?_); refine xB 2 #[.int .i64 a0_0, .bool a0_1, .bool a0_2, .bool a0_3, .bool a0_4, .bool a0_5, .int .i64 a0_6, .string a0_7, .int .i64 a0_8, .slice A0_9 l0_9.length c0_9, .slice A0_10 l0_10.length c0_10, .slice A0_11 l0_11.length c0_11] 52 ?_; intro gb535 hg w61 hbox hb; have BK535 := aS (hbox); have GW535 := gW hg (wU HB.out); have GE535 := gW hg (wU HB.out); replace HB := aS (below_step (wU HB.out) hb); clear hb hbox hg) | ((with_reducible refine gate_dst (N := 3) rfl ?_); refine xB 3 #[.int .i64 a1_0, .bool a1_1, .bool a1_2, .bool a1_3, .bool a1_4, .bool a1_5, .int .i64 a1_6, .string a1_7, .int .i64 a1_8, .slice A1_9 l1_9.length c1_9, .slice A1_10 l1_10.length c1_10, .slice A1_11 l1_11.length c1_11] 52 ?_; intro gb536 hg w62 hbox hb; have BK536 := aS (hbox); have GW536 := gW hg (wS1 HB.out GE535.out); have GE536 := gW hg (wS1 HB.out GE535.out); replace HB := aS (below_step (wS1 HB.out GE535.out) hb); have NB535_536 := nB hg BK535; have NB536_535 := nS NB535_536; replace BK535 := bB BK535 hb; clear hb hbox hg; have hnb63 := NB535_536.out; have hnc63 := NB536_535.out; have hcz64 := cells12f BK535.out; have hcz65 := cells12f BK536.out))
   go_ret
   exact ⟨jE, by exact wS2 HB.out GE535.out GE536.out⟩
 ·rw [if_neg c3] at H
  have c3b0 := beq_eq_false_iff_ne.mpr c3
  have c3b1 := bne_iff_ne.mpr c3
  obtain rfl := Option.some.inj H
  go_enter Tryd.func34, Tryd.ntmps34
  go_wp2_with (first | ((with_reducible refine gate_dst (N := 2) rfl ?_); refine xB 2 #[.int .i64 a0_0, .bool a0_1, .bool a0_2, .bool a0_3, .bool a0_4, .bool a0_5, .int .i64 a0_6, .string a0_7, .int .i64 a0_8, .slice A0_9 l0_9.length c0_9, .slice A0_10 l0_10.length c0_10, .slice A0_11 l0_11.length c0_11] 52 ?_; intro gb535 hg w66 hbox hb; have BK535 := aS (hbox); have GW535 := gW hg (wU HB.out); have GE535 := gW hg (wU HB.out); replace HB := aS (below_step (wU HB.out) hb); clear hb hbox hg) | ((with_reducible refine gate_dst (N := 3) rfl ?_); refine xB 3 #[.int .i64 a1_0, .bool a1_1, .bool a1_2, .bool a1_3, .bool a1_4, .bool a1_5, .int .i64 a1_6, .string a1_7, .int .i64 a1_8, .slice A1_9 l1_9.length c1_9, .slice A1_10 l1_10.length c1_10, .slice A1_11 l1_11.length c1_11] 52 ?_; intro gb536 hg w67 hbox hb; have BK536 := aS (hbox); have GW536 := gW hg (wS1 HB.out GE535.out); have GE536 := gW hg (wS1 HB.out GE535.out); replace HB := aS (below_step (wS1 HB.out GE535.out) hb); have NB535_536 := nB hg BK535; have NB536_535 := nS NB535_536; replace BK535 := bB BK535 hb; clear hb hbox hg; have hnb68 := NB535_536.out; have hnc68 := NB536_535.out; have hcz69 := cells12f BK535.out; have hcz70 := cells12f BK536.out))
  go_ret
  exact ⟨jE, by exact wS2 HB.out GE535.out GE536.out⟩

/-! ### spec_l7Copy: function 92 -/
def spec_l7Copy.f (l0 : List (S25)) : Option ((List (S25))) := (some (([] : List (S25)) : List (S25))).bind fun y540 => (if y540.length + l0.length < 1954687338268 then (some (y540 ++ l0)) else (none))
set_option maxHeartbeats 8000000 in
set_option maxRecDepth 100000 in
theorem spec_l7Copy.calls (A0 : Option Addr) (c0 : Nat) (l0 : List (S25)) (r : List (S25)) (w : World) (hr0 : Kd.C k25 w A0 l0.length l0) (hc0 : l0.length ≤ c0) (h : spec_l7Copy.f l0 = some r) :
  Calls Tryd.prog 92 #[.slice A0 l0.length c0] w fun e w' => ∃ v0_ : Value, e = .returned (v0_) ∧ Kd.R k25 25 w' w.heap.size (fun _ => True) v0_ r ∧ Below w.heap.size w w' := by
 have HR0 := aS hr0
 have HC0 := aS hc0
 clear hr0 hc0
 have HB := aS (Below.refl w.heap.size w)
 have H := h
 unfold spec_l7Copy.f at H
 clear h
 obtain ⟨y540, hy_⟩ : ∃ y_ : List (S25), y_ = (([] : List (S25))) := ⟨_, rfl⟩
 replace H : (if y540.length + l0.length < 1954687338268 then (some (y540 ++ l0)) else (none)) = some r := jD
 have Ny540 := aS hy_
 clear hy_
 by_cases c2 : y540.length + l0.length < 1954687338268
 ·rw [if_pos c2] at H
  have LMc2 := aS c2
  clear c2
  obtain ⟨y543, hy_⟩ : ∃ y_ : List (S25), y_ = (y540 ++ l0) := ⟨_, rfl⟩
  replace H : (some y543) = some r := jD
  have Ny543 := aS hy_
  clear hy_
  obtain rfl := Option.some.inj H
  go_enter Tryd.func92, Tryd.ntmps92
  go_wp2_with (first | ((with_reducible refine gate_dst (N := 3) rfl ?_); refine Kd.R_lit k25 _ 25 ?hg (N := 3) ?hd (xs := ([] : List (S25))) (inner := []) (ok := fun _ => True) (okp := fun _ => True) ?hr ?hp (fun _ hk => hk) trivial (Below.refl _ _) (Nat.le_refl _) (by simp) ?_; (case hd => rfl); (case hg => rfl); (case hr => first | (go_simp; done) | (go_simp; rfl)); (case hp => exact (Reps.none _ _)); intro v541 w3 ho4 hb hg_ hnew_; clear hg_ hnew_; (first | rw [← Ny540.out] at ho4 | (simp only [Int.reduceToNat] at ho4; rw [← Ny540.out] at ho4)); have HO542 := aS (Kd.R_lower ho4 (below_size (wU HB.out))); replace HB := aS (below_step (wU HB.out) hb); clear hb ho4) | ((with_reducible refine gate_builtin (b := .append) (xs := #[.tmp 3, .tmp 4]) rfl ?_); at_builtin; refine Kd.R_append_rows k25 (w0 := w) w.heap.size rfl (.tmp 3) (.tmp 4) 36 25 (.agg #[(.string ⟨#[]⟩), (.int .i64 0), (.int .i64 0), (.int .i64 0), (.string ⟨#[]⟩), (.string ⟨#[]⟩)]) 72 rfl Tryd.underlying36 info25 rfl (by decide) (by omega) v541 y540 l0 _ _ _ (fun _ => True) (fun _ => False) rfl rfl ?aO ?aR (fun _ _ h => h) (fun _ h => h.elim) ?aF ?aB ?aS ?aL ?_; (case aR => exact cU ((Kd.C_below HR0.out HB.out))); (case aB => exact (wU HB.out)); (case aF => exact (fun _ _ => trivial)); (case aO => exact (rU HO542.out)); (case aS => exact (below_size (wU HB.out))); (case aL => have := LMc2.out; omega); intro v544 w5 ho hb hg hat; rw [← Ny543.out] at ho; replace HB := aS (hb); have HO545 := aS (ho); clear HO542; clear ho hb hg hat))
  go_ret
  exact ⟨_, jE, by exact rU HO545.out, by exact wU HB.out⟩
 ·rw [if_neg c2] at H
  exact absurd H (by simp)

/-! ### spec_ReplyTo: function 35 -/
def spec_ReplyTo.f (a0_0 : Int) (a0_1 : Bool) (a0_2 : Bool) (a0_3 : Bool) (a0_4 : Bool) (a0_5 : Bool) (a0_6 : Int) (a0_7 : ByteArray) (a0_8 : Int) (l0_9 : List (S25)) (l0_10 : List (S25)) (l0_11 : List (S25)) (a1 : Int) (a2 : Bool) (l3 : List (S25)) (l4 : List (S25)) (l5 : List (S25)) : Option (Int × Bool × Bool × Bool × Bool × Bool × Int × ByteArray × Int × (List (S25)) × (List (S25)) × (List (S25))) := (spec_l7Copy.f l3).bind fun t548 => ((spec_l7Copy.f l4).bind fun t551 => ((spec_l7Copy.f l5).bind fun t554 => (some (a0_0, true, a2, false, a0_4, false, a1, a0_7, a0_8, t548, t551, t554))))
def spec_ReplyTo.T1 : Bool × List (List Nat × List Nat) := (true, [([], []), ([0], [0]), ([], []), ([], []), ([3], [3]), ([], []), ([], []), ([6], [6]), ([], []), ([8], [8]), ([], []), ([10, 9], [10]), ([], []), ([12, 11], [12]), ([1, 2, 4, 5, 7, 9, 11, 13], [1, 2, 4, 5, 7, 9, 11, 13]), ([14, 13, 0, 1, 2, 3, 4, 5, 6, 7, 8, 9, 10, 11, 12, 13, 14], [14])])
def spec_ReplyTo.B1 : List Nat := [0, 1, 0, 0, 8, 0, 0, 64, 0, 256, 0, 1792, 0, 7936, 16383, 32767]
theorem spec_ReplyTo.tab1 : rtab .any (opsOf Tryd.f35 1) = spec_ReplyTo.T1 := by kernel_rfl
theorem spec_ReplyTo.bits1 : waitsOk spec_ReplyTo.T1.2 spec_ReplyTo.B1 = true := by kernel_rfl
set_option maxHeartbeats 8000000 in
set_option maxRecDepth 100000 in
theorem spec_ReplyTo.calls (a0_0 : Int) (a0_1 : Bool) (a0_2 : Bool) (a0_3 : Bool) (a0_4 : Bool) (a0_5 : Bool) (a0_6 : Int) (a0_7 : ByteArray) (a0_8 : Int) (A0_9 : Option Addr) (c0_9 : Nat) (l0_9 : List (S25)) (A0_10 : Option Addr) (c0_10 : Nat) (l0_10 : List (S25)) (A0_11 : Option Addr) (c0_11 : Nat) (l0_11 : List (S25)) (a1 : Int) (a2 : Bool) (A3 : Option Addr) (c3 : Nat) (l3 : List (S25)) (A4 : Option Addr) (c4 : Nat) (l4 : List (S25)) (A5 : Option Addr) (c5 : Nat) (l5 : List (S25)) (r1 : Int) (r2 : Bool) (r3 : Bool) (r4 : Bool) (r5 : Bool) (r6 : Bool) (r7 : Int) (r8 : ByteArray) (r9 : Int) (r10 : List (S25)) (r11 : List (S25)) (r12 : List (S25)) (w : World) (hr0_9 : Kd.C k25 w A0_9 l0_9.length l0_9) (hc0_9 : l0_9.length ≤ c0_9) (hr0_10 : Kd.C k25 w A0_10 l0_10.length l0_10) (hc0_10 : l0_10.length ≤ c0_10) (hr0_11 : Kd.C k25 w A0_11 l0_11.length l0_11) (hc0_11 : l0_11.length ≤ c0_11) (hr3 : Kd.C k25 w A3 l3.length l3) (hc3 : l3.length ≤ c3) (hr4 : Kd.C k25 w A4 l4.length l4) (hc4 : l4.length ≤ c4) (hr5 : Kd.C k25 w A5 l5.length l5) (hc5 : l5.length ≤ c5) (h : spec_ReplyTo.f a0_0 a0_1 a0_2 a0_3 a0_4 a0_5 a0_6 a0_7 a0_8 l0_9 l0_10 l0_11 a1 a2 l3 l4 l5 = some (r1, r2, r3, r4, r5, r6, r7, r8, r9, r10, r11, r12)) :
  Calls Tryd.prog 35 #[.agg #[.int .i64 a0_0, .bool a0_1, .bool a0_2, .bool a0_3, .bool a0_4, .bool a0_5, .int .i64 a0_6, .string a0_7, .int .i64 a0_8, .slice A0_9 l0_9.length c0_9, .slice A0_10 l0_10.length c0_10, .slice A0_11 l0_11.length c0_11], .int .i64 a1, .bool a2, .slice A3 l3.length c3, .slice A4 l4.length c4, .slice A5 l5.length c5] w fun e w' => ∃ v9_ v10_ v11_ : Value, e = .returned (.agg #[.int .i64 r1, .bool r2, .bool r3, .bool r4, .bool r5, .bool r6, .int .i64 r7, .string r8, .int .i64 r9, v9_, v10_, v11_]) ∧ Kd.R k25 25 w' w.heap.size (fun k_ => some k_ ≠ (v10_ : Value).ownBlock ∧ some k_ ≠ (v11_ : Value).ownBlock) v9_ r10 ∧ Kd.R k25 25 w' w.heap.size (fun k_ => some k_ ≠ (v9_ : Value).ownBlock ∧ some k_ ≠ (v11_ : Value).ownBlock) v10_ r11 ∧ Kd.R k25 25 w' w.heap.size (fun k_ => some k_ ≠ (v9_ : Value).ownBlock ∧ some k_ ≠ (v10_ : Value).ownBlock) v11_ r12 ∧ Below w.heap.size w w' := by
 have hu52 := Tryd.underlying52
 have hu50 := Tryd.underlying50
 have HR0_9 := aS hr0_9
 have HC0_9 := aS hc0_9
 clear hr0_9 hc0_9
 have HR0_10 := aS hr0_10
 have HC0_10 := aS hc0_10
 clear hr0_10 hc0_10
 have HR0_11 := aS hr0_11
 have HC0_11 := aS hc0_11
 clear hr0_11 hc0_11
 have HR3 := aS hr3
 have HC3 := aS hc3
 clear hr3 hc3
 have HR4 := aS hr4
 have HC4 := aS hc4
 clear hr4 hc4
 have HR5 := aS hr5
 have HC5 := aS hc5
 clear hr5 hc5
 have HB := aS (Below.refl w.heap.size w)
 have H := h
 unfold spec_ReplyTo.f at H
 clear h
 obtain ⟨t548, A7, H⟩ := bM H
 try dsimp only at H
 obtain ⟨t551, A8, H⟩ := bM H
 try dsimp only at H
 obtain ⟨t554, A9, H⟩ := bM H
 try dsimp only at H
 simp only [Option.some.injEq, Prod.mk.injEq] at H
 obtain ⟨rfl, rfl, rfl, rfl, rfl, rfl, rfl, rfl, rfl, rfl, rfl, rfl⟩ := H
 go_enter Tryd.func35, Tryd.ntmps35
 try go_wp2_with (first | ((with_reducible refine gate_dst (N := 6) rfl ?_); refine xB 6 #[.int .i64 a0_0, .bool a0_1, .bool a0_2, .bool a0_3, .bool a0_4, .bool a0_5, .int .i64 a0_6, .string a0_7, .int .i64 a0_8, .slice A0_9 l0_9.length c0_9, .slice A0_10 l0_10.length c0_10, .slice A0_11 l0_11.length c0_11] 52 ?_; intro gb546 hg w10 hbox hb; have BK546 := aS (hbox); have GW546 := gW hg (wU HB.out); have GE546 := gW hg (wU HB.out); replace HB := aS (below_step (wU HB.out) hb); clear hb hbox hg) | ((with_reducible refine gate_dst (N := 12) rfl ?_); refine xB 12 #[.int .i64 0, .bool false, .bool false, .bool false, .bool false, .bool false, .int .i64 0, .string (⟨#[]⟩ : ByteArray), .int .i64 0, .slice none 0 0, .slice none 0 0, .slice none 0 0] 52 ?_; intro gb547 hg w11 hbox hb; have BK547 := aS (hbox); have GW547 := gW hg (wS1 HB.out GE546.out); have GE547 := gW hg (wS1 HB.out GE546.out); replace HB := aS (below_step (wS1 HB.out GE546.out) hb); have NB546_547 := nB hg BK546; have NB547_546 := nS NB546_547; replace BK546 := bB BK546 hb; clear hb hbox hg))
 replace BK546 := aS (blk_drew BK546.out)
 replace BK547 := aS (blk_drew BK547.out)
 replace HB := aS (below_drew1 HB.out)
 refine start_ (n := 16) (S := fun w' => w'.cell? ⟨gb546, 0, none⟩ = some (.int .i64 a0_0) ∧ w'.cell? ⟨gb546, 1, none⟩ = some (.bool a0_1) ∧ w'.cell? ⟨gb546, 2, none⟩ = some (.bool a0_2) ∧ w'.cell? ⟨gb546, 3, none⟩ = some (.bool a0_3) ∧ w'.cell? ⟨gb546, 4, none⟩ = some (.bool a0_4) ∧ w'.cell? ⟨gb546, 5, none⟩ = some (.bool a0_5) ∧ w'.cell? ⟨gb546, 6, none⟩ = some (.int .i64 a0_6) ∧ w'.cell? ⟨gb546, 7, none⟩ = some (.string a0_7) ∧ w'.cell? ⟨gb546, 8, none⟩ = some (.int .i64 a0_8) ∧ w'.cell? ⟨gb546, 9, none⟩ = some (.slice A0_9 l0_9.length c0_9) ∧ w'.cell? ⟨gb546, 10, none⟩ = some (.slice A0_10 l0_10.length c0_10) ∧ w'.cell? ⟨gb546, 11, none⟩ = some (.slice A0_11 l0_11.length c0_11)) (ds := []) #[false, false, false, false, false, false, false, false, false, false, false, false, false, false, false, false] jK rfl rfl (c12 BK546.out) (fun hHeld => ?_); refine with_tabW spec_ReplyTo.tab1 spec_ReplyTo.bits1 (fun HT_ HW_ => ?_)
 generalize w11.drew = w12 at BK546 BK547 HB hHeld ⊢
 refine pA HT_ 0 (some 13) (tf 1 15) ?_
 refine pA HT_ 2 (some 15) #[true, false, true, false, false, false, false, false, false, false, false, false, false, false, false, false] ?_
 refine pA HT_ 3 (some 16) #[true, false, true, true, false, false, false, false, false, false, false, false, false, false, false, false] ?_
 refine pA HT_ 5 (some 18) #[true, false, true, true, false, true, false, false, false, false, false, false, false, false, false, false] ?_
 refine pA HT_ 6 (some 19) #[true, false, true, true, false, true, true, false, false, false, false, false, false, false, false, false] ?_
 refine pA HT_ 8 (some 21) #[true, false, true, true, false, true, true, false, true, false, false, false, false, false, false, false] ?_
 refine pA HT_ 10 (some 23) #[true, false, true, true, false, true, true, false, true, false, true, false, false, false, false, false] ?_
 refine pA HT_ 12 (some 25) #[true, false, true, true, false, true, true, false, true, false, true, false, true, false, false, false] ?_
 refine tA HT_ HW_ hHeld 1 (some 14) #[true, true, true, true, false, true, true, false, true, false, true, false, true, false, false, false] ?_
 refine tA HT_ HW_ hHeld 4 (some 17) #[true, true, true, true, true, true, true, false, true, false, true, false, true, false, false, false] ?_
 refine tA HT_ HW_ hHeld 7 (some 20) #[true, true, true, true, true, true, true, true, true, false, true, false, true, false, false, false] ?_
 refine one_ (i := 9) (N := some 22) #[true, true, true, true, true, true, true, true, true, true, true, false, true, false, false, false] rfl rfl (one_of HT_.out jK) (by decide) (fun K hK => ?_)
 refine goes_ Tryd.func92 jK rfl #[.slice A3 l3.length c3] (by rfl) rfl rfl jA ?_
 with_reducible refine (spec_l7Copy.calls _ _ l3 t548 _ ?side1 ?side2 A7.out).mono ?_
 (case side1 => exact cU ((Kd.C_below HR3.out HB.out)))
 (case side2 => exact HC3.out)
 rintro e w13 ⟨v549, rfl, ho0, hb⟩
 refine ⟨_, rfl, ?_⟩
 have HO550 := aS (Kd.R_lower ho0 (below_size (wS2 HB.out GE546.out GE547.out)))
 replace BK546 := bB BK546 hb
 replace BK547 := bB BK547 hb
 replace HB := aS (below_step (wS2 HB.out GE546.out GE547.out) hb)
 (try clear hb)
 (try clear hb2)
 (try clear hk)
 (try clear hi)
 (try clear ho0)
 refine hK.out _ _ (c12 BK546.out) (fun hHeld => ?_)
 clear hK K
 refine nA (some 22) ?_
 refine one_ (i := 11) (N := some 24) (tf 13 3) rfl rfl (one_of HT_.out jK) (by decide) (fun K hK => ?_)
 refine goes_ Tryd.func92 jK rfl #[.slice A4 l4.length c4] (by rfl) rfl rfl jA ?_
 with_reducible refine (spec_l7Copy.calls _ _ l4 t551 _ ?side1 ?side2 A8.out).mono ?_
 (case side1 => exact cU ((Kd.C_below HR4.out HB.out)))
 (case side2 => exact HC4.out)
 rintro e w14 ⟨v552, rfl, ho0, hb⟩
 refine ⟨_, rfl, ?_⟩
 have HO553 := aS (Kd.R_lower (Kd.R_new' ho0 (Kd.R_lt (rU HO550.out))) (below_size (wS2 HB.out GE546.out GE547.out)))
 replace HO550 := aS (Kd.R_elder' (rU HO550.out) (Kd.R_base ho0) hb)
 replace BK546 := bB BK546 hb
 replace BK547 := bB BK547 hb
 replace HB := aS (below_step (wS2 HB.out GE546.out GE547.out) hb)
 (try clear hb)
 (try clear hb2)
 (try clear hk)
 (try clear hi)
 (try clear ho0)
 refine hK.out _ _ (c12 BK546.out) (fun hHeld => ?_)
 clear hK K
 refine nA (some 24) ?_
 refine one_ (i := 13) (N := some 26) (tf 14 2) rfl rfl (one_of HT_.out jK) (by decide) (fun K hK => ?_)
 refine goes_ Tryd.func92 jK rfl #[.slice A5 l5.length c5] (by rfl) rfl rfl jA ?_
 with_reducible refine (spec_l7Copy.calls _ _ l5 t554 _ ?side1 ?side2 A9.out).mono ?_
 (case side1 => exact cU ((Kd.C_below HR5.out HB.out)))
 (case side2 => exact HC5.out)
 rintro e w15 ⟨v555, rfl, ho0, hb⟩
 refine ⟨_, rfl, ?_⟩
 have HO556 := aS (Kd.R_lower (Kd.R_new' (Kd.R_new' ho0 (Kd.R_lt (rU HO550.out))) (Kd.R_lt (rU HO553.out))) (below_size (wS2 HB.out GE546.out GE547.out)))
 replace HO550 := aS (Kd.R_elder' (rU HO550.out) (Kd.R_base ho0) hb)
 replace HO553 := aS (Kd.R_elder' (rU HO553.out) (Kd.R_base ho0) hb)
 replace BK546 := bB BK546 hb
 replace BK547 := bB BK547 hb
 replace HB := aS (below_step (wS2 HB.out GE546.out GE547.out) hb)
 (try clear hb)
 (try clear hb2)
 (try clear hk)
 (try clear hi)
 (try clear ho0)
 obtain ⟨Ao16, co16, eo16⟩ := Kd.R_slice HO556.out
 (first | subst eo16 | (injection eo16 with f1_ f2_ f3_; have f4_ := f1_.symm; have f5_ := f3_.symm; clear f1_ f2_ f3_; subst f4_; subst f5_))
 obtain ⟨Ao17, co17, eo17⟩ := Kd.R_slice HO553.out
 (first | subst eo17 | (injection eo17 with f1_ f2_ f3_; have f4_ := f1_.symm; have f5_ := f3_.symm; clear f1_ f2_ f3_; subst f4_; subst f5_))
 obtain ⟨Ao18, co18, eo18⟩ := Kd.R_slice HO550.out
 (first | subst eo18 | (injection eo18 with f1_ f2_ f3_; have f4_ := f1_.symm; have f5_ := f3_.symm; clear f1_ f2_ f3_; subst f4_; subst f5_))
 refine hK.out _ _ (c12 BK546.out) (fun hHeld => ?_)
 clear hK K
 refine nA (some 26) ?_
 refine pA HT_ 14 (some 27) (tf 15 1) ?_
 refine one_ (i := 15) (N := none) (tf 16 0) rfl rfl (one_of HT_.out jK) (by decide) (fun K hK => ?_)
 have hcz19 := cells12f BK547.out
 have hns19_0 := NB546_547.out
 have hms19_0 := NB547_546.out
 with_reducible refine skip_ (w1 := ?_) ?_ ?_ ?_ ?_
 rotate_left
 ·rfl
 ·rfl
 ·go_simp
  rfl
 refine hK.out _ _ ⟨(cS1 hHeld.1 NB546_547.out), (cS1 hHeld.2.1 NB546_547.out), (cS1 hHeld.2.2.1 NB546_547.out), (cS1 hHeld.2.2.2.1 NB546_547.out), (cS1 hHeld.2.2.2.2.1 NB546_547.out), (cS1 hHeld.2.2.2.2.2.1 NB546_547.out), (cS1 hHeld.2.2.2.2.2.2.1 NB546_547.out), (cS1 hHeld.2.2.2.2.2.2.2.1 NB546_547.out), (cS1 hHeld.2.2.2.2.2.2.2.2.1 NB546_547.out), (cS1 hHeld.2.2.2.2.2.2.2.2.2.1 NB546_547.out), (cS1 hHeld.2.2.2.2.2.2.2.2.2.2.1 NB546_547.out), (cS1 hHeld.2.2.2.2.2.2.2.2.2.2.2 NB546_547.out)⟩ (fun hHeld => ?_)
 clear hK K
 refine done_ (done_of HT_.out jK) ?_
 try go_wp2
 refine bodyPost_ret (results_cell_row rfl _ _ gb547 52 #[.int .i64 a0_0, .bool true, .bool a2, .bool false, .bool a0_4, .bool false, .int .i64 a1, .string a0_7, .int .i64 a0_8, .slice Ao18 t548.length co18, .slice Ao17 t551.length co17, .slice Ao16 t554.length co16] (0, 0) _ rfl (by exact bO (p12 (bU BK547.out))) Tryd.underlying52 rfl jK) rfl ?_
 exact ⟨_, _, _, jE, by exact Kd.R_mono (rF1 HO550.out BK547.out) (fun _ hk => ⟨hk.1.2, hk.2⟩), by exact Kd.R_mono (rF1 HO553.out BK547.out) (fun _ hk => ⟨hk.1.2, hk.2⟩), by exact Kd.R_mono (rF1 HO556.out BK547.out) (fun _ hk => ⟨hk.1.2, hk.2⟩), by exact wS2 HB.out GE546.out GE547.out⟩

/-! ### slices_Equal_impl_Record: function 111 -/
def slices_Equal_impl_Record.l0 : Nat → List (S25) → List (S25) → Int → Int → Option (Bool)
 | 0, _, _, _, _ => none
 | k + 1, x0, x1, x12, x13 => if x13 < x12 then (if 0 ≤ x13 then (if x13 < (x0.length : Int) then (if x13 < (x1.length : Int) then (if (!((((rd_T25 x0 x13).f0).toList) == (((rd_T25 x1 x13).f0).toList)) || (!(((rd_T25 x0 x13).f1) == ((rd_T25 x1 x13).f1)) || (!(((rd_T25 x0 x13).f2) == ((rd_T25 x1 x13).f2)) || (!(((rd_T25 x0 x13).f3) == ((rd_T25 x1 x13).f3)) || (!((((rd_T25 x0 x13).f4).toList) == (((rd_T25 x1 x13).f4).toList)) || (!((((rd_T25 x0 x13).f5).toList) == (((rd_T25 x1 x13).f5).toList)))))))) = true then (some false) else (slices_Equal_impl_Record.l0 k x0 x1 x12 (wrap64 (x13 + 1)))) else (none)) else (none)) else (none)) else (some true)
def slices_Equal_impl_Record.f (k : Nat) (l0 : List (S25)) (l1 : List (S25)) : Option (Bool) := if (l0.length : Int) = (l1.length : Int) then (slices_Equal_impl_Record.l0 k l0 l1 (l0.length : Int) 0) else (some false)
theorem slices_Equal_impl_Record.mono_l : ∀ k, (∀ y0 y1 y2 y3, LeO (slices_Equal_impl_Record.l0 k y0 y1 y2 y3) (slices_Equal_impl_Record.l0 (k + 1) y0 y1 y2 y3))
 | 0 => fun _ _ _ _ r h => by simp [slices_Equal_impl_Record.l0] at h
 | k + 1 => by
  have ih0 := slices_Equal_impl_Record.mono_l k
  ·intro y0 y1 y2 y3
   unfold slices_Equal_impl_Record.l0
   repeat' first
   | (with_reducible first | exact ih0 _ _ _ _ | exact LeO.refl _ | exact LeO.none _ | refine LeO.ite ?_ ?_ | refine LeO.bind ?_ (fun _ => ?_))
   | refine LeO.ite ?_ ?_
   | refine LeO.bind ?_ (fun _ => ?_)
theorem slices_Equal_impl_Record.mono : ∀ a0 a1 k, LeO (slices_Equal_impl_Record.f k a0 a1) (slices_Equal_impl_Record.f (k + 1) a0 a1) := by
 intro a0 a1 k
 have ih0 := slices_Equal_impl_Record.mono_l k
 unfold slices_Equal_impl_Record.f
 repeat' first
   | (with_reducible first | exact ih0 _ _ _ _ | exact LeO.refl _ | exact LeO.none _ | refine LeO.ite ?_ ?_ | refine LeO.bind ?_ (fun _ => ?_))
   | refine LeO.ite ?_ ?_
   | refine LeO.bind ?_ (fun _ => ?_)
set_option maxHeartbeats 8000000 in
set_option maxRecDepth 100000 in
theorem slices_Equal_impl_Record.calls (k : Nat) (A0 : Option Addr) (c0 : Nat) (l0 : List (S25)) (A1 : Option Addr) (c1 : Nat) (l1 : List (S25)) (r : Bool) (w : World) (hr0 : Kd.C k25 w A0 l0.length l0) (hc0 : l0.length ≤ c0) (hr1 : Kd.C k25 w A1 l1.length l1) (hc1 : l1.length ≤ c1) (h : slices_Equal_impl_Record.f k l0 l1 = some r) :
  Calls Tryd.prog 111 #[.slice A0 l0.length c0, .slice A1 l1.length c1] w fun e w' => e = .returned (.bool r) ∧ Drawn0 w w' := by
 have hu25 := Tryd.underlying25
 have HR0 := aS hr0
 have HC0 := aS hc0
 clear hr0 hc0
 have HR1 := aS hr1
 have HC1 := aS hc1
 clear hr1 hc1
 have H := h
 unfold slices_Equal_impl_Record.f at H
 clear h
 by_cases c3 : (l0.length : Int) = (l1.length : Int)
 ·rw [if_pos c3] at H
  have c3b0 := beq_iff_eq.mpr c3
  have c3b1 := bne_eq_false_iff_eq.mpr c3
  have c3b2 : (l0.length == l1.length) = true := by first | simpa using c3 | (simp at c3 ⊢; omega)
  clear c3
  have H' := aS H
  clear H
  go_enter Tryd.func111, Tryd.ntmps111
  go_wp2
  repeat (go_quiet (fail); try go_wp2)
  go_loopg [13] k (fun kq v13 w' => ∃ (x13_1 : Int), v13 = .int .i64 x13_1 ∧ Aside0 (slices_Equal_impl_Record.l0 kq l0 l1 (l0.length : Int) x13_1 = some r) ∧ Aside0 (kq ≤ k) ∧ Drawn0 w w')
  case atStart => exact ⟨(0), jB, H', ⟨Nat.le_refl _⟩, by repeat (first | exact Drawn0.refl _ | apply Drawn0.step)⟩
  case round =>
   clear H'
   try clear c1
   try clear p2
   try clear c3
   try clear c3b0
   try clear c3b1
   try clear c3b2
   obtain ⟨x13_1, rfl, HA, HK1, ⟨m1, rfl⟩⟩ := hrel
   cases gk with
   | zero => exact absurd HA.out (by simp [slices_Equal_impl_Record.l0])
   | succ k1 =>
    have H := HA.out
    clear HA
    simp only [slices_Equal_impl_Record.l0] at H
    by_cases c4 : x13_1 < (l0.length : Int)
    ·rw [if_pos c4] at H
     have c4b0 := decide_eq_true c4
     clear c4
     by_cases c5 : 0 ≤ x13_1
     ·rw [if_pos c5] at H
      have c5b0 := decide_eq_true c5
      clear c5
      by_cases c6 : x13_1 < (l0.length : Int)
      ·rw [if_pos c6] at H
       have c6b0 := decide_eq_true c6
       clear c6
       by_cases c7 : x13_1 < (l1.length : Int)
       ·rw [if_pos c7] at H
        have c7b0 := decide_eq_true c7
        clear c7
        by_cases c8 : (!((((rd_T25 l0 x13_1).f0).toList) == (((rd_T25 l1 x13_1).f0).toList)) || (!(((rd_T25 l0 x13_1).f1) == ((rd_T25 l1 x13_1).f1)) || (!(((rd_T25 l0 x13_1).f2) == ((rd_T25 l1 x13_1).f2)) || (!(((rd_T25 l0 x13_1).f3) == ((rd_T25 l1 x13_1).f3)) || (!((((rd_T25 l0 x13_1).f4).toList) == (((rd_T25 l1 x13_1).f4).toList)) || (!((((rd_T25 l0 x13_1).f5).toList) == (((rd_T25 l1 x13_1).f5).toList)))))))) = true
        ·rw [if_pos c8] at H
         have c8b0 : (!((((rd_T25 l0 x13_1).f0).toList) == (((rd_T25 l1 x13_1).f0).toList)) || (!(((rd_T25 l0 x13_1).f1) == ((rd_T25 l1 x13_1).f1)) || (!(((rd_T25 l0 x13_1).f2) == ((rd_T25 l1 x13_1).f2)) || (!(((rd_T25 l0 x13_1).f3) == ((rd_T25 l1 x13_1).f3)) || (!((((rd_T25 l0 x13_1).f4).toList) == (((rd_T25 l1 x13_1).f4).toList)) || (!((((rd_T25 l0 x13_1).f5).toList) == (((rd_T25 l1 x13_1).f5).toList)))))))) = true := c8
         clear c8
         obtain rfl := Option.some.inj H
         have p557 : 0 ≤ (x13_1 : Int) := of_decide_eq_true jC
         have q557 : x13_1 < (l0.length : Int) := of_decide_eq_true jC
         obtain ⟨ad557, e557, hx557_0, hx557_1, hx557_2, hx557_3, hx557_4, hx557_5⟩ := at_T25 HR0.out x13_1 p557 q557
         cases e557
         replace p557 := eq_true p557
         replace q557 := eq_true q557
         have p558 : 0 ≤ (x13_1 : Int) := of_decide_eq_true jC
         have q558 : x13_1 < (l1.length : Int) := of_decide_eq_true jC
         obtain ⟨ad558, e558, hx558_0, hx558_1, hx558_2, hx558_3, hx558_4, hx558_5⟩ := at_T25 HR1.out x13_1 p558 q558
         cases e558
         replace p558 := eq_true p558
         replace q558 := eq_true q558
         go_wp2
         repeat (go_quiet (fail); try go_wp2)
         go_ret
         exact ⟨by first | rfl | (simp; done) | (simp [*]; done) | (simp [X.bne_nil, X.beq_nil]; done) | (simp [*, X.bne_nil, X.beq_nil]; done) | (simp [X.bne_nil, X.beq_nil]; done), by repeat (first | exact Drawn0.refl _ | apply Drawn0.step)⟩
        ·rw [if_neg c8] at H
         have c8b0 : (!((((rd_T25 l0 x13_1).f0).toList) == (((rd_T25 l1 x13_1).f0).toList)) || (!(((rd_T25 l0 x13_1).f1) == ((rd_T25 l1 x13_1).f1)) || (!(((rd_T25 l0 x13_1).f2) == ((rd_T25 l1 x13_1).f2)) || (!(((rd_T25 l0 x13_1).f3) == ((rd_T25 l1 x13_1).f3)) || (!((((rd_T25 l0 x13_1).f4).toList) == (((rd_T25 l1 x13_1).f4).toList)) || (!((((rd_T25 l0 x13_1).f5).toList) == (((rd_T25 l1 x13_1).f5).toList)))))))) = false := by simpa using c8
         clear c8
         have H' := aS H
         clear H
         have p557 : 0 ≤ (x13_1 : Int) := of_decide_eq_true jC
         have q557 : x13_1 < (l0.length : Int) := of_decide_eq_true jC
         obtain ⟨ad557, e557, hx557_0, hx557_1, hx557_2, hx557_3, hx557_4, hx557_5⟩ := at_T25 HR0.out x13_1 p557 q557
         cases e557
         replace p557 := eq_true p557
         replace q557 := eq_true q557
         have p558 : 0 ≤ (x13_1 : Int) := of_decide_eq_true jC
         have q558 : x13_1 < (l1.length : Int) := of_decide_eq_true jC
         obtain ⟨ad558, e558, hx558_0, hx558_1, hx558_2, hx558_3, hx558_4, hx558_5⟩ := at_T25 HR1.out x13_1 p558 q558
         cases e558
         replace p558 := eq_true p558
         replace q558 := eq_true q558
         go_wp2
         repeat (go_quiet (fail); try go_wp2)
         go_roundg k1
         case measure => have := HK1.out; omega
         case rel => exact ⟨(wrap64 (x13_1 + 1)), jB, H', ⟨by have := HK1.out; omega⟩, by repeat (first | exact Drawn0.refl _ | apply Drawn0.step)⟩
       ·rw [if_neg c7] at H
        exact absurd H (by simp)
      ·rw [if_neg c6] at H
       exact absurd H (by simp)
     ·rw [if_neg c5] at H
      exact absurd H (by simp)
    ·rw [if_neg c4] at H
     have c4b0 := decide_eq_false c4
     clear c4
     obtain rfl := Option.some.inj H
     go_wp2
     repeat (go_quiet (fail); try go_wp2)
     go_ret
     exact ⟨by first | rfl | (simp; done) | (simp [*]; done) | (simp [X.bne_nil, X.beq_nil]; done) | (simp [*, X.bne_nil, X.beq_nil]; done) | (simp [X.bne_nil, X.beq_nil]; done), by repeat (first | exact Drawn0.refl _ | apply Drawn0.step)⟩
 ·rw [if_neg c3] at H
  have c3b0 := beq_eq_false_iff_ne.mpr c3
  have c3b1 := bne_iff_ne.mpr c3
  have c3b2 : (l0.length == l1.length) = false := by first | simpa using c3 | (simp at c3 ⊢; omega)
  obtain rfl := Option.some.inj H
  go_enter Tryd.func111, Tryd.ntmps111
  go_wp2
  repeat (go_quiet (fail); try go_wp2)
  go_ret
  exact ⟨by first | rfl | (simp; done) | (simp [*]; done) | (simp [X.bne_nil, X.beq_nil]; done) | (simp [*, X.bne_nil, X.beq_nil]; done) | (simp [X.bne_nil, X.beq_nil]; done), by repeat (first | exact Drawn0.refl _ | apply Drawn0.step)⟩

end Go.Proofs.YtdigilidomimdaaDoor.Pr
