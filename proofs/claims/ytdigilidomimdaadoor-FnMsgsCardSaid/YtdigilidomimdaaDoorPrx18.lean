-- Written for this claim by a program of this session (wip/tool/pr.py, over the kit's printer).
-- half
import Derived.Test.YtdigilidomimdaaDoorPrx0
import Derived.Test.YtdigilidomimdaaDoorPrx17
namespace Go.Proofs.YtdigilidomimdaaDoor.Pr
open Go.RowKit Go.Proofs.YtdigilidomimdaaDoorW.PrintWords Go.Proofs.YtdigilidomimdaaDoorW.PrintLast Go.Proofs.YtdigilidomimdaaDoorW.PrintMore
attribute [local go_sem] max2_int min2_int max_two min_two max_three min_three max_four min_four   -- for this text's walks alone
set_option linter.unusedVariables false
set_option linter.unusedSimpArgs false

/-! ### spec_l7Texts: function 104 -/
def spec_l7Texts.l0 : Nat → List (S25) → ByteArray → Int → Option (ByteArray)
 | 0, _, _, _ => none
 | k + 1, x0, x3, x4 => if x4 < (x0.length : Int) then (if x3.size + 2 ≤ 9223372036854775807 then (if 0 ≤ x4 then ((spec_RecordText.f k ((rd_T25 x0 x4).f0) ((rd_T25 x0 x4).f1) ((rd_T25 x0 x4).f2) ((rd_T25 x0 x4).f3) ((rd_T25 x0 x4).f4) ((rd_T25 x0 x4).f5)).bind fun t713 => (if (x3 ++ (⟨#[59, 32]⟩ : ByteArray)).size + t713.size ≤ 9223372036854775807 then (spec_l7Texts.l0 k x0 ((x3 ++ (⟨#[59, 32]⟩ : ByteArray)) ++ t713) (wrap64 (x4 + 1))) else (none))) else (none)) else (none)) else (some x3)
def spec_l7Texts.f (k : Nat) (l0 : List (S25)) : Option (ByteArray) := spec_l7Texts.l0 k l0 (⟨#[]⟩ : ByteArray) 0
theorem spec_l7Texts.mono_l : ∀ k, (∀ y0 y1 y2, LeO (spec_l7Texts.l0 k y0 y1 y2) (spec_l7Texts.l0 (k + 1) y0 y1 y2))
 | 0 => fun _ _ _ r h => by simp [spec_l7Texts.l0] at h
 | k + 1 => by
  have ih0 := spec_l7Texts.mono_l k
  ·intro y0 y1 y2
   unfold spec_l7Texts.l0
   repeat' first
   | (with_reducible first | exact ih0 _ _ _ | exact spec_RecordText.mono _ _ _ _ _ _ _ | exact LeO.refl _ | exact LeO.none _ | refine LeO.ite ?_ ?_ | refine LeO.bind ?_ (fun _ => ?_))
   | refine LeO.ite ?_ ?_
   | refine LeO.bind ?_ (fun _ => ?_)
theorem spec_l7Texts.mono : ∀ a0 k, LeO (spec_l7Texts.f k a0) (spec_l7Texts.f (k + 1) a0) := by
 intro a0 k
 have ih0 := spec_l7Texts.mono_l k
 unfold spec_l7Texts.f
 repeat' first
   | (with_reducible first | exact ih0 _ _ _ | exact spec_RecordText.mono _ _ _ _ _ _ _ | exact LeO.refl _ | exact LeO.none _ | refine LeO.ite ?_ ?_ | refine LeO.bind ?_ (fun _ => ?_))
   | refine LeO.ite ?_ ?_
   | refine LeO.bind ?_ (fun _ => ?_)
set_option maxHeartbeats 8000000 in
set_option maxRecDepth 100000 in
theorem spec_l7Texts.calls (k : Nat) (A0 : Option Addr) (c0 : Nat) (l0 : List (S25)) (r : ByteArray) (w : World) (hr0 : Kd.C k25 w A0 l0.length l0) (hc0 : l0.length ≤ c0) (h : spec_l7Texts.f k l0 = some r) :
  Calls Tryd.prog 104 #[.slice A0 l0.length c0] w fun e w' => e = .returned (.string r) ∧ Below w.heap.size w w' := by
 have hu25 := Tryd.underlying25
 have HR0 := aS hr0
 have HC0 := aS hc0
 clear hr0 hc0
 have HB := aS (Below.refl w.heap.size w)
 have H := h
 unfold spec_l7Texts.f at H
 clear h
 have H' := aS H
 clear H
 go_enter Tryd.func104, Tryd.ntmps104
 go_wp2
 go_loopg [3, 4] k (fun kq v3 v4 w' => ∃ (x3_1 : ByteArray) (x4_1 : Int), v3 = .string x3_1 ∧ v4 = .int .i64 x4_1 ∧ Aside0 (spec_l7Texts.l0 kq l0 x3_1 x4_1 = some r) ∧ Aside0 (kq ≤ k) ∧ Aside0 (Below w.heap.size w w'))
 case atStart => exact ⟨((⟨#[]⟩ : ByteArray)), (0), jB, jB, H', ⟨Nat.le_refl _⟩, ⟨by exact wU HB.out⟩⟩
 case round =>
  clear H'
  try clear c1
  obtain ⟨x3_1, x4_1, rfl, rfl, HA, HK1, HB⟩ := hrel
  cases gk with
  | zero => exact absurd HA.out (by simp [spec_l7Texts.l0])
  | succ k1 =>
   have H := HA.out
   clear HA
   simp only [spec_l7Texts.l0] at H
   by_cases c2 : x4_1 < (l0.length : Int)
   ·rw [if_pos c2] at H
    have c2b0 := decide_eq_true c2
    clear c2
    by_cases c3 : x3_1.size + 2 ≤ 9223372036854775807
    ·rw [if_pos c3] at H
     have c3b0 := eq_true c3
     have c3b1 := decide_eq_true c3
     try have c3b2 : (9223372036854775807 < x3_1.size + 2) = False := eq_false (Nat.not_lt.2 c3)
     by_cases c4 : 0 ≤ x4_1
     ·rw [if_pos c4] at H
      have c4b0 := decide_eq_true c4
      clear c4
      obtain ⟨t713, A5, H⟩ := bM H
      try dsimp only at H
      by_cases c6 : (x3_1 ++ (⟨#[59, 32]⟩ : ByteArray)).size + t713.size ≤ 9223372036854775807
      ·rw [if_pos c6] at H
       have c6b0 := eq_true c6
       have c6b1 := decide_eq_true c6
       try have c6b2 : (9223372036854775807 < (x3_1 ++ (⟨#[59, 32]⟩ : ByteArray)).size + t713.size) = False := eq_false (Nat.not_lt.2 c6)
       try have c6b8 : (9223372036854775807 < x3_1.size + 2 + t713.size) = False := by have q_ := c6b2; simp only [ByteArray.size_append] at q_; exact q_
       have H' := aS H
       clear H
       have p712 : 0 ≤ (x4_1 : Int) := of_decide_eq_true jC
       have q712 : x4_1 < (l0.length : Int) := of_decide_eq_true jC
       obtain ⟨ad712, e712, hx712_0, hx712_1, hx712_2, hx712_3, hx712_4, hx712_5⟩ := at_T25 HR0.out x4_1 p712 q712
       cases e712
       try replace hx712_0 := hC HB.out hx712_0
       try replace hx712_1 := hC HB.out hx712_1
       try replace hx712_2 := hC HB.out hx712_2
       try replace hx712_3 := hC HB.out hx712_3
       try replace hx712_4 := hC HB.out hx712_4
       try replace hx712_5 := hC HB.out hx712_5
       replace p712 := eq_true p712
       replace q712 := eq_true q712
       go_wp2_with (first | ((with_reducible refine gate_callee (f := 53) rfl ?_); refine gL (some 17) Tryd.func53 #[.agg #[.string ((rd_T25 l0 x4_1).f0), .int .i64 ((rd_T25 l0 x4_1).f1), .int .i64 ((rd_T25 l0 x4_1).f2), .int .i64 ((rd_T25 l0 x4_1).f3), .string ((rd_T25 l0 x4_1).f4), .string ((rd_T25 l0 x4_1).f5)]] ?_; (with_reducible refine (spec_RecordText.calls k1 ((rd_T25 l0 x4_1).f0) ((rd_T25 l0 x4_1).f1) ((rd_T25 l0 x4_1).f2) ((rd_T25 l0 x4_1).f3) ((rd_T25 l0 x4_1).f4) ((rd_T25 l0 x4_1).f5) t713 _ A5.out).mono ?_); rintro e w7 ⟨rfl, hb⟩; refine ⟨_, rfl, ?_⟩; replace HB := aS (below_step (wU HB.out) hb); clear hb))
       go_roundg k1
       case measure => have := HK1.out; omega
       case rel => exact ⟨((x3_1 ++ (⟨#[59, 32]⟩ : ByteArray)) ++ t713), (wrap64 (x4_1 + 1)), jB, jB, H', ⟨by have := HK1.out; omega⟩, ⟨by exact wU HB.out⟩⟩
      ·rw [if_neg c6] at H
       exact absurd H (by simp)
     ·rw [if_neg c4] at H
      exact absurd H (by simp)
    ·rw [if_neg c3] at H
     exact absurd H (by simp)
   ·rw [if_neg c2] at H
    have c2b0 := decide_eq_false c2
    clear c2
    obtain rfl := Option.some.inj H
    go_wp2
    go_ret
    exact ⟨jE, by exact wU HB.out⟩

end Go.Proofs.YtdigilidomimdaaDoor.Pr
