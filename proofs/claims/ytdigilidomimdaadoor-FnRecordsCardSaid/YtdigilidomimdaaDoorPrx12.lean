-- Written for this claim by a program of this session (wip/tool/pr.py, over the kit's printer).
-- half
import Derived.Test.YtdigilidomimdaaDoorPrx0
import Derived.Test.YtdigilidomimdaaDoorPrx11
namespace Go.Proofs.YtdigilidomimdaaDoor.Pr
open Go.RowKit Go.Proofs.YtdigilidomimdaaDoorW.PrintWords Go.Proofs.YtdigilidomimdaaDoorW.PrintLast Go.Proofs.YtdigilidomimdaaDoorW.PrintMore
attribute [local go_sem] max2_int min2_int max_two min_two max_three min_three max_four min_four   -- for this text's walks alone
set_option linter.unusedVariables false
set_option linter.unusedSimpArgs false

/-! ### spec_LessRecord: function 50 -/
def spec_LessRecord.f (k : Nat) (a0_0 : ByteArray) (a0_1 : Int) (a0_2 : Int) (a0_3 : Int) (a0_4 : ByteArray) (a0_5 : ByteArray) (a1_0 : ByteArray) (a1_1 : Int) (a1_2 : Int) (a1_3 : Int) (a1_4 : ByteArray) (a1_5 : ByteArray) : Option (Bool) := if a0_0.toList = a1_0.toList then (if a0_1 = a1_1 then (if a0_3 = a1_3 then (if a0_4.toList = a1_4.toList then (if a0_5.toList = a1_5.toList then (some (decide (a0_2 < a1_2))) else (some (Op.bytesLess a0_5.toList a1_5.toList))) else ((spec_LessName.f k a0_4 a1_4).bind fun t457 => (some t457))) else (some (decide (a0_3 < a1_3)))) else (some (decide (a0_1 < a1_1)))) else ((spec_LessName.f k a0_0 a1_0).bind fun t458 => (some t458))
theorem spec_LessRecord.mono : ∀ a0 a1 a2 a3 a4 a5 a6 a7 a8 a9 a10 a11 k, LeO (spec_LessRecord.f k a0 a1 a2 a3 a4 a5 a6 a7 a8 a9 a10 a11) (spec_LessRecord.f (k + 1) a0 a1 a2 a3 a4 a5 a6 a7 a8 a9 a10 a11) := by
 intro a0 a1 a2 a3 a4 a5 a6 a7 a8 a9 a10 a11 k
 unfold spec_LessRecord.f
 repeat' first
   | (with_reducible first | exact spec_LessName.mono _ _ _ | exact LeO.refl _ | exact LeO.none _ | refine LeO.ite ?_ ?_ | refine LeO.bind ?_ (fun _ => ?_))
   | refine LeO.ite ?_ ?_
   | refine LeO.bind ?_ (fun _ => ?_)
set_option maxHeartbeats 8000000 in
set_option maxRecDepth 100000 in
theorem spec_LessRecord.calls (k : Nat) (a0_0 : ByteArray) (a0_1 : Int) (a0_2 : Int) (a0_3 : Int) (a0_4 : ByteArray) (a0_5 : ByteArray) (a1_0 : ByteArray) (a1_1 : Int) (a1_2 : Int) (a1_3 : Int) (a1_4 : ByteArray) (a1_5 : ByteArray) (r : Bool) (w : World) (h : spec_LessRecord.f k a0_0 a0_1 a0_2 a0_3 a0_4 a0_5 a1_0 a1_1 a1_2 a1_3 a1_4 a1_5 = some r) :
  Calls Tryd.prog 50 #[.agg #[.string a0_0, .int .i64 a0_1, .int .i64 a0_2, .int .i64 a0_3, .string a0_4, .string a0_5], .agg #[.string a1_0, .int .i64 a1_1, .int .i64 a1_2, .int .i64 a1_3, .string a1_4, .string a1_5]] w fun e w' => e = .returned (.bool r) ∧ Below w.heap.size w w' := by
 have hu25 := Tryd.underlying25
 have HB := aS (Below.refl w.heap.size w)
 have H : (if a0_0.toList = a1_0.toList then (if a0_1 = a1_1 then (if a0_3 = a1_3 then (if a0_4.toList = a1_4.toList then (if a0_5.toList = a1_5.toList then (some (decide (a0_2 < a1_2))) else (some (Op.bytesLess a0_5.toList a1_5.toList))) else ((spec_LessName.f k a0_4 a1_4).bind fun t457 => (some t457))) else (some (decide (a0_3 < a1_3)))) else (some (decide (a0_1 < a1_1)))) else ((spec_LessName.f k a0_0 a1_0).bind fun t458 => (some t458))) = some r := h
 clear h
 have HC3 := aS H
 clear H
 go_enter Tryd.func50, Tryd.ntmps50
 go_upto_if 5 with (first | ((with_reducible refine gate_dst (N := 2) rfl ?_); refine xB 2 #[.string a0_0, .int .i64 a0_1, .int .i64 a0_2, .int .i64 a0_3, .string a0_4, .string a0_5] 25 ?_; intro gb455 hg w4 hbox hb; have BK455 := aS (hbox); have GW455 := gW hg (wU HB.out); have GE455 := gW hg (wU HB.out); replace HB := aS (below_step (wU HB.out) hb); clear hb hbox hg) | ((with_reducible refine gate_dst (N := 3) rfl ?_); refine xB 3 #[.string a1_0, .int .i64 a1_1, .int .i64 a1_2, .int .i64 a1_3, .string a1_4, .string a1_5] 25 ?_; intro gb456 hg w5 hbox hb; have BK456 := aS (hbox); have GW456 := gW hg (wS1 HB.out GE455.out); have GE456 := gW hg (wS1 HB.out GE455.out); replace HB := aS (below_step (wS1 HB.out GE455.out) hb); have NB455_456 := nB hg BK455; have NB456_455 := nS NB455_456; replace BK455 := bB BK455 hb; clear hb hbox hg; have hnb6 := NB455_456.out; have hnc6 := NB456_455.out; have hcz7 := cells6f BK455.out; have hcz8 := cells6f BK456.out))
 (try simp only [Act.put, List.setIfInBounds_toArray, List.set_cons_zero, List.set_cons_succ])
 have H := HC3.out
 clear HC3
 by_cases c9 : a0_0.toList = a1_0.toList
 ·rw [if_pos c9] at H
  have c9b0 := beq_iff_eq.mpr c9
  have c9b1 := bne_eq_false_iff_eq.mpr c9
  clear c9
  (first | rw [c9b0] | (simp only [i64_w, i32_w]; rw [c9b0]) | skip)
  by_cases c10 : a0_1 = a1_1
  ·rw [if_pos c10] at H
   have c10b0 := beq_iff_eq.mpr c10
   have c10b1 := bne_eq_false_iff_eq.mpr c10
   clear c10
   by_cases c11 : a0_3 = a1_3
   ·rw [if_pos c11] at H
    have c11b0 := beq_iff_eq.mpr c11
    have c11b1 := bne_eq_false_iff_eq.mpr c11
    clear c11
    by_cases c12 : a0_4.toList = a1_4.toList
    ·rw [if_pos c12] at H
     have c12b0 := beq_iff_eq.mpr c12
     have c12b1 := bne_eq_false_iff_eq.mpr c12
     clear c12
     by_cases c13 : a0_5.toList = a1_5.toList
     ·rw [if_pos c13] at H
      have c13b0 := beq_iff_eq.mpr c13
      have c13b1 := bne_eq_false_iff_eq.mpr c13
      clear c13
      obtain rfl := Option.some.inj H
      have hnb14 := NB455_456.out
      have hnc14 := NB456_455.out
      have hcz15 := cells6f BK455.out
      have hcz16 := cells6f BK456.out
      go_wp2
      go_ret
      exact ⟨jE, by exact wS2 HB.out GE455.out GE456.out⟩
     ·rw [if_neg c13] at H
      have c13b0 := beq_eq_false_iff_ne.mpr c13
      have c13b1 := bne_iff_ne.mpr c13
      obtain rfl := Option.some.inj H
      have hnb17 := NB455_456.out
      have hnc17 := NB456_455.out
      have hcz18 := cells6f BK455.out
      have hcz19 := cells6f BK456.out
      go_wp2
      go_ret
      exact ⟨jE, by exact wS2 HB.out GE455.out GE456.out⟩
    ·rw [if_neg c12] at H
     have c12b0 := beq_eq_false_iff_ne.mpr c12
     have c12b1 := bne_iff_ne.mpr c12
     obtain ⟨t457, A20, H⟩ := bM H
     try dsimp only at H
     obtain rfl := Option.some.inj H
     have hnb21 := NB455_456.out
     have hnc21 := NB456_455.out
     have hcz22 := cells6f BK455.out
     have hcz23 := cells6f BK456.out
     go_wp2_with (first | ((with_reducible refine gate_callee (f := 108) rfl ?_); refine gL (some 48) Tryd.func108 #[.string a0_4, .string a1_4] ?_; (with_reducible refine (spec_LessName.calls k a0_4 a1_4 t457 _ A20.out).mono ?_); rintro e w24 ⟨rfl, hb⟩; refine ⟨_, rfl, ?_⟩; replace BK455 := bB BK455 hb; replace BK456 := bB BK456 hb; replace HB := aS (below_step (wS2 HB.out GE455.out GE456.out) hb); clear hb))
     go_ret
     exact ⟨jE, by exact wS2 HB.out GE455.out GE456.out⟩
   ·rw [if_neg c11] at H
    have c11b0 := beq_eq_false_iff_ne.mpr c11
    have c11b1 := bne_iff_ne.mpr c11
    obtain rfl := Option.some.inj H
    have hnb25 := NB455_456.out
    have hnc25 := NB456_455.out
    have hcz26 := cells6f BK455.out
    have hcz27 := cells6f BK456.out
    go_wp2
    go_ret
    exact ⟨jE, by exact wS2 HB.out GE455.out GE456.out⟩
  ·rw [if_neg c10] at H
   have c10b0 := beq_eq_false_iff_ne.mpr c10
   have c10b1 := bne_iff_ne.mpr c10
   obtain rfl := Option.some.inj H
   have hnb28 := NB455_456.out
   have hnc28 := NB456_455.out
   have hcz29 := cells6f BK455.out
   have hcz30 := cells6f BK456.out
   go_wp2
   go_ret
   exact ⟨jE, by exact wS2 HB.out GE455.out GE456.out⟩
 ·rw [if_neg c9] at H
  have c9b0 := beq_eq_false_iff_ne.mpr c9
  have c9b1 := bne_iff_ne.mpr c9
  (first | rw [c9b0] | (simp only [i64_w, i32_w]; rw [c9b0]) | skip)
  obtain ⟨t458, A31, H⟩ := bM H
  try dsimp only at H
  obtain rfl := Option.some.inj H
  have hnb32 := NB455_456.out
  have hnc32 := NB456_455.out
  have hcz33 := cells6f BK455.out
  have hcz34 := cells6f BK456.out
  go_wp2_with (first | ((with_reducible refine gate_callee (f := 108) rfl ?_); refine gL (some 15) Tryd.func108 #[.string a0_0, .string a1_0] ?_; (with_reducible refine (spec_LessName.calls k a0_0 a1_0 t458 _ A31.out).mono ?_); rintro e w35 ⟨rfl, hb⟩; refine ⟨_, rfl, ?_⟩; replace BK455 := bB BK455 hb; replace BK456 := bB BK456 hb; replace HB := aS (below_step (wS2 HB.out GE455.out GE456.out) hb); clear hb))
  go_ret
  exact ⟨jE, by exact wS2 HB.out GE455.out GE456.out⟩

end Go.Proofs.YtdigilidomimdaaDoor.Pr
