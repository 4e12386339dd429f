-- Written for this claim by a program of this session (wip/tool/pr.py, over the kit's printer).
-- half
import Derived.Test.YtdigilidomimdaaDoorPrx0
import Derived.Test.YtdigilidomimdaaDoorPrx8
namespace Go.Proofs.YtdigilidomimdaaDoor.Pr
open Go.RowKit Go.Proofs.YtdigilidomimdaaDoorW.PrintWords Go.Proofs.YtdigilidomimdaaDoorW.PrintLast Go.Proofs.YtdigilidomimdaaDoorW.PrintMore
attribute [local go_sem] max2_int min2_int max_two min_two max_three min_three max_four min_four   -- for this text's walks alone
set_option linter.unusedVariables false
set_option linter.unusedSimpArgs false

/-! ### spec_RecordOk: function 54 -/
mutual
def spec_RecordOk.j0 : Nat → Bool → ByteArray → Int → Int → Int → ByteArray → ByteArray → Option (Bool)
 | 0, _, _, _, _, _, _, _ => none
 | k + 1, x12, x516000, x516001, x516002, x516003, x516004, x516005 => if x12 = true then (some false) else (if x516001 = 1 then ((spec_l1In.f x516003 0 2147483647).bind fun t518 => (if t518 = true then (if x516004.toList = ([] : List UInt8) then (some (x516005.toList == ([] : List UInt8))) else (some false)) else (some false))) else (if x516001 = 2 then (spec_RecordOk.j1 k x516001 (x516001 == 2) x516000 x516001 x516002 x516003 x516004 x516005) else (spec_RecordOk.j1 k x516001 (x516001 == 5) x516000 x516001 x516002 x516003 x516004 x516005)))
def spec_RecordOk.j1 : Nat → Int → Bool → ByteArray → Int → Int → Int → ByteArray → ByteArray → Option (Bool)
 | 0, _, _, _, _, _, _, _, _ => none
 | k + 1, x14, x30, x516000, x516001, x516002, x516003, x516004, x516005 => if x30 = true then (if x516003 = 0 then ((spec_NameOk.f k x516004).bind fun t519 => (if t519 = true then (some (x516005.toList == ([] : List UInt8))) else (some false))) else (some false)) else (if x14 = 6 then ((spec_l1In.f x516003 0 100000).bind fun t520 => (if t520 = true then ((spec_NameOk.f k x516004).bind fun t521 => (if t521 = true then (some (x516005.toList == ([] : List UInt8))) else (some false))) else (some false))) else (if x516001 = 16 then (if x516003 = 0 then (if x516004.toList = ([] : List UInt8) then ((spec_l5Text.f k x516005).bind fun t522 => (some t522)) else (some false)) else (some false)) else (some false)))
end
def spec_RecordOk.f (k : Nat) (a0_0 : ByteArray) (a0_1 : Int) (a0_2 : Int) (a0_3 : Int) (a0_4 : ByteArray) (a0_5 : ByteArray) : Option (Bool) := (spec_NameOk.f k a0_0).bind fun t516 => (if t516 = true then ((spec_l1In.f a0_2 0 100000).bind fun t517 => (spec_RecordOk.j0 k (!t517) a0_0 a0_1 a0_2 a0_3 a0_4 a0_5)) else (spec_RecordOk.j0 k true a0_0 a0_1 a0_2 a0_3 a0_4 a0_5))
theorem spec_RecordOk.mono_l : ∀ k, (∀ y0 y1 y2 y3 y4 y5 y6, LeO (spec_RecordOk.j0 k y0 y1 y2 y3 y4 y5 y6) (spec_RecordOk.j0 (k + 1) y0 y1 y2 y3 y4 y5 y6)) ∧ (∀ y0 y1 y2 y3 y4 y5 y6 y7, LeO (spec_RecordOk.j1 k y0 y1 y2 y3 y4 y5 y6 y7) (spec_RecordOk.j1 (k + 1) y0 y1 y2 y3 y4 y5 y6 y7))
 | 0 => ⟨fun _ _ _ _ _ _ _ r h => by simp [spec_RecordOk.j0] at h, fun _ _ _ _ _ _ _ _ r h => by simp [spec_RecordOk.j1] at h⟩
 | k + 1 => by
  obtain ⟨ih0, ih1⟩ := spec_RecordOk.mono_l k
  refine ⟨?_, ?_⟩
  ·intro y0 y1 y2 y3 y4 y5 y6
   unfold spec_RecordOk.j0
   repeat' first
   | (with_reducible first | exact ih0 _ _ _ _ _ _ _ | exact ih1 _ _ _ _ _ _ _ _ | exact spec_NameOk.mono _ _ | exact spec_l5Text.mono _ _ | exact LeO.refl _ | exact LeO.none _ | refine LeO.ite ?_ ?_ | refine LeO.bind ?_ (fun _ => ?_))
   | exact ih0 _ _ _ _ _ _ _
   | exact ih1 _ _ _ _ _ _ _ _
   | exact spec_NameOk.mono _ _
   | exact spec_l5Text.mono _ _
   | exact LeO.none _
   | refine LeO.ite ?_ ?_
   | refine LeO.bind ?_ (fun _ => ?_)
  ·intro y0 y1 y2 y3 y4 y5 y6 y7
   unfold spec_RecordOk.j1
   repeat' first
   | (with_reducible first | exact ih0 _ _ _ _ _ _ _ | exact ih1 _ _ _ _ _ _ _ _ | exact spec_NameOk.mono _ _ | exact spec_l5Text.mono _ _ | exact LeO.refl _ | exact LeO.none _ | refine LeO.ite ?_ ?_ | refine LeO.bind ?_ (fun _ => ?_))
   | exact ih0 _ _ _ _ _ _ _
   | exact ih1 _ _ _ _ _ _ _ _
   | exact spec_NameOk.mono _ _
   | exact spec_l5Text.mono _ _
   | exact LeO.none _
   | refine LeO.ite ?_ ?_
   | refine LeO.bind ?_ (fun _ => ?_)
theorem spec_RecordOk.mono : ∀ a0 a1 a2 a3 a4 a5 k, LeO (spec_RecordOk.f k a0 a1 a2 a3 a4 a5) (spec_RecordOk.f (k + 1) a0 a1 a2 a3 a4 a5) := by
 intro a0 a1 a2 a3 a4 a5 k
 obtain ⟨ih0, ih1⟩ := spec_RecordOk.mono_l k
 unfold spec_RecordOk.f
 repeat' first
   | (with_reducible first | exact ih0 _ _ _ _ _ _ _ | exact ih1 _ _ _ _ _ _ _ _ | exact spec_NameOk.mono _ _ | exact spec_l5Text.mono _ _ | exact LeO.refl _ | exact LeO.none _ | refine LeO.ite ?_ ?_ | refine LeO.bind ?_ (fun _ => ?_))
   | exact ih0 _ _ _ _ _ _ _
   | exact ih1 _ _ _ _ _ _ _ _
   | exact spec_NameOk.mono _ _
   | exact spec_l5Text.mono _ _
   | exact LeO.none _
   | refine LeO.ite ?_ ?_
   | refine LeO.bind ?_ (fun _ => ?_)
set_option maxHeartbeats 8000000 in
set_option maxRecDepth 100000 in
theorem spec_RecordOk.calls (k : Nat) (a0_0 : ByteArray) (a0_1 : Int) (a0_2 : Int) (a0_3 : Int) (a0_4 : ByteArray) (a0_5 : ByteArray) (r : Bool) (w : World) (h : spec_RecordOk.f k a0_0 a0_1 a0_2 a0_3 a0_4 a0_5 = some r) :
  Calls Tryd.prog 54 #[.agg #[.string a0_0, .int .i64 a0_1, .int .i64 a0_2, .int .i64 a0_3, .string a0_4, .string a0_5]] w fun e w' => e = .returned (.bool r) ∧ Below w.heap.size w w' := by
 have hu25 := Tryd.underlying25
 have HB := aS (Below.refl w.heap.size w)
 have H : ((spec_NameOk.f k a0_0).bind fun t516 => (if t516 = true then ((spec_l1In.f a0_2 0 100000).bind fun t517 => (spec_RecordOk.j0 k (!t517) a0_0 a0_1 a0_2 a0_3 a0_4 a0_5)) else (spec_RecordOk.j0 k true a0_0 a0_1 a0_2 a0_3 a0_4 a0_5))) = some r := h
 clear h
 have HC2 := aS H
 clear H
 go_enter Tryd.func54, Tryd.ntmps54
 go_upto_region 1 with (first | ((with_reducible refine gate_dst (N := 1) rfl ?_); refine box_event ?hg (N := 1) ?hd (cs := #[.string a0_0, .int .i64 a0_1, .int .i64 a0_2, .int .i64 a0_3, .string a0_4, .string a0_5]) (t := 25) ?hr ?_; (case hd => rfl); (case hg => rfl); (case hr => first | (go_simp; done) | (go_simp; rfl)); intro gb515 hg w3 hbox hb; have BK515 := aS (hbox); have GW515 := aS ((by rw [hg]; exact (below_size (wU HB.out)) : w.heap.size ≤ gb515)); have GE515 := aS ((by rw [hg]; exact (below_size (wU HB.out)) : w.heap.size ≤ gb515)); replace HB := aS (below_step (wU HB.out) hb); clear hb hbox hg))
 (try simp only [Act.put, List.setIfInBounds_toArray, List.set_cons_zero, List.set_cons_succ])
 go_cut [12] (fun v12 wc => ∃ (kq : Nat) (x12_1 : Bool), v12 = .bool x12_1 ∧ Aside0 (spec_RecordOk.j0 kq x12_1 a0_0 a0_1 a0_2 a0_3 a0_4 a0_5 = some r) ∧ Aside0 (kq ≤ k) ∧ Aside0 (wc.heap[gb515]? = some (.cells #[.string a0_0, .int .i64 a0_1, .int .i64 a0_2, .int .i64 a0_3, .string a0_4, .string a0_5] 25 (0, 0))) ∧ Aside0 (Below w.heap.size w wc))
 case first =>
  have H := HC2.out
  clear HC2
  obtain ⟨t516, A4, H⟩ := bM H
  try dsimp only at H
  by_cases c5 : t516 = true
  ·subst c5
   rw [if_pos rfl] at H
   obtain ⟨t517, A6, H⟩ := bM H
   try dsimp only at H
   have H' := aS H
   clear H
   have hcz7 := cells6f BK515.out
   go_wp2_with (first | ((with_reducible refine gate_callee (f := 110) rfl ?_); refine goesL_ (some 5) rfl rfl Tryd.func110 jK rfl #[.string a0_0] rfl jA ?_; (with_reducible refine (spec_NameOk.calls k a0_0 true _ A4.out).mono ?_); rintro e w8 ⟨rfl, hb⟩; refine ⟨_, rfl, ?_⟩; replace BK515 := aS (blk_below (bU BK515.out) hb); replace HB := aS (below_step (wS1 HB.out GE515.out) hb); clear hb; have hcz9 := cells6f BK515.out) | (go_at_call 86; (with_reducible refine (spec_l1In.calls a0_2 0 100000 t517 _ A6.out).mono ?_); rintro e w' ⟨rfl, ⟨nd, rfl⟩⟩))
   go_meet
   case rel => exact ⟨_, (!t517), jB, H', ⟨by first | omega | exact Nat.le_refl _⟩, ⟨by exact bU BK515.out⟩, ⟨by exact wS1 HB.out GE515.out⟩⟩
  ·replace c5 := Bool.eq_false_iff.mpr c5
   subst c5
   rw [if_neg Bool.false_ne_true] at H
   have H' := aS H
   clear H
   have hcz10 := cells6f BK515.out
   go_wp2_with (first | ((with_reducible refine gate_callee (f := 110) rfl ?_); refine goesL_ (some 5) rfl rfl Tryd.func110 jK rfl #[.string a0_0] rfl jA ?_; (with_reducible refine (spec_NameOk.calls k a0_0 false _ A4.out).mono ?_); rintro e w11 ⟨rfl, hb⟩; refine ⟨_, rfl, ?_⟩; replace BK515 := aS (blk_below (bU BK515.out) hb); replace HB := aS (below_step (wS1 HB.out GE515.out) hb); clear hb))
   go_meet
   case rel => exact ⟨_, (true), jB, H', ⟨by first | omega | exact Nat.le_refl _⟩, ⟨by exact bU BK515.out⟩, ⟨by exact wS1 HB.out GE515.out⟩⟩
 case rest =>
  clear HC2
  try clear c1
  try clear p2
  try clear c5
  try clear c11
  try clear hcz10
  try clear hcz7
  try clear hcz9
  obtain ⟨kq, x12_1, rfl, HA, HJ1, BK515, HB⟩ := hcut
  cases kq with
  | zero => exact absurd HA.out (by simp [spec_RecordOk.j0])
  | succ kj1 =>
   have H := HA.out
   clear HA
   simp only [spec_RecordOk.j0] at H
   by_cases c12 : x12_1 = true
   ·subst c12
    rw [if_pos rfl] at H
    obtain rfl := Option.some.inj H
    go_wp2
    go_ret
    exact ⟨jE, by exact wS1 HB.out GE515.out⟩
   ·replace c12 := Bool.eq_false_iff.mpr c12
    subst c12
    rw [if_neg Bool.false_ne_true] at H
    by_cases c13 : a0_1 = 1
    ·rw [if_pos c13] at H
     have c13b0 := beq_iff_eq.mpr c13
     have c13b1 := bne_eq_false_iff_eq.mpr c13
     clear c13
     obtain ⟨t518, A14, H⟩ := bM H
     try dsimp only at H
     by_cases c15 : t518 = true
     ·subst c15
      rw [if_pos rfl] at H
      by_cases c16 : a0_4.toList = ([] : List UInt8)
      ·rw [if_pos c16] at H
       have c16b0 := beq_iff_eq.mpr c16
       have c16b1 := bne_eq_false_iff_eq.mpr c16
       clear c16
       obtain rfl := Option.some.inj H
       have hcz17 := cells6f BK515.out
       go_wp2_with (first | ((with_reducible refine gate_callee (f := 86) rfl ?_); refine goesL_ (some 19) rfl rfl Tryd.func86 jK rfl #[.int .i64 a0_3, .int .i64 0, .int .i64 2147483647] rfl jA ?_; (with_reducible refine (spec_l1In.calls a0_3 0 2147483647 true _ A14.out).mono ?_); rintro e w' ⟨rfl, ⟨nd, rfl⟩⟩; refine ⟨_, rfl, ?_⟩))
       go_ret
       exact ⟨jE, by exact wS1 HB.out GE515.out⟩
      ·rw [if_neg c16] at H
       have c16b0 := beq_eq_false_iff_ne.mpr c16
       have c16b1 := bne_iff_ne.mpr c16
       obtain rfl := Option.some.inj H
       have hcz18 := cells6f BK515.out
       go_wp2_with (first | ((with_reducible refine gate_callee (f := 86) rfl ?_); refine goesL_ (some 19) rfl rfl Tryd.func86 jK rfl #[.int .i64 a0_3, .int .i64 0, .int .i64 2147483647] rfl jA ?_; (with_reducible refine (spec_l1In.calls a0_3 0 2147483647 true _ A14.out).mono ?_); rintro e w' ⟨rfl, ⟨nd, rfl⟩⟩; refine ⟨_, rfl, ?_⟩))
       go_ret
       exact ⟨jE, by exact wS1 HB.out GE515.out⟩
     ·replace c15 := Bool.eq_false_iff.mpr c15
      subst c15
      rw [if_neg Bool.false_ne_true] at H
      obtain rfl := Option.some.inj H
      have hcz19 := cells6f BK515.out
      go_wp2_with (first | ((with_reducible refine gate_callee (f := 86) rfl ?_); refine goesL_ (some 19) rfl rfl Tryd.func86 jK rfl #[.int .i64 a0_3, .int .i64 0, .int .i64 2147483647] rfl jA ?_; (with_reducible refine (spec_l1In.calls a0_3 0 2147483647 false _ A14.out).mono ?_); rintro e w' ⟨rfl, ⟨nd, rfl⟩⟩; refine ⟨_, rfl, ?_⟩))
      go_ret
      exact ⟨jE, by exact wS1 HB.out GE515.out⟩
    ·rw [if_neg c13] at H
     have c13b0 := beq_eq_false_iff_ne.mpr c13
     have c13b1 := bne_iff_ne.mpr c13
     have HC20 := aS H
     clear H
     have hcz21 := cells6f BK515.out
     go_upto_if 30 with (fail)
     go_cut [30] (fun v30 wc => ∃ (kq : Nat) (x30_19 : Bool), v30 = .bool x30_19 ∧ Aside0 (spec_RecordOk.j1 kq a0_1 x30_19 a0_0 a0_1 a0_2 a0_3 a0_4 a0_5 = some r) ∧ Aside0 (kq ≤ kj1) ∧ Aside0 (wc.heap[gb515]? = some (.cells #[.string a0_0, .int .i64 a0_1, .int .i64 a0_2, .int .i64 a0_3, .string a0_4, .string a0_5] 25 (0, 0))) ∧ Aside0 (Below w.heap.size w wc))
     case first =>
      have H := HC20.out
      clear HC20
      by_cases c22 : a0_1 = 2
      ·rw [if_pos c22] at H
       have c22b0 := beq_iff_eq.mpr c22
       have c22b1 := bne_eq_false_iff_eq.mpr c22
       clear c22
       (first | rw [c22b0] | (simp only [i64_w, i32_w]; rw [c22b0]) | skip)
       have H' := aS H
       clear H
       go_wp2
       go_meet
       case rel => exact ⟨_, ((a0_1 == 2)), jB, H', ⟨by have := HJ1.out; first | omega | exact Nat.le_refl _⟩, ⟨by exact bU BK515.out⟩, ⟨by exact wS1 HB.out GE515.out⟩⟩
      ·rw [if_neg c22] at H
       have c22b0 := beq_eq_false_iff_ne.mpr c22
       have c22b1 := bne_iff_ne.mpr c22
       (first | rw [c22b0] | (simp only [i64_w, i32_w]; rw [c22b0]) | skip)
       have H' := aS H
       clear H
       go_wp2
       go_meet
       case rel => exact ⟨_, ((a0_1 == 5)), jB, H', ⟨by have := HJ1.out; first | omega | exact Nat.le_refl _⟩, ⟨by exact bU BK515.out⟩, ⟨by exact wS1 HB.out GE515.out⟩⟩
     case rest =>
      clear HC20
      try clear c1
      try clear c2
      try clear p2
      try clear c5
      try clear c8
      try clear c11
      try clear c12
      try clear c13
      try clear c13b0
      try clear c13b1
      try clear c15
      try clear c16
      try clear c16b0
      try clear c16b1
      try clear c22
      try clear c22b0
      try clear c22b1
      try clear hcz10
      try clear hcz17
      try clear hcz18
      try clear hcz19
      try clear hcz21
      try clear hcz7
      try clear hcz9
      try clear p2
      obtain ⟨kq, x30_19, rfl, HA, HJ19, BK515, HB⟩ := hcut
      cases kq with
      | zero => exact absurd HA.out (by simp [spec_RecordOk.j1])
      | succ kj19 =>
       have H := HA.out
       clear HA
       simp only [spec_RecordOk.j1] at H
       by_cases c23 : x30_19 = true
       ·subst c23
        rw [if_pos rfl] at H
        by_cases c24 : a0_3 = 0
        ·rw [if_pos c24] at H
         have c24b0 := beq_iff_eq.mpr c24
         have c24b1 := bne_eq_false_iff_eq.mpr c24
         clear c24
         obtain ⟨t519, A25, H⟩ := bM H
         try dsimp only at H
         by_cases c26 : t519 = true
         ·subst c26
          rw [if_pos rfl] at H
          obtain rfl := Option.some.inj H
          have hcz27 := cells6f BK515.out
          go_wp2_with (first | (go_at_call 110; (with_reducible refine (spec_NameOk.calls kj19 a0_4 true _ A25.out).mono ?_); rintro e w28 ⟨rfl, hb⟩; replace BK515 := aS (blk_below (bU BK515.out) hb); replace HB := aS (below_step (wS1 HB.out GE515.out) hb); clear hb; have hcz29 := cells6f BK515.out))
          go_ret
          exact ⟨jE, by exact wS1 HB.out GE515.out⟩
         ·replace c26 := Bool.eq_false_iff.mpr c26
          subst c26
          rw [if_neg Bool.false_ne_true] at H
          obtain rfl := Option.some.inj H
          have hcz30 := cells6f BK515.out
          go_wp2_with (first | (go_at_call 110; (with_reducible refine (spec_NameOk.calls kj19 a0_4 false _ A25.out).mono ?_); rintro e w31 ⟨rfl, hb⟩; replace BK515 := aS (blk_below (bU BK515.out) hb); replace HB := aS (below_step (wS1 HB.out GE515.out) hb); clear hb))
          go_ret
          exact ⟨jE, by exact wS1 HB.out GE515.out⟩
        ·rw [if_neg c24] at H
         have c24b0 := beq_eq_false_iff_ne.mpr c24
         have c24b1 := bne_iff_ne.mpr c24
         obtain rfl := Option.some.inj H
         have hcz32 := cells6f BK515.out
         go_wp2
         go_ret
         exact ⟨jE, by exact wS1 HB.out GE515.out⟩
       ·replace c23 := Bool.eq_false_iff.mpr c23
        subst c23
        rw [if_neg Bool.false_ne_true] at H
        by_cases c33 : a0_1 = 6
        ·rw [if_pos c33] at H
         have c33b0 := beq_iff_eq.mpr c33
         have c33b1 := bne_eq_false_iff_eq.mpr c33
         clear c33
         obtain ⟨t520, A34, H⟩ := bM H
         try dsimp only at H
         by_cases c35 : t520 = true
         ·subst c35
          rw [if_pos rfl] at H
          obtain ⟨t521, A36, H⟩ := bM H
          try dsimp only at H
          by_cases c37 : t521 = true
          ·subst c37
           rw [if_pos rfl] at H
           obtain rfl := Option.some.inj H
           have hcz38 := cells6f BK515.out
           go_wp2_with (first | ((with_reducible refine gate_callee (f := 86) rfl ?_); refine goesL_ (some 50) rfl rfl Tryd.func86 jK rfl #[.int .i64 a0_3, .int .i64 0, .int .i64 100000] rfl jA ?_; (with_reducible refine (spec_l1In.calls a0_3 0 100000 true _ A34.out).mono ?_); rintro e w' ⟨rfl, ⟨nd, rfl⟩⟩; refine ⟨_, rfl, ?_⟩) | (go_at_call 110; (with_reducible refine (spec_NameOk.calls kj19 a0_4 true _ A36.out).mono ?_); rintro e w39 ⟨rfl, hb⟩; replace BK515 := aS (blk_below (bU BK515.out) hb); replace HB := aS (below_step (wS1 HB.out GE515.out) hb); clear hb; have hcz40 := cells6f BK515.out))
           go_ret
           exact ⟨jE, by exact wS1 HB.out GE515.out⟩
          ·replace c37 := Bool.eq_false_iff.mpr c37
           subst c37
           rw [if_neg Bool.false_ne_true] at H
           obtain rfl := Option.some.inj H
           have hcz41 := cells6f BK515.out
           go_wp2_with (first | ((with_reducible refine gate_callee (f := 86) rfl ?_); refine goesL_ (some 50) rfl rfl Tryd.func86 jK rfl #[.int .i64 a0_3, .int .i64 0, .int .i64 100000] rfl jA ?_; (with_reducible refine (spec_l1In.calls a0_3 0 100000 true _ A34.out).mono ?_); rintro e w' ⟨rfl, ⟨nd, rfl⟩⟩; refine ⟨_, rfl, ?_⟩) | (go_at_call 110; (with_reducible refine (spec_NameOk.calls kj19 a0_4 false _ A36.out).mono ?_); rintro e w42 ⟨rfl, hb⟩; replace BK515 := aS (blk_below (bU BK515.out) hb); replace HB := aS (below_step (wS1 HB.out GE515.out) hb); clear hb))
           go_ret
           exact ⟨jE, by exact wS1 HB.out GE515.out⟩
         ·replace c35 := Bool.eq_false_iff.mpr c35
          subst c35
          rw [if_neg Bool.false_ne_true] at H
          obtain rfl := Option.some.inj H
          have hcz43 := cells6f BK515.out
          go_wp2_with (first | ((with_reducible refine gate_callee (f := 86) rfl ?_); refine goesL_ (some 50) rfl rfl Tryd.func86 jK rfl #[.int .i64 a0_3, .int .i64 0, .int .i64 100000] rfl jA ?_; (with_reducible refine (spec_l1In.calls a0_3 0 100000 false _ A34.out).mono ?_); rintro e w' ⟨rfl, ⟨nd, rfl⟩⟩; refine ⟨_, rfl, ?_⟩))
          go_ret
          exact ⟨jE, by exact wS1 HB.out GE515.out⟩
        ·rw [if_neg c33] at H
         have c33b0 := beq_eq_false_iff_ne.mpr c33
         have c33b1 := bne_iff_ne.mpr c33
         by_cases c44 : a0_1 = 16
         ·rw [if_pos c44] at H
          have c44b0 := beq_iff_eq.mpr c44
          have c44b1 := bne_eq_false_iff_eq.mpr c44
          clear c44
          by_cases c45 : a0_3 = 0
          ·rw [if_pos c45] at H
           have c45b0 := beq_iff_eq.mpr c45
           have c45b1 := bne_eq_false_iff_eq.mpr c45
           clear c45
           by_cases c46 : a0_4.toList = ([] : List UInt8)
           ·rw [if_pos c46] at H
            have c46b0 := beq_iff_eq.mpr c46
            have c46b1 := bne_eq_false_iff_eq.mpr c46
            clear c46
            obtain ⟨t522, A47, H⟩ := bM H
            try dsimp only at H
            obtain rfl := Option.some.inj H
            have hcz48 := cells6f BK515.out
            go_wp2_with (first | (go_at_call 88; (with_reducible refine (spec_l5Text.calls kj19 a0_5 t522 _ A47.out).mono ?_); rintro e w' ⟨rfl, ⟨nd, rfl⟩⟩))
            go_ret
            exact ⟨jE, by exact wS1 HB.out GE515.out⟩
           ·rw [if_neg c46] at H
            have c46b0 := beq_eq_false_iff_ne.mpr c46
            have c46b1 := bne_iff_ne.mpr c46
            obtain rfl := Option.some.inj H
            have hcz49 := cells6f BK515.out
            go_wp2
            go_ret
            exact ⟨jE, by exact wS1 HB.out GE515.out⟩
          ·rw [if_neg c45] at H
           have c45b0 := beq_eq_false_iff_ne.mpr c45
           have c45b1 := bne_iff_ne.mpr c45
           obtain rfl := Option.some.inj H
           have hcz50 := cells6f BK515.out
           go_wp2
           go_ret
           exact ⟨jE, by exact wS1 HB.out GE515.out⟩
         ·rw [if_neg c44] at H
          have c44b0 := beq_eq_false_iff_ne.mpr c44
          have c44b1 := bne_iff_ne.mpr c44
          obtain rfl := Option.some.inj H
          have hcz51 := cells6f BK515.out
          go_wp2
          go_ret
          exact ⟨jE, by exact wS1 HB.out GE515.out⟩

/-! ### spec_Put4: function 63 -/
def spec_Put4.f (l0 : List Int) (a1 : Int) : Option (List Int) := (some (([] : List Int) : List Int)).bind fun y523 => (if y523.length + l0.length < 140737488355328 then ((some (y523 ++ l0 : List Int)).bind fun y526 => ((spec_l1In.f a1 0 2147483647).bind fun t529 => (if t529 = true then ((some (([(a1 / 16777216) % 256, (Go.bits .and .i64 (a1 / 65536) 255) % 256, (Go.bits .and .i64 (a1 / 256) 255) % 256, (Go.bits .and .i64 a1 255) % 256] : List Int) : List Int)).bind fun y530 => (if y526.length + y530.length < 140737488355328 then (some (y526 ++ y530)) else (none))) else (some y526)))) else (none))
set_option maxHeartbeats 8000000 in
set_option maxRecDepth 100000 in
theorem spec_Put4.calls (A0 : Option Addr) (c0 : Nat) (l0 : List Int) (a1 : Int) (r : List Int) (w : World) (hr0 : Kd.C (Kd.int .u8) w A0 l0.length l0) (hc0 : l0.length ≤ c0) (h : spec_Put4.f l0 a1 = some r) :
  Calls Tryd.prog 63 #[.slice A0 l0.length c0, .int .i64 a1] w fun e w' => ∃ v0_ : Value, e = .returned (v0_) ∧ Kd.R (Kd.int .u8) 5 w' w.heap.size (fun _ => True) v0_ r ∧ Below w.heap.size w w' := by
 have HR0 := aS hr0
 have HC0 := aS hc0
 clear hr0 hc0
 have HB := aS (Below.refl w.heap.size w)
 have H : ((some (([] : List Int) : List Int)).bind fun y523 => (if y523.length + l0.length < 140737488355328 then ((some (y523 ++ l0 : List Int)).bind fun y526 => ((spec_l1In.f a1 0 2147483647).bind fun t529 => (if t529 = true then ((some (([(a1 / 16777216) % 256, (Go.bits .and .i64 (a1 / 65536) 255) % 256, (Go.bits .and .i64 (a1 / 256) 255) % 256, (Go.bits .and .i64 a1 255) % 256] : List Int) : List Int)).bind fun y530 => (if y526.length + y530.length < 140737488355328 then (some (y526 ++ y530)) else (none))) else (some y526)))) else (none))) = some r := h
 clear h
 obtain ⟨y523, hy_⟩ : ∃ y_ : List Int, y_ = (([] : List Int)) := ⟨_, rfl⟩
 replace H : (if y523.length + l0.length < 140737488355328 then ((some (y523 ++ l0 : List Int)).bind fun y526 => ((spec_l1In.f a1 0 2147483647).bind fun t529 => (if t529 = true then ((some (([(a1 / 16777216) % 256, (Go.bits .and .i64 (a1 / 65536) 255) % 256, (Go.bits .and .i64 (a1 / 256) 255) % 256, (Go.bits .and .i64 a1 255) % 256] : List Int) : List Int)).bind fun y530 => (if y526.length + y530.length < 140737488355328 then (some (y526 ++ y530)) else (none))) else (some y526)))) else (none)) = some r := jD
 have Ny523 := aS hy_
 clear hy_
 by_cases c3 : y523.length + l0.length < 140737488355328
 ·rw [if_pos c3] at H
  have LMc3 := aS c3
  clear c3
  obtain ⟨y526, hy_⟩ : ∃ y_ : List Int, y_ = (y523 ++ l0) := ⟨_, rfl⟩
  replace H : ((spec_l1In.f a1 0 2147483647).bind fun t529 => (if t529 = true then ((some (([(a1 / 16777216) % 256, (Go.bits .and .i64 (a1 / 65536) 255) % 256, (Go.bits .and .i64 (a1 / 256) 255) % 256, (Go.bits .and .i64 a1 255) % 256] : List Int) : List Int)).bind fun y530 => (if y526.length + y530.length < 140737488355328 then (some (y526 ++ y530)) else (none))) else (some y526))) = some r := jD
  have Ny526 := aS hy_
  clear hy_
  obtain ⟨t529, A4, H⟩ := bM H
  try dsimp only at H
  have HC5 := aS H
  clear H
  go_enter Tryd.func63, Tryd.ntmps63
  go_upto_if 11 with (first | ((with_reducible refine gate_dst (N := 6) rfl ?_); refine Kd.R_lit (Kd.int .u8) _ 5 ?hg (N := 6) ?hd (xs := ([] : List Int)) (inner := []) (ok := fun _ => True) (okp := fun _ => True) ?hr ?hp (fun _ hk => hk) trivial (Below.refl _ _) (Nat.le_refl _) (by simp) ?_; (case hd => rfl); (case hg => rfl); (case hr => first | (go_simp; done) | (go_simp; rfl)); (case hp => exact (Reps.none _ _)); intro v524 w6 ho7 hb hg_ hnew_; clear hg_ hnew_; (first | rw [← Ny523.out] at ho7 | (simp only [Int.reduceToNat] at ho7; rw [← Ny523.out] at ho7)); have HO525 := aS (Kd.R_lower ho7 (below_size (wU HB.out))); replace HB := aS (below_step (wU HB.out) hb); clear hb ho7) | ((with_reducible refine gate_builtin (b := .append) (xs := #[.tmp 6, .tmp 7]) rfl ?_); at_builtin; refine Kd.R_append_rows (Kd.int .u8) (w0 := w) w.heap.size rfl (.tmp 6) (.tmp 7) 22 5 (.int .u8 0) 1 rfl Tryd.underlying22 info5 rfl (by decide) (by omega) v524 y523 l0 _ _ _ (fun _ => True) (fun _ => False) rfl rfl ?aO ?aR (fun _ _ h => h) (fun _ h => h.elim) ?aF ?aB ?aS ?aL ?_; (case aR => exact cU ((Kd.C_below HR0.out HB.out))); (case aB => exact (wU HB.out)); (case aF => exact (fun _ _ => trivial)); (case aO => exact (rU HO525.out)); (case aS => exact (below_size (wU HB.out))); (case aL => have := LMc3.out; omega); intro v527 w8 ho hb hg hat; rw [← Ny526.out] at ho; replace HB := aS (hb); have HO528 := aS (ho); clear HO525; clear ho hb hg hat) | ((with_reducible refine gate_callee (f := 86) rfl ?_); refine goesL_ (some 10) rfl rfl Tryd.func86 jK rfl #[.int .i64 a1, .int .i64 0, .int .i64 2147483647] rfl jA ?_; (with_reducible refine (spec_l1In.calls a1 0 2147483647 t529 _ A4.out).mono ?_); rintro e w' ⟨rfl, ⟨nd, rfl⟩⟩; refine ⟨_, rfl, ?_⟩))
  (try simp only [Act.put, List.setIfInBounds_toArray, List.set_cons_zero, List.set_cons_succ])
  have H := HC5.out
  clear HC5
  by_cases c9 : t529 = true
  ·subst c9
   rw [if_pos rfl] at H
   obtain ⟨ji10, hji10⟩ : ∃ j_ : Int, (Go.bits .and .i64 (a1 / 65536) 255) = j_ := ⟨_, rfl⟩
   replace H : ((some (([(a1 / 16777216) % 256, (ji10) % 256, (Go.bits .and .i64 (a1 / 256) 255) % 256, (Go.bits .and .i64 a1 255) % 256] : List Int) : List Int)).bind fun y530 => (if y526.length + y530.length < 140737488355328 then (some (y526 ++ y530)) else (none))) = some r := by first | (rw [hji10] at H; exact H) | (simp only [hji10] at H ⊢; exact H)
   obtain ⟨ji11, hji11⟩ : ∃ j_ : Int, (Go.bits .and .i64 (a1 / 256) 255) = j_ := ⟨_, rfl⟩
   replace H : ((some (([(a1 / 16777216) % 256, (ji10) % 256, (ji11) % 256, (Go.bits .and .i64 a1 255) % 256] : List Int) : List Int)).bind fun y530 => (if y526.length + y530.length < 140737488355328 then (some (y526 ++ y530)) else (none))) = some r := by first | (rw [hji11] at H; exact H) | (simp only [hji11] at H ⊢; exact H)
   obtain ⟨ji12, hji12⟩ : ∃ j_ : Int, (Go.bits .and .i64 a1 255) = j_ := ⟨_, rfl⟩
   replace H : ((some (([(a1 / 16777216) % 256, (ji10) % 256, (ji11) % 256, (ji12) % 256] : List Int) : List Int)).bind fun y530 => (if y526.length + y530.length < 140737488355328 then (some (y526 ++ y530)) else (none))) = some r := by first | (rw [hji12] at H; exact H) | (simp only [hji12] at H ⊢; exact H)
   obtain ⟨y530, hy_⟩ : ∃ y_ : List Int, y_ = (([(a1 / 16777216) % 256, (ji10) % 256, (ji11) % 256, (ji12) % 256] : List Int)) := ⟨_, rfl⟩
   replace H : (if y526.length + y530.length < 140737488355328 then (some (y526 ++ y530)) else (none)) = some r := jD
   have Ny530 := aS hy_
   clear hy_
   by_cases c13 : y526.length + y530.length < 140737488355328
   ·rw [if_pos c13] at H
    have LMc13 := aS c13
    clear c13
    obtain ⟨y533, hy_⟩ : ∃ y_ : List Int, y_ = (y526 ++ y530) := ⟨_, rfl⟩
    replace H : (some y533) = some r := jD
    have Ny533 := aS hy_
    clear hy_
    obtain rfl := Option.some.inj H
    go_wp2_with (first | ((with_reducible refine gate_dst (N := 28) rfl ?_); refine Kd.R_lit (Kd.int .u8) _ 5 ?hg (N := 28) ?hd (xs := ([(a1 / 16777216) % 256, (ji10) % 256, (ji11) % 256, (ji12) % 256] : List Int)) (inner := [.int .u8 ((a1 / 16777216) % 256), .int .u8 ((ji10) % 256), .int .u8 ((ji11) % 256), .int .u8 ((ji12) % 256)]) (ok := fun _ => True) (okp := fun _ => True) ?hr ?hp (fun _ hk => hk) trivial (Below.refl _ _) (Nat.le_refl _) (by simp) ?_; (case hd => rfl); (case hg => rfl); (case hr => first | (go_simp; done) | (go_simp; rfl)); (case hp => exact (Reps.one (show Kd.M (Kd.int .u8) _ _ _ ((a1 / 16777216) % 256) [.int .u8 ((a1 / 16777216) % 256)] from rfl) (Reps.one (show Kd.M (Kd.int .u8) _ _ _ ((ji10) % 256) [.int .u8 ((ji10) % 256)] from rfl) (Reps.one (show Kd.M (Kd.int .u8) _ _ _ ((ji11) % 256) [.int .u8 ((ji11) % 256)] from rfl) (Reps.one (show Kd.M (Kd.int .u8) _ _ _ ((ji12) % 256) [.int .u8 ((ji12) % 256)] from rfl) (Reps.none _ _)))))); intro v531 w14 ho15 hb hg_ hnew_; clear hg_ hnew_; (first | rw [← Ny530.out] at ho15 | (simp only [Int.reduceToNat] at ho15; rw [← Ny530.out] at ho15)); have HO532 := aS (Kd.R_lower (Kd.R_new' ho15 (Kd.R_lt (rU HO528.out))) (below_size (wU HB.out))); replace HO528 := aS (Kd.R_elder' (rU HO528.out) (Kd.R_base ho15) hb); replace HB := aS (below_step (wU HB.out) hb); clear hb ho15; obtain ⟨Ao17, co17, eo17⟩ := Kd.R_slice HO532.out; subst eo17) | ((with_reducible refine gate_builtin (b := .append) (xs := #[.tmp 13, .tmp 28]) rfl ?_); at_builtin; refine Kd.R_append_rows (Kd.int .u8) (w0 := w) w.heap.size rfl (.tmp 13) (.tmp 28) 22 5 (.int .u8 0) 1 rfl Tryd.underlying22 info5 rfl (by decide) (by omega) v527 y526 y530 _ _ _ (fun k_ => some k_ ≠ (.slice Ao17 y530.length co17 : Value).ownBlock) (fun _ => False) rfl rfl ?aO ?aR (fun _ _ h => h) (fun _ h => h.elim) ?aF ?aB ?aS ?aL ?_; (case aR => exact cU ((Kd.R_reads' HO532.out).2.2)); (case aB => exact (wU HB.out)); (case aF => exact (fun k_ hk => Kd.fresh' (Kd.R_lt (rU HO532.out)) k_ hk)); (case aO => exact (by (with_reducible repeat (first | apply Kd.R_alloc | apply Kd.R_drewN | apply Kd.R_drew)); exact Kd.R_mono HO528.out (fun _ hk => hk.2))); (case aS => exact (below_size (wU HB.out))); (case aL => have := LMc13.out; omega); intro v534 w16 ho hb hg hat; rw [← Ny533.out] at ho; replace HO532 := aS (Kd.R_after (ok := (fun _ => True)) (rU HO532.out) hg hat); replace HB := aS (hb); have HO535 := aS (ho); clear HO528; clear ho hb hg hat))
    go_ret
    exact ⟨_, by first | rfl | (simp [errW_none, errW_some] <;> rfl) | (simp only [← hji10, ← hji11, ← hji12]; first | rfl | (simp [errW_none, errW_some] <;> rfl)) | (simp [*, errW_none, errW_some] <;> rfl), Kd.R_mono (rU HO535.out) (fun _ hk => trivial), by exact wU HB.out⟩
   ·rw [if_neg c13] at H
    exact absurd H (by simp)
  ·replace c9 := Bool.eq_false_iff.mpr c9
   subst c9
   rw [if_neg Bool.false_ne_true] at H
   obtain rfl := Option.some.inj H
   go_wp2
   go_ret
   exact ⟨_, jE, by exact rU HO528.out, by exact wU HB.out⟩
 ·rw [if_neg c3] at H
  exact absurd H (by simp)

/-! ### spec_PutLabel: function 123 -/
def spec_PutLabel.f (k : Nat) (l0 : List Int) (a1 : ByteArray) : Option (List Int) := (some (([] : List Int) : List Int)).bind fun y536 => (if y536.length + l0.length < 140737488355328 then ((some (y536 ++ l0 : List Int)).bind fun y539 => ((spec_LabelOk.f k a1).bind fun t542 => (if t542 = true then (if y539.length < 140737488355328 then ((some (y539 ++ [((a1.size : Int)) % 256] : List Int)).bind fun y543 => (if y543.length + a1.size < 140737488355328 then (some (y543 ++ bytesOf a1)) else (none))) else (none)) else (some y539)))) else (none))
theorem spec_PutLabel.mono : ∀ a0 a1 k, LeO (spec_PutLabel.f k a0 a1) (spec_PutLabel.f (k + 1) a0 a1) := by
 intro a0 a1 k
 unfold spec_PutLabel.f
 repeat' first
   | (with_reducible first | exact spec_LabelOk.mono _ _ | exact LeO.refl _ | exact LeO.none _ | refine LeO.ite ?_ ?_ | refine LeO.bind ?_ (fun _ => ?_))
   | exact spec_LabelOk.mono _ _
   | exact LeO.none _
   | refine LeO.ite ?_ ?_
   | refine LeO.bind ?_ (fun _ => ?_)
set_option maxHeartbeats 8000000 in
set_option maxRecDepth 100000 in
theorem spec_PutLabel.calls (k : Nat) (A0 : Option Addr) (c0 : Nat) (l0 : List Int) (a1 : ByteArray) (r : List Int) (w : World) (hr0 : Kd.C (Kd.int .u8) w A0 l0.length l0) (hc0 : l0.length ≤ c0) (h : spec_PutLabel.f k l0 a1 = some r) :
  Calls Tryd.prog 123 #[.slice A0 l0.length c0, .string a1] w fun e w' => ∃ v0_ : Value, e = .returned (v0_) ∧ Kd.R (Kd.int .u8) 5 w' w.heap.size (fun _ => True) v0_ r ∧ Below w.heap.size w w' := by
 have HR0 := aS hr0
 have HC0 := aS hc0
 clear hr0 hc0
 have HB := aS (Below.refl w.heap.size w)
 have H : ((some (([] : List Int) : List Int)).bind fun y536 => (if y536.length + l0.length < 140737488355328 then ((some (y536 ++ l0 : List Int)).bind fun y539 => ((spec_LabelOk.f k a1).bind fun t542 => (if t542 = true then (if y539.length < 140737488355328 then ((some (y539 ++ [((a1.size : Int)) % 256] : List Int)).bind fun y543 => (if y543.length + a1.size < 140737488355328 then (some (y543 ++ bytesOf a1)) else (none))) else (none)) else (some y539)))) else (none))) = some r := h
 clear h
 obtain ⟨y536, hy_⟩ : ∃ y_ : List Int, y_ = (([] : List Int)) := ⟨_, rfl⟩
 replace H : (if y536.length + l0.length < 140737488355328 then ((some (y536 ++ l0 : List Int)).bind fun y539 => ((spec_LabelOk.f k a1).bind fun t542 => (if t542 = true then (if y539.length < 140737488355328 then ((some (y539 ++ [((a1.size : Int)) % 256] : List Int)).bind fun y543 => (if y543.length + a1.size < 140737488355328 then (some (y543 ++ bytesOf a1)) else (none))) else (none)) else (some y539)))) else (none)) = some r := jD
 have Ny536 := aS hy_
 clear hy_
 by_cases c3 : y536.length + l0.length < 140737488355328
 ·rw [if_pos c3] at H
  have LMc3 := aS c3
  clear c3
  obtain ⟨y539, hy_⟩ : ∃ y_ : List Int, y_ = (y536 ++ l0) := ⟨_, rfl⟩
  replace H : ((spec_LabelOk.f k a1).bind fun t542 => (if t542 = true then (if y539.length < 140737488355328 then ((some (y539 ++ [((a1.size : Int)) % 256] : List Int)).bind fun y543 => (if y543.length + a1.size < 140737488355328 then (some (y543 ++ bytesOf a1)) else (none))) else (none)) else (some y539))) = some r := jD
  have Ny539 := aS hy_
  clear hy_
  obtain ⟨t542, A4, H⟩ := bM H
  try dsimp only at H
  have HC5 := aS H
  clear H
  go_enter Tryd.func123, Tryd.ntmps123
  go_upto_if 11 with (first | ((with_reducible refine gate_dst (N := 6) rfl ?_); refine Kd.R_lit (Kd.int .u8) _ 5 ?hg (N := 6) ?hd (xs := ([] : List Int)) (inner := []) (ok := fun _ => True) (okp := fun _ => True) ?hr ?hp (fun _ hk => hk) trivial (Below.refl _ _) (Nat.le_refl _) (by simp) ?_; (case hd => rfl); (case hg => rfl); (case hr => first | (go_simp; done) | (go_simp; rfl)); (case hp => exact (Reps.none _ _)); intro v537 w6 ho7 hb hg_ hnew_; clear hg_ hnew_; (first | rw [← Ny536.out] at ho7 | (simp only [Int.reduceToNat] at ho7; rw [← Ny536.out] at ho7)); have HO538 := aS (Kd.R_lower ho7 (below_size (wU HB.out))); replace HB := aS (below_step (wU HB.out) hb); clear hb ho7) | ((with_reducible refine gate_builtin (b := .append) (xs := #[.tmp 6, .tmp 7]) rfl ?_); at_builtin; refine Kd.R_append_rows (Kd.int .u8) (w0 := w) w.heap.size rfl (.tmp 6) (.tmp 7) 22 5 (.int .u8 0) 1 rfl Tryd.underlying22 info5 rfl (by decide) (by omega) v537 y536 l0 _ _ _ (fun _ => True) (fun _ => False) rfl rfl ?aO ?aR (fun _ _ h => h) (fun _ h => h.elim) ?aF ?aB ?aS ?aL ?_; (case aR => exact cU ((Kd.C_below HR0.out HB.out))); (case aB => exact (wU HB.out)); (case aF => exact (fun _ _ => trivial)); (case aO => exact (rU HO538.out)); (case aS => exact (below_size (wU HB.out))); (case aL => have := LMc3.out; omega); intro v540 w8 ho hb hg hat; rw [← Ny539.out] at ho; replace HB := aS (hb); have HO541 := aS (ho); clear HO538; clear ho hb hg hat) | ((with_reducible refine gate_callee (f := 144) rfl ?_); refine goesL_ (some 10) rfl rfl Tryd.func144 jK rfl #[.string a1] rfl jA ?_; (with_reducible refine (spec_LabelOk.calls k a1 t542 _ A4.out).mono ?_); rintro e w' ⟨rfl, ⟨nd, rfl⟩⟩; refine ⟨_, rfl, ?_⟩))
  (try simp only [Act.put, List.setIfInBounds_toArray, List.set_cons_zero, List.set_cons_succ])
  have H := HC5.out
  clear HC5
  by_cases c9 : t542 = true
  ·subst c9
   rw [if_pos rfl] at H
   by_cases c10 : y539.length < 140737488355328
   ·rw [if_pos c10] at H
    have LMc10 := aS c10
    clear c10
    obtain ⟨y543, hy_⟩ : ∃ y_ : List Int, y_ = (y539 ++ [((a1.size : Int)) % 256]) := ⟨_, rfl⟩
    replace H : (if y543.length + a1.size < 140737488355328 then (some (y543 ++ bytesOf a1)) else (none)) = some r := jD
    have Ny543 := aS hy_
    clear hy_
    by_cases c11 : y543.length + a1.size < 140737488355328
    ·rw [if_pos c11] at H
     have LMc11 := aS c11
     clear c11
     obtain ⟨y546, hy_⟩ : ∃ y_ : List Int, y_ = (y543 ++ bytesOf a1) := ⟨_, rfl⟩
     replace H : (some y546) = some r := jD
     have Ny546 := aS hy_
     clear hy_
     obtain rfl := Option.some.inj H
     go_wp2_with (first | ((with_reducible refine gate_builtin (b := .append) (xs := #[.tmp 13, .tmp 17]) rfl ?_); at_builtin; refine Kd.R_append (Kd.int .u8) (w0 := w) w.heap.size rfl (.tmp 13) (.tmp 17) 22 5 (.int .u8 0) 1 rfl Tryd.underlying22 info5 rfl (by decide) (by omega) v540 y539 (((a1.size : Int)) % 256) [.int .u8 (((a1.size : Int)) % 256)] (fun _ => True) (fun _ => False) rfl rfl ?aP (fun _ hk => hk.elim) ?aF ?aO ?aB ?aS ?aL ?_; (case aP => exact rfl); (case aB => exact (wU HB.out)); (case aF => exact (fun _ _ => trivial)); (case aO => exact (rU HO541.out)); (case aS => exact (below_size (wU HB.out))); (case aL => have := LMc10.out; omega); intro v544 w12 ho hb hg hat; rw [← Ny543.out] at ho; replace HB := aS (hb); have HO545 := aS (ho); clear HO541; clear ho hb hg hat) | (at_builtin; refine print_append_str (w0 := w) w.heap.size rfl (.tmp 18) _ 22 9 5 rfl Tryd.underlying22 Tryd.underlying9 info5 v544 y543 a1 rfl rfl ?aO ?aB ?aS ?aL ?_; (case aB => exact (wU HB.out)); (case aO => exact (Kd.own_of_R (rU HO545.out))); (case aS => exact (below_size (wU HB.out))); (case aL => have := LMc11.out; omega); intro v547 w13 ho0 hb hg; have ho := Kd.R_of_own (h1 := fun _ => rfl) (ok := fun _ => True) ho0 (fun _ _ => trivial); clear ho0; have hat := True.intro; rw [← Ny546.out] at ho; change Kd.R (Kd.int .u8) 5 w13 w.heap.size (fun _ => True) v547 y546 at ho; replace HB := aS (hb); have HO548 := aS (ho); clear HO545; clear ho hb hg hat))
     go_ret
     exact ⟨_, jE, by exact rU HO548.out, by exact wU HB.out⟩
    ·rw [if_neg c11] at H
     exact absurd H (by simp)
   ·rw [if_neg c10] at H
    exact absurd H (by simp)
  ·replace c9 := Bool.eq_false_iff.mpr c9
   subst c9
   rw [if_neg Bool.false_ne_true] at H
   obtain rfl := Option.some.inj H
   go_wp2
   go_ret
   exact ⟨_, jE, by exact rU HO541.out, by exact wU HB.out⟩
 ·rw [if_neg c3] at H
  exact absurd H (by simp)

/-! ### spec_PutPlain: function 66 -/
def spec_PutPlain.l0 : Nat → List Int → List ByteArray → Int → Option (List Int)
 | 0, _, _, _ => none
 | k + 1, x5, x6, x7 => if x7 < (x6.length : Int) then (if 0 ≤ x7 then ((spec_PutLabel.f k x5 (rdOf ByteArray.empty x6 x7)).bind fun t560 => (spec_PutPlain.l0 k t560 x6 (wrap64 (x7 + 1)))) else (none)) else (if x5.length < 140737488355328 then (some (x5 ++ [0])) else (none))
def spec_PutPlain.f (k : Nat) (l0 : List Int) (a1 : ByteArray) : Option (List Int) := (some (([] : List Int) : List Int)).bind fun y549 => (if y549.length + l0.length < 140737488355328 then ((some (y549 ++ l0 : List Int)).bind fun y552 => ((spec_NameOk.f k a1).bind fun t555 => (if t555 = true then ((spec_Labels.f k a1).bind fun t556 => (spec_PutPlain.l0 k y552 t556 0)) else (some y552)))) else (none))
theorem spec_PutPlain.mono_l : ∀ k, (∀ y0 y1 y2, LeO (spec_PutPlain.l0 k y0 y1 y2) (spec_PutPlain.l0 (k + 1) y0 y1 y2))
 | 0 => fun _ _ _ r h => by simp [spec_PutPlain.l0] at h
 | k + 1 => by
  have ih0 := spec_PutPlain.mono_l k
  ·intro y0 y1 y2
   unfold spec_PutPlain.l0
   repeat' first
   | (with_reducible first | exact ih0 _ _ _ | exact spec_Labels.mono _ _ | exact spec_NameOk.mono _ _ | exact spec_PutLabel.mono _ _ _ | exact LeO.refl _ | exact LeO.none _ | refine LeO.ite ?_ ?_ | refine LeO.bind ?_ (fun _ => ?_))
   | exact ih0 _ _ _
   | exact spec_Labels.mono _ _
   | exact spec_NameOk.mono _ _
   | exact spec_PutLabel.mono _ _ _
   | exact LeO.none _
   | refine LeO.ite ?_ ?_
   | refine LeO.bind ?_ (fun _ => ?_)
theorem spec_PutPlain.mono : ∀ a0 a1 k, LeO (spec_PutPlain.f k a0 a1) (spec_PutPlain.f (k + 1) a0 a1) := by
 intro a0 a1 k
 have ih0 := spec_PutPlain.mono_l k
 unfold spec_PutPlain.f
 repeat' first
   | (with_reducible first | exact ih0 _ _ _ | exact spec_Labels.mono _ _ | exact spec_NameOk.mono _ _ | exact spec_PutLabel.mono _ _ _ | exact LeO.refl _ | exact LeO.none _ | refine LeO.ite ?_ ?_ | refine LeO.bind ?_ (fun _ => ?_))
   | exact ih0 _ _ _
   | exact spec_Labels.mono _ _
   | exact spec_NameOk.mono _ _
   | exact spec_PutLabel.mono _ _ _
   | exact LeO.none _
   | refine LeO.ite ?_ ?_
   | refine LeO.bind ?_ (fun _ => ?_)
set_option maxHeartbeats 8000000 in
set_option maxRecDepth 100000 in
theorem spec_PutPlain.calls (k : Nat) (A0 : Option Addr) (c0 : Nat) (l0 : List Int) (a1 : ByteArray) (r : List Int) (w : World) (hr0 : Kd.C (Kd.int .u8) w A0 l0.length l0) (hc0 : l0.length ≤ c0) (h : spec_PutPlain.f k l0 a1 = some r) :
  Calls Tryd.prog 66 #[.slice A0 l0.length c0, .string a1] w fun e w' => ∃ v0_ : Value, e = .returned (v0_) ∧ Kd.R (Kd.int .u8) 5 w' w.heap.size (fun _ => True) v0_ r ∧ Below w.heap.size w w' := by
 have HR0 := aS hr0
 have HC0 := aS hc0
 clear hr0 hc0
 have HB := aS (Below.refl w.heap.size w)
 have H : ((some (([] : List Int) : List Int)).bind fun y549 => (if y549.length + l0.length < 140737488355328 then ((some (y549 ++ l0 : List Int)).bind fun y552 => ((spec_NameOk.f k a1).bind fun t555 => (if t555 = true then ((spec_Labels.f k a1).bind fun t556 => (spec_PutPlain.l0 k y552 t556 0)) else (some y552)))) else (none))) = some r := h
 clear h
 obtain ⟨y549, hy_⟩ : ∃ y_ : List Int, y_ = (([] : List Int)) := ⟨_, rfl⟩
 replace H : (if y549.length + l0.length < 140737488355328 then ((some (y549 ++ l0 : List Int)).bind fun y552 => ((spec_NameOk.f k a1).bind fun t555 => (if t555 = true then ((spec_Labels.f k a1).bind fun t556 => (spec_PutPlain.l0 k y552 t556 0)) else (some y552)))) else (none)) = some r := jD
 have Ny549 := aS hy_
 clear hy_
 by_cases c3 : y549.length + l0.length < 140737488355328
 ·rw [if_pos c3] at H
  have LMc3 := aS c3
  clear c3
  obtain ⟨y552, hy_⟩ : ∃ y_ : List Int, y_ = (y549 ++ l0) := ⟨_, rfl⟩
  replace H : ((spec_NameOk.f k a1).bind fun t555 => (if t555 = true then ((spec_Labels.f k a1).bind fun t556 => (spec_PutPlain.l0 k y552 t556 0)) else (some y552))) = some r := jD
  have Ny552 := aS hy_
  clear hy_
  obtain ⟨t555, A4, H⟩ := bM H
  try dsimp only at H
  have HC5 := aS H
  clear H
  go_enter Tryd.func66, Tryd.ntmps66
  go_upto_if 13 with (first | ((with_reducible refine gate_dst (N := 8) rfl ?_); refine Kd.R_lit (Kd.int .u8) _ 5 ?hg (N := 8) ?hd (xs := ([] : List Int)) (inner := []) (ok := fun _ => True) (okp := fun _ => True) ?hr ?hp (fun _ hk => hk) trivial (Below.refl _ _) (Nat.le_refl _) (by simp) ?_; (case hd => rfl); (case hg => rfl); (case hr => first | (go_simp; done) | (go_simp; rfl)); (case hp => exact (Reps.none _ _)); intro v550 w6 ho7 hb hg_ hnew_; clear hg_ hnew_; (first | rw [← Ny549.out] at ho7 | (simp only [Int.reduceToNat] at ho7; rw [← Ny549.out] at ho7)); have HO551 := aS (Kd.R_lower ho7 (below_size (wU HB.out))); replace HB := aS (below_step (wU HB.out) hb); clear hb ho7) | ((with_reducible refine gate_builtin (b := .append) (xs := #[.tmp 8, .tmp 9]) rfl ?_); at_builtin; refine Kd.R_append_rows (Kd.int .u8) (w0 := w) w.heap.size rfl (.tmp 8) (.tmp 9) 22 5 (.int .u8 0) 1 rfl Tryd.underlying22 info5 rfl (by decide) (by omega) v550 y549 l0 _ _ _ (fun _ => True) (fun _ => False) rfl rfl ?aO ?aR (fun _ _ h => h) (fun _ h => h.elim) ?aF ?aB ?aS ?aL ?_; (case aR => exact cU ((Kd.C_below HR0.out HB.out))); (case aB => exact (wU HB.out)); (case aF => exact (fun _ _ => trivial)); (case aO => exact (rU HO551.out)); (case aS => exact (below_size (wU HB.out))); (case aL => have := LMc3.out; omega); intro v553 w8 ho hb hg hat; rw [← Ny552.out] at ho; replace HB := aS (hb); have HO554 := aS (ho); clear HO551; clear ho hb hg hat) | ((with_reducible refine gate_callee (f := 110) rfl ?_); refine goesL_ (some 12) rfl rfl Tryd.func110 jK rfl #[.string a1] rfl jA ?_; (with_reducible refine (spec_NameOk.calls k a1 t555 _ A4.out).mono ?_); rintro e w9 ⟨rfl, hb⟩; refine ⟨_, rfl, ?_⟩; replace HO554 := aS (Kd.R_below (rU HO554.out) hb); replace HB := aS (below_step (wU HB.out) hb); clear hb))
  (try simp only [Act.put, List.setIfInBounds_toArray, List.set_cons_zero, List.set_cons_succ])
  have H := HC5.out
  clear HC5
  by_cases c10 : t555 = true
  ·subst c10
   rw [if_pos rfl] at H
   obtain ⟨t556, A11, H⟩ := bM H
   try dsimp only at H
   have H' := aS H
   clear H
   go_wp2_with (first | ((with_reducible refine gate_callee (f := 121) rfl ?_); refine goesL_ (some 16) rfl rfl Tryd.func121 jK rfl #[.string a1] rfl jA ?_; (with_reducible refine (spec_Labels.calls k a1 t556 _ A11.out).mono ?_); rintro e w12 ⟨v557, rfl, ho0, hb⟩; refine ⟨_, rfl, ?_⟩; replace HO554 := aS (Kd.R_below (rU HO554.out) hb); have HO558 := aS (Kd.R_lower ho0 (below_size (wU HB.out))); replace HB := aS (below_step (wU HB.out) hb); clear hb; (try clear ho0)))
   go_loopg [5, 7] k (fun kq v5 v7 w' => ∃ (x5_1 : List Int) (x7_1 : Int), v7 = .int .i64 x7_1 ∧ Aside0 (spec_PutPlain.l0 kq x5_1 t556 x7_1 = some r) ∧ Aside0 (kq ≤ k) ∧ Aside0 (Kd.R (Kd.int .u8) 5 w' w.heap.size (fun _ => True) v5 x5_1) ∧ Aside0 (Kd.R Kd.string 9 w' w.heap.size (fun _ => True) v557 t556) ∧ Aside0 (Below w.heap.size w w'))
   case atStart => exact ⟨(y552), (0), jB, H', ⟨Nat.le_refl _⟩, ⟨by exact rU HO554.out⟩, ⟨by exact rU HO558.out⟩, ⟨by exact wU HB.out⟩⟩
   case round =>
    clear H'
    try clear c1
    try clear p2
    try clear c3
    try clear c6
    try clear c10
    try clear c11
    try clear c12
    obtain ⟨x5_1, x7_1, rfl, HA, HK1, HO_5, HO_6, HB⟩ := hrel
    cases gk with
    | zero => exact absurd HA.out (by simp [spec_PutPlain.l0])
    | succ k1 =>
     have H := HA.out
     clear HA
     simp only [spec_PutPlain.l0] at H
     by_cases c13 : x7_1 < (t556.length : Int)
     ·rw [if_pos c13] at H
      have c13b0 := decide_eq_true c13
      clear c13
      (first | rw [c13b0] | (simp only [i64_w, i32_w]; rw [c13b0]) | skip)
      by_cases c14 : 0 ≤ x7_1
      ·rw [if_pos c14] at H
       have c14b0 := decide_eq_true c14
       clear c14
       obtain ⟨t560, A15, H⟩ := bM H
       try dsimp only at H
       have H' := aS H
       clear H
       obtain ⟨Ao16, co16, eo16⟩ := Kd.R_slice HO_6.out
       subst eo16
       have p559 : 0 ≤ (x7_1 : Int) := of_decide_eq_true jC
       have q559 : x7_1 < (t556.length : Int) := of_decide_eq_true jC
       obtain ⟨ad559, e559, hx559_0⟩ := Kd.at_string (Kd.R_reads' HO_6.out).2.2 x7_1 p559 q559
       cases e559
       replace p559 := eq_true p559
       replace q559 := eq_true q559
       obtain ⟨Ao17, co17, eo17⟩ := Kd.R_slice HO_5.out
       subst eo17
       go_wp2_with (first | ((with_reducible refine gate_callee (f := 123) rfl ?_); refine goesL_ (some 28) rfl rfl Tryd.func123 jK rfl #[.slice Ao17 x5_1.length co17, .string (rdOf ByteArray.empty t556 x7_1)] rfl jA ?_; (with_reducible refine (spec_PutLabel.calls k1 _ _ x5_1 (rdOf ByteArray.empty t556 x7_1) t560 _ ?side1 ?side2 A15.out).mono ?_); (case side1 => exact cU ((Kd.R_reads' HO_5.out).2.2)); (case side2 => exact (Kd.R_reads' HO_5.out).2.1); rintro e w18 ⟨v561, rfl, ho0, hb⟩; refine ⟨_, rfl, ?_⟩; replace HO_6 := aS (Kd.R_below (rU HO_6.out) hb); have HO562 := aS (Kd.R_lower (Kd.R_new' ho0 (Kd.R_lt (rU HO_5.out))) (below_size (wU HB.out))); replace HO_5 := aS (Kd.R_elder' (rU HO_5.out) (Kd.R_base ho0) hb); replace HB := aS (below_step (wU HB.out) hb); clear hb; (try clear ho0)))
       go_roundg k1
       case measure => have := HK1.out; omega
       case rel => exact ⟨(t560), (wrap64 (x7_1 + 1)), jB, H', ⟨by have := HK1.out; omega⟩, ⟨Kd.R_mono (rU HO562.out) (fun _ hk => trivial)⟩, ⟨by exact rU HO_6.out⟩, ⟨by exact wU HB.out⟩⟩
      ·rw [if_neg c14] at H
       exact absurd H (by simp)
     ·rw [if_neg c13] at H
      have c13b0 := decide_eq_false c13
      clear c13
      (first | rw [c13b0] | (simp only [i64_w, i32_w]; rw [c13b0]) | skip)
      by_cases c19 : x5_1.length < 140737488355328
      ·rw [if_pos c19] at H
       have LMc19 := aS c19
       clear c19
       obtain ⟨y563, hy_⟩ : ∃ y_ : List Int, y_ = (x5_1 ++ [0]) := ⟨_, rfl⟩
       replace H : (some y563) = some r := jD
       have Ny563 := aS hy_
       clear hy_
       obtain rfl := Option.some.inj H
       obtain ⟨Ao20, co20, eo20⟩ := Kd.R_slice HO_6.out
       subst eo20
       go_wp2_with (first | ((with_reducible refine gate_builtin (b := .append) (xs := #[.tmp 29, .tmp 30]) rfl ?_); at_builtin; refine Kd.R_append (Kd.int .u8) (w0 := w) w.heap.size rfl (.tmp 29) (.tmp 30) 22 5 (.int .u8 0) 1 rfl Tryd.underlying22 info5 rfl (by decide) (by omega) u5 x5_1 0 [.int .u8 0] (fun _ => True) (fun _ => False) rfl rfl ?aP (fun _ hk => hk.elim) ?aF ?aO ?aB ?aS ?aL ?_; (case aP => exact rfl); (case aB => exact (wU HB.out)); (case aF => exact (fun _ _ => trivial)); (case aO => exact (rU HO_5.out)); (case aS => exact (below_size (wU HB.out))); (case aL => have := LMc19.out; omega); intro v564 w21 ho hb hg hat; rw [← Ny563.out] at ho; replace HO_6 := aS (Kd.R_over' (rU HO_6.out) (Kd.R_typed (rU HO_5.out)) (by decide) hg); replace HB := aS (hb); have HO565 := aS (ho); clear HO_5; clear ho hb hg hat))
       go_ret
       exact ⟨_, jE, by exact rU HO565.out, by exact wU HB.out⟩
      ·rw [if_neg c19] at H
       exact absurd H (by simp)
  ·replace c10 := Bool.eq_false_iff.mpr c10
   subst c10
   rw [if_neg Bool.false_ne_true] at H
   obtain rfl := Option.some.inj H
   go_wp2
   go_ret
   exact ⟨_, jE, by exact rU HO554.out, by exact wU HB.out⟩
 ·rw [if_neg c3] at H
  exact absurd H (by simp)

end Go.Proofs.YtdigilidomimdaaDoor.Pr
