-- Written for this claim by a program of this session (wip/tool/pr.py, over the kit's printer).
-- half
import Derived.Test.YtdigilidomimdaaDoorPrx0
import Derived.Test.YtdigilidomimdaaDoorPrx2
namespace Go.Proofs.YtdigilidomimdaaDoor.Pr
open Go.RowKit Go.Proofs.YtdigilidomimdaaDoorW.PrintWords Go.Proofs.YtdigilidomimdaaDoorW.PrintLast Go.Proofs.YtdigilidomimdaaDoorW.PrintMore
attribute [local go_sem] max2_int min2_int max_two min_two max_three min_three max_four min_four   -- for this text's walks alone
set_option linter.unusedVariables false
set_option linter.unusedSimpArgs false

/-! ### impl_RecordOk: function 15 -/
mutual
def impl_RecordOk.j0 : Nat → Bool → ByteArray → Int → Int → Int → ByteArray → ByteArray → Option (Bool)
 | 0, _, _, _, _, _, _, _ => none
 | k + 1, x12, x113000, x113001, x113002, x113003, x113004, x113005 => if x12 = true then (some false) else (if x113001 = 1 then ((impl_isFour.f x113003).bind fun t115 => (if t115 = true then (if x113004.toList = ([] : List UInt8) then (some (x113005.toList == ([] : List UInt8))) else (some false)) else (some false))) else (if x113001 = 2 then (impl_RecordOk.j1 k x113001 (x113001 == 2) x113000 x113001 x113002 x113003 x113004 x113005) else (impl_RecordOk.j1 k x113001 (x113001 == 5) x113000 x113001 x113002 x113003 x113004 x113005)))
def impl_RecordOk.j1 : Nat → Int → Bool → ByteArray → Int → Int → Int → ByteArray → ByteArray → Option (Bool)
 | 0, _, _, _, _, _, _, _, _ => none
 | k + 1, x14, x30, x113000, x113001, x113002, x113003, x113004, x113005 => if x30 = true then (if x113003 = 0 then ((impl_NameOk.f k x113004).bind fun t116 => (if t116 = true then (some (x113005.toList == ([] : List UInt8))) else (some false))) else (some false)) else (if x14 = 6 then ((impl_isTtl.f x113003).bind fun t117 => (if t117 = true then ((impl_NameOk.f k x113004).bind fun t118 => (if t118 = true then (some (x113005.toList == ([] : List UInt8))) else (some false))) else (some false))) else (if x14 = 16 then (if x113003 = 0 then (if x113004.toList = ([] : List UInt8) then ((impl_isText.f k x113005).bind fun t119 => (some t119)) else (some false)) else (some false)) else (some false)))
end
def impl_RecordOk.f (k : Nat) (a0_0 : ByteArray) (a0_1 : Int) (a0_2 : Int) (a0_3 : Int) (a0_4 : ByteArray) (a0_5 : ByteArray) : Option (Bool) := (impl_NameOk.f k a0_0).bind fun t113 => (if t113 = true then ((impl_isTtl.f a0_2).bind fun t114 => (impl_RecordOk.j0 k (!t114) a0_0 a0_1 a0_2 a0_3 a0_4 a0_5)) else (impl_RecordOk.j0 k true a0_0 a0_1 a0_2 a0_3 a0_4 a0_5))
theorem impl_RecordOk.mono_l : ∀ k, (∀ y0 y1 y2 y3 y4 y5 y6, LeO (impl_RecordOk.j0 k y0 y1 y2 y3 y4 y5 y6) (impl_RecordOk.j0 (k + 1) y0 y1 y2 y3 y4 y5 y6)) ∧ (∀ y0 y1 y2 y3 y4 y5 y6 y7, LeO (impl_RecordOk.j1 k y0 y1 y2 y3 y4 y5 y6 y7) (impl_RecordOk.j1 (k + 1) y0 y1 y2 y3 y4 y5 y6 y7))
 | 0 => ⟨fun _ _ _ _ _ _ _ r h => by simp [impl_RecordOk.j0] at h, fun _ _ _ _ _ _ _ _ r h => by simp [impl_RecordOk.j1] at h⟩
 | k + 1 => by
  obtain ⟨ih0, ih1⟩ := impl_RecordOk.mono_l k
  refine ⟨?_, ?_⟩
  ·intro y0 y1 y2 y3 y4 y5 y6
   unfold impl_RecordOk.j0
   repeat' first
   | (with_reducible first | exact ih0 _ _ _ _ _ _ _ | exact ih1 _ _ _ _ _ _ _ _ | exact impl_NameOk.mono _ _ | exact impl_isText.mono _ _ | exact LeO.refl _ | exact LeO.none _ | refine LeO.ite ?_ ?_ | refine LeO.bind ?_ (fun _ => ?_))
   | exact ih0 _ _ _ _ _ _ _
   | exact ih1 _ _ _ _ _ _ _ _
   | exact impl_NameOk.mono _ _
   | exact impl_isText.mono _ _
   | exact LeO.none _
   | refine LeO.ite ?_ ?_
   | refine LeO.bind ?_ (fun _ => ?_)
  ·intro y0 y1 y2 y3 y4 y5 y6 y7
   unfold impl_RecordOk.j1
   repeat' first
   | (with_reducible first | exact ih0 _ _ _ _ _ _ _ | exact ih1 _ _ _ _ _ _ _ _ | exact impl_NameOk.mono _ _ | exact impl_isText.mono _ _ | exact LeO.refl _ | exact LeO.none _ | refine LeO.ite ?_ ?_ | refine LeO.bind ?_ (fun _ => ?_))
   | exact ih0 _ _ _ _ _ _ _
   | exact ih1 _ _ _ _ _ _ _ _
   | exact impl_NameOk.mono _ _
   | exact impl_isText.mono _ _
   | exact LeO.none _
   | refine LeO.ite ?_ ?_
   | refine LeO.bind ?_ (fun _ => ?_)
theorem impl_RecordOk.mono : ∀ a0 a1 a2 a3 a4 a5 k, LeO (impl_RecordOk.f k a0 a1 a2 a3 a4 a5) (impl_RecordOk.f (k + 1) a0 a1 a2 a3 a4 a5) := by
 intro a0 a1 a2 a3 a4 a5 k
 obtain ⟨ih0, ih1⟩ := impl_RecordOk.mono_l k
 unfold impl_RecordOk.f
 repeat' first
   | (with_reducible first | exact ih0 _ _ _ _ _ _ _ | exact ih1 _ _ _ _ _ _ _ _ | exact impl_NameOk.mono _ _ | exact impl_isText.mono _ _ | exact LeO.refl _ | exact LeO.none _ | refine LeO.ite ?_ ?_ | refine LeO.bind ?_ (fun _ => ?_))
   | exact ih0 _ _ _ _ _ _ _
   | exact ih1 _ _ _ _ _ _ _ _
   | exact impl_NameOk.mono _ _
   | exact impl_isText.mono _ _
   | exact LeO.none _
   | refine LeO.ite ?_ ?_
   | refine LeO.bind ?_ (fun _ => ?_)
set_option maxHeartbeats 8000000 in
set_option maxRecDepth 100000 in
theorem impl_RecordOk.calls (k : Nat) (a0_0 : ByteArray) (a0_1 : Int) (a0_2 : Int) (a0_3 : Int) (a0_4 : ByteArray) (a0_5 : ByteArray) (r : Bool) (w : World) (h : impl_RecordOk.f k a0_0 a0_1 a0_2 a0_3 a0_4 a0_5 = some r) :
  Calls Tryd.prog 15 #[.agg #[.string a0_0, .int .i64 a0_1, .int .i64 a0_2, .int .i64 a0_3, .string a0_4, .string a0_5]] w fun e w' => e = .returned (.bool r) ∧ Below w.heap.size w w' := by
 have hu25 := Tryd.underlying25
 have HB := aS (Below.refl w.heap.size w)
 have H : ((impl_NameOk.f k a0_0).bind fun t113 => (if t113 = true then ((impl_isTtl.f a0_2).bind fun t114 => (impl_RecordOk.j0 k (!t114) a0_0 a0_1 a0_2 a0_3 a0_4 a0_5)) else (impl_RecordOk.j0 k true a0_0 a0_1 a0_2 a0_3 a0_4 a0_5))) = some r := h
 clear h
 have HC2 := aS H
 clear H
 go_enter Tryd.func15, Tryd.ntmps15
 go_upto_region 1 with (first | ((with_reducible refine gate_dst (N := 1) rfl ?_); refine box_event ?hg (N := 1) ?hd (cs := #[.string a0_0, .int .i64 a0_1, .int .i64 a0_2, .int .i64 a0_3, .string a0_4, .string a0_5]) (t := 25) ?hr ?_; (case hd => rfl); (case hg => rfl); (case hr => first | (go_simp; done) | (go_simp; rfl)); intro gb112 hg w3 hbox hb; have BK112 := aS (hbox); have GW112 := aS ((by rw [hg]; exact (below_size (wU HB.out)) : w.heap.size ≤ gb112)); have GE112 := aS ((by rw [hg]; exact (below_size (wU HB.out)) : w.heap.size ≤ gb112)); replace HB := aS (below_step (wU HB.out) hb); clear hb hbox hg))
 (try simp only [Act.put, List.setIfInBounds_toArray, List.set_cons_zero, List.set_cons_succ])
 go_cut [12] (fun v12 wc => ∃ (kq : Nat) (x12_1 : Bool), v12 = .bool x12_1 ∧ Aside0 (impl_RecordOk.j0 kq x12_1 a0_0 a0_1 a0_2 a0_3 a0_4 a0_5 = some r) ∧ Aside0 (kq ≤ k) ∧ Aside0 (wc.heap[gb112]? = some (.cells #[.string a0_0, .int .i64 a0_1, .int .i64 a0_2, .int .i64 a0_3, .string a0_4, .string a0_5] 25 (0, 0))) ∧ Aside0 (Below w.heap.size w wc))
 case first =>
  have H := HC2.out
  clear HC2
  obtain ⟨t113, A4, H⟩ := bM H
  try dsimp only at H
  by_cases c5 : t113 = true
  ·subst c5
   rw [if_pos rfl] at H
   obtain ⟨t114, A6, H⟩ := bM H
   try dsimp only at H
   have H' := aS H
   clear H
   have hcz7 := cells6f BK112.out
   go_wp2_with (first | ((with_reducible refine gate_callee (f := 67) rfl ?_); refine goesL_ (some 5) rfl rfl Tryd.func67 jK rfl #[.string a0_0] rfl jA ?_; (with_reducible refine (impl_NameOk.calls k a0_0 true _ A4.out).mono ?_); rintro e w8 ⟨rfl, hb⟩; refine ⟨_, rfl, ?_⟩; replace BK112 := aS (blk_below (bU BK112.out) hb); replace HB := aS (below_step (wS1 HB.out GE112.out) hb); clear hb; have hcz9 := cells6f BK112.out) | (go_at_call 68; (with_reducible refine (impl_isTtl.calls a0_2 t114 _ A6.out).mono ?_); rintro e w' ⟨rfl, ⟨nd, rfl⟩⟩))
   go_meet
   case rel => exact ⟨_, (!t114), jB, H', ⟨by first | omega | exact Nat.le_refl _⟩, ⟨by exact bU BK112.out⟩, ⟨by exact wS1 HB.out GE112.out⟩⟩
  ·replace c5 := Bool.eq_false_iff.mpr c5
   subst c5
   rw [if_neg Bool.false_ne_true] at H
   have H' := aS H
   clear H
   have hcz10 := cells6f BK112.out
   go_wp2_with (first | ((with_reducible refine gate_callee (f := 67) rfl ?_); refine goesL_ (some 5) rfl rfl Tryd.func67 jK rfl #[.string a0_0] rfl jA ?_; (with_reducible refine (impl_NameOk.calls k a0_0 false _ A4.out).mono ?_); rintro e w11 ⟨rfl, hb⟩; refine ⟨_, rfl, ?_⟩; replace BK112 := aS (blk_below (bU BK112.out) hb); replace HB := aS (below_step (wS1 HB.out GE112.out) hb); clear hb))
   go_meet
   case rel => exact ⟨_, (true), jB, H', ⟨by first | omega | exact Nat.le_refl _⟩, ⟨by exact bU BK112.out⟩, ⟨by exact wS1 HB.out GE112.out⟩⟩
 case rest =>
  clear HC2
  try clear c1
  try clear p2
  try clear c5
  try clear c6
  try clear hcz10
  try clear hcz7
  try clear hcz9
  obtain ⟨kq, x12_1, rfl, HA, HJ1, BK112, HB⟩ := hcut
  cases kq with
  | zero => exact absurd HA.out (by simp [impl_RecordOk.j0])
  | succ kj1 =>
   have H := HA.out
   clear HA
   simp only [impl_RecordOk.j0] at H
   by_cases c12 : x12_1 = true
   ·subst c12
    rw [if_pos rfl] at H
    obtain rfl := Option.some.inj H
    go_wp2
    go_ret
    exact ⟨jE, by exact wS1 HB.out GE112.out⟩
   ·replace c12 := Bool.eq_false_iff.mpr c12
    subst c12
    rw [if_neg Bool.false_ne_true] at H
    by_cases c13 : a0_1 = 1
    ·rw [if_pos c13] at H
     have c13b0 := beq_iff_eq.mpr c13
     have c13b1 := bne_eq_false_iff_eq.mpr c13
     clear c13
     obtain ⟨t115, A14, H⟩ := bM H
     try dsimp only at H
     by_cases c15 : t115 = true
     ·subst c15
      rw [if_pos rfl] at H
      by_cases c16 : a0_4.toList = ([] : List UInt8)
      ·rw [if_pos c16] at H
       have c16b0 := beq_iff_eq.mpr c16
       have c16b1 := bne_eq_false_iff_eq.mpr c16
       clear c16
       obtain rfl := Option.some.inj H
       have hcz17 := cells6f BK112.out
       go_wp2_with (first | ((with_reducible refine gate_callee (f := 69) rfl ?_); refine goesL_ (some 19) rfl rfl Tryd.func69 jK rfl #[.int .i64 a0_3] rfl jA ?_; (with_reducible refine (impl_isFour.calls a0_3 true _ A14.out).mono ?_); rintro e w' ⟨rfl, ⟨nd, rfl⟩⟩; refine ⟨_, rfl, ?_⟩))
       go_ret
       exact ⟨jE, by exact wS1 HB.out GE112.out⟩
      ·rw [if_neg c16] at H
       have c16b0 := beq_eq_false_iff_ne.mpr c16
       have c16b1 := bne_iff_ne.mpr c16
       obtain rfl := Option.some.inj H
       have hcz18 := cells6f BK112.out
       go_wp2_with (first | ((with_reducible refine gate_callee (f := 69) rfl ?_); refine goesL_ (some 19) rfl rfl Tryd.func69 jK rfl #[.int .i64 a0_3] rfl jA ?_; (with_reducible refine (impl_isFour.calls a0_3 true _ A14.out).mono ?_); rintro e w' ⟨rfl, ⟨nd, rfl⟩⟩; refine ⟨_, rfl, ?_⟩))
       go_ret
       exact ⟨jE, by exact wS1 HB.out GE112.out⟩
     ·replace c15 := Bool.eq_false_iff.mpr c15
      subst c15
      rw [if_neg Bool.false_ne_true] at H
      obtain rfl := Option.some.inj H
      have hcz19 := cells6f BK112.out
      go_wp2_with (first | ((with_reducible refine gate_callee (f := 69) rfl ?_); refine goesL_ (some 19) rfl rfl Tryd.func69 jK rfl #[.int .i64 a0_3] rfl jA ?_; (with_reducible refine (impl_isFour.calls a0_3 false _ A14.out).mono ?_); rintro e w' ⟨rfl, ⟨nd, rfl⟩⟩; refine ⟨_, rfl, ?_⟩))
      go_ret
      exact ⟨jE, by exact wS1 HB.out GE112.out⟩
    ·rw [if_neg c13] at H
     have c13b0 := beq_eq_false_iff_ne.mpr c13
     have c13b1 := bne_iff_ne.mpr c13
     have HC20 := aS H
     clear H
     have hcz21 := cells6f BK112.out
     go_upto_if 30 with (fail)
     go_cut [30] (fun v30 wc => ∃ (kq : Nat) (x30_19 : Bool), v30 = .bool x30_19 ∧ Aside0 (impl_RecordOk.j1 kq a0_1 x30_19 a0_0 a0_1 a0_2 a0_3 a0_4 a0_5 = some r) ∧ Aside0 (kq ≤ kj1) ∧ Aside0 (wc.heap[gb112]? = some (.cells #[.string a0_0, .int .i64 a0_1, .int .i64 a0_2, .int .i64 a0_3, .string a0_4, .string a0_5] 25 (0, 0))) ∧ Aside0 (Below w.heap.size w wc))
     case first =>
      have H := HC20.out
      clear HC20
      by_cases c22 : a0_1 = 2
      ·rw [if_pos c22] at H
       have c22b0 := beq_iff_eq.mpr c22
       have c22b1 := bne_eq_false_iff_eq.mpr c22
       clear c22
       (first | rw [c22b0] | (simp only [i64_w, i32_w]; rw [c22b0]) | skip)
       have H' := aS H
       clear H
       go_wp2
       go_meet
       case rel => exact ⟨_, ((a0_1 == 2)), jB, H', ⟨by have := HJ1.out; first | omega | exact Nat.le_refl _⟩, ⟨by exact bU BK112.out⟩, ⟨by exact wS1 HB.out GE112.out⟩⟩
      ·rw [if_neg c22] at H
       have c22b0 := beq_eq_false_iff_ne.mpr c22
       have c22b1 := bne_iff_ne.mpr c22
       (first | rw [c22b0] | (simp only [i64_w, i32_w]; rw [c22b0]) | skip)
       have H' := aS H
       clear H
       go_wp2
       go_meet
       case rel => exact ⟨_, ((a0_1 == 5)), jB, H', ⟨by have := HJ1.out; first | omega | exact Nat.le_refl _⟩, ⟨by exact bU BK112.out⟩, ⟨by exact wS1 HB.out GE112.out⟩⟩
     case rest =>
      clear HC20
      try clear c1
      try clear c2
      try clear p2
      try clear c5
      try clear c6
      try clear c12
      try clear c13
      try clear c13b0
      try clear c13b1
      try clear c15
      try clear c16
      try clear c16b0
      try clear c16b1
      try clear c22
      try clear c22b0
      try clear c22b1
      try clear hcz10
      try clear hcz17
      try clear hcz18
      try clear hcz19
      try clear hcz21
      try clear hcz7
      try clear hcz9
      try clear p2
      obtain ⟨kq, x30_19, rfl, HA, HJ19, BK112, HB⟩ := hcut
      cases kq with
      | zero => exact absurd HA.out (by simp [impl_RecordOk.j1])
      | succ kj19 =>
       have H := HA.out
       clear HA
       simp only [impl_RecordOk.j1] at H
       by_cases c23 : x30_19 = true
       ·subst c23
        rw [if_pos rfl] at H
        by_cases c24 : a0_3 = 0
        ·rw [if_pos c24] at H
         have c24b0 := beq_iff_eq.mpr c24
         have c24b1 := bne_eq_false_iff_eq.mpr c24
         clear c24
         obtain ⟨t116, A25, H⟩ := bM H
         try dsimp only at H
         by_cases c26 : t116 = true
         ·subst c26
          rw [if_pos rfl] at H
          obtain rfl := Option.some.inj H
          have hcz27 := cells6f BK112.out
          go_wp2_with (first | (go_at_call 67; (with_reducible refine (impl_NameOk.calls kj19 a0_4 true _ A25.out).mono ?_); rintro e w28 ⟨rfl, hb⟩; replace BK112 := aS (blk_below (bU BK112.out) hb); replace HB := aS (below_step (wS1 HB.out GE112.out) hb); clear hb; have hcz29 := cells6f BK112.out))
          go_ret
          exact ⟨jE, by exact wS1 HB.out GE112.out⟩
         ·replace c26 := Bool.eq_false_iff.mpr c26
          subst c26
          rw [if_neg Bool.false_ne_true] at H
          obtain rfl := Option.some.inj H
          have hcz30 := cells6f BK112.out
          go_wp2_with (first | (go_at_call 67; (with_reducible refine (impl_NameOk.calls kj19 a0_4 false _ A25.out).mono ?_); rintro e w31 ⟨rfl, hb⟩; replace BK112 := aS (blk_below (bU BK112.out) hb); replace HB := aS (below_step (wS1 HB.out GE112.out) hb); clear hb))
          go_ret
          exact ⟨jE, by exact wS1 HB.out GE112.out⟩
        ·rw [if_neg c24] at H
         have c24b0 := beq_eq_false_iff_ne.mpr c24
         have c24b1 := bne_iff_ne.mpr c24
         obtain rfl := Option.some.inj H
         have hcz32 := cells6f BK112.out
         go_wp2
         go_ret
         exact ⟨jE, by exact wS1 HB.out GE112.out⟩
       ·replace c23 := Bool.eq_false_iff.mpr c23
        subst c23
        rw [if_neg Bool.false_ne_true] at H
        by_cases c33 : a0_1 = 6
        ·rw [if_pos c33] at H
         have c33b0 := beq_iff_eq.mpr c33
         have c33b1 := bne_eq_false_iff_eq.mpr c33
         clear c33
         obtain ⟨t117, A34, H⟩ := bM H
         try dsimp only at H
         by_cases c35 : t117 = true
         ·subst c35
          rw [if_pos rfl] at H
          obtain ⟨t118, A36, H⟩ := bM H
          try dsimp only at H
          by_cases c37 : t118 = true
          ·subst c37
           rw [if_pos rfl] at H
           obtain rfl := Option.some.inj H
           have hcz38 := cells6f BK112.out
           go_wp2_with (first | ((with_reducible refine gate_callee (f := 68) rfl ?_); refine goesL_ (some 50) rfl rfl Tryd.func68 jK rfl #[.int .i64 a0_3] rfl jA ?_; (with_reducible refine (impl_isTtl.calls a0_3 true _ A34.out).mono ?_); rintro e w' ⟨rfl, ⟨nd, rfl⟩⟩; refine ⟨_, rfl, ?_⟩) | (go_at_call 67; (with_reducible refine (impl_NameOk.calls kj19 a0_4 true _ A36.out).mono ?_); rintro e w39 ⟨rfl, hb⟩; replace BK112 := aS (blk_below (bU BK112.out) hb); replace HB := aS (below_step (wS1 HB.out GE112.out) hb); clear hb; have hcz40 := cells6f BK112.out))
           go_ret
           exact ⟨jE, by exact wS1 HB.out GE112.out⟩
          ·replace c37 := Bool.eq_false_iff.mpr c37
           subst c37
           rw [if_neg Bool.false_ne_true] at H
           obtain rfl := Option.some.inj H
           have hcz41 := cells6f BK112.out
           go_wp2_with (first | ((with_reducible refine gate_callee (f := 68) rfl ?_); refine goesL_ (some 50) rfl rfl Tryd.func68 jK rfl #[.int .i64 a0_3] rfl jA ?_; (with_reducible refine (impl_isTtl.calls a0_3 true _ A34.out).mono ?_); rintro e w' ⟨rfl, ⟨nd, rfl⟩⟩; refine ⟨_, rfl, ?_⟩) | (go_at_call 67; (with_reducible refine (impl_NameOk.calls kj19 a0_4 false _ A36.out).mono ?_); rintro e w42 ⟨rfl, hb⟩; replace BK112 := aS (blk_below (bU BK112.out) hb); replace HB := aS (below_step (wS1 HB.out GE112.out) hb); clear hb))
           go_ret
           exact ⟨jE, by exact wS1 HB.out GE112.out⟩
         ·replace c35 := Bool.eq_false_iff.mpr c35
          subst c35
          rw [if_neg Bool.false_ne_true] at H
          obtain rfl := Option.some.inj H
          have hcz43 := cells6f BK112.out
          go_wp2_with (first | ((with_reducible refine gate_callee (f := 68) rfl ?_); refine goesL_ (some 50) rfl rfl Tryd.func68 jK rfl #[.int .i64 a0_3] rfl jA ?_; (with_reducible refine (impl_isTtl.calls a0_3 false _ A34.out).mono ?_); rintro e w' ⟨rfl, ⟨nd, rfl⟩⟩; refine ⟨_, rfl, ?_⟩))
          go_ret
          exact ⟨jE, by exact wS1 HB.out GE112.out⟩
        ·rw [if_neg c33] at H
         have c33b0 := beq_eq_false_iff_ne.mpr c33
         have c33b1 := bne_iff_ne.mpr c33
         by_cases c44 : a0_1 = 16
         ·rw [if_pos c44] at H
          have c44b0 := beq_iff_eq.mpr c44
          have c44b1 := bne_eq_false_iff_eq.mpr c44
          clear c44
          by_cases c45 : a0_3 = 0
          ·rw [if_pos c45] at H
           have c45b0 := beq_iff_eq.mpr c45
           have c45b1 := bne_eq_false_iff_eq.mpr c45
           clear c45
           by_cases c46 : a0_4.toList = ([] : List UInt8)
           ·rw [if_pos c46] at H
            have c46b0 := beq_iff_eq.mpr c46
            have c46b1 := bne_eq_false_iff_eq.mpr c46
            clear c46
            obtain ⟨t119, A47, H⟩ := bM H
            try dsimp only at H
            obtain rfl := Option.some.inj H
            have hcz48 := cells6f BK112.out
            go_wp2_with (first | (go_at_call 70; (with_reducible refine (impl_isText.calls kj19 a0_5 t119 _ A47.out).mono ?_); rintro e w' ⟨rfl, ⟨nd, rfl⟩⟩))
            go_ret
            exact ⟨jE, by exact wS1 HB.out GE112.out⟩
           ·rw [if_neg c46] at H
            have c46b0 := beq_eq_false_iff_ne.mpr c46
            have c46b1 := bne_iff_ne.mpr c46
            obtain rfl := Option.some.inj H
            have hcz49 := cells6f BK112.out
            go_wp2
            go_ret
            exact ⟨jE, by exact wS1 HB.out GE112.out⟩
          ·rw [if_neg c45] at H
           have c45b0 := beq_eq_false_iff_ne.mpr c45
           have c45b1 := bne_iff_ne.mpr c45
           obtain rfl := Option.some.inj H
           have hcz50 := cells6f BK112.out
           go_wp2
           go_ret
           exact ⟨jE, by exact wS1 HB.out GE112.out⟩
         ·rw [if_neg c44] at H
          have c44b0 := beq_eq_false_iff_ne.mpr c44
          have c44b1 := bne_iff_ne.mpr c44
          obtain rfl := Option.some.inj H
          go_wp2
          go_ret
          exact ⟨jE, by exact wS1 HB.out GE112.out⟩

/-! ### strings_Join: function 109 -/
def strings_Join.f (l0 : List ByteArray) (a1 : ByteArray) : Option (ByteArray) := if (Lib.join (l0.map (·.data.toList)) a1.data.toList).length ≤ 140737488355328 ∧ l0.length ≤ 140737488355328 then some ⟨(Lib.join (l0.map (·.data.toList)) a1.data.toList).toArray⟩ else none
theorem strings_Join.calls (A0 : Option Addr) (c0 : Nat) (l0 : List ByteArray) (a1 : ByteArray) (r : ByteArray) (w : World) (hr0 : Kd.C Kd.string w A0 l0.length l0) (hc0 : l0.length ≤ c0) (h : strings_Join.f l0 a1 = some r) :
  Calls Tryd.prog 109 #[.slice A0 l0.length c0, .string a1] w fun e w' => e = .returned (.string r) ∧ Below w.heap.size w w' := by
 by_cases hb : (Lib.join (l0.map (·.data.toList)) a1.data.toList).length ≤ 140737488355328 ∧ l0.length ≤ 140737488355328
 ·rw [strings_Join.f, if_pos hb] at h
  obtain rfl := Option.some.inj h
  by_cases hne : l0 = []
  ·subst hne
   exact (Any.strings_Join_none Tryd.lays156 Tryd.Builder_Extra_156 A0 c0 a1 w).mono fun e w' ⟨he, hw⟩ => ⟨he, hw ▸ Below.refl _ _⟩
  ·obtain ⟨b, o, rfl, hcells, hlt⟩ := X.C_strings hr0 hne
   exact Any.strings_Join Tryd.lays156 Tryd.Builder_Extra_156 b o c0 l0 a1 w hcells hlt hb.2 hc0 hb.1
 ·rw [strings_Join.f, if_neg hb] at h
  cases h


/-! ### impl_JoinLabels: function 146 -/
def impl_JoinLabels.f (l0 : List ByteArray) : Option (ByteArray) := (strings_Join.f l0 (⟨#[46]⟩ : ByteArray)).bind fun t120 => (some t120)
set_option maxHeartbeats 8000000 in
set_option maxRecDepth 100000 in
theorem impl_JoinLabels.calls (A0 : Option Addr) (c0 : Nat) (l0 : List ByteArray) (r : ByteArray) (w : World) (hr0 : Kd.C Kd.string w A0 l0.length l0) (hc0 : l0.length ≤ c0) (h : impl_JoinLabels.f l0 = some r) :
  Calls Tryd.prog 146 #[.slice A0 l0.length c0] w fun e w' => e = .returned (.string r) ∧ Below w.heap.size w w' := by
 have HR0 := aS hr0
 have HC0 := aS hc0
 clear hr0 hc0
 have HB := aS (Below.refl w.heap.size w)
 have H : ((strings_Join.f l0 (⟨#[46]⟩ : ByteArray)).bind fun t120 => (some t120)) = some r := h
 clear h
 obtain ⟨t120, A2, H⟩ := bM H
 try dsimp only at H
 obtain rfl := Option.some.inj H
 go_enter Tryd.func146, Tryd.ntmps146
 go_wp2_with (first | ((with_reducible refine gate_callee (f := 109) rfl ?_); refine goesL_ (some 4) rfl rfl Tryd.func109 jK rfl #[.slice A0 l0.length c0, .string (⟨#[46]⟩ : ByteArray)] rfl jA ?_; (with_reducible refine (strings_Join.calls _ _ l0 (⟨#[46]⟩ : ByteArray) t120 _ ?side1 ?side2 A2.out).mono ?_); (case side1 => exact cU (HR0.out)); (case side2 => exact HC0.out); rintro e w3 ⟨rfl, hb⟩; refine ⟨_, rfl, ?_⟩; replace HB := aS (below_step (wU HB.out) hb); clear hb))
 go_ret
 exact ⟨jE, by exact wU HB.out⟩

/-! ### impl_Fold: function 161 -/
def impl_Fold.f (a0 : ByteArray) : Option (ByteArray) := if a0.size ≤ 140737488355328 then some (strOfNums ((bytesOf a0).map X.foldB)) else none
set_option maxHeartbeats 1000000 in
theorem impl_Fold.calls (a0 : ByteArray) (r : ByteArray) (w : World) (h : impl_Fold.f a0 = some r) :
  Calls Tryd.prog 161 #[.string a0] w fun e w' => e = .returned (.string r) ∧ Below w.heap.size w w' := by
 have hs : a0.size ≤ 140737488355328 := by
  rcases Nat.lt_or_ge 140737488355328 a0.size with q | q
  ·rw [impl_Fold.f, if_neg (by omega)] at h; cases h
  ·exact q
 have hr : strOfNums ((bytesOf a0).map X.foldB) = r := by rw [impl_Fold.f, if_pos hs] at h; exact Option.some.inj h
 clear h
 have hconv : ∀ (W : World) (s : ByteArray), (convert 9 22 (.string s)).run Tryd.prog W = .ok (.slice (some ⟨W.heap.size, 0, none⟩) s.size (grownCap W s.size 0 5)) (Lib.bytesWorld W 5 s) := fun W s => Lib.run_convert_string_bytes (P := Tryd.prog) W 9 22 5 s Tryd.underlying9 Tryd.underlying22 Tryd.underlying5
 have H1 := Aside0.mk (X.Row8.new w 5 a0)
 have HB := Aside0.mk (X.below_bytesWorld w 5 a0)
 have HR := Aside0.mk hr
 have HL := Aside0.mk (bytesOf_length a0)
 clear hr
 go_enter Tryd.func161, Tryd.ntmps161
 go_wp2
 go_loopw [4, 5, 10] (fun v4 v5 v10 wr => ∃ i : Nat, i ≤ a0.size ∧ v10 = .int .i64 i ∧ Aside0 (X.Row8 wr w.heap.size a0.size (X.foldTo (bytesOf a0) i)) ∧ Aside0 (Below w.heap.size w wr)) (fun _ _ v10 _ => a0.size - (intOf v10).toNat)
 case atStart => exact ⟨0, Nat.zero_le _, rfl, ⟨by simpa [X.foldTo] using H1.out⟩, HB⟩
 case round =>
  obtain ⟨i, hi, rfl, HI, HB⟩ := hrel
  by_cases hlt : i < a0.size
  ·obtain ⟨c, hc⟩ : ∃ c, rd (bytesOf a0) i = c := ⟨_, rfl⟩
   have hcell := HI.out.cell i hlt
   rw [X.foldTo_rd _ _ (by rw [HL.out]; exact hlt), hc] at hcell
   have hfree := HI.out.free i hlt
   have hcb := X.rd_byte (X.bytes_bytesOf a0) (i : Int)
   rw [hc] at hcb
   obtain ⟨hc0, hc1⟩ := hcb
   have HC := Aside0.mk hc
   clear hc
   by_cases h65 : 65 ≤ c
   ·by_cases h90 : c ≤ 90
    ·skip
     have HE := Aside0.mk (show X.foldB c = c + 32 from if_pos ⟨h65, h90⟩)
     go_wp2
     go_roundw
     case rel => exact ⟨i + 1, by omega, by go_num, ⟨X.Row8.fold HI.out HL.out hlt HC.out (HE.out.trans (by omega))⟩, ⟨HB.out.setCell (Nat.le_refl _) _⟩⟩
     case measure => simp [intOf]; omega
    ·have HE := Aside0.mk (X.foldTo_same (bytesOf a0) i (by rw [HL.out]; exact hlt) (by rw [HC.out]; exact if_neg (fun q => h90 q.2)))
     go_wp2
     go_roundw
     case rel => exact ⟨i + 1, by omega, by go_num, ⟨by rw [← HE.out]; exact HI.out⟩, HB⟩
     case measure => simp [intOf]; omega
   ·have HE := Aside0.mk (X.foldTo_same (bytesOf a0) i (by rw [HL.out]; exact hlt) (by rw [HC.out]; exact if_neg (fun q => h65 q.1)))
    go_wp2
    go_roundw
    case rel => exact ⟨i + 1, by omega, by go_num, ⟨by rw [← HE.out]; exact HI.out⟩, HB⟩
    case measure => simp [intOf]; omega
  ·obtain rfl : i = a0.size := by omega
   have hback := run_convert_bytes_arg (P := Tryd.prog) wr 22 5 Tryd.underlying22 Tryd.underlying5 w.heap.size 0 a0.size (grownCap w a0.size 0 5) (X.foldTo (bytesOf a0) a0.size) HI.out.len (fun j hj => by rw [Nat.zero_add, HI.out.cell j hj]; rfl) 9 Tryd.underlying9
   go_wp2
   go_ret
   exact ⟨by rw [← HR.out, ← HL.out, X.foldTo_all]; rfl, HB.out⟩


/-! ### impl_GetLabel: function 149 -/
def impl_GetLabel.j0 : Nat → List Int → Int → Bool → Option (ByteArray × Int × Bool)
 | 0, _, _, _ => none
 | k + 1, x0, x1, x35 => if x35 = true then (some ((⟨#[]⟩ : ByteArray), 0, false)) else (if 0 ≤ x1 then (if x1 < (x0.length : Int) then (if 0 ≤ (wrap64 (x1 + 1)) then (if (wrap64 (x1 + 1)) ≤ (wrap64 ((wrap64 (x1 + 1)) + (wrap64 (rd x0 x1)))) then (if (wrap64 ((wrap64 (x1 + 1)) + (wrap64 (rd x0 x1)))) ≤ (x0.length : Int) then ((impl_Fold.f (strOfNums ((x0.take ((wrap64 ((wrap64 (x1 + 1)) + (wrap64 (rd x0 x1)))) : Int).toNat).drop ((wrap64 (x1 + 1)) : Int).toNat))).bind fun t128 => ((impl_LabelOk.f k t128).bind fun t129 => (if t129 = true then (some (t128, wrap64 ((wrap64 (x1 + 1)) + (wrap64 (rd x0 x1))), true)) else (some ((⟨#[]⟩ : ByteArray), 0, false))))) else (none)) else (none)) else (none)) else (none)) else (none))
def impl_GetLabel.f (k : Nat) (l0 : List Int) (a1 : Int) : Option (ByteArray × Int × Bool) := if a1 < 0 then (impl_GetLabel.j0 k l0 a1 true) else (if a1 ≥ (l0.length : Int) then (impl_GetLabel.j0 k l0 a1 true) else (if 0 ≤ a1 then (if a1 < (l0.length : Int) then (if (rd l0 a1) > 12 then (impl_GetLabel.j0 k l0 a1 true) else (impl_GetLabel.j0 k l0 a1 (decide ((wrap64 (rd l0 a1)) ≥ (wrap64 ((l0.length : Int) - a1)))))) else (none)) else (none)))
theorem impl_GetLabel.mono_l : ∀ k, (∀ y0 y1 y2, LeO (impl_GetLabel.j0 k y0 y1 y2) (impl_GetLabel.j0 (k + 1) y0 y1 y2))
 | 0 => fun _ _ _ r h => by simp [impl_GetLabel.j0] at h
 | k + 1 => by
  have ih0 := impl_GetLabel.mono_l k
  ·intro y0 y1 y2
   unfold impl_GetLabel.j0
   repeat' first
   | (with_reducible first | exact ih0 _ _ _ | exact impl_LabelOk.mono _ _ | exact LeO.refl _ | exact LeO.none _ | refine LeO.ite ?_ ?_ | refine LeO.bind ?_ (fun _ => ?_))
   | exact ih0 _ _ _
   | exact impl_LabelOk.mono _ _
   | exact LeO.none _
   | refine LeO.ite ?_ ?_
   | refine LeO.bind ?_ (fun _ => ?_)
theorem impl_GetLabel.mono : ∀ a0 a1 k, LeO (impl_GetLabel.f k a0 a1) (impl_GetLabel.f (k + 1) a0 a1) := by
 intro a0 a1 k
 have ih0 := impl_GetLabel.mono_l k
 unfold impl_GetLabel.f
 repeat' first
   | (with_reducible first | exact ih0 _ _ _ | exact impl_LabelOk.mono _ _ | exact LeO.refl _ | exact LeO.none _ | refine LeO.ite ?_ ?_ | refine LeO.bind ?_ (fun _ => ?_))
   | exact ih0 _ _ _
   | exact impl_LabelOk.mono _ _
   | exact LeO.none _
   | refine LeO.ite ?_ ?_
   | refine LeO.bind ?_ (fun _ => ?_)
set_option maxHeartbeats 8000000 in
set_option maxRecDepth 100000 in
theorem impl_GetLabel.calls (k : Nat) (A0 : Option Addr) (c0 : Nat) (l0 : List Int) (a1 : Int) (r1 : ByteArray) (r2 : Int) (r3 : Bool) (w : World) (hr0 : Kd.C (Kd.int .u8) w A0 l0.length l0) (hc0 : l0.length ≤ c0) (h : impl_GetLabel.f k l0 a1 = some (r1, r2, r3)) :
  Calls Tryd.prog 149 #[.slice A0 l0.length c0, .int .i64 a1] w fun e w' => e = .returned (.tuple #[.string r1, .int .i64 r2, .bool r3]) ∧ Below w.heap.size w w' := by
 have HR0 := aS hr0
 have HC0 := aS hc0
 clear hr0 hc0
 have HB := aS (Below.refl w.heap.size w)
 have H : (if a1 < 0 then (impl_GetLabel.j0 k l0 a1 true) else (if a1 ≥ (l0.length : Int) then (impl_GetLabel.j0 k l0 a1 true) else (if 0 ≤ a1 then (if a1 < (l0.length : Int) then (if (rd l0 a1) > 12 then (impl_GetLabel.j0 k l0 a1 true) else (impl_GetLabel.j0 k l0 a1 (decide ((wrap64 (rd l0 a1)) ≥ (wrap64 ((l0.length : Int) - a1)))))) else (none)) else (none)))) = some (r1, r2, r3) := h
 clear h
 have HC3 := aS H
 clear H
 go_enter Tryd.func149, Tryd.ntmps149
 go_upto_region 1 with (fail)
 go_cut [35] (fun v35 wc => ∃ (kq : Nat) (x35_2 : Bool), v35 = .bool x35_2 ∧ Aside0 (impl_GetLabel.j0 kq l0 a1 x35_2 = some (r1, r2, r3)) ∧ Aside0 (kq ≤ k) ∧ Aside0 (Below w.heap.size w wc))
 case first =>
  have H := HC3.out
  clear HC3
  by_cases c4 : a1 < 0
  ·rw [if_pos c4] at H
   have c4b0 := decide_eq_true c4
   clear c4
   (first | rw [c4b0] | (simp only [i64_w, i32_w]; rw [c4b0]) | skip)
   have H' := aS H
   clear H
   go_wp2
   go_meet
   case rel => exact ⟨_, (true), jB, H', ⟨by first | omega | exact Nat.le_refl _⟩, ⟨by exact wU HB.out⟩⟩
  ·rw [if_neg c4] at H
   have c4b0 := decide_eq_false c4
   clear c4
   (first | rw [c4b0] | (simp only [i64_w, i32_w]; rw [c4b0]) | skip)
   by_cases c5 : a1 ≥ (l0.length : Int)
   ·rw [if_pos c5] at H
    have c5b0 := decide_eq_true c5
    clear c5
    have H' := aS H
    clear H
    go_wp2
    go_meet
    case rel => exact ⟨_, (true), jB, H', ⟨by first | omega | exact Nat.le_refl _⟩, ⟨by exact wU HB.out⟩⟩
   ·rw [if_neg c5] at H
    have c5b0 := decide_eq_false c5
    clear c5
    by_cases c6 : 0 ≤ a1
    ·rw [if_pos c6] at H
     have c6b0 := decide_eq_true c6
     clear c6
     by_cases c7 : a1 < (l0.length : Int)
     ·rw [if_pos c7] at H
      have c7b0 := decide_eq_true c7
      clear c7
      by_cases c8 : (rd l0 a1) > 12
      ·rw [if_pos c8] at H
       have c8b0 := decide_eq_true c8
       clear c8
       have H' := aS H
       clear H
       have p121 : 0 ≤ (a1 : Int) := of_decide_eq_true jC
       have q121 : a1 < (l0.length : Int) := of_decide_eq_true jC
       obtain ⟨ad121, e121, hx121_0⟩ := Kd.at_int HR0.out a1 p121 q121
       cases e121
       try replace hx121_0 := (HB.out.cell (World.block_lt_of_cell? w _ hx121_0)).trans hx121_0
       replace p121 := eq_true p121
       replace q121 := eq_true q121
       go_wp2
       go_meet
       case rel => exact ⟨_, (true), jB, H', ⟨by first | omega | exact Nat.le_refl _⟩, ⟨by exact wU HB.out⟩⟩
      ·rw [if_neg c8] at H
       have c8b0 := decide_eq_false c8
       clear c8
       have H' := aS H
       clear H
       have p121 : 0 ≤ (a1 : Int) := of_decide_eq_true jC
       have q121 : a1 < (l0.length : Int) := of_decide_eq_true jC
       obtain ⟨ad121, e121, hx121_0⟩ := Kd.at_int HR0.out a1 p121 q121
       cases e121
       try replace hx121_0 := (HB.out.cell (World.block_lt_of_cell? w _ hx121_0)).trans hx121_0
       replace p121 := eq_true p121
       replace q121 := eq_true q121
       have p122 : 0 ≤ (a1 : Int) := of_decide_eq_true jC
       have q122 : a1 < (l0.length : Int) := of_decide_eq_true jC
       obtain ⟨ad122, e122, hx122_0⟩ := Kd.at_int HR0.out a1 p122 q122
       obtain rfl : ad121 = ad122 := (by injection e122)
       try replace hx122_0 := (HB.out.cell (World.block_lt_of_cell? w _ hx122_0)).trans hx122_0
       replace p122 := eq_true p122
       replace q122 := eq_true q122
       go_wp2
       go_meet
       case rel => exact ⟨_, (decide ((wrap64 (rd l0 a1)) ≥ (wrap64 ((l0.length : Int) - a1)))), jB, H', ⟨by first | omega | exact Nat.le_refl _⟩, ⟨by exact wU HB.out⟩⟩
     ·rw [if_neg c7] at H
      exact absurd H (by simp)
    ·rw [if_neg c6] at H
     exact absurd H (by simp)
 case rest =>
  clear HC3
  try clear c1
  try clear p1
  try clear q1
  try clear hx1
  try clear p2
  try clear c4
  try clear c4b0
  try clear c5
  try clear c5b0
  try clear c6
  try clear c6b0
  try clear p6
  try clear c7
  try clear c7b0
  try clear c8
  try clear c8b0
  try clear hx121_0
  try clear hx122_0
  try clear p121
  try clear p122
  try clear q121
  try clear q122
  obtain ⟨kq, x35_2, rfl, HA, HJ2, HB⟩ := hcut
  cases kq with
  | zero => exact absurd HA.out (by simp [impl_GetLabel.j0])
  | succ kj2 =>
   have H := HA.out
   clear HA
   simp only [impl_GetLabel.j0] at H
   by_cases c9 : x35_2 = true
   ·subst c9
    rw [if_pos rfl] at H
    simp only [Option.some.injEq, Prod.mk.injEq] at H
    obtain ⟨rfl, rfl, rfl⟩ := H
    go_wp2
    go_ret3
    exact ⟨jE, by exact wU HB.out⟩
   ·replace c9 := Bool.eq_false_iff.mpr c9
    subst c9
    rw [if_neg Bool.false_ne_true] at H
    by_cases c10 : 0 ≤ a1
    ·rw [if_pos c10] at H
     have c10b0 := decide_eq_true c10
     clear c10
     by_cases c11 : a1 < (l0.length : Int)
     ·rw [if_pos c11] at H
      have c11b0 := decide_eq_true c11
      clear c11
      obtain ⟨ji12, hji12⟩ : ∃ j_ : Int, (wrap64 (a1 + 1)) = j_ := ⟨_, rfl⟩
      replace H : (if 0 ≤ (ji12) then (if (ji12) ≤ (wrap64 ((ji12) + (wrap64 (rd l0 a1)))) then (if (wrap64 ((ji12) + (wrap64 (rd l0 a1)))) ≤ (l0.length : Int) then ((impl_Fold.f (strOfNums ((l0.take ((wrap64 ((ji12) + (wrap64 (rd l0 a1)))) : Int).toNat).drop ((ji12) : Int).toNat))).bind fun t128 => ((impl_LabelOk.f kj2 t128).bind fun t129 => (if t129 = true then (some (t128, wrap64 ((ji12) + (wrap64 (rd l0 a1))), true)) else (some ((⟨#[]⟩ : ByteArray), 0, false))))) else (none)) else (none)) else (none)) = some (r1, r2, r3) := by first | (rw [hji12] at H; exact H) | (simp only [hji12] at H ⊢; exact H)
      have hji12w : (IntKind.i64.wrap (a1 + 1)) = ji12 := (i64_w _).trans hji12
      by_cases c13 : 0 ≤ (ji12)
      ·rw [if_pos c13] at H
       have c13b0 := eq_true c13
       have c13b1 := decide_eq_true c13
       clear c13
       by_cases c14 : (ji12) ≤ (wrap64 ((ji12) + (wrap64 (rd l0 a1))))
       ·rw [if_pos c14] at H
        have c14b0 := eq_true c14
        have c14b1 := decide_eq_true c14
        by_cases c15 : (wrap64 ((ji12) + (wrap64 (rd l0 a1)))) ≤ (l0.length : Int)
        ·rw [if_pos c15] at H
         have c15b0 := eq_true c15
         have c15b1 := decide_eq_true c15
         obtain ⟨y124, hy_⟩ : ∃ y_ : List Int, y_ = ((l0.take ((wrap64 ((ji12) + (wrap64 (rd l0 a1)))) : Int).toNat).drop ((ji12) : Int).toNat) := ⟨_, rfl⟩
         replace H : ((impl_Fold.f (strOfNums y124)).bind fun t128 => ((impl_LabelOk.f kj2 t128).bind fun t129 => (if t129 = true then (some (t128, wrap64 ((ji12) + (wrap64 (rd l0 a1))), true)) else (some ((⟨#[]⟩ : ByteArray), 0, false))))) = some (r1, r2, r3) := jD
         have Ny124 := aS hy_
         clear hy_
         obtain ⟨t128, A16, H⟩ := bM H
         try dsimp only at H
         obtain ⟨t129, A17, H⟩ := bM H
         try dsimp only at H
         by_cases c18 : t129 = true
         ·subst c18
          rw [if_pos rfl] at H
          simp only [Option.some.injEq, Prod.mk.injEq] at H
          obtain ⟨rfl, rfl, rfl⟩ := H
          have p123 : 0 ≤ (a1 : Int) := of_decide_eq_true jC
          have q123 : a1 < (l0.length : Int) := of_decide_eq_true jC
          obtain ⟨ad123, e123, hx123_0⟩ := Kd.at_int HR0.out a1 p123 q123
          cases e123
          try replace hx123_0 := (HB.out.cell (World.block_lt_of_cell? w _ hx123_0)).trans hx123_0
          replace p123 := eq_true p123
          replace q123 := eq_true q123
          have q19 : ((wrap64 ((ji12) + (wrap64 (rd l0 a1)))) : Int) ≤ ((l0.length : Int) : Int) := of_decide_eq_true jC
          obtain ⟨i019, hi019, _, hsz19, _⟩ := info_parts info5
          have hroom19 : l0.length ≤ c0 := HC0.out
          have hC19 : Kd.C (Kd.int .u8) _ (some ad123) l0.length l0 := HR0.out
          have ql19 : ((ji12) : Int) ≤ ((wrap64 ((ji12) + (wrap64 (rd l0 a1)))) : Int) := of_decide_eq_true jC
          have q019 : (0 : Int) ≤ ((ji12) : Int) := of_decide_eq_true jC
          have hcut19 := cut_mid (P := Tryd.prog) 22 5 .i64 .i64 Tryd.underlying22 hi019 1 hsz19 (some ad123) l0.length c0 (ji12) (wrap64 ((ji12) + (wrap64 (rd l0 a1)))) q019 ql19 q19 hroom19
          have hr19 := Kd.C_mid (lo := ((ji12) : Int).toNat) (hi := ((wrap64 ((ji12) + (wrap64 (rd l0 a1)))) : Int).toNat) (c := c0) hC19 (by omega) (by omega) hroom19
          obtain ⟨A19, hA19⟩ : ∃ A1, A1 = (if c0 = ((ji12) : Int).toNat then (some ad123) else ((some ad123) : Option Addr).map (·.add (((ji12) : Int).toNat * 1))) := ⟨_, rfl⟩
          obtain ⟨c19, hc19⟩ : ∃ c1, c1 = c0 - ((ji12) : Int).toNat := ⟨_, rfl⟩
          have hy19 : y124.length = ((wrap64 ((ji12) + (wrap64 (rd l0 a1)))) : Int).toNat - ((ji12) : Int).toNat := (by rw [Ny124.out, List.length_drop, List.length_take] <;> omega)
          rw [show ((l0).take ((wrap64 ((ji12) + (wrap64 (rd l0 a1)))) : Int).toNat).drop ((ji12) : Int).toNat = y124 from Ny124.out.symm] at hr19
          replace hr19 : Kd.C (Kd.int .u8) _ A19 y124.length y124 := (by rw [hA19]; exact hr19)
          rw [← hy19, ← hA19, ← hc19] at hcut19
          have HR127 := aS hr19
          have HC127 := aS (show y124.length ≤ c19 from by rw [hy19, hc19]; exact Nat.sub_le_sub_right (Nat.le_trans (by omega) hroom19) _)
          clear hr19 hC19 hroom19 hi019 hsz19 hc19
          have KY19 := aS hy19
          have KA19 := aS hA19
          clear hy19 hA19
          replace q19 := eq_true q19
          have hcv20 := Kd.C_string (P := Tryd.prog) (A := A19) (c := c19) Tryd.underlying22 Tryd.underlying5 Tryd.underlying9 (Kd.C_below HR127.out HB.out)
          go_wp2_with (first | ((with_reducible refine gate_callee (f := 161) rfl ?_); refine goesL_ (some 50) rfl rfl Tryd.func161 jK rfl #[.string (strOfNums y124)] rfl jA ?_; (with_reducible refine (impl_Fold.calls (strOfNums y124) t128 _ A16.out).mono ?_); rintro e w21 ⟨rfl, hb⟩; refine ⟨_, rfl, ?_⟩; replace HB := aS (below_step (wU HB.out) hb); clear hb) | ((with_reducible refine gate_callee (f := 126) rfl ?_); refine goesL_ (some 52) rfl rfl Tryd.func126 jK rfl #[.string t128] rfl jA ?_; (with_reducible refine (impl_LabelOk.calls kj2 t128 true _ A17.out).mono ?_); rintro e w' ⟨rfl, ⟨nd, rfl⟩⟩; refine ⟨_, rfl, ?_⟩))
          go_ret3
          exact ⟨by first | rfl | (simp [errW_none, errW_some] <;> rfl) | (simp only [← hji12]; first | rfl | (simp [errW_none, errW_some] <;> rfl)) | (simp [*, errW_none, errW_some] <;> rfl), by exact wU HB.out⟩
         ·replace c18 := Bool.eq_false_iff.mpr c18
          subst c18
          rw [if_neg Bool.false_ne_true] at H
          simp only [Option.some.injEq, Prod.mk.injEq] at H
          obtain ⟨rfl, rfl, rfl⟩ := H
          have p123 : 0 ≤ (a1 : Int) := of_decide_eq_true jC
          have q123 : a1 < (l0.length : Int) := of_decide_eq_true jC
          obtain ⟨ad123, e123, hx123_0⟩ := Kd.at_int HR0.out a1 p123 q123
          cases e123
          try replace hx123_0 := (HB.out.cell (World.block_lt_of_cell? w _ hx123_0)).trans hx123_0
          replace p123 := eq_true p123
          replace q123 := eq_true q123
          have q22 : ((wrap64 ((ji12) + (wrap64 (rd l0 a1)))) : Int) ≤ ((l0.length : Int) : Int) := of_decide_eq_true jC
          obtain ⟨i022, hi022, _, hsz22, _⟩ := info_parts info5
          have hroom22 : l0.length ≤ c0 := HC0.out
          have hC22 : Kd.C (Kd.int .u8) _ (some ad123) l0.length l0 := HR0.out
          have ql22 : ((ji12) : Int) ≤ ((wrap64 ((ji12) + (wrap64 (rd l0 a1)))) : Int) := of_decide_eq_true jC
          have q022 : (0 : Int) ≤ ((ji12) : Int) := of_decide_eq_true jC
          have hcut22 := cut_mid (P := Tryd.prog) 22 5 .i64 .i64 Tryd.underlying22 hi022 1 hsz22 (some ad123) l0.length c0 (ji12) (wrap64 ((ji12) + (wrap64 (rd l0 a1)))) q022 ql22 q22 hroom22
          have hr22 := Kd.C_mid (lo := ((ji12) : Int).toNat) (hi := ((wrap64 ((ji12) + (wrap64 (rd l0 a1)))) : Int).toNat) (c := c0) hC22 (by omega) (by omega) hroom22
          obtain ⟨A22, hA22⟩ : ∃ A1, A1 = (if c0 = ((ji12) : Int).toNat then (some ad123) else ((some ad123) : Option Addr).map (·.add (((ji12) : Int).toNat * 1))) := ⟨_, rfl⟩
          obtain ⟨c22, hc22⟩ : ∃ c1, c1 = c0 - ((ji12) : Int).toNat := ⟨_, rfl⟩
          have hy22 : y124.length = ((wrap64 ((ji12) + (wrap64 (rd l0 a1)))) : Int).toNat - ((ji12) : Int).toNat := (by rw [Ny124.out, List.length_drop, List.length_take] <;> omega)
          rw [show ((l0).take ((wrap64 ((ji12) + (wrap64 (rd l0 a1)))) : Int).toNat).drop ((ji12) : Int).toNat = y124 from Ny124.out.symm] at hr22
          replace hr22 : Kd.C (Kd.int .u8) _ A22 y124.length y124 := (by rw [hA22]; exact hr22)
          rw [← hy22, ← hA22, ← hc22] at hcut22
          have HR127 := aS hr22
          have HC127 := aS (show y124.length ≤ c22 from by rw [hy22, hc22]; exact Nat.sub_le_sub_right (Nat.le_trans (by omega) hroom22) _)
          clear hr22 hC22 hroom22 hi022 hsz22 hc22
          have KY22 := aS hy22
          have KA22 := aS hA22
          clear hy22 hA22
          replace q22 := eq_true q22
          have hcv23 := Kd.C_string (P := Tryd.prog) (A := A22) (c := c22) Tryd.underlying22 Tryd.underlying5 Tryd.underlying9 (Kd.C_below HR127.out HB.out)
          go_wp2_with (first | ((with_reducible refine gate_callee (f := 161) rfl ?_); refine goesL_ (some 50) rfl rfl Tryd.func161 jK rfl #[.string (strOfNums y124)] rfl jA ?_; (with_reducible refine (impl_Fold.calls (strOfNums y124) t128 _ A16.out).mono ?_); rintro e w24 ⟨rfl, hb⟩; refine ⟨_, rfl, ?_⟩; replace HB := aS (below_step (wU HB.out) hb); clear hb) | ((with_reducible refine gate_callee (f := 126) rfl ?_); refine goesL_ (some 52) rfl rfl Tryd.func126 jK rfl #[.string t128] rfl jA ?_; (with_reducible refine (impl_LabelOk.calls kj2 t128 false _ A17.out).mono ?_); rintro e w' ⟨rfl, ⟨nd, rfl⟩⟩; refine ⟨_, rfl, ?_⟩))
          go_ret3
          exact ⟨by first | rfl | (simp [errW_none, errW_some] <;> rfl) | (simp only [← hji12]; first | rfl | (simp [errW_none, errW_some] <;> rfl)) | (simp [*, errW_none, errW_some] <;> rfl), by exact wU HB.out⟩
        ·rw [if_neg c15] at H
         exact absurd H (by simp)
       ·rw [if_neg c14] at H
        exact absurd H (by simp)
      ·rw [if_neg c13] at H
       exact absurd H (by simp)
     ·rw [if_neg c11] at H
      exact absurd H (by simp)
    ·rw [if_neg c10] at H
     exact absurd H (by simp)

end Go.Proofs.YtdigilidomimdaaDoor.Pr
