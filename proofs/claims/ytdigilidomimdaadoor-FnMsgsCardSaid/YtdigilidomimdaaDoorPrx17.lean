-- Written for this claim by a program of this session (wip/tool/pr.py, over the kit's printer).
-- half
import Derived.Test.YtdigilidomimdaaDoorPrx0
import Derived.Test.YtdigilidomimdaaDoorPrx12
import Derived.Test.YtdigilidomimdaaDoorPrx16
namespace Go.Proofs.YtdigilidomimdaaDoor.Pr
open Go.RowKit Go.Proofs.YtdigilidomimdaaDoorW.PrintWords Go.Proofs.YtdigilidomimdaaDoorW.PrintLast Go.Proofs.YtdigilidomimdaaDoorW.PrintMore
attribute [local go_sem] max2_int min2_int max_two min_two max_three min_three max_four min_four   -- for this text's walks alone
set_option linter.unusedVariables false
set_option linter.unusedSimpArgs false

/-! ### spec_RecordText: function 53 -/
def spec_RecordText.f (k : Nat) (a0_0 : ByteArray) (a0_1 : Int) (a0_2 : Int) (a0_3 : Int) (a0_4 : ByteArray) (a0_5 : ByteArray) : Option (ByteArray) := (spec_RecordOk.f k a0_0 a0_1 a0_2 a0_3 a0_4 a0_5).bind fun t704 => (if t704 = true then ((spec_l5Dot.f a0_0).bind fun t705 => (if t705.size + 1 ≤ 9223372036854775807 then ((spec_NumText.f k a0_2).bind fun t706 => (if (t705 ++ (⟨#[32]⟩ : ByteArray)).size + t706.size ≤ 9223372036854775807 then (if ((t705 ++ (⟨#[32]⟩ : ByteArray)) ++ t706).size + 1 ≤ 9223372036854775807 then ((spec_TypeText.f a0_1).bind fun t707 => (if (((t705 ++ (⟨#[32]⟩ : ByteArray)) ++ t706) ++ (⟨#[32]⟩ : ByteArray)).size + t707.size ≤ 9223372036854775807 then (if ((((t705 ++ (⟨#[32]⟩ : ByteArray)) ++ t706) ++ (⟨#[32]⟩ : ByteArray)) ++ t707).size + 1 ≤ 9223372036854775807 then (if a0_1 = 1 then ((spec_NumText.f k a0_3).bind fun t708 => (if (((((t705 ++ (⟨#[32]⟩ : ByteArray)) ++ t706) ++ (⟨#[32]⟩ : ByteArray)) ++ t707) ++ (⟨#[32]⟩ : ByteArray)).size + t708.size ≤ 9223372036854775807 then (some ((((((t705 ++ (⟨#[32]⟩ : ByteArray)) ++ t706) ++ (⟨#[32]⟩ : ByteArray)) ++ t707) ++ (⟨#[32]⟩ : ByteArray)) ++ t708)) else (none))) else (if a0_1 = 6 then ((spec_l5Dot.f a0_4).bind fun t709 => (if (((((t705 ++ (⟨#[32]⟩ : ByteArray)) ++ t706) ++ (⟨#[32]⟩ : ByteArray)) ++ t707) ++ (⟨#[32]⟩ : ByteArray)).size + t709.size ≤ 9223372036854775807 then (if ((((((t705 ++ (⟨#[32]⟩ : ByteArray)) ++ t706) ++ (⟨#[32]⟩ : ByteArray)) ++ t707) ++ (⟨#[32]⟩ : ByteArray)) ++ t709).size + 1 ≤ 9223372036854775807 then ((spec_NumText.f k a0_3).bind fun t710 => (if (((((((t705 ++ (⟨#[32]⟩ : ByteArray)) ++ t706) ++ (⟨#[32]⟩ : ByteArray)) ++ t707) ++ (⟨#[32]⟩ : ByteArray)) ++ t709) ++ (⟨#[32]⟩ : ByteArray)).size + t710.size ≤ 9223372036854775807 then (some ((((((((t705 ++ (⟨#[32]⟩ : ByteArray)) ++ t706) ++ (⟨#[32]⟩ : ByteArray)) ++ t707) ++ (⟨#[32]⟩ : ByteArray)) ++ t709) ++ (⟨#[32]⟩ : ByteArray)) ++ t710)) else (none))) else (none)) else (none))) else (if a0_1 = 16 then (if (((((t705 ++ (⟨#[32]⟩ : ByteArray)) ++ t706) ++ (⟨#[32]⟩ : ByteArray)) ++ t707) ++ (⟨#[32]⟩ : ByteArray)).size + 1 ≤ 9223372036854775807 then (if ((((((t705 ++ (⟨#[32]⟩ : ByteArray)) ++ t706) ++ (⟨#[32]⟩ : ByteArray)) ++ t707) ++ (⟨#[32]⟩ : ByteArray)) ++ (⟨#[39]⟩ : ByteArray)).size + a0_5.size ≤ 9223372036854775807 then (some (((((((t705 ++ (⟨#[32]⟩ : ByteArray)) ++ t706) ++ (⟨#[32]⟩ : ByteArray)) ++ t707) ++ (⟨#[32]⟩ : ByteArray)) ++ (⟨#[39]⟩ : ByteArray)) ++ a0_5)) else (none)) else (none)) else ((spec_l5Dot.f a0_4).bind fun t711 => (if (((((t705 ++ (⟨#[32]⟩ : ByteArray)) ++ t706) ++ (⟨#[32]⟩ : ByteArray)) ++ t707) ++ (⟨#[32]⟩ : ByteArray)).size + t711.size ≤ 9223372036854775807 then (some ((((((t705 ++ (⟨#[32]⟩ : ByteArray)) ++ t706) ++ (⟨#[32]⟩ : ByteArray)) ++ t707) ++ (⟨#[32]⟩ : ByteArray)) ++ t711)) else (none)))))) else (none)) else (none))) else (none)) else (none))) else (none))) else (some (⟨#[]⟩ : ByteArray)))
theorem spec_RecordText.mono : ∀ a0 a1 a2 a3 a4 a5 k, LeO (spec_RecordText.f k a0 a1 a2 a3 a4 a5) (spec_RecordText.f (k + 1) a0 a1 a2 a3 a4 a5) := by
 intro a0 a1 a2 a3 a4 a5 k
 unfold spec_RecordText.f
 repeat' first
   | (with_reducible first | exact spec_NumText.mono _ _ | exact spec_RecordOk.mono _ _ _ _ _ _ _ | exact LeO.refl _ | exact LeO.none _ | refine LeO.ite ?_ ?_ | refine LeO.bind ?_ (fun _ => ?_))
   | refine LeO.ite ?_ ?_
   | refine LeO.bind ?_ (fun _ => ?_)
def spec_RecordText.T3 : Bool × List (List Nat × List Nat) := (true, [([], []), ([0], [0]), ([1], [1]), ([2], [2]), ([], []), ([4], [4]), ([5, 2], [5]), ([3, 6], [3, 6]), ([7], [7]), ([], []), ([9], [9]), ([10, 6], [10]), ([8, 11], [8, 11]), ([12], [12]), ([13, 11, 0, 1, 2, 3, 4, 5, 6, 7, 8, 9, 10, 11, 12, 13], [13])])
def spec_RecordText.B3 : List Nat := [0, 1, 3, 7, 0, 16, 55, 127, 255, 0, 512, 1655, 4095, 8191, 16383]
theorem spec_RecordText.tab3 : rtab .any (opsOf Tryd.f53 3) = spec_RecordText.T3 := by kernel_rfl
theorem spec_RecordText.bits3 : waitsOk spec_RecordText.T3.2 spec_RecordText.B3 = true := by kernel_rfl
def spec_RecordText.T8 : Bool × List (List Nat × List Nat) := (true, [([], []), ([], []), ([1], [1]), ([2], [2]), ([0, 3], [0, 3]), ([4], [4]), ([], []), ([6], [6]), ([7, 3], [7]), ([5, 8], [5, 8]), ([9, 8, 0, 1, 2, 3, 4, 5, 6, 7, 8, 9], [9])])
def spec_RecordText.B8 : List Nat := [0, 0, 2, 6, 15, 31, 0, 64, 206, 511, 1023]
theorem spec_RecordText.tab8 : rtab .any (opsOf Tryd.f53 8) = spec_RecordText.T8 := by kernel_rfl
theorem spec_RecordText.bits8 : waitsOk spec_RecordText.T8.2 spec_RecordText.B8 = true := by kernel_rfl
set_option maxHeartbeats 8000000 in
set_option maxRecDepth 100000 in
theorem spec_RecordText.calls (k : Nat) (a0_0 : ByteArray) (a0_1 : Int) (a0_2 : Int) (a0_3 : Int) (a0_4 : ByteArray) (a0_5 : ByteArray) (r : ByteArray) (w : World) (h : spec_RecordText.f k a0_0 a0_1 a0_2 a0_3 a0_4 a0_5 = some r) :
  Calls Tryd.prog 53 #[.agg #[.string a0_0, .int .i64 a0_1, .int .i64 a0_2, .int .i64 a0_3, .string a0_4, .string a0_5]] w fun e w' => e = .returned (.string r) ∧ Below w.heap.size w w' := by
 have hu25 := Tryd.underlying25
 have HB := aS (Below.refl w.heap.size w)
 have H := h
 unfold spec_RecordText.f at H
 clear h
 obtain ⟨t704, A2, H⟩ := bM H
 try dsimp only at H
 by_cases c3 : t704 = true
 ·subst c3
  rw [if_pos rfl] at H
  obtain ⟨t705, A4, H⟩ := bM H
  try dsimp only at H
  by_cases c5 : t705.size + 1 ≤ 9223372036854775807
  ·rw [if_pos c5] at H
   have c5b0 := eq_true c5
   have c5b1 := decide_eq_true c5
   try have c5b2 : (9223372036854775807 < t705.size + 1) = False := eq_false (Nat.not_lt.2 c5)
   obtain ⟨t706, A6, H⟩ := bM H
   try dsimp only at H
   by_cases c7 : (t705 ++ (⟨#[32]⟩ : ByteArray)).size + t706.size ≤ 9223372036854775807
   ·rw [if_pos c7] at H
    have c7b0 := eq_true c7
    have c7b1 := decide_eq_true c7
    try have c7b2 : (9223372036854775807 < (t705 ++ (⟨#[32]⟩ : ByteArray)).size + t706.size) = False := eq_false (Nat.not_lt.2 c7)
    try have c7b8 : (9223372036854775807 < t705.size + 1 + t706.size) = False := by have q_ := c7b2; simp only [ByteArray.size_append] at q_; exact q_
    by_cases c8 : ((t705 ++ (⟨#[32]⟩ : ByteArray)) ++ t706).size + 1 ≤ 9223372036854775807
    ·rw [if_pos c8] at H
     have c8b0 := eq_true c8
     have c8b1 := decide_eq_true c8
     try have c8b2 : (9223372036854775807 < ((t705 ++ (⟨#[32]⟩ : ByteArray)) ++ t706).size + 1) = False := eq_false (Nat.not_lt.2 c8)
     try have c8b8 : (9223372036854775807 < t705.size + 1 + t706.size + 1) = False := by have q_ := c8b2; simp only [ByteArray.size_append] at q_; exact q_
     obtain ⟨t707, A9, H⟩ := bM H
     try dsimp only at H
     by_cases c10 : (((t705 ++ (⟨#[32]⟩ : ByteArray)) ++ t706) ++ (⟨#[32]⟩ : ByteArray)).size + t707.size ≤ 9223372036854775807
     ·rw [if_pos c10] at H
      have c10b0 := eq_true c10
      have c10b1 := decide_eq_true c10
      try have c10b2 : (9223372036854775807 < (((t705 ++ (⟨#[32]⟩ : ByteArray)) ++ t706) ++ (⟨#[32]⟩ : ByteArray)).size + t707.size) = False := eq_false (Nat.not_lt.2 c10)
      try have c10b8 : (9223372036854775807 < t705.size + 1 + t706.size + 1 + t707.size) = False := by have q_ := c10b2; simp only [ByteArray.size_append] at q_; exact q_
      by_cases c11 : ((((t705 ++ (⟨#[32]⟩ : ByteArray)) ++ t706) ++ (⟨#[32]⟩ : ByteArray)) ++ t707).size + 1 ≤ 9223372036854775807
      ·rw [if_pos c11] at H
       have c11b0 := eq_true c11
       have c11b1 := decide_eq_true c11
       try have c11b2 : (9223372036854775807 < ((((t705 ++ (⟨#[32]⟩ : ByteArray)) ++ t706) ++ (⟨#[32]⟩ : ByteArray)) ++ t707).size + 1) = False := eq_false (Nat.not_lt.2 c11)
       try have c11b8 : (9223372036854775807 < t705.size + 1 + t706.size + 1 + t707.size + 1) = False := by have q_ := c11b2; simp only [ByteArray.size_append] at q_; exact q_
       by_cases c12 : a0_1 = 1
       ·rw [if_pos c12] at H
        have c12b0 := beq_iff_eq.mpr c12
        have c12b1 := bne_eq_false_iff_eq.mpr c12
        clear c12
        obtain ⟨t708, A13, H⟩ := bM H
        try dsimp only at H
        by_cases c14 : (((((t705 ++ (⟨#[32]⟩ : ByteArray)) ++ t706) ++ (⟨#[32]⟩ : ByteArray)) ++ t707) ++ (⟨#[32]⟩ : ByteArray)).size + t708.size ≤ 9223372036854775807
        ·rw [if_pos c14] at H
         have c14b0 := eq_true c14
         have c14b1 := decide_eq_true c14
         try have c14b2 : (9223372036854775807 < (((((t705 ++ (⟨#[32]⟩ : ByteArray)) ++ t706) ++ (⟨#[32]⟩ : ByteArray)) ++ t707) ++ (⟨#[32]⟩ : ByteArray)).size + t708.size) = False := eq_false (Nat.not_lt.2 c14)
         try have c14b8 : (9223372036854775807 < t705.size + 1 + t706.size + 1 + t707.size + 1 + t708.size) = False := by have q_ := c14b2; simp only [ByteArray.size_append] at q_; exact q_
         obtain rfl := Option.some.inj H
         go_enter Tryd.func53, Tryd.ntmps53
         try go_wp2_with (first | ((with_reducible refine gate_dst (N := 1) rfl ?_); refine xB 1 #[.string a0_0, .int .i64 a0_1, .int .i64 a0_2, .int .i64 a0_3, .string a0_4, .string a0_5] 25 ?_; intro gb703 hg w15 hbox hb; have BK703 := aS (hbox); have GW703 := gW hg (wU HB.out); have GE703 := gW hg (wU HB.out); replace HB := aS (below_step (wU HB.out) hb); clear hb hbox hg; have hcz16 := cells6f BK703.out) | ((with_reducible refine gate_callee (f := 54) rfl ?_); refine gL (some 5) Tryd.func54 #[.agg #[.string a0_0, .int .i64 a0_1, .int .i64 a0_2, .int .i64 a0_3, .string a0_4, .string a0_5]] ?_; (with_reducible refine (spec_RecordOk.calls k a0_0 a0_1 a0_2 a0_3 a0_4 a0_5 true _ A2.out).mono ?_); rintro e w17 ⟨rfl, hb⟩; refine ⟨_, rfl, ?_⟩; replace BK703 := bB BK703 hb; replace HB := aS (below_step (wS1 HB.out GE703.out) hb); clear hb))
         replace BK703 := aS (blk_drew BK703.out)
         replace HB := aS (below_drew1 HB.out)
         refine start_ (n := 15) (S := fun w' => w'.cell? ⟨gb703, 0, none⟩ = some (.string a0_0) ∧ w'.cell? ⟨gb703, 1, none⟩ = some (.int .i64 a0_1) ∧ w'.cell? ⟨gb703, 2, none⟩ = some (.int .i64 a0_2) ∧ w'.cell? ⟨gb703, 3, none⟩ = some (.int .i64 a0_3) ∧ w'.cell? ⟨gb703, 4, none⟩ = some (.string a0_4) ∧ w'.cell? ⟨gb703, 5, none⟩ = some (.string a0_5)) (ds := []) #[false, false, false, false, false, false, false, false, false, false, false, false, false, false, false] jK rfl rfl (c6 BK703.out) (fun hHeld => ?_); refine with_tabW spec_RecordText.tab3 spec_RecordText.bits3 (fun HT_ HW_ => ?_)
         generalize w17.drew = w18 at BK703 HB hHeld ⊢
         refine pA HT_ 0 (some 7) (tf 1 14) ?_
         refine pA HT_ 4 (some 11) #[true, false, false, false, true, false, false, false, false, false, false, false, false, false, false] ?_
         refine pA HT_ 9 (some 16) #[true, false, false, false, true, false, false, false, false, true, false, false, false, false, false] ?_
         refine tA HT_ HW_ hHeld 1 (some 8) #[true, true, false, false, true, false, false, false, false, true, false, false, false, false, false] ?_
         refine tA HT_ HW_ hHeld 5 (some 12) #[true, true, false, false, true, true, false, false, false, true, false, false, false, false, false] ?_
         refine tA HT_ HW_ hHeld 10 (some 17) #[true, true, false, false, true, true, false, false, false, true, true, false, false, false, false] ?_
         refine one_ (i := 2) (N := some 9) #[true, true, true, false, true, true, false, false, false, true, true, false, false, false, false] rfl rfl (one_of HT_.out jK) (by decide) (fun K hK => ?_)
         refine goes_ Tryd.func102 jK rfl #[.string a0_0] (by rfl) rfl rfl jA ?_
         with_reducible refine (spec_l5Dot.calls a0_0 t705 _ A4.out).mono ?_
         rintro e w' ⟨rfl, ⟨nd, rfl⟩⟩
         refine ⟨_, rfl, ?_⟩
         refine hK.out _ _ (c6 BK703.out) (fun hHeld => ?_)
         clear hK K
         refine nA (some 9) ?_
         refine pA HT_ 3 (some 10) #[true, true, true, true, true, true, false, false, false, true, true, false, false, false, false] ?_
         refine one_ (i := 6) (N := some 13) #[true, true, true, true, true, true, true, false, false, true, true, false, false, false, false] rfl rfl (one_of HT_.out jK) (by decide) (fun K hK => ?_)
         refine goes_ Tryd.func101 jK rfl #[.int .i64 a0_2] (by rfl) rfl rfl jA ?_
         with_reducible refine (spec_NumText.calls k a0_2 t706 _ A6.out).mono ?_
         rintro e w19 ⟨rfl, hb⟩
         refine ⟨_, rfl, ?_⟩
         replace BK703 := bB BK703 hb
         replace HB := aS (below_step (wS1 HB.out GE703.out) hb)
         (try clear hb)
         (try clear hb2)
         (try clear hk)
         (try clear hi)
         refine hK.out _ _ (c6 BK703.out) (fun hHeld => ?_)
         clear hK K
         refine nA (some 13) ?_
         refine pA HT_ 7 (some 14) #[true, true, true, true, true, true, true, true, false, true, true, false, false, false, false] ?_
         refine pA HT_ 8 (some 15) (tf 11 4) ?_
         refine one_ (i := 11) (N := some 18) (tf 12 3) rfl rfl (one_of HT_.out jK) (by decide) (fun K hK => ?_)
         refine goes_ Tryd.func103 jK rfl #[.int .i64 a0_1] (by rfl) rfl rfl jA ?_
         with_reducible refine (spec_TypeText.calls a0_1 t707 _ A9.out).mono ?_
         rintro e w' ⟨rfl, ⟨nd, rfl⟩⟩
         refine ⟨_, rfl, ?_⟩
         refine hK.out _ _ (c6 BK703.out) (fun hHeld => ?_)
         clear hK K
         refine nA (some 18) ?_
         refine pA HT_ 12 (some 19) (tf 13 2) ?_
         refine pA HT_ 13 (some 20) (tf 14 1) ?_
         refine pA HT_ 14 (some 3) (tf 15 0) ?_
         refine done_ (done_of HT_.out jK) ?_
         have hcz20 := cells6f BK703.out
         try go_wp2_with (first | ((with_reducible refine gate_callee (f := 101) rfl ?_); refine gL (some 28) Tryd.func101 #[.int .i64 a0_3] ?_; (with_reducible refine (spec_NumText.calls k a0_3 t708 _ A13.out).mono ?_); rintro e w21 ⟨rfl, hb⟩; refine ⟨_, rfl, ?_⟩; replace BK703 := bB BK703 hb; replace HB := aS (below_step (wS1 HB.out GE703.out) hb); clear hb))
         go_ret
         exact ⟨jE, by exact wS1 HB.out GE703.out⟩
        ·rw [if_neg c14] at H
         exact absurd H (by simp)
       ·rw [if_neg c12] at H
        have c12b0 := beq_eq_false_iff_ne.mpr c12
        have c12b1 := bne_iff_ne.mpr c12
        by_cases c22 : a0_1 = 6
        ·rw [if_pos c22] at H
         have c22b0 := beq_iff_eq.mpr c22
         have c22b1 := bne_eq_false_iff_eq.mpr c22
         clear c22
         obtain ⟨t709, A23, H⟩ := bM H
         try dsimp only at H
         by_cases c24 : (((((t705 ++ (⟨#[32]⟩ : ByteArray)) ++ t706) ++ (⟨#[32]⟩ : ByteArray)) ++ t707) ++ (⟨#[32]⟩ : ByteArray)).size + t709.size ≤ 9223372036854775807
         ·rw [if_pos c24] at H
          have c24b0 := eq_true c24
          have c24b1 := decide_eq_true c24
          try have c24b2 : (9223372036854775807 < (((((t705 ++ (⟨#[32]⟩ : ByteArray)) ++ t706) ++ (⟨#[32]⟩ : ByteArray)) ++ t707) ++ (⟨#[32]⟩ : ByteArray)).size + t709.size) = False := eq_false (Nat.not_lt.2 c24)
          try have c24b8 : (9223372036854775807 < t705.size + 1 + t706.size + 1 + t707.size + 1 + t709.size) = False := by have q_ := c24b2; simp only [ByteArray.size_append] at q_; exact q_
          by_cases c25 : ((((((t705 ++ (⟨#[32]⟩ : ByteArray)) ++ t706) ++ (⟨#[32]⟩ : ByteArray)) ++ t707) ++ (⟨#[32]⟩ : ByteArray)) ++ t709).size + 1 ≤ 9223372036854775807
          ·rw [if_pos c25] at H
           have c25b0 := eq_true c25
           have c25b1 := decide_eq_true c25
           try have c25b2 : (9223372036854775807 < ((((((t705 ++ (⟨#[32]⟩ : ByteArray)) ++ t706) ++ (⟨#[32]⟩ : ByteArray)) ++ t707) ++ (⟨#[32]⟩ : ByteArray)) ++ t709).size + 1) = False := eq_false (Nat.not_lt.2 c25)
           try have c25b8 : (9223372036854775807 < t705.size + 1 + t706.size + 1 + t707.size + 1 + t709.size + 1) = False := by have q_ := c25b2; simp only [ByteArray.size_append] at q_; exact q_
           obtain ⟨t710, A26, H⟩ := bM H
           try dsimp only at H
           by_cases c27 : (((((((t705 ++ (⟨#[32]⟩ : ByteArray)) ++ t706) ++ (⟨#[32]⟩ : ByteArray)) ++ t707) ++ (⟨#[32]⟩ : ByteArray)) ++ t709) ++ (⟨#[32]⟩ : ByteArray)).size + t710.size ≤ 9223372036854775807
           ·rw [if_pos c27] at H
            have c27b0 := eq_true c27
            have c27b1 := decide_eq_true c27
            try have c27b2 : (9223372036854775807 < (((((((t705 ++ (⟨#[32]⟩ : ByteArray)) ++ t706) ++ (⟨#[32]⟩ : ByteArray)) ++ t707) ++ (⟨#[32]⟩ : ByteArray)) ++ t709) ++ (⟨#[32]⟩ : ByteArray)).size + t710.size) = False := eq_false (Nat.not_lt.2 c27)
            try have c27b8 : (9223372036854775807 < t705.size + 1 + t706.size + 1 + t707.size + 1 + t709.size + 1 + t710.size) = False := by have q_ := c27b2; simp only [ByteArray.size_append] at q_; exact q_
            obtain rfl := Option.some.inj H
            go_enter Tryd.func53, Tryd.ntmps53
            try go_wp2_with (first | ((with_reducible refine gate_dst (N := 1) rfl ?_); refine xB 1 #[.string a0_0, .int .i64 a0_1, .int .i64 a0_2, .int .i64 a0_3, .string a0_4, .string a0_5] 25 ?_; intro gb703 hg w28 hbox hb; have BK703 := aS (hbox); have GW703 := gW hg (wU HB.out); have GE703 := gW hg (wU HB.out); replace HB := aS (below_step (wU HB.out) hb); clear hb hbox hg; have hcz29 := cells6f BK703.out) | ((with_reducible refine gate_callee (f := 54) rfl ?_); refine gL (some 5) Tryd.func54 #[.agg #[.string a0_0, .int .i64 a0_1, .int .i64 a0_2, .int .i64 a0_3, .string a0_4, .string a0_5]] ?_; (with_reducible refine (spec_RecordOk.calls k a0_0 a0_1 a0_2 a0_3 a0_4 a0_5 true _ A2.out).mono ?_); rintro e w30 ⟨rfl, hb⟩; refine ⟨_, rfl, ?_⟩; replace BK703 := bB BK703 hb; replace HB := aS (below_step (wS1 HB.out GE703.out) hb); clear hb))
            replace BK703 := aS (blk_drew BK703.out)
            replace HB := aS (below_drew1 HB.out)
            refine start_ (n := 15) (S := fun w' => w'.cell? ⟨gb703, 0, none⟩ = some (.string a0_0) ∧ w'.cell? ⟨gb703, 1, none⟩ = some (.int .i64 a0_1) ∧ w'.cell? ⟨gb703, 2, none⟩ = some (.int .i64 a0_2) ∧ w'.cell? ⟨gb703, 3, none⟩ = some (.int .i64 a0_3) ∧ w'.cell? ⟨gb703, 4, none⟩ = some (.string a0_4) ∧ w'.cell? ⟨gb703, 5, none⟩ = some (.string a0_5)) (ds := []) #[false, false, false, false, false, false, false, false, false, false, false, false, false, false, false] jK rfl rfl (c6 BK703.out) (fun hHeld => ?_); refine with_tabW spec_RecordText.tab3 spec_RecordText.bits3 (fun HT_ HW_ => ?_)
            generalize w30.drew = w31 at BK703 HB hHeld ⊢
            refine pA HT_ 0 (some 7) (tf 1 14) ?_
            refine pA HT_ 4 (some 11) #[true, false, false, false, true, false, false, false, false, false, false, false, false, false, false] ?_
            refine pA HT_ 9 (some 16) #[true, false, false, false, true, false, false, false, false, true, false, false, false, false, false] ?_
            refine tA HT_ HW_ hHeld 1 (some 8) #[true, true, false, false, true, false, false, false, false, true, false, false, false, false, false] ?_
            refine tA HT_ HW_ hHeld 5 (some 12) #[true, true, false, false, true, true, false, false, false, true, false, false, false, false, false] ?_
            refine tA HT_ HW_ hHeld 10 (some 17) #[true, true, false, false, true, true, false, false, false, true, true, false, false, false, false] ?_
            refine one_ (i := 2) (N := some 9) #[true, true, true, false, true, true, false, false, false, true, true, false, false, false, false] rfl rfl (one_of HT_.out jK) (by decide) (fun K hK => ?_)
            refine goes_ Tryd.func102 jK rfl #[.string a0_0] (by rfl) rfl rfl jA ?_
            with_reducible refine (spec_l5Dot.calls a0_0 t705 _ A4.out).mono ?_
            rintro e w' ⟨rfl, ⟨nd, rfl⟩⟩
            refine ⟨_, rfl, ?_⟩
            refine hK.out _ _ (c6 BK703.out) (fun hHeld => ?_)
            clear hK K
            refine nA (some 9) ?_
            refine pA HT_ 3 (some 10) #[true, true, true, true, true, true, false, false, false, true, true, false, false, false, false] ?_
            refine one_ (i := 6) (N := some 13) #[true, true, true, true, true, true, true, false, false, true, true, false, false, false, false] rfl rfl (one_of HT_.out jK) (by decide) (fun K hK => ?_)
            refine goes_ Tryd.func101 jK rfl #[.int .i64 a0_2] (by rfl) rfl rfl jA ?_
            with_reducible refine (spec_NumText.calls k a0_2 t706 _ A6.out).mono ?_
            rintro e w32 ⟨rfl, hb⟩
            refine ⟨_, rfl, ?_⟩
            replace BK703 := bB BK703 hb
            replace HB := aS (below_step (wS1 HB.out GE703.out) hb)
            (try clear hb)
            (try clear hb2)
            (try clear hk)
            (try clear hi)
            refine hK.out _ _ (c6 BK703.out) (fun hHeld => ?_)
            clear hK K
            refine nA (some 13) ?_
            refine pA HT_ 7 (some 14) #[true, true, true, true, true, true, true, true, false, true, true, false, false, false, false] ?_
            refine pA HT_ 8 (some 15) (tf 11 4) ?_
            refine one_ (i := 11) (N := some 18) (tf 12 3) rfl rfl (one_of HT_.out jK) (by decide) (fun K hK => ?_)
            refine goes_ Tryd.func103 jK rfl #[.int .i64 a0_1] (by rfl) rfl rfl jA ?_
            with_reducible refine (spec_TypeText.calls a0_1 t707 _ A9.out).mono ?_
            rintro e w' ⟨rfl, ⟨nd, rfl⟩⟩
            refine ⟨_, rfl, ?_⟩
            refine hK.out _ _ (c6 BK703.out) (fun hHeld => ?_)
            clear hK K
            refine nA (some 18) ?_
            refine pA HT_ 12 (some 19) (tf 13 2) ?_
            refine pA HT_ 13 (some 20) (tf 14 1) ?_
            refine pA HT_ 14 (some 3) (tf 15 0) ?_
            refine done_ (done_of HT_.out jK) ?_
            have hcz33 := cells6f BK703.out
            try go_wp2
            (try (rw [drewN_self w32]; generalize hq_ : World.drewN w32 _ = w32; have n0_ : Aside0 (w32.heap[gb703]? = some (.cells #[.string a0_0, .int .i64 a0_1, .int .i64 a0_2, .int .i64 a0_3, .string a0_4, .string a0_5] 25 (0, 0))) := ⟨by rw [← hq_]; exact (bU BK703.out)⟩; have n1_ : Aside0 (Below w.heap.size w w32) := ⟨by rw [← hq_]; exact (wS1 HB.out GE703.out)⟩; clear BK703 HB hq_; revert n0_ n1_; intro BK703 HB))
            replace BK703 := aS (blk_drew BK703.out)
            replace HB := aS (below_drew1 HB.out)
            refine start_ (n := 11) (S := fun w' => w'.cell? ⟨gb703, 0, none⟩ = some (.string a0_0) ∧ w'.cell? ⟨gb703, 1, none⟩ = some (.int .i64 a0_1) ∧ w'.cell? ⟨gb703, 2, none⟩ = some (.int .i64 a0_2) ∧ w'.cell? ⟨gb703, 3, none⟩ = some (.int .i64 a0_3) ∧ w'.cell? ⟨gb703, 4, none⟩ = some (.string a0_4) ∧ w'.cell? ⟨gb703, 5, none⟩ = some (.string a0_5)) (ds := []) #[false, false, false, false, false, false, false, false, false, false, false] jK rfl rfl (c6 BK703.out) (fun hHeld => ?_); refine with_tabW spec_RecordText.tab8 spec_RecordText.bits8 (fun HT_ HW_ => ?_)
            generalize w32.drew = w34 at BK703 HB hHeld ⊢
            refine pA HT_ 0 (some 32) (tf 1 10) ?_
            refine pA HT_ 1 (some 33) (tf 2 9) ?_
            refine pA HT_ 6 (some 38) #[true, true, false, false, false, false, true, false, false, false, false] ?_
            refine tA HT_ HW_ hHeld 2 (some 34) #[true, true, true, false, false, false, true, false, false, false, false] ?_
            refine tA HT_ HW_ hHeld 7 (some 39) #[true, true, true, false, false, false, true, true, false, false, false] ?_
            refine one_ (i := 3) (N := some 35) #[true, true, true, true, false, false, true, true, false, false, false] rfl rfl (one_of HT_.out jK) (by decide) (fun K hK => ?_)
            refine goes_ Tryd.func102 jK rfl #[.string a0_4] (by rfl) rfl rfl jA ?_
            with_reducible refine (spec_l5Dot.calls a0_4 t709 _ A23.out).mono ?_
            rintro e w' ⟨rfl, ⟨nd, rfl⟩⟩
            refine ⟨_, rfl, ?_⟩
            refine hK.out _ _ (c6 BK703.out) (fun hHeld => ?_)
            clear hK K
            refine nA (some 35) ?_
            refine pA HT_ 4 (some 36) #[true, true, true, true, true, false, true, true, false, false, false] ?_
            refine pA HT_ 5 (some 37) (tf 8 3) ?_
            refine one_ (i := 8) (N := some 40) (tf 9 2) rfl rfl (one_of HT_.out jK) (by decide) (fun K hK => ?_)
            refine goes_ Tryd.func101 jK rfl #[.int .i64 a0_3] (by rfl) rfl rfl jA ?_
            with_reducible refine (spec_NumText.calls k a0_3 t710 _ A26.out).mono ?_
            rintro e w35 ⟨rfl, hb⟩
            refine ⟨_, rfl, ?_⟩
            replace BK703 := bB BK703 hb
            replace HB := aS (below_step (wS1 HB.out GE703.out) hb)
            (try clear hb)
            (try clear hb2)
            (try clear hk)
            (try clear hi)
            refine hK.out _ _ (c6 BK703.out) (fun hHeld => ?_)
            clear hK K
            refine nA (some 40) ?_
            refine pA HT_ 9 (some 41) (tf 10 1) ?_
            refine pA HT_ 10 (some 2) (tf 11 0) ?_
            refine done_ (done_of HT_.out jK) ?_
            try go_wp2
            go_ret
            exact ⟨jE, by exact wS1 HB.out GE703.out⟩
           ·rw [if_neg c27] at H
            exact absurd H (by simp)
          ·rw [if_neg c25] at H
           exact absurd H (by simp)
         ·rw [if_neg c24] at H
          exact absurd H (by simp)
        ·rw [if_neg c22] at H
         have c22b0 := beq_eq_false_iff_ne.mpr c22
         have c22b1 := bne_iff_ne.mpr c22
         by_cases c36 : a0_1 = 16
         ·rw [if_pos c36] at H
          have c36b0 := beq_iff_eq.mpr c36
          have c36b1 := bne_eq_false_iff_eq.mpr c36
          clear c36
          by_cases c37 : (((((t705 ++ (⟨#[32]⟩ : ByteArray)) ++ t706) ++ (⟨#[32]⟩ : ByteArray)) ++ t707) ++ (⟨#[32]⟩ : ByteArray)).size + 1 ≤ 9223372036854775807
          ·rw [if_pos c37] at H
           have c37b0 := eq_true c37
           have c37b1 := decide_eq_true c37
           try have c37b2 : (9223372036854775807 < (((((t705 ++ (⟨#[32]⟩ : ByteArray)) ++ t706) ++ (⟨#[32]⟩ : ByteArray)) ++ t707) ++ (⟨#[32]⟩ : ByteArray)).size + 1) = False := eq_false (Nat.not_lt.2 c37)
           try have c37b8 : (9223372036854775807 < t705.size + 1 + t706.size + 1 + t707.size + 1 + 1) = False := by have q_ := c37b2; simp only [ByteArray.size_append] at q_; exact q_
           by_cases c38 : ((((((t705 ++ (⟨#[32]⟩ : ByteArray)) ++ t706) ++ (⟨#[32]⟩ : ByteArray)) ++ t707) ++ (⟨#[32]⟩ : ByteArray)) ++ (⟨#[39]⟩ : ByteArray)).size + a0_5.size ≤ 9223372036854775807
           ·rw [if_pos c38] at H
            have c38b0 := eq_true c38
            have c38b1 := decide_eq_true c38
            try have c38b2 : (9223372036854775807 < ((((((t705 ++ (⟨#[32]⟩ : ByteArray)) ++ t706) ++ (⟨#[32]⟩ : ByteArray)) ++ t707) ++ (⟨#[32]⟩ : ByteArray)) ++ (⟨#[39]⟩ : ByteArray)).size + a0_5.size) = False := eq_false (Nat.not_lt.2 c38)
            try have c38b8 : (9223372036854775807 < t705.size + 1 + t706.size + 1 + t707.size + 1 + 1 + a0_5.size) = False := by have q_ := c38b2; simp only [ByteArray.size_append] at q_; exact q_
            obtain rfl := Option.some.inj H
            go_enter Tryd.func53, Tryd.ntmps53
            try go_wp2_with (first | ((with_reducible refine gate_dst (N := 1) rfl ?_); refine xB 1 #[.string a0_0, .int .i64 a0_1, .int .i64 a0_2, .int .i64 a0_3, .string a0_4, .string a0_5] 25 ?_; intro gb703 hg w39 hbox hb; have BK703 := aS (hbox); have GW703 := gW hg (wU HB.out); have GE703 := gW hg (wU HB.out); replace HB := aS (below_step (wU HB.out) hb); clear hb hbox hg; have hcz40 := cells6f BK703.out) | ((with_reducible refine gate_callee (f := 54) rfl ?_); refine gL (some 5) Tryd.func54 #[.agg #[.string a0_0, .int .i64 a0_1, .int .i64 a0_2, .int .i64 a0_3, .string a0_4, .string a0_5]] ?_; (with_reducible refine (spec_RecordOk.calls k a0_0 a0_1 a0_2 a0_3 a0_4 a0_5 true _ A2.out).mono ?_); rintro e w41 ⟨rfl, hb⟩; refine ⟨_, rfl, ?_⟩; replace BK703 := bB BK703 hb; replace HB := aS (below_step (wS1 HB.out GE703.out) hb); clear hb))
            replace BK703 := aS (blk_drew BK703.out)
            replace HB := aS (below_drew1 HB.out)
            refine start_ (n := 15) (S := fun w' => w'.cell? ⟨gb703, 0, none⟩ = some (.string a0_0) ∧ w'.cell? ⟨gb703, 1, none⟩ = some (.int .i64 a0_1) ∧ w'.cell? ⟨gb703, 2, none⟩ = some (.int .i64 a0_2) ∧ w'.cell? ⟨gb703, 3, none⟩ = some (.int .i64 a0_3) ∧ w'.cell? ⟨gb703, 4, none⟩ = some (.string a0_4) ∧ w'.cell? ⟨gb703, 5, none⟩ = some (.string a0_5)) (ds := []) #[false, false, false, false, false, false, false, false, false, false, false, false, false, false, false] jK rfl rfl (c6 BK703.out) (fun hHeld => ?_); refine with_tabW spec_RecordText.tab3 spec_RecordText.bits3 (fun HT_ HW_ => ?_)
            generalize w41.drew = w42 at BK703 HB hHeld ⊢
            refine pA HT_ 0 (some 7) (tf 1 14) ?_
            refine pA HT_ 4 (some 11) #[true, false, false, false, true, false, false, false, false, false, false, false, false, false, false] ?_
            refine pA HT_ 9 (some 16) #[true, false, false, false, true, false, false, false, false, true, false, false, false, false, false] ?_
            refine tA HT_ HW_ hHeld 1 (some 8) #[true, true, false, false, true, false, false, false, false, true, false, false, false, false, false] ?_
            refine tA HT_ HW_ hHeld 5 (some 12) #[true, true, false, false, true, true, false, false, false, true, false, false, false, false, false] ?_
            refine tA HT_ HW_ hHeld 10 (some 17) #[true, true, false, false, true, true, false, false, false, true, true, false, false, false, false] ?_
            refine one_ (i := 2) (N := some 9) #[true, true, true, false, true, true, false, false, false, true, true, false, false, false, false] rfl rfl (one_of HT_.out jK) (by decide) (fun K hK => ?_)
            refine goes_ Tryd.func102 jK rfl #[.string a0_0] (by rfl) rfl rfl jA ?_
            with_reducible refine (spec_l5Dot.calls a0_0 t705 _ A4.out).mono ?_
            rintro e w' ⟨rfl, ⟨nd, rfl⟩⟩
            refine ⟨_, rfl, ?_⟩
            refine hK.out _ _ (c6 BK703.out) (fun hHeld => ?_)
            clear hK K
            refine nA (some 9) ?_
            refine pA HT_ 3 (some 10) #[true, true, true, true, true, true, false, false, false, true, true, false, false, false, false] ?_
            refine one_ (i := 6) (N := some 13) #[true, true, true, true, true, true, true, false, false, true, true, false, false, false, false] rfl rfl (one_of HT_.out jK) (by decide) (fun K hK => ?_)
            refine goes_ Tryd.func101 jK rfl #[.int .i64 a0_2] (by rfl) rfl rfl jA ?_
            with_reducible refine (spec_NumText.calls k a0_2 t706 _ A6.out).mono ?_
            rintro e w43 ⟨rfl, hb⟩
            refine ⟨_, rfl, ?_⟩
            replace BK703 := bB BK703 hb
            replace HB := aS (below_step (wS1 HB.out GE703.out) hb)
            (try clear hb)
            (try clear hb2)
            (try clear hk)
            (try clear hi)
            refine hK.out _ _ (c6 BK703.out) (fun hHeld => ?_)
            clear hK K
            refine nA (some 13) ?_
            refine pA HT_ 7 (some 14) #[true, true, true, true, true, true, true, true, false, true, true, false, false, false, false] ?_
            refine pA HT_ 8 (some 15) (tf 11 4) ?_
            refine one_ (i := 11) (N := some 18) (tf 12 3) rfl rfl (one_of HT_.out jK) (by decide) (fun K hK => ?_)
            refine goes_ Tryd.func103 jK rfl #[.int .i64 a0_1] (by rfl) rfl rfl jA ?_
            with_reducible refine (spec_TypeText.calls a0_1 t707 _ A9.out).mono ?_
            rintro e w' ⟨rfl, ⟨nd, rfl⟩⟩
            refine ⟨_, rfl, ?_⟩
            refine hK.out _ _ (c6 BK703.out) (fun hHeld => ?_)
            clear hK K
            refine nA (some 18) ?_
            refine pA HT_ 12 (some 19) (tf 13 2) ?_
            refine pA HT_ 13 (some 20) (tf 14 1) ?_
            refine pA HT_ 14 (some 3) (tf 15 0) ?_
            refine done_ (done_of HT_.out jK) ?_
            have hcz44 := cells6f BK703.out
            try go_wp2
            go_ret
            exact ⟨jE, by exact wS1 HB.out GE703.out⟩
           ·rw [if_neg c38] at H
            exact absurd H (by simp)
          ·rw [if_neg c37] at H
           exact absurd H (by simp)
         ·rw [if_neg c36] at H
          have c36b0 := beq_eq_false_iff_ne.mpr c36
          have c36b1 := bne_iff_ne.mpr c36
          obtain ⟨t711, A45, H⟩ := bM H
          try dsimp only at H
          by_cases c46 : (((((t705 ++ (⟨#[32]⟩ : ByteArray)) ++ t706) ++ (⟨#[32]⟩ : ByteArray)) ++ t707) ++ (⟨#[32]⟩ : ByteArray)).size + t711.size ≤ 9223372036854775807
          ·rw [if_pos c46] at H
           have c46b0 := eq_true c46
           have c46b1 := decide_eq_true c46
           try have c46b2 : (9223372036854775807 < (((((t705 ++ (⟨#[32]⟩ : ByteArray)) ++ t706) ++ (⟨#[32]⟩ : ByteArray)) ++ t707) ++ (⟨#[32]⟩ : ByteArray)).size + t711.size) = False := eq_false (Nat.not_lt.2 c46)
           try have c46b8 : (9223372036854775807 < t705.size + 1 + t706.size + 1 + t707.size + 1 + t711.size) = False := by have q_ := c46b2; simp only [ByteArray.size_append] at q_; exact q_
           obtain rfl := Option.some.inj H
           go_enter Tryd.func53, Tryd.ntmps53
           try go_wp2_with (first | ((with_reducible refine gate_dst (N := 1) rfl ?_); refine xB 1 #[.string a0_0, .int .i64 a0_1, .int .i64 a0_2, .int .i64 a0_3, .string a0_4, .string a0_5] 25 ?_; intro gb703 hg w47 hbox hb; have BK703 := aS (hbox); have GW703 := gW hg (wU HB.out); have GE703 := gW hg (wU HB.out); replace HB := aS (below_step (wU HB.out) hb); clear hb hbox hg; have hcz48 := cells6f BK703.out) | ((with_reducible refine gate_callee (f := 54) rfl ?_); refine gL (some 5) Tryd.func54 #[.agg #[.string a0_0, .int .i64 a0_1, .int .i64 a0_2, .int .i64 a0_3, .string a0_4, .string a0_5]] ?_; (with_reducible refine (spec_RecordOk.calls k a0_0 a0_1 a0_2 a0_3 a0_4 a0_5 true _ A2.out).mono ?_); rintro e w49 ⟨rfl, hb⟩; refine ⟨_, rfl, ?_⟩; replace BK703 := bB BK703 hb; replace HB := aS (below_step (wS1 HB.out GE703.out) hb); clear hb))
           replace BK703 := aS (blk_drew BK703.out)
           replace HB := aS (below_drew1 HB.out)
           refine start_ (n := 15) (S := fun w' => w'.cell? ⟨gb703, 0, none⟩ = some (.string a0_0) ∧ w'.cell? ⟨gb703, 1, none⟩ = some (.int .i64 a0_1) ∧ w'.cell? ⟨gb703, 2, none⟩ = some (.int .i64 a0_2) ∧ w'.cell? ⟨gb703, 3, none⟩ = some (.int .i64 a0_3) ∧ w'.cell? ⟨gb703, 4, none⟩ = some (.string a0_4) ∧ w'.cell? ⟨gb703, 5, none⟩ = some (.string a0_5)) (ds := []) #[false, false, false, false, false, false, false, false, false, false, false, false, false, false, false] jK rfl rfl (c6 BK703.out) (fun hHeld => ?_); refine with_tabW spec_RecordText.tab3 spec_RecordText.bits3 (fun HT_ HW_ => ?_)
           generalize w49.drew = w50 at BK703 HB hHeld ⊢
           refine pA HT_ 0 (some 7) (tf 1 14) ?_
           refine pA HT_ 4 (some 11) #[true, false, false, false, true, false, false, false, false, false, false, false, false, false, false] ?_
           refine pA HT_ 9 (some 16) #[true, false, false, false, true, false, false, false, false, true, false, false, false, false, false] ?_
           refine tA HT_ HW_ hHeld 1 (some 8) #[true, true, false, false, true, false, false, false, false, true, false, false, false, false, false] ?_
           refine tA HT_ HW_ hHeld 5 (some 12) #[true, true, false, false, true, true, false, false, false, true, false, false, false, false, false] ?_
           refine tA HT_ HW_ hHeld 10 (some 17) #[true, true, false, false, true, true, false, false, false, true, true, false, false, false, false] ?_
           refine one_ (i := 2) (N := some 9) #[true, true, true, false, true, true, false, false, false, true, true, false, false, false, false] rfl rfl (one_of HT_.out jK) (by decide) (fun K hK => ?_)
           refine goes_ Tryd.func102 jK rfl #[.string a0_0] (by rfl) rfl rfl jA ?_
           with_reducible refine (spec_l5Dot.calls a0_0 t705 _ A4.out).mono ?_
           rintro e w' ⟨rfl, ⟨nd, rfl⟩⟩
           refine ⟨_, rfl, ?_⟩
           refine hK.out _ _ (c6 BK703.out) (fun hHeld => ?_)
           clear hK K
           refine nA (some 9) ?_
           refine pA HT_ 3 (some 10) #[true, true, true, true, true, true, false, false, false, true, true, false, false, false, false] ?_
           refine one_ (i := 6) (N := some 13) #[true, true, true, true, true, true, true, false, false, true, true, false, false, false, false] rfl rfl (one_of HT_.out jK) (by decide) (fun K hK => ?_)
           refine goes_ Tryd.func101 jK rfl #[.int .i64 a0_2] (by rfl) rfl rfl jA ?_
           with_reducible refine (spec_NumText.calls k a0_2 t706 _ A6.out).mono ?_
           rintro e w51 ⟨rfl, hb⟩
           refine ⟨_, rfl, ?_⟩
           replace BK703 := bB BK703 hb
           replace HB := aS (below_step (wS1 HB.out GE703.out) hb)
           (try clear hb)
           (try clear hb2)
           (try clear hk)
           (try clear hi)
           refine hK.out _ _ (c6 BK703.out) (fun hHeld => ?_)
           clear hK K
           refine nA (some 13) ?_
           refine pA HT_ 7 (some 14) #[true, true, true, true, true, true, true, true, false, true, true, false, false, false, false] ?_
           refine pA HT_ 8 (some 15) (tf 11 4) ?_
           refine one_ (i := 11) (N := some 18) (tf 12 3) rfl rfl (one_of HT_.out jK) (by decide) (fun K hK => ?_)
           refine goes_ Tryd.func103 jK rfl #[.int .i64 a0_1] (by rfl) rfl rfl jA ?_
           with_reducible refine (spec_TypeText.calls a0_1 t707 _ A9.out).mono ?_
           rintro e w' ⟨rfl, ⟨nd, rfl⟩⟩
           refine ⟨_, rfl, ?_⟩
           refine hK.out _ _ (c6 BK703.out) (fun hHeld => ?_)
           clear hK K
           refine nA (some 18) ?_
           refine pA HT_ 12 (some 19) (tf 13 2) ?_
           refine pA HT_ 13 (some 20) (tf 14 1) ?_
           refine pA HT_ 14 (some 3) (tf 15 0) ?_
           refine done_ (done_of HT_.out jK) ?_
           have hcz52 := cells6f BK703.out
           try go_wp2_with (first | ((with_reducible refine gate_callee (f := 102) rfl ?_); refine gL (some 52) Tryd.func102 #[.string a0_4] ?_; (with_reducible refine (spec_l5Dot.calls a0_4 t711 _ A45.out).mono ?_); rintro e w' ⟨rfl, ⟨nd, rfl⟩⟩; refine ⟨_, rfl, ?_⟩))
           go_ret
           exact ⟨jE, by exact wS1 HB.out GE703.out⟩
          ·rw [if_neg c46] at H
           exact absurd H (by simp)
      ·rw [if_neg c11] at H
       exact absurd H (by simp)
     ·rw [if_neg c10] at H
      exact absurd H (by simp)
    ·rw [if_neg c8] at H
     exact absurd H (by simp)
   ·rw [if_neg c7] at H
    exact absurd H (by simp)
  ·rw [if_neg c5] at H
   exact absurd H (by simp)
 ·replace c3 := Bool.eq_false_iff.mpr c3
  subst c3
  rw [if_neg Bool.false_ne_true] at H
  obtain rfl := Option.some.inj H
  go_enter Tryd.func53, Tryd.ntmps53
  go_wp2_with (first | ((with_reducible refine gate_dst (N := 1) rfl ?_); refine xB 1 #[.string a0_0, .int .i64 a0_1, .int .i64 a0_2, .int .i64 a0_3, .string a0_4, .string a0_5] 25 ?_; intro gb703 hg w53 hbox hb; have BK703 := aS (hbox); have GW703 := gW hg (wU HB.out); have GE703 := gW hg (wU HB.out); replace HB := aS (below_step (wU HB.out) hb); clear hb hbox hg; have hcz54 := cells6f BK703.out) | ((with_reducible refine gate_callee (f := 54) rfl ?_); refine gL (some 5) Tryd.func54 #[.agg #[.string a0_0, .int .i64 a0_1, .int .i64 a0_2, .int .i64 a0_3, .string a0_4, .string a0_5]] ?_; (with_reducible refine (spec_RecordOk.calls k a0_0 a0_1 a0_2 a0_3 a0_4 a0_5 false _ A2.out).mono ?_); rintro e w55 ⟨rfl, hb⟩; refine ⟨_, rfl, ?_⟩; replace BK703 := bB BK703 hb; replace HB := aS (below_step (wS1 HB.out GE703.out) hb); clear hb))
  go_ret
  exact ⟨jE, by exact wS1 HB.out GE703.out⟩

end Go.Proofs.YtdigilidomimdaaDoor.Pr
