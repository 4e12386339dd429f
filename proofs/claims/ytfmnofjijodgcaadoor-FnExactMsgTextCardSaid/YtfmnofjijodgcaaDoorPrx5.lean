-- Written for this claim by a program of this session (wip/tool/pr.py, over the kit's printer).
-- half
import Derived.Test.YtfmnofjijodgcaaDoorPrx0
import Derived.Test.YtfmnofjijodgcaaDoorPrx4
namespace Go.Proofs.YtfmnofjijodgcaaDoor.Pr
open Go.RowKit Go.Proofs.YtfmnofjijodgcaaDoorW.PrintWords Go.Proofs.YtfmnofjijodgcaaDoorW.PrintLast Go.Proofs.YtfmnofjijodgcaaDoorW.PrintMore
attribute [local go_sem] max2_int min2_int max_two min_two max_three min_three max_four min_four   -- for this text's walks alone
set_option linter.unusedVariables false
set_option linter.unusedSimpArgs false

/-! ### spec_RecordText: function 22 -/
def spec_RecordText.f (k : Nat) (a0_0 : ByteArray) (a0_1 : Int) (a0_2 : Int) (a0_3 : Int) (a0_4 : ByteArray) (a0_5 : ByteArray) : Option (ByteArray) := (spec_RecordOk.f k a0_0 a0_1 a0_2 a0_3 a0_4 a0_5).bind fun t200 => (if t200 = true then ((spec_l5Dot.f a0_0).bind fun t201 => (if t201.size + 1 ≤ 9223372036854775807 then ((spec_NumText.f k a0_2).bind fun t202 => (if (t201 ++ (⟨#[32]⟩ : ByteArray)).size + t202.size ≤ 9223372036854775807 then (if ((t201 ++ (⟨#[32]⟩ : ByteArray)) ++ t202).size + 1 ≤ 9223372036854775807 then ((spec_TypeText.f a0_1).bind fun t203 => (if (((t201 ++ (⟨#[32]⟩ : ByteArray)) ++ t202) ++ (⟨#[32]⟩ : ByteArray)).size + t203.size ≤ 9223372036854775807 then (if ((((t201 ++ (⟨#[32]⟩ : ByteArray)) ++ t202) ++ (⟨#[32]⟩ : ByteArray)) ++ t203).size + 1 ≤ 9223372036854775807 then (if a0_1 = 1 then ((spec_NumText.f k a0_3).bind fun t204 => (if (((((t201 ++ (⟨#[32]⟩ : ByteArray)) ++ t202) ++ (⟨#[32]⟩ : ByteArray)) ++ t203) ++ (⟨#[32]⟩ : ByteArray)).size + t204.size ≤ 9223372036854775807 then (some ((((((t201 ++ (⟨#[32]⟩ : ByteArray)) ++ t202) ++ (⟨#[32]⟩ : ByteArray)) ++ t203) ++ (⟨#[32]⟩ : ByteArray)) ++ t204)) else (none))) else (if a0_1 = 6 then ((spec_l5Dot.f a0_4).bind fun t205 => (if (((((t201 ++ (⟨#[32]⟩ : ByteArray)) ++ t202) ++ (⟨#[32]⟩ : ByteArray)) ++ t203) ++ (⟨#[32]⟩ : ByteArray)).size + t205.size ≤ 9223372036854775807 then (if ((((((t201 ++ (⟨#[32]⟩ : ByteArray)) ++ t202) ++ (⟨#[32]⟩ : ByteArray)) ++ t203) ++ (⟨#[32]⟩ : ByteArray)) ++ t205).size + 1 ≤ 9223372036854775807 then ((spec_NumText.f k a0_3).bind fun t206 => (if (((((((t201 ++ (⟨#[32]⟩ : ByteArray)) ++ t202) ++ (⟨#[32]⟩ : ByteArray)) ++ t203) ++ (⟨#[32]⟩ : ByteArray)) ++ t205) ++ (⟨#[32]⟩ : ByteArray)).size + t206.size ≤ 9223372036854775807 then (some ((((((((t201 ++ (⟨#[32]⟩ : ByteArray)) ++ t202) ++ (⟨#[32]⟩ : ByteArray)) ++ t203) ++ (⟨#[32]⟩ : ByteArray)) ++ t205) ++ (⟨#[32]⟩ : ByteArray)) ++ t206)) else (none))) else (none)) else (none))) else (if a0_1 = 16 then (if (((((t201 ++ (⟨#[32]⟩ : ByteArray)) ++ t202) ++ (⟨#[32]⟩ : ByteArray)) ++ t203) ++ (⟨#[32]⟩ : ByteArray)).size + 1 ≤ 9223372036854775807 then (if ((((((t201 ++ (⟨#[32]⟩ : ByteArray)) ++ t202) ++ (⟨#[32]⟩ : ByteArray)) ++ t203) ++ (⟨#[32]⟩ : ByteArray)) ++ (⟨#[39]⟩ : ByteArray)).size + a0_5.size ≤ 9223372036854775807 then (some (((((((t201 ++ (⟨#[32]⟩ : ByteArray)) ++ t202) ++ (⟨#[32]⟩ : ByteArray)) ++ t203) ++ (⟨#[32]⟩ : ByteArray)) ++ (⟨#[39]⟩ : ByteArray)) ++ a0_5)) else (none)) else (none)) else ((spec_l5Dot.f a0_4).bind fun t207 => (if (((((t201 ++ (⟨#[32]⟩ : ByteArray)) ++ t202) ++ (⟨#[32]⟩ : ByteArray)) ++ t203) ++ (⟨#[32]⟩ : ByteArray)).size + t207.size ≤ 9223372036854775807 then (some ((((((t201 ++ (⟨#[32]⟩ : ByteArray)) ++ t202) ++ (⟨#[32]⟩ : ByteArray)) ++ t203) ++ (⟨#[32]⟩ : ByteArray)) ++ t207)) else (none)))))) else (none)) else (none))) else (none)) else (none))) else (none))) else (some (⟨#[]⟩ : ByteArray)))
theorem spec_RecordText.mono : ∀ a0 a1 a2 a3 a4 a5 k, LeO (spec_RecordText.f k a0 a1 a2 a3 a4 a5) (spec_RecordText.f (k + 1) a0 a1 a2 a3 a4 a5) := by
 intro a0 a1 a2 a3 a4 a5 k
 unfold spec_RecordText.f
 repeat' first
   | (with_reducible first | exact spec_NumText.mono _ _ | exact spec_RecordOk.mono _ _ _ _ _ _ _ | exact LeO.refl _ | exact LeO.none _ | refine LeO.ite ?_ ?_ | refine LeO.bind ?_ (fun _ => ?_))
   | exact spec_NumText.mono _ _
   | exact spec_RecordOk.mono _ _ _ _ _ _ _
   | exact LeO.none _
   | refine LeO.ite ?_ ?_
   | refine LeO.bind ?_ (fun _ => ?_)
def spec_RecordText.T3 : Bool × List (List Nat × List Nat) := (true, [([], []), ([0], [0]), ([1], [1]), ([2], [2]), ([], []), ([4], [4]), ([5, 2], [5]), ([3, 6], [3, 6]), ([7], [7]), ([], []), ([9], [9]), ([10, 6], [10]), ([8, 11], [8, 11]), ([12], [12]), ([13, 11, 0, 1, 2, 3, 4, 5, 6, 7, 8, 9, 10, 11, 12, 13], [13])])
def spec_RecordText.B3 : List Nat := [0, 1, 3, 7, 0, 16, 55, 127, 255, 0, 512, 1655, 4095, 8191, 16383]
theorem spec_RecordText.tab3 : rtab .any (opsOf Tryd.f22 3) = spec_RecordText.T3 := by kernel_rfl
theorem spec_RecordText.bits3 : waitsOk spec_RecordText.T3.2 spec_RecordText.B3 = true := by kernel_rfl
def spec_RecordText.T8 : Bool × List (List Nat × List Nat) := (true, [([], []), ([], []), ([1], [1]), ([2], [2]), ([0, 3], [0, 3]), ([4], [4]), ([], []), ([6], [6]), ([7, 3], [7]), ([5, 8], [5, 8]), ([9, 8, 0, 1, 2, 3, 4, 5, 6, 7, 8, 9], [9])])
def spec_RecordText.B8 : List Nat := [0, 0, 2, 6, 15, 31, 0, 64, 206, 511, 1023]
theorem spec_RecordText.tab8 : rtab .any (opsOf Tryd.f22 8) = spec_RecordText.T8 := by kernel_rfl
theorem spec_RecordText.bits8 : waitsOk spec_RecordText.T8.2 spec_RecordText.B8 = true := by kernel_rfl
set_option maxHeartbeats 8000000 in
set_option maxRecDepth 100000 in
theorem spec_RecordText.calls (k : Nat) (a0_0 : ByteArray) (a0_1 : Int) (a0_2 : Int) (a0_3 : Int) (a0_4 : ByteArray) (a0_5 : ByteArray) (r : ByteArray) (w : World) (h : spec_RecordText.f k a0_0 a0_1 a0_2 a0_3 a0_4 a0_5 = some r) :
  Calls Tryd.prog 22 #[.agg #[.string a0_0, .int .i64 a0_1, .int .i64 a0_2, .int .i64 a0_3, .string a0_4, .string a0_5]] w fun e w' => e = .returned (.string r) ∧ Below w.heap.size w w' := by
 have hu33 := Tryd.underlying33
 have HB := aS (Below.refl w.heap.size w)
 have H : ((spec_RecordOk.f k a0_0 a0_1 a0_2 a0_3 a0_4 a0_5).bind fun t200 => (if t200 = true then ((spec_l5Dot.f a0_0).bind fun t201 => (if t201.size + 1 ≤ 9223372036854775807 then ((spec_NumText.f k a0_2).bind fun t202 => (if (t201 ++ (⟨#[32]⟩ : ByteArray)).size + t202.size ≤ 9223372036854775807 then (if ((t201 ++ (⟨#[32]⟩ : ByteArray)) ++ t202).size + 1 ≤ 9223372036854775807 then ((spec_TypeText.f a0_1).bind fun t203 => (if (((t201 ++ (⟨#[32]⟩ : ByteArray)) ++ t202) ++ (⟨#[32]⟩ : ByteArray)).size + t203.size ≤ 9223372036854775807 then (if ((((t201 ++ (⟨#[32]⟩ : ByteArray)) ++ t202) ++ (⟨#[32]⟩ : ByteArray)) ++ t203).size + 1 ≤ 9223372036854775807 then (if a0_1 = 1 then ((spec_NumText.f k a0_3).bind fun t204 => (if (((((t201 ++ (⟨#[32]⟩ : ByteArray)) ++ t202) ++ (⟨#[32]⟩ : ByteArray)) ++ t203) ++ (⟨#[32]⟩ : ByteArray)).size + t204.size ≤ 9223372036854775807 then (some ((((((t201 ++ (⟨#[32]⟩ : ByteArray)) ++ t202) ++ (⟨#[32]⟩ : ByteArray)) ++ t203) ++ (⟨#[32]⟩ : ByteArray)) ++ t204)) else (none))) else (if a0_1 = 6 then ((spec_l5Dot.f a0_4).bind fun t205 => (if (((((t201 ++ (⟨#[32]⟩ : ByteArray)) ++ t202) ++ (⟨#[32]⟩ : ByteArray)) ++ t203) ++ (⟨#[32]⟩ : ByteArray)).size + t205.size ≤ 9223372036854775807 then (if ((((((t201 ++ (⟨#[32]⟩ : ByteArray)) ++ t202) ++ (⟨#[32]⟩ : ByteArray)) ++ t203) ++ (⟨#[32]⟩ : ByteArray)) ++ t205).size + 1 ≤ 9223372036854775807 then ((spec_NumText.f k a0_3).bind fun t206 => (if (((((((t201 ++ (⟨#[32]⟩ : ByteArray)) ++ t202) ++ (⟨#[32]⟩ : ByteArray)) ++ t203) ++ (⟨#[32]⟩ : ByteArray)) ++ t205) ++ (⟨#[32]⟩ : ByteArray)).size + t206.size ≤ 9223372036854775807 then (some ((((((((t201 ++ (⟨#[32]⟩ : ByteArray)) ++ t202) ++ (⟨#[32]⟩ : ByteArray)) ++ t203) ++ (⟨#[32]⟩ : ByteArray)) ++ t205) ++ (⟨#[32]⟩ : ByteArray)) ++ t206)) else (none))) else (none)) else (none))) else (if a0_1 = 16 then (if (((((t201 ++ (⟨#[32]⟩ : ByteArray)) ++ t202) ++ (⟨#[32]⟩ : ByteArray)) ++ t203) ++ (⟨#[32]⟩ : ByteArray)).size + 1 ≤ 9223372036854775807 then (if ((((((t201 ++ (⟨#[32]⟩ : ByteArray)) ++ t202) ++ (⟨#[32]⟩ : ByteArray)) ++ t203) ++ (⟨#[32]⟩ : ByteArray)) ++ (⟨#[39]⟩ : ByteArray)).size + a0_5.size ≤ 9223372036854775807 then (some (((((((t201 ++ (⟨#[32]⟩ : ByteArray)) ++ t202) ++ (⟨#[32]⟩ : ByteArray)) ++ t203) ++ (⟨#[32]⟩ : ByteArray)) ++ (⟨#[39]⟩ : ByteArray)) ++ a0_5)) else (none)) else (none)) else ((spec_l5Dot.f a0_4).bind fun t207 => (if (((((t201 ++ (⟨#[32]⟩ : ByteArray)) ++ t202) ++ (⟨#[32]⟩ : ByteArray)) ++ t203) ++ (⟨#[32]⟩ : ByteArray)).size + t207.size ≤ 9223372036854775807 then (some ((((((t201 ++ (⟨#[32]⟩ : ByteArray)) ++ t202) ++ (⟨#[32]⟩ : ByteArray)) ++ t203) ++ (⟨#[32]⟩ : ByteArray)) ++ t207)) else (none)))))) else (none)) else (none))) else (none)) else (none))) else (none))) else (some (⟨#[]⟩ : ByteArray)))) = some r := h
 clear h
 replace H := Option.bind_eq_some_iff.mp H
 obtain ⟨t200, A2, H⟩ := H
 try dsimp only at H
 replace A2 := aS A2
 by_cases c3 : t200 = true
 ·subst c3
  have H1 : ((spec_l5Dot.f a0_0).bind fun t201 => (if t201.size + 1 ≤ 9223372036854775807 then ((spec_NumText.f k a0_2).bind fun t202 => (if (t201 ++ (⟨#[32]⟩ : ByteArray)).size + t202.size ≤ 9223372036854775807 then (if ((t201 ++ (⟨#[32]⟩ : ByteArray)) ++ t202).size + 1 ≤ 9223372036854775807 then ((spec_TypeText.f a0_1).bind fun t203 => (if (((t201 ++ (⟨#[32]⟩ : ByteArray)) ++ t202) ++ (⟨#[32]⟩ : ByteArray)).size + t203.size ≤ 9223372036854775807 then (if ((((t201 ++ (⟨#[32]⟩ : ByteArray)) ++ t202) ++ (⟨#[32]⟩ : ByteArray)) ++ t203).size + 1 ≤ 9223372036854775807 then (if a0_1 = 1 then ((spec_NumText.f k a0_3).bind fun t204 => (if (((((t201 ++ (⟨#[32]⟩ : ByteArray)) ++ t202) ++ (⟨#[32]⟩ : ByteArray)) ++ t203) ++ (⟨#[32]⟩ : ByteArray)).size + t204.size ≤ 9223372036854775807 then (some ((((((t201 ++ (⟨#[32]⟩ : ByteArray)) ++ t202) ++ (⟨#[32]⟩ : ByteArray)) ++ t203) ++ (⟨#[32]⟩ : ByteArray)) ++ t204)) else (none))) else (if a0_1 = 6 then ((spec_l5Dot.f a0_4).bind fun t205 => (if (((((t201 ++ (⟨#[32]⟩ : ByteArray)) ++ t202) ++ (⟨#[32]⟩ : ByteArray)) ++ t203) ++ (⟨#[32]⟩ : ByteArray)).size + t205.size ≤ 9223372036854775807 then (if ((((((t201 ++ (⟨#[32]⟩ : ByteArray)) ++ t202) ++ (⟨#[32]⟩ : ByteArray)) ++ t203) ++ (⟨#[32]⟩ : ByteArray)) ++ t205).size + 1 ≤ 9223372036854775807 then ((spec_NumText.f k a0_3).bind fun t206 => (if (((((((t201 ++ (⟨#[32]⟩ : ByteArray)) ++ t202) ++ (⟨#[32]⟩ : ByteArray)) ++ t203) ++ (⟨#[32]⟩ : ByteArray)) ++ t205) ++ (⟨#[32]⟩ : ByteArray)).size + t206.size ≤ 9223372036854775807 then (some ((((((((t201 ++ (⟨#[32]⟩ : ByteArray)) ++ t202) ++ (⟨#[32]⟩ : ByteArray)) ++ t203) ++ (⟨#[32]⟩ : ByteArray)) ++ t205) ++ (⟨#[32]⟩ : ByteArray)) ++ t206)) else (none))) else (none)) else (none))) else (if a0_1 = 16 then (if (((((t201 ++ (⟨#[32]⟩ : ByteArray)) ++ t202) ++ (⟨#[32]⟩ : ByteArray)) ++ t203) ++ (⟨#[32]⟩ : ByteArray)).size + 1 ≤ 9223372036854775807 then (if ((((((t201 ++ (⟨#[32]⟩ : ByteArray)) ++ t202) ++ (⟨#[32]⟩ : ByteArray)) ++ t203) ++ (⟨#[32]⟩ : ByteArray)) ++ (⟨#[39]⟩ : ByteArray)).size + a0_5.size ≤ 9223372036854775807 then (some (((((((t201 ++ (⟨#[32]⟩ : ByteArray)) ++ t202) ++ (⟨#[32]⟩ : ByteArray)) ++ t203) ++ (⟨#[32]⟩ : ByteArray)) ++ (⟨#[39]⟩ : ByteArray)) ++ a0_5)) else (none)) else (none)) else ((spec_l5Dot.f a0_4).bind fun t207 => (if (((((t201 ++ (⟨#[32]⟩ : ByteArray)) ++ t202) ++ (⟨#[32]⟩ : ByteArray)) ++ t203) ++ (⟨#[32]⟩ : ByteArray)).size + t207.size ≤ 9223372036854775807 then (some ((((((t201 ++ (⟨#[32]⟩ : ByteArray)) ++ t202) ++ (⟨#[32]⟩ : ByteArray)) ++ t203) ++ (⟨#[32]⟩ : ByteArray)) ++ t207)) else (none)))))) else (none)) else (none))) else (none)) else (none))) else (none))) = some r := by rw [if_pos rfl] at H; exact H
  clear H
  have H := H1
  clear H1
  replace H := Option.bind_eq_some_iff.mp H
  obtain ⟨t201, A4, H⟩ := H
  try dsimp only at H
  replace A4 := aS A4
  by_cases c5 : t201.size + 1 ≤ 9223372036854775807
  ·rw [if_pos c5] at H
   have c5b0 := eq_true c5
   have c5b1 : decide (t201.size + 1 ≤ 9223372036854775807) = true := decide_eq_true c5
   try have c5b2 : (9223372036854775807 < t201.size + 1) = False := eq_false (Nat.not_lt.2 c5)
   replace H := Option.bind_eq_some_iff.mp H
   obtain ⟨t202, A6, H⟩ := H
   try dsimp only at H
   replace A6 := aS A6
   by_cases c7 : (t201 ++ (⟨#[32]⟩ : ByteArray)).size + t202.size ≤ 9223372036854775807
   ·rw [if_pos c7] at H
    have c7b0 := eq_true c7
    have c7b1 : decide ((t201 ++ (⟨#[32]⟩ : ByteArray)).size + t202.size ≤ 9223372036854775807) = true := decide_eq_true c7
    try have c7b2 : (9223372036854775807 < (t201 ++ (⟨#[32]⟩ : ByteArray)).size + t202.size) = False := eq_false (Nat.not_lt.2 c7)
    try have c7b8 : (9223372036854775807 < t201.size + 1 + t202.size) = False := by have q_ := c7b2; simp only [ByteArray.size_append] at q_; exact q_
    by_cases c8 : ((t201 ++ (⟨#[32]⟩ : ByteArray)) ++ t202).size + 1 ≤ 9223372036854775807
    ·rw [if_pos c8] at H
     have c8b0 := eq_true c8
     have c8b1 : decide (((t201 ++ (⟨#[32]⟩ : ByteArray)) ++ t202).size + 1 ≤ 9223372036854775807) = true := decide_eq_true c8
     try have c8b2 : (9223372036854775807 < ((t201 ++ (⟨#[32]⟩ : ByteArray)) ++ t202).size + 1) = False := eq_false (Nat.not_lt.2 c8)
     try have c8b8 : (9223372036854775807 < t201.size + 1 + t202.size + 1) = False := by have q_ := c8b2; simp only [ByteArray.size_append] at q_; exact q_
     replace H := Option.bind_eq_some_iff.mp H
     obtain ⟨t203, A9, H⟩ := H
     try dsimp only at H
     replace A9 := aS A9
     by_cases c10 : (((t201 ++ (⟨#[32]⟩ : ByteArray)) ++ t202) ++ (⟨#[32]⟩ : ByteArray)).size + t203.size ≤ 9223372036854775807
     ·rw [if_pos c10] at H
      have c10b0 := eq_true c10
      have c10b1 : decide ((((t201 ++ (⟨#[32]⟩ : ByteArray)) ++ t202) ++ (⟨#[32]⟩ : ByteArray)).size + t203.size ≤ 9223372036854775807) = true := decide_eq_true c10
      try have c10b2 : (9223372036854775807 < (((t201 ++ (⟨#[32]⟩ : ByteArray)) ++ t202) ++ (⟨#[32]⟩ : ByteArray)).size + t203.size) = False := eq_false (Nat.not_lt.2 c10)
      try have c10b8 : (9223372036854775807 < t201.size + 1 + t202.size + 1 + t203.size) = False := by have q_ := c10b2; simp only [ByteArray.size_append] at q_; exact q_
      by_cases c11 : ((((t201 ++ (⟨#[32]⟩ : ByteArray)) ++ t202) ++ (⟨#[32]⟩ : ByteArray)) ++ t203).size + 1 ≤ 9223372036854775807
      ·rw [if_pos c11] at H
       have c11b0 := eq_true c11
       have c11b1 : decide (((((t201 ++ (⟨#[32]⟩ : ByteArray)) ++ t202) ++ (⟨#[32]⟩ : ByteArray)) ++ t203).size + 1 ≤ 9223372036854775807) = true := decide_eq_true c11
       try have c11b2 : (9223372036854775807 < ((((t201 ++ (⟨#[32]⟩ : ByteArray)) ++ t202) ++ (⟨#[32]⟩ : ByteArray)) ++ t203).size + 1) = False := eq_false (Nat.not_lt.2 c11)
       try have c11b8 : (9223372036854775807 < t201.size + 1 + t202.size + 1 + t203.size + 1) = False := by have q_ := c11b2; simp only [ByteArray.size_append] at q_; exact q_
       by_cases c12 : a0_1 = 1
       ·rw [if_pos c12] at H
        have c12b0 : (a0_1 == 1) = true := beq_iff_eq.mpr c12
        have c12b1 : (a0_1 != 1) = false := bne_eq_false_iff_eq.mpr c12
        clear c12
        replace H := Option.bind_eq_some_iff.mp H
        obtain ⟨t204, A13, H⟩ := H
        try dsimp only at H
        replace A13 := aS A13
        by_cases c14 : (((((t201 ++ (⟨#[32]⟩ : ByteArray)) ++ t202) ++ (⟨#[32]⟩ : ByteArray)) ++ t203) ++ (⟨#[32]⟩ : ByteArray)).size + t204.size ≤ 9223372036854775807
        ·rw [if_pos c14] at H
         have c14b0 := eq_true c14
         have c14b1 : decide ((((((t201 ++ (⟨#[32]⟩ : ByteArray)) ++ t202) ++ (⟨#[32]⟩ : ByteArray)) ++ t203) ++ (⟨#[32]⟩ : ByteArray)).size + t204.size ≤ 9223372036854775807) = true := decide_eq_true c14
         try have c14b2 : (9223372036854775807 < (((((t201 ++ (⟨#[32]⟩ : ByteArray)) ++ t202) ++ (⟨#[32]⟩ : ByteArray)) ++ t203) ++ (⟨#[32]⟩ : ByteArray)).size + t204.size) = False := eq_false (Nat.not_lt.2 c14)
         try have c14b8 : (9223372036854775807 < t201.size + 1 + t202.size + 1 + t203.size + 1 + t204.size) = False := by have q_ := c14b2; simp only [ByteArray.size_append] at q_; exact q_
         obtain rfl := Option.some.inj H
         go_enter Tryd.func22, Tryd.ntmps22
         try go_wp2_with (first | ((with_reducible refine gate_dst (N := 1) rfl ?_); refine box_event ?hg (N := 1) ?hd (cs := #[.string a0_0, .int .i64 a0_1, .int .i64 a0_2, .int .i64 a0_3, .string a0_4, .string a0_5]) (t := 33) ?hr ?_; (case hd => rfl); (case hg => rfl); (case hr => first | (go_simp; done) | (go_simp; rfl)); intro gb199 hg w15 hbox hb; have n0_ := aS (below_step (wU HB.out) hb); have n1_ := aS (hbox); have n2_ := aS ((by rw [hg]; exact (below_size (wU HB.out)) : w.heap.size ≤ gb199)); have n3_ := aS ((by rw [hg]; exact (below_size (wU HB.out)) : w.heap.size ≤ gb199)); clear HB; revert n0_ n1_ n2_ n3_; intro HB BK199 GW199 GE199; clear hb hbox hg; have hcz16 := cells6f BK199.out) | ((with_reducible refine gate_callee (f := 56) rfl ?_); refine goesL_ (some 5) rfl rfl Tryd.func56 jK rfl #[.agg #[.string a0_0, .int .i64 a0_1, .int .i64 a0_2, .int .i64 a0_3, .string a0_4, .string a0_5]] rfl jA ?_; (with_reducible refine (spec_RecordOk.calls k a0_0 a0_1 a0_2 a0_3 a0_4 a0_5 true _ A2.out).mono ?_); rintro e w17 ⟨rfl, hb⟩; refine ⟨_, rfl, ?_⟩; have n0_ := aS (blk_below (bU BK199.out) hb); have n1_ := aS (below_step (wS1 HB.out GE199.out) hb); clear BK199 HB; revert n0_ n1_; intro BK199 HB; clear hb))
         have n0_ := aS (blk_drew BK199.out)
         have n1_ := aS (below_drew1 HB.out)
         clear BK199
         clear HB
         have BK199 := n0_
         have HB := n1_
         clear n0_ n1_
         refine start_ (n := 15) (S := fun w' => w'.cell? ⟨gb199, 0, none⟩ = some (.string a0_0) ∧ w'.cell? ⟨gb199, 1, none⟩ = some (.int .i64 a0_1) ∧ w'.cell? ⟨gb199, 2, none⟩ = some (.int .i64 a0_2) ∧ w'.cell? ⟨gb199, 3, none⟩ = some (.int .i64 a0_3) ∧ w'.cell? ⟨gb199, 4, none⟩ = some (.string a0_4) ∧ w'.cell? ⟨gb199, 5, none⟩ = some (.string a0_5)) (ds := []) #[false, false, false, false, false, false, false, false, false, false, false, false, false, false, false] jK rfl rfl ⟨(blk_cell BK199.out 0).trans rfl, (blk_cell BK199.out 1).trans rfl, (blk_cell BK199.out 2).trans rfl, (blk_cell BK199.out 3).trans rfl, (blk_cell BK199.out 4).trans rfl, (blk_cell BK199.out 5).trans rfl⟩ (fun hHeld => ?_); refine with_tabW spec_RecordText.tab3 spec_RecordText.bits3 (fun HT_ HW_ => ?_)
         generalize w17.drew = w18 at BK199 HB hHeld ⊢
         refine pure_ (i := 0) (N := some 7) (v := ?_) (a' := ?_) #[true, false, false, false, false, false, false, false, false, false, false, false, false, false, false] rfl rfl (any_of HT_.out jK) (fun _ _ _ h => h) (Or.inl ⟨by rfl, ?_⟩) ?_ ?_
         rotate_left
         ·intro w'
          go_simp
          with_reducible rfl
         rotate_left
         ·simp only [Act.put, List.setIfInBounds_toArray, List.set_cons_zero, List.set_cons_succ, i64_w, i32_w]
          rfl
         refine pure_ (i := 4) (N := some 11) (v := ?_) (a' := ?_) #[true, false, false, false, true, false, false, false, false, false, false, false, false, false, false] rfl rfl (any_of HT_.out jK) (fun _ _ _ h => h) (Or.inl ⟨by rfl, ?_⟩) ?_ ?_
         rotate_left
         ·intro w'
          go_simp
          with_reducible rfl
         rotate_left
         ·simp only [Act.put, List.setIfInBounds_toArray, List.set_cons_zero, List.set_cons_succ, i64_w, i32_w]
          rfl
         refine pure_ (i := 9) (N := some 16) (v := ?_) (a' := ?_) #[true, false, false, false, true, false, false, false, false, true, false, false, false, false, false] rfl rfl (any_of HT_.out jK) (fun _ _ _ h => h) (Or.inl ⟨by rfl, ?_⟩) ?_ ?_
         rotate_left
         ·intro w'
          go_simp
          with_reducible rfl
         rotate_left
         ·simp only [Act.put, List.setIfInBounds_toArray, List.set_cons_zero, List.set_cons_succ, i64_w, i32_w]
          rfl
         refine take_ (i := 1) (N := some 8) (v := ?_) (a' := ?_) #[true, true, false, false, true, false, false, false, false, true, false, false, false, false, false] rfl rfl (take_ofW HT_.out HW_.out jK) (fun _ _ _ h => h) (Or.inl ⟨by rfl, ?_⟩) hHeld ?_ ?_
         rotate_left
         ·rintro w' ⟨s0, s1, s2, s3, s4, s5⟩
          go_simp
          with_reducible rfl
         rotate_left
         ·simp only [Act.put, List.setIfInBounds_toArray, List.set_cons_zero, List.set_cons_succ, i64_w, i32_w]
          rfl
         refine take_ (i := 5) (N := some 12) (v := ?_) (a' := ?_) #[true, true, false, false, true, true, false, false, false, true, false, false, false, false, false] rfl rfl (take_ofW HT_.out HW_.out jK) (fun _ _ _ h => h) (Or.inl ⟨by rfl, ?_⟩) hHeld ?_ ?_
         rotate_left
         ·rintro w' ⟨s0, s1, s2, s3, s4, s5⟩
          go_simp
          with_reducible rfl
         rotate_left
         ·simp only [Act.put, List.setIfInBounds_toArray, List.set_cons_zero, List.set_cons_succ, i64_w, i32_w]
          rfl
         refine take_ (i := 10) (N := some 17) (v := ?_) (a' := ?_) #[true, true, false, false, true, true, false, false, false, true, true, false, false, false, false] rfl rfl (take_ofW HT_.out HW_.out jK) (fun _ _ _ h => h) (Or.inl ⟨by rfl, ?_⟩) hHeld ?_ ?_
         rotate_left
         ·rintro w' ⟨s0, s1, s2, s3, s4, s5⟩
          go_simp
          with_reducible rfl
         rotate_left
         ·simp only [Act.put, List.setIfInBounds_toArray, List.set_cons_zero, List.set_cons_succ, i64_w, i32_w]
          rfl
         refine one_ (i := 2) (N := some 9) #[true, true, true, false, true, true, false, false, false, true, true, false, false, false, false] rfl rfl (one_of HT_.out jK) (by decide) (fun K hK => ?_)
         refine goes_ Tryd.func57 jK rfl #[.string a0_0] (by rfl) rfl rfl jA ?_
         with_reducible refine (spec_l5Dot.calls a0_0 t201 _ A4.out).mono ?_
         rintro e w' ⟨rfl, ⟨nd, rfl⟩⟩
         refine ⟨_, rfl, ?_⟩
         refine hK.out _ _ ⟨(blk_cell BK199.out 0).trans rfl, (blk_cell BK199.out 1).trans rfl, (blk_cell BK199.out 2).trans rfl, (blk_cell BK199.out 3).trans rfl, (blk_cell BK199.out 4).trans rfl, (blk_cell BK199.out 5).trans rfl⟩ (fun hHeld => ?_)
         clear hK K
         refine norm_ (a' := ?_) ?_ ?_
         rotate_left
         ·show Act.put _ (some 9) _ = _
          simp only [Act.put, List.setIfInBounds_toArray, List.set_cons_zero, List.set_cons_succ, i64_w, i32_w]
          rfl
         refine pure_ (i := 3) (N := some 10) (v := ?_) (a' := ?_) #[true, true, true, true, true, true, false, false, false, true, true, false, false, false, false] rfl rfl (any_of HT_.out jK) (fun _ _ _ h => h) (Or.inl ⟨by rfl, ?_⟩) ?_ ?_
         rotate_left
         ·intro w'
          go_simp
          with_reducible rfl
         rotate_left
         ·simp only [Act.put, List.setIfInBounds_toArray, List.set_cons_zero, List.set_cons_succ, i64_w, i32_w]
          rfl
         refine one_ (i := 6) (N := some 13) #[true, true, true, true, true, true, true, false, false, true, true, false, false, false, false] rfl rfl (one_of HT_.out jK) (by decide) (fun K hK => ?_)
         refine goes_ Tryd.func58 jK rfl #[.int .i64 a0_2] (by rfl) rfl rfl jA ?_
         with_reducible refine (spec_NumText.calls k a0_2 t202 _ A6.out).mono ?_
         rintro e w19 ⟨rfl, hb⟩
         refine ⟨_, rfl, ?_⟩
         have n0_ := aS (blk_below (bU BK199.out) hb)
         have n1_ := aS (below_step (wS1 HB.out GE199.out) hb)
         clear BK199
         clear HB
         have BK199 := n0_
         have HB := n1_
         clear n0_ n1_
         (try clear hb)
         (try clear hb2)
         (try clear hk)
         (try clear hi)
         refine hK.out _ _ ⟨(blk_cell BK199.out 0).trans rfl, (blk_cell BK199.out 1).trans rfl, (blk_cell BK199.out 2).trans rfl, (blk_cell BK199.out 3).trans rfl, (blk_cell BK199.out 4).trans rfl, (blk_cell BK199.out 5).trans rfl⟩ (fun hHeld => ?_)
         clear hK K
         refine norm_ (a' := ?_) ?_ ?_
         rotate_left
         ·show Act.put _ (some 13) _ = _
          simp only [Act.put, List.setIfInBounds_toArray, List.set_cons_zero, List.set_cons_succ, i64_w, i32_w]
          rfl
         refine pure_ (i := 7) (N := some 14) (v := ?_) (a' := ?_) #[true, true, true, true, true, true, true, true, false, true, true, false, false, false, false] rfl rfl (any_of HT_.out jK) (fun _ _ _ h => h) (Or.inl ⟨by rfl, ?_⟩) ?_ ?_
         rotate_left
         ·intro w'
          go_simp
          with_reducible rfl
         rotate_left
         ·simp only [Act.put, List.setIfInBounds_toArray, List.set_cons_zero, List.set_cons_succ, i64_w, i32_w]
          rfl
         refine pure_ (i := 8) (N := some 15) (v := ?_) (a' := ?_) #[true, true, true, true, true, true, true, true, true, true, true, false, false, false, false] rfl rfl (any_of HT_.out jK) (fun _ _ _ h => h) (Or.inl ⟨by rfl, ?_⟩) ?_ ?_
         rotate_left
         ·intro w'
          go_simp
          with_reducible rfl
         rotate_left
         ·simp only [Act.put, List.setIfInBounds_toArray, List.set_cons_zero, List.set_cons_succ, i64_w, i32_w]
          rfl
         refine one_ (i := 11) (N := some 18) #[true, true, true, true, true, true, true, true, true, true, true, true, false, false, false] rfl rfl (one_of HT_.out jK) (by decide) (fun K hK => ?_)
         refine goes_ Tryd.func59 jK rfl #[.int .i64 a0_1] (by rfl) rfl rfl jA ?_
         with_reducible refine (spec_TypeText.calls a0_1 t203 _ A9.out).mono ?_
         rintro e w' ⟨rfl, ⟨nd, rfl⟩⟩
         refine ⟨_, rfl, ?_⟩
         refine hK.out _ _ ⟨(blk_cell BK199.out 0).trans rfl, (blk_cell BK199.out 1).trans rfl, (blk_cell BK199.out 2).trans rfl, (blk_cell BK199.out 3).trans rfl, (blk_cell BK199.out 4).trans rfl, (blk_cell BK199.out 5).trans rfl⟩ (fun hHeld => ?_)
         clear hK K
         refine norm_ (a' := ?_) ?_ ?_
         rotate_left
         ·show Act.put _ (some 18) _ = _
          simp only [Act.put, List.setIfInBounds_toArray, List.set_cons_zero, List.set_cons_succ, i64_w, i32_w]
          rfl
         refine pure_ (i := 12) (N := some 19) (v := ?_) (a' := ?_) #[true, true, true, true, true, true, true, true, true, true, true, true, true, false, false] rfl rfl (any_of HT_.out jK) (fun _ _ _ h => h) (Or.inl ⟨by rfl, ?_⟩) ?_ ?_
         rotate_left
         ·intro w'
          go_simp
          with_reducible rfl
         rotate_left
         ·simp only [Act.put, List.setIfInBounds_toArray, List.set_cons_zero, List.set_cons_succ, i64_w, i32_w]
          rfl
         refine pure_ (i := 13) (N := some 20) (v := ?_) (a' := ?_) #[true, true, true, true, true, true, true, true, true, true, true, true, true, true, false] rfl rfl (any_of HT_.out jK) (fun _ _ _ h => h) (Or.inl ⟨by rfl, ?_⟩) ?_ ?_
         rotate_left
         ·intro w'
          go_simp
          with_reducible rfl
         rotate_left
         ·simp only [Act.put, List.setIfInBounds_toArray, List.set_cons_zero, List.set_cons_succ, i64_w, i32_w]
          rfl
         refine pure_ (i := 14) (N := some 3) (v := ?_) (a' := ?_) #[true, true, true, true, true, true, true, true, true, true, true, true, true, true, true] rfl rfl (any_of HT_.out jK) (fun _ _ _ h => h) (Or.inl ⟨by rfl, ?_⟩) ?_ ?_
         rotate_left
         ·intro w'
          go_simp
          with_reducible rfl
         rotate_left
         ·simp only [Act.put, List.setIfInBounds_toArray, List.set_cons_zero, List.set_cons_succ, i64_w, i32_w]
          rfl
         refine done_ (done_of HT_.out jK) ?_
         have hcz20 := cells6f BK199.out
         try go_wp2_with (first | ((with_reducible refine gate_callee (f := 58) rfl ?_); refine goesL_ (some 28) rfl rfl Tryd.func58 jK rfl #[.int .i64 a0_3] rfl jA ?_; (with_reducible refine (spec_NumText.calls k a0_3 t204 _ A13.out).mono ?_); rintro e w21 ⟨rfl, hb⟩; refine ⟨_, rfl, ?_⟩; have n0_ := aS (blk_below (bU BK199.out) hb); have n1_ := aS (below_step (wS1 HB.out GE199.out) hb); clear BK199 HB; revert n0_ n1_; intro BK199 HB; clear hb))
         go_ret
         exact ⟨jE, by exact wS1 HB.out GE199.out⟩
        ·rw [if_neg c14] at H
         exact absurd H (by simp)
       ·rw [if_neg c12] at H
        have c12b0 : (a0_1 == 1) = false := beq_eq_false_iff_ne.mpr c12
        have c12b1 : (a0_1 != 1) = true := bne_iff_ne.mpr c12
        by_cases c22 : a0_1 = 6
        ·rw [if_pos c22] at H
         have c22b0 : (a0_1 == 6) = true := beq_iff_eq.mpr c22
         have c22b1 : (a0_1 != 6) = false := bne_eq_false_iff_eq.mpr c22
         clear c22
         replace H := Option.bind_eq_some_iff.mp H
         obtain ⟨t205, A23, H⟩ := H
         try dsimp only at H
         replace A23 := aS A23
         by_cases c24 : (((((t201 ++ (⟨#[32]⟩ : ByteArray)) ++ t202) ++ (⟨#[32]⟩ : ByteArray)) ++ t203) ++ (⟨#[32]⟩ : ByteArray)).size + t205.size ≤ 9223372036854775807
         ·rw [if_pos c24] at H
          have c24b0 := eq_true c24
          have c24b1 : decide ((((((t201 ++ (⟨#[32]⟩ : ByteArray)) ++ t202) ++ (⟨#[32]⟩ : ByteArray)) ++ t203) ++ (⟨#[32]⟩ : ByteArray)).size + t205.size ≤ 9223372036854775807) = true := decide_eq_true c24
          try have c24b2 : (9223372036854775807 < (((((t201 ++ (⟨#[32]⟩ : ByteArray)) ++ t202) ++ (⟨#[32]⟩ : ByteArray)) ++ t203) ++ (⟨#[32]⟩ : ByteArray)).size + t205.size) = False := eq_false (Nat.not_lt.2 c24)
          try have c24b8 : (9223372036854775807 < t201.size + 1 + t202.size + 1 + t203.size + 1 + t205.size) = False := by have q_ := c24b2; simp only [ByteArray.size_append] at q_; exact q_
          by_cases c25 : ((((((t201 ++ (⟨#[32]⟩ : ByteArray)) ++ t202) ++ (⟨#[32]⟩ : ByteArray)) ++ t203) ++ (⟨#[32]⟩ : ByteArray)) ++ t205).size + 1 ≤ 9223372036854775807
          ·rw [if_pos c25] at H
           have c25b0 := eq_true c25
           have c25b1 : decide (((((((t201 ++ (⟨#[32]⟩ : ByteArray)) ++ t202) ++ (⟨#[32]⟩ : ByteArray)) ++ t203) ++ (⟨#[32]⟩ : ByteArray)) ++ t205).size + 1 ≤ 9223372036854775807) = true := decide_eq_true c25
           try have c25b2 : (9223372036854775807 < ((((((t201 ++ (⟨#[32]⟩ : ByteArray)) ++ t202) ++ (⟨#[32]⟩ : ByteArray)) ++ t203) ++ (⟨#[32]⟩ : ByteArray)) ++ t205).size + 1) = False := eq_false (Nat.not_lt.2 c25)
           try have c25b8 : (9223372036854775807 < t201.size + 1 + t202.size + 1 + t203.size + 1 + t205.size + 1) = False := by have q_ := c25b2; simp only [ByteArray.size_append] at q_; exact q_
           replace H := Option.bind_eq_some_iff.mp H
           obtain ⟨t206, A26, H⟩ := H
           try dsimp only at H
           replace A26 := aS A26
           by_cases c27 : (((((((t201 ++ (⟨#[32]⟩ : ByteArray)) ++ t202) ++ (⟨#[32]⟩ : ByteArray)) ++ t203) ++ (⟨#[32]⟩ : ByteArray)) ++ t205) ++ (⟨#[32]⟩ : ByteArray)).size + t206.size ≤ 9223372036854775807
           ·rw [if_pos c27] at H
            have c27b0 := eq_true c27
            have c27b1 : decide ((((((((t201 ++ (⟨#[32]⟩ : ByteArray)) ++ t202) ++ (⟨#[32]⟩ : ByteArray)) ++ t203) ++ (⟨#[32]⟩ : ByteArray)) ++ t205) ++ (⟨#[32]⟩ : ByteArray)).size + t206.size ≤ 9223372036854775807) = true := decide_eq_true c27
            try have c27b2 : (9223372036854775807 < (((((((t201 ++ (⟨#[32]⟩ : ByteArray)) ++ t202) ++ (⟨#[32]⟩ : ByteArray)) ++ t203) ++ (⟨#[32]⟩ : ByteArray)) ++ t205) ++ (⟨#[32]⟩ : ByteArray)).size + t206.size) = False := eq_false (Nat.not_lt.2 c27)
            try have c27b8 : (9223372036854775807 < t201.size + 1 + t202.size + 1 + t203.size + 1 + t205.size + 1 + t206.size) = False := by have q_ := c27b2; simp only [ByteArray.size_append] at q_; exact q_
            obtain rfl := Option.some.inj H
            go_enter Tryd.func22, Tryd.ntmps22
            try go_wp2_with (first | ((with_reducible refine gate_dst (N := 1) rfl ?_); refine box_event ?hg (N := 1) ?hd (cs := #[.string a0_0, .int .i64 a0_1, .int .i64 a0_2, .int .i64 a0_3, .string a0_4, .string a0_5]) (t := 33) ?hr ?_; (case hd => rfl); (case hg => rfl); (case hr => first | (go_simp; done) | (go_simp; rfl)); intro gb199 hg w28 hbox hb; have n0_ := aS (below_step (wU HB.out) hb); have n1_ := aS (hbox); have n2_ := aS ((by rw [hg]; exact (below_size (wU HB.out)) : w.heap.size ≤ gb199)); have n3_ := aS ((by rw [hg]; exact (below_size (wU HB.out)) : w.heap.size ≤ gb199)); clear HB; revert n0_ n1_ n2_ n3_; intro HB BK199 GW199 GE199; clear hb hbox hg; have hcz29 := cells6f BK199.out) | ((with_reducible refine gate_callee (f := 56) rfl ?_); refine goesL_ (some 5) rfl rfl Tryd.func56 jK rfl #[.agg #[.string a0_0, .int .i64 a0_1, .int .i64 a0_2, .int .i64 a0_3, .string a0_4, .string a0_5]] rfl jA ?_; (with_reducible refine (spec_RecordOk.calls k a0_0 a0_1 a0_2 a0_3 a0_4 a0_5 true _ A2.out).mono ?_); rintro e w30 ⟨rfl, hb⟩; refine ⟨_, rfl, ?_⟩; have n0_ := aS (blk_below (bU BK199.out) hb); have n1_ := aS (below_step (wS1 HB.out GE199.out) hb); clear BK199 HB; revert n0_ n1_; intro BK199 HB; clear hb))
            have n0_ := aS (blk_drew BK199.out)
            have n1_ := aS (below_drew1 HB.out)
            clear BK199
            clear HB
            have BK199 := n0_
            have HB := n1_
            clear n0_ n1_
            refine start_ (n := 15) (S := fun w' => w'.cell? ⟨gb199, 0, none⟩ = some (.string a0_0) ∧ w'.cell? ⟨gb199, 1, none⟩ = some (.int .i64 a0_1) ∧ w'.cell? ⟨gb199, 2, none⟩ = some (.int .i64 a0_2) ∧ w'.cell? ⟨gb199, 3, none⟩ = some (.int .i64 a0_3) ∧ w'.cell? ⟨gb199, 4, none⟩ = some (.string a0_4) ∧ w'.cell? ⟨gb199, 5, none⟩ = some (.string a0_5)) (ds := []) #[false, false, false, false, false, false, false, false, false, false, false, false, false, false, false] jK rfl rfl ⟨(blk_cell BK199.out 0).trans rfl, (blk_cell BK199.out 1).trans rfl, (blk_cell BK199.out 2).trans rfl, (blk_cell BK199.out 3).trans rfl, (blk_cell BK199.out 4).trans rfl, (blk_cell BK199.out 5).trans rfl⟩ (fun hHeld => ?_); refine with_tabW spec_RecordText.tab3 spec_RecordText.bits3 (fun HT_ HW_ => ?_)
            generalize w30.drew = w31 at BK199 HB hHeld ⊢
            refine pure_ (i := 0) (N := some 7) (v := ?_) (a' := ?_) #[true, false, false, false, false, false, false, false, false, false, false, false, false, false, false] rfl rfl (any_of HT_.out jK) (fun _ _ _ h => h) (Or.inl ⟨by rfl, ?_⟩) ?_ ?_
            rotate_left
            ·intro w'
             go_simp
             with_reducible rfl
            rotate_left
            ·simp only [Act.put, List.setIfInBounds_toArray, List.set_cons_zero, List.set_cons_succ, i64_w, i32_w]
             rfl
            refine pure_ (i := 4) (N := some 11) (v := ?_) (a' := ?_) #[true, false, false, false, true, false, false, false, false, false, false, false, false, false, false] rfl rfl (any_of HT_.out jK) (fun _ _ _ h => h) (Or.inl ⟨by rfl, ?_⟩) ?_ ?_
            rotate_left
            ·intro w'
             go_simp
             with_reducible rfl
            rotate_left
            ·simp only [Act.put, List.setIfInBounds_toArray, List.set_cons_zero, List.set_cons_succ, i64_w, i32_w]
             rfl
            refine pure_ (i := 9) (N := some 16) (v := ?_) (a' := ?_) #[true, false, false, false, true, false, false, false, false, true, false, false, false, false, false] rfl rfl (any_of HT_.out jK) (fun _ _ _ h => h) (Or.inl ⟨by rfl, ?_⟩) ?_ ?_
            rotate_left
            ·intro w'
             go_simp
             with_reducible rfl
            rotate_left
            ·simp only [Act.put, List.setIfInBounds_toArray, List.set_cons_zero, List.set_cons_succ, i64_w, i32_w]
             rfl
            refine take_ (i := 1) (N := some 8) (v := ?_) (a' := ?_) #[true, true, false, false, true, false, false, false, false, true, false, false, false, false, false] rfl rfl (take_ofW HT_.out HW_.out jK) (fun _ _ _ h => h) (Or.inl ⟨by rfl, ?_⟩) hHeld ?_ ?_
            rotate_left
            ·rintro w' ⟨s0, s1, s2, s3, s4, s5⟩
             go_simp
             with_reducible rfl
            rotate_left
            ·simp only [Act.put, List.setIfInBounds_toArray, List.set_cons_zero, List.set_cons_succ, i64_w, i32_w]
             rfl
            refine take_ (i := 5) (N := some 12) (v := ?_) (a' := ?_) #[true, true, false, false, true, true, false, false, false, true, false, false, false, false, false] rfl rfl (take_ofW HT_.out HW_.out jK) (fun _ _ _ h => h) (Or.inl ⟨by rfl, ?_⟩) hHeld ?_ ?_
            rotate_left
            ·rintro w' ⟨s0, s1, s2, s3, s4, s5⟩
             go_simp
             with_reducible rfl
            rotate_left
            ·simp only [Act.put, List.setIfInBounds_toArray, List.set_cons_zero, List.set_cons_succ, i64_w, i32_w]
             rfl
            refine take_ (i := 10) (N := some 17) (v := ?_) (a' := ?_) #[true, true, false, false, true, true, false, false, false, true, true, false, false, false, false] rfl rfl (take_ofW HT_.out HW_.out jK) (fun _ _ _ h => h) (Or.inl ⟨by rfl, ?_⟩) hHeld ?_ ?_
            rotate_left
            ·rintro w' ⟨s0, s1, s2, s3, s4, s5⟩
             go_simp
             with_reducible rfl
            rotate_left
            ·simp only [Act.put, List.setIfInBounds_toArray, List.set_cons_zero, List.set_cons_succ, i64_w, i32_w]
             rfl
            refine one_ (i := 2) (N := some 9) #[true, true, true, false, true, true, false, false, false, true, true, false, false, false, false] rfl rfl (one_of HT_.out jK) (by decide) (fun K hK => ?_)
            refine goes_ Tryd.func57 jK rfl #[.string a0_0] (by rfl) rfl rfl jA ?_
            with_reducible refine (spec_l5Dot.calls a0_0 t201 _ A4.out).mono ?_
            rintro e w' ⟨rfl, ⟨nd, rfl⟩⟩
            refine ⟨_, rfl, ?_⟩
            refine hK.out _ _ ⟨(blk_cell BK199.out 0).trans rfl, (blk_cell BK199.out 1).trans rfl, (blk_cell BK199.out 2).trans rfl, (blk_cell BK199.out 3).trans rfl, (blk_cell BK199.out 4).trans rfl, (blk_cell BK199.out 5).trans rfl⟩ (fun hHeld => ?_)
            clear hK K
            refine norm_ (a' := ?_) ?_ ?_
            rotate_left
            ·show Act.put _ (some 9) _ = _
             simp only [Act.put, List.setIfInBounds_toArray, List.set_cons_zero, List.set_cons_succ, i64_w, i32_w]
             rfl
            refine pure_ (i := 3) (N := some 10) (v := ?_) (a' := ?_) #[true, true, true, true, true, true, false, false, false, true, true, false, false, false, false] rfl rfl (any_of HT_.out jK) (fun _ _ _ h => h) (Or.inl ⟨by rfl, ?_⟩) ?_ ?_
            rotate_left
            ·intro w'
             go_simp
             with_reducible rfl
            rotate_left
            ·simp only [Act.put, List.setIfInBounds_toArray, List.set_cons_zero, List.set_cons_succ, i64_w, i32_w]
             rfl
            refine one_ (i := 6) (N := some 13) #[true, true, true, true, true, true, true, false, false, true, true, false, false, false, false] rfl rfl (one_of HT_.out jK) (by decide) (fun K hK => ?_)
            refine goes_ Tryd.func58 jK rfl #[.int .i64 a0_2] (by rfl) rfl rfl jA ?_
            with_reducible refine (spec_NumText.calls k a0_2 t202 _ A6.out).mono ?_
            rintro e w32 ⟨rfl, hb⟩
            refine ⟨_, rfl, ?_⟩
            have n0_ := aS (blk_below (bU BK199.out) hb)
            have n1_ := aS (below_step (wS1 HB.out GE199.out) hb)
            clear BK199
            clear HB
            have BK199 := n0_
            have HB := n1_
            clear n0_ n1_
            (try clear hb)
            (try clear hb2)
            (try clear hk)
            (try clear hi)
            refine hK.out _ _ ⟨(blk_cell BK199.out 0).trans rfl, (blk_cell BK199.out 1).trans rfl, (blk_cell BK199.out 2).trans rfl, (blk_cell BK199.out 3).trans rfl, (blk_cell BK199.out 4).trans rfl, (blk_cell BK199.out 5).trans rfl⟩ (fun hHeld => ?_)
            clear hK K
            refine norm_ (a' := ?_) ?_ ?_
            rotate_left
            ·show Act.put _ (some 13) _ = _
             simp only [Act.put, List.setIfInBounds_toArray, List.set_cons_zero, List.set_cons_succ, i64_w, i32_w]
             rfl
            refine pure_ (i := 7) (N := some 14) (v := ?_) (a' := ?_) #[true, true, true, true, true, true, true, true, false, true, true, false, false, false, false] rfl rfl (any_of HT_.out jK) (fun _ _ _ h => h) (Or.inl ⟨by rfl, ?_⟩) ?_ ?_
            rotate_left
            ·intro w'
             go_simp
             with_reducible rfl
            rotate_left
            ·simp only [Act.put, List.setIfInBounds_toArray, List.set_cons_zero, List.set_cons_succ, i64_w, i32_w]
             rfl
            refine pure_ (i := 8) (N := some 15) (v := ?_) (a' := ?_) #[true, true, true, true, true, true, true, true, true, true, true, false, false, false, false] rfl rfl (any_of HT_.out jK) (fun _ _ _ h => h) (Or.inl ⟨by rfl, ?_⟩) ?_ ?_
            rotate_left
            ·intro w'
             go_simp
             with_reducible rfl
            rotate_left
            ·simp only [Act.put, List.setIfInBounds_toArray, List.set_cons_zero, List.set_cons_succ, i64_w, i32_w]
             rfl
            refine one_ (i := 11) (N := some 18) #[true, true, true, true, true, true, true, true, true, true, true, true, false, false, false] rfl rfl (one_of HT_.out jK) (by decide) (fun K hK => ?_)
            refine goes_ Tryd.func59 jK rfl #[.int .i64 a0_1] (by rfl) rfl rfl jA ?_
            with_reducible refine (spec_TypeText.calls a0_1 t203 _ A9.out).mono ?_
            rintro e w' ⟨rfl, ⟨nd, rfl⟩⟩
            refine ⟨_, rfl, ?_⟩
            refine hK.out _ _ ⟨(blk_cell BK199.out 0).trans rfl, (blk_cell BK199.out 1).trans rfl, (blk_cell BK199.out 2).trans rfl, (blk_cell BK199.out 3).trans rfl, (blk_cell BK199.out 4).trans rfl, (blk_cell BK199.out 5).trans rfl⟩ (fun hHeld => ?_)
            clear hK K
            refine norm_ (a' := ?_) ?_ ?_
            rotate_left
            ·show Act.put _ (some 18) _ = _
             simp only [Act.put, List.setIfInBounds_toArray, List.set_cons_zero, List.set_cons_succ, i64_w, i32_w]
             rfl
            refine pure_ (i := 12) (N := some 19) (v := ?_) (a' := ?_) #[true, true, true, true, true, true, true, true, true, true, true, true, true, false, false] rfl rfl (any_of HT_.out jK) (fun _ _ _ h => h) (Or.inl ⟨by rfl, ?_⟩) ?_ ?_
            rotate_left
            ·intro w'
             go_simp
             with_reducible rfl
            rotate_left
            ·simp only [Act.put, List.setIfInBounds_toArray, List.set_cons_zero, List.set_cons_succ, i64_w, i32_w]
             rfl
            refine pure_ (i := 13) (N := some 20) (v := ?_) (a' := ?_) #[true, true, true, true, true, true, true, true, true, true, true, true, true, true, false] rfl rfl (any_of HT_.out jK) (fun _ _ _ h => h) (Or.inl ⟨by rfl, ?_⟩) ?_ ?_
            rotate_left
            ·intro w'
             go_simp
             with_reducible rfl
            rotate_left
            ·simp only [Act.put, List.setIfInBounds_toArray, List.set_cons_zero, List.set_cons_succ, i64_w, i32_w]
             rfl
            refine pure_ (i := 14) (N := some 3) (v := ?_) (a' := ?_) #[true, true, true, true, true, true, true, true, true, true, true, true, true, true, true] rfl rfl (any_of HT_.out jK) (fun _ _ _ h => h) (Or.inl ⟨by rfl, ?_⟩) ?_ ?_
            rotate_left
            ·intro w'
             go_simp
             with_reducible rfl
            rotate_left
            ·simp only [Act.put, List.setIfInBounds_toArray, List.set_cons_zero, List.set_cons_succ, i64_w, i32_w]
             rfl
            refine done_ (done_of HT_.out jK) ?_
            have hcz33 := cells6f BK199.out
            try go_wp2
            (try (rw [drewN_self w32]; generalize hq_ : World.drewN w32 _ = w32; have n0_ : Aside0 (w32.heap[gb199]? = some (.cells #[.string a0_0, .int .i64 a0_1, .int .i64 a0_2, .int .i64 a0_3, .string a0_4, .string a0_5] 33 (0, 0))) := ⟨by rw [← hq_]; exact (bU BK199.out)⟩; have n1_ : Aside0 (Below w.heap.size w w32) := ⟨by rw [← hq_]; exact (wS1 HB.out GE199.out)⟩; clear BK199 HB hq_; revert n0_ n1_; intro BK199 HB))
            have n0_ := aS (blk_drew BK199.out)
            have n1_ := aS (below_drew1 HB.out)
            clear BK199
            clear HB
            have BK199 := n0_
            have HB := n1_
            clear n0_ n1_
            refine start_ (n := 11) (S := fun w' => w'.cell? ⟨gb199, 0, none⟩ = some (.string a0_0) ∧ w'.cell? ⟨gb199, 1, none⟩ = some (.int .i64 a0_1) ∧ w'.cell? ⟨gb199, 2, none⟩ = some (.int .i64 a0_2) ∧ w'.cell? ⟨gb199, 3, none⟩ = some (.int .i64 a0_3) ∧ w'.cell? ⟨gb199, 4, none⟩ = some (.string a0_4) ∧ w'.cell? ⟨gb199, 5, none⟩ = some (.string a0_5)) (ds := []) #[false, false, false, false, false, false, false, false, false, false, false] jK rfl rfl ⟨(blk_cell BK199.out 0).trans rfl, (blk_cell BK199.out 1).trans rfl, (blk_cell BK199.out 2).trans rfl, (blk_cell BK199.out 3).trans rfl, (blk_cell BK199.out 4).trans rfl, (blk_cell BK199.out 5).trans rfl⟩ (fun hHeld => ?_); refine with_tabW spec_RecordText.tab8 spec_RecordText.bits8 (fun HT_ HW_ => ?_)
            generalize w32.drew = w34 at BK199 HB hHeld ⊢
            refine pure_ (i := 0) (N := some 32) (v := ?_) (a' := ?_) #[true, false, false, false, false, false, false, false, false, false, false] rfl rfl (any_of HT_.out jK) (fun _ _ _ h => h) (Or.inl ⟨by rfl, ?_⟩) ?_ ?_
            rotate_left
            ·intro w'
             go_simp
             with_reducible rfl
            rotate_left
            ·simp only [Act.put, List.setIfInBounds_toArray, List.set_cons_zero, List.set_cons_succ, i64_w, i32_w]
             rfl
            refine pure_ (i := 1) (N := some 33) (v := ?_) (a' := ?_) #[true, true, false, false, false, false, false, false, false, false, false] rfl rfl (any_of HT_.out jK) (fun _ _ _ h => h) (Or.inl ⟨by rfl, ?_⟩) ?_ ?_
            rotate_left
            ·intro w'
             go_simp
             with_reducible rfl
            rotate_left
            ·simp only [Act.put, List.setIfInBounds_toArray, List.set_cons_zero, List.set_cons_succ, i64_w, i32_w]
             rfl
            refine pure_ (i := 6) (N := some 38) (v := ?_) (a' := ?_) #[true, true, false, false, false, false, true, false, false, false, false] rfl rfl (any_of HT_.out jK) (fun _ _ _ h => h) (Or.inl ⟨by rfl, ?_⟩) ?_ ?_
            rotate_left
            ·intro w'
             go_simp
             with_reducible rfl
            rotate_left
            ·simp only [Act.put, List.setIfInBounds_toArray, List.set_cons_zero, List.set_cons_succ, i64_w, i32_w]
             rfl
            refine take_ (i := 2) (N := some 34) (v := ?_) (a' := ?_) #[true, true, true, false, false, false, true, false, false, false, false] rfl rfl (take_ofW HT_.out HW_.out jK) (fun _ _ _ h => h) (Or.inl ⟨by rfl, ?_⟩) hHeld ?_ ?_
            rotate_left
            ·rintro w' ⟨s0, s1, s2, s3, s4, s5⟩
             go_simp
             with_reducible rfl
            rotate_left
            ·simp only [Act.put, List.setIfInBounds_toArray, List.set_cons_zero, List.set_cons_succ, i64_w, i32_w]
             rfl
            refine take_ (i := 7) (N := some 39) (v := ?_) (a' := ?_) #[true, true, true, false, false, false, true, true, false, false, false] rfl rfl (take_ofW HT_.out HW_.out jK) (fun _ _ _ h => h) (Or.inl ⟨by rfl, ?_⟩) hHeld ?_ ?_
            rotate_left
            ·rintro w' ⟨s0, s1, s2, s3, s4, s5⟩
             go_simp
             with_reducible rfl
            rotate_left
            ·simp only [Act.put, List.setIfInBounds_toArray, List.set_cons_zero, List.set_cons_succ, i64_w, i32_w]
             rfl
            refine one_ (i := 3) (N := some 35) #[true, true, true, true, false, false, true, true, false, false, false] rfl rfl (one_of HT_.out jK) (by decide) (fun K hK => ?_)
            refine goes_ Tryd.func57 jK rfl #[.string a0_4] (by rfl) rfl rfl jA ?_
            with_reducible refine (spec_l5Dot.calls a0_4 t205 _ A23.out).mono ?_
            rintro e w' ⟨rfl, ⟨nd, rfl⟩⟩
            refine ⟨_, rfl, ?_⟩
            refine hK.out _ _ ⟨(blk_cell BK199.out 0).trans rfl, (blk_cell BK199.out 1).trans rfl, (blk_cell BK199.out 2).trans rfl, (blk_cell BK199.out 3).trans rfl, (blk_cell BK199.out 4).trans rfl, (blk_cell BK199.out 5).trans rfl⟩ (fun hHeld => ?_)
            clear hK K
            refine norm_ (a' := ?_) ?_ ?_
            rotate_left
            ·show Act.put _ (some 35) _ = _
             simp only [Act.put, List.setIfInBounds_toArray, List.set_cons_zero, List.set_cons_succ, i64_w, i32_w]
             rfl
            refine pure_ (i := 4) (N := some 36) (v := ?_) (a' := ?_) #[true, true, true, true, true, false, true, true, false, false, false] rfl rfl (any_of HT_.out jK) (fun _ _ _ h => h) (Or.inl ⟨by rfl, ?_⟩) ?_ ?_
            rotate_left
            ·intro w'
             go_simp
             with_reducible rfl
            rotate_left
            ·simp only [Act.put, List.setIfInBounds_toArray, List.set_cons_zero, List.set_cons_succ, i64_w, i32_w]
             rfl
            refine pure_ (i := 5) (N := some 37) (v := ?_) (a' := ?_) #[true, true, true, true, true, true, true, true, false, false, false] rfl rfl (any_of HT_.out jK) (fun _ _ _ h => h) (Or.inl ⟨by rfl, ?_⟩) ?_ ?_
            rotate_left
            ·intro w'
             go_simp
             with_reducible rfl
            rotate_left
            ·simp only [Act.put, List.setIfInBounds_toArray, List.set_cons_zero, List.set_cons_succ, i64_w, i32_w]
             rfl
            refine one_ (i := 8) (N := some 40) #[true, true, true, true, true, true, true, true, true, false, false] rfl rfl (one_of HT_.out jK) (by decide) (fun K hK => ?_)
            refine goes_ Tryd.func58 jK rfl #[.int .i64 a0_3] (by rfl) rfl rfl jA ?_
            with_reducible refine (spec_NumText.calls k a0_3 t206 _ A26.out).mono ?_
            rintro e w35 ⟨rfl, hb⟩
            refine ⟨_, rfl, ?_⟩
            have n0_ := aS (blk_below (bU BK199.out) hb)
            have n1_ := aS (below_step (wS1 HB.out GE199.out) hb)
            clear BK199
            clear HB
            have BK199 := n0_
            have HB := n1_
            clear n0_ n1_
            (try clear hb)
            (try clear hb2)
            (try clear hk)
            (try clear hi)
            refine hK.out _ _ ⟨(blk_cell BK199.out 0).trans rfl, (blk_cell BK199.out 1).trans rfl, (blk_cell BK199.out 2).trans rfl, (blk_cell BK199.out 3).trans rfl, (blk_cell BK199.out 4).trans rfl, (blk_cell BK199.out 5).trans rfl⟩ (fun hHeld => ?_)
            clear hK K
            refine norm_ (a' := ?_) ?_ ?_
            rotate_left
            ·show Act.put _ (some 40) _ = _
             simp only [Act.put, List.setIfInBounds_toArray, List.set_cons_zero, List.set_cons_succ, i64_w, i32_w]
             rfl
            refine pure_ (i := 9) (N := some 41) (v := ?_) (a' := ?_) #[true, true, true, true, true, true, true, true, true, true, false] rfl rfl (any_of HT_.out jK) (fun _ _ _ h => h) (Or.inl ⟨by rfl, ?_⟩) ?_ ?_
            rotate_left
            ·intro w'
             go_simp
             with_reducible rfl
            rotate_left
            ·simp only [Act.put, List.setIfInBounds_toArray, List.set_cons_zero, List.set_cons_succ, i64_w, i32_w]
             rfl
            refine pure_ (i := 10) (N := some 2) (v := ?_) (a' := ?_) #[true, true, true, true, true, true, true, true, true, true, true] rfl rfl (any_of HT_.out jK) (fun _ _ _ h => h) (Or.inl ⟨by rfl, ?_⟩) ?_ ?_
            rotate_left
            ·intro w'
             go_simp
             with_reducible rfl
            rotate_left
            ·simp only [Act.put, List.setIfInBounds_toArray, List.set_cons_zero, List.set_cons_succ, i64_w, i32_w]
             rfl
            refine done_ (done_of HT_.out jK) ?_
            try go_wp2
            go_ret
            exact ⟨jE, by exact wS1 HB.out GE199.out⟩
           ·rw [if_neg c27] at H
            exact absurd H (by simp)
          ·rw [if_neg c25] at H
           exact absurd H (by simp)
         ·rw [if_neg c24] at H
          exact absurd H (by simp)
        ·rw [if_neg c22] at H
         have c22b0 : (a0_1 == 6) = false := beq_eq_false_iff_ne.mpr c22
         have c22b1 : (a0_1 != 6) = true := bne_iff_ne.mpr c22
         by_cases c36 : a0_1 = 16
         ·rw [if_pos c36] at H
          have c36b0 : (a0_1 == 16) = true := beq_iff_eq.mpr c36
          have c36b1 : (a0_1 != 16) = false := bne_eq_false_iff_eq.mpr c36
          clear c36
          by_cases c37 : (((((t201 ++ (⟨#[32]⟩ : ByteArray)) ++ t202) ++ (⟨#[32]⟩ : ByteArray)) ++ t203) ++ (⟨#[32]⟩ : ByteArray)).size + 1 ≤ 9223372036854775807
          ·rw [if_pos c37] at H
           have c37b0 := eq_true c37
           have c37b1 : decide ((((((t201 ++ (⟨#[32]⟩ : ByteArray)) ++ t202) ++ (⟨#[32]⟩ : ByteArray)) ++ t203) ++ (⟨#[32]⟩ : ByteArray)).size + 1 ≤ 9223372036854775807) = true := decide_eq_true c37
           try have c37b2 : (9223372036854775807 < (((((t201 ++ (⟨#[32]⟩ : ByteArray)) ++ t202) ++ (⟨#[32]⟩ : ByteArray)) ++ t203) ++ (⟨#[32]⟩ : ByteArray)).size + 1) = False := eq_false (Nat.not_lt.2 c37)
           try have c37b8 : (9223372036854775807 < t201.size + 1 + t202.size + 1 + t203.size + 1 + 1) = False := by have q_ := c37b2; simp only [ByteArray.size_append] at q_; exact q_
           by_cases c38 : ((((((t201 ++ (⟨#[32]⟩ : ByteArray)) ++ t202) ++ (⟨#[32]⟩ : ByteArray)) ++ t203) ++ (⟨#[32]⟩ : ByteArray)) ++ (⟨#[39]⟩ : ByteArray)).size + a0_5.size ≤ 9223372036854775807
           ·rw [if_pos c38] at H
            have c38b0 := eq_true c38
            have c38b1 : decide (((((((t201 ++ (⟨#[32]⟩ : ByteArray)) ++ t202) ++ (⟨#[32]⟩ : ByteArray)) ++ t203) ++ (⟨#[32]⟩ : ByteArray)) ++ (⟨#[39]⟩ : ByteArray)).size + a0_5.size ≤ 9223372036854775807) = true := decide_eq_true c38
            try have c38b2 : (9223372036854775807 < ((((((t201 ++ (⟨#[32]⟩ : ByteArray)) ++ t202) ++ (⟨#[32]⟩ : ByteArray)) ++ t203) ++ (⟨#[32]⟩ : ByteArray)) ++ (⟨#[39]⟩ : ByteArray)).size + a0_5.size) = False := eq_false (Nat.not_lt.2 c38)
            try have c38b8 : (9223372036854775807 < t201.size + 1 + t202.size + 1 + t203.size + 1 + 1 + a0_5.size) = False := by have q_ := c38b2; simp only [ByteArray.size_append] at q_; exact q_
            obtain rfl := Option.some.inj H
            go_enter Tryd.func22, Tryd.ntmps22
            try go_wp2_with (first | ((with_reducible refine gate_dst (N := 1) rfl ?_); refine box_event ?hg (N := 1) ?hd (cs := #[.string a0_0, .int .i64 a0_1, .int .i64 a0_2, .int .i64 a0_3, .string a0_4, .string a0_5]) (t := 33) ?hr ?_; (case hd => rfl); (case hg => rfl); (case hr => first | (go_simp; done) | (go_simp; rfl)); intro gb199 hg w39 hbox hb; have n0_ := aS (below_step (wU HB.out) hb); have n1_ := aS (hbox); have n2_ := aS ((by rw [hg]; exact (below_size (wU HB.out)) : w.heap.size ≤ gb199)); have n3_ := aS ((by rw [hg]; exact (below_size (wU HB.out)) : w.heap.size ≤ gb199)); clear HB; revert n0_ n1_ n2_ n3_; intro HB BK199 GW199 GE199; clear hb hbox hg; have hcz40 := cells6f BK199.out) | ((with_reducible refine gate_callee (f := 56) rfl ?_); refine goesL_ (some 5) rfl rfl Tryd.func56 jK rfl #[.agg #[.string a0_0, .int .i64 a0_1, .int .i64 a0_2, .int .i64 a0_3, .string a0_4, .string a0_5]] rfl jA ?_; (with_reducible refine (spec_RecordOk.calls k a0_0 a0_1 a0_2 a0_3 a0_4 a0_5 true _ A2.out).mono ?_); rintro e w41 ⟨rfl, hb⟩; refine ⟨_, rfl, ?_⟩; have n0_ := aS (blk_below (bU BK199.out) hb); have n1_ := aS (below_step (wS1 HB.out GE199.out) hb); clear BK199 HB; revert n0_ n1_; intro BK199 HB; clear hb))
            have n0_ := aS (blk_drew BK199.out)
            have n1_ := aS (below_drew1 HB.out)
            clear BK199
            clear HB
            have BK199 := n0_
            have HB := n1_
            clear n0_ n1_
            refine start_ (n := 15) (S := fun w' => w'.cell? ⟨gb199, 0, none⟩ = some (.string a0_0) ∧ w'.cell? ⟨gb199, 1, none⟩ = some (.int .i64 a0_1) ∧ w'.cell? ⟨gb199, 2, none⟩ = some (.int .i64 a0_2) ∧ w'.cell? ⟨gb199, 3, none⟩ = some (.int .i64 a0_3) ∧ w'.cell? ⟨gb199, 4, none⟩ = some (.string a0_4) ∧ w'.cell? ⟨gb199, 5, none⟩ = some (.string a0_5)) (ds := []) #[false, false, false, false, false, false, false, false, false, false, false, false, false, false, false] jK rfl rfl ⟨(blk_cell BK199.out 0).trans rfl, (blk_cell BK199.out 1).trans rfl, (blk_cell BK199.out 2).trans rfl, (blk_cell BK199.out 3).trans rfl, (blk_cell BK199.out 4).trans rfl, (blk_cell BK199.out 5).trans rfl⟩ (fun hHeld => ?_); refine with_tabW spec_RecordText.tab3 spec_RecordText.bits3 (fun HT_ HW_ => ?_)
            generalize w41.drew = w42 at BK199 HB hHeld ⊢
            refine pure_ (i := 0) (N := some 7) (v := ?_) (a' := ?_) #[true, false, false, false, false, false, false, false, false, false, false, false, false, false, false] rfl rfl (any_of HT_.out jK) (fun _ _ _ h => h) (Or.inl ⟨by rfl, ?_⟩) ?_ ?_
            rotate_left
            ·intro w'
             go_simp
             with_reducible rfl
            rotate_left
            ·simp only [Act.put, List.setIfInBounds_toArray, List.set_cons_zero, List.set_cons_succ, i64_w, i32_w]
             rfl
            refine pure_ (i := 4) (N := some 11) (v := ?_) (a' := ?_) #[true, false, false, false, true, false, false, false, false, false, false, false, false, false, false] rfl rfl (any_of HT_.out jK) (fun _ _ _ h => h) (Or.inl ⟨by rfl, ?_⟩) ?_ ?_
            rotate_left
            ·intro w'
             go_simp
             with_reducible rfl
            rotate_left
            ·simp only [Act.put, List.setIfInBounds_toArray, List.set_cons_zero, List.set_cons_succ, i64_w, i32_w]
             rfl
            refine pure_ (i := 9) (N := some 16) (v := ?_) (a' := ?_) #[true, false, false, false, true, false, false, false, false, true, false, false, false, false, false] rfl rfl (any_of HT_.out jK) (fun _ _ _ h => h) (Or.inl ⟨by rfl, ?_⟩) ?_ ?_
            rotate_left
            ·intro w'
             go_simp
             with_reducible rfl
            rotate_left
            ·simp only [Act.put, List.setIfInBounds_toArray, List.set_cons_zero, List.set_cons_succ, i64_w, i32_w]
             rfl
            refine take_ (i := 1) (N := some 8) (v := ?_) (a' := ?_) #[true, true, false, false, true, false, false, false, false, true, false, false, false, false, false] rfl rfl (take_ofW HT_.out HW_.out jK) (fun _ _ _ h => h) (Or.inl ⟨by rfl, ?_⟩) hHeld ?_ ?_
            rotate_left
            ·rintro w' ⟨s0, s1, s2, s3, s4, s5⟩
             go_simp
             with_reducible rfl
            rotate_left
            ·simp only [Act.put, List.setIfInBounds_toArray, List.set_cons_zero, List.set_cons_succ, i64_w, i32_w]
             rfl
            refine take_ (i := 5) (N := some 12) (v := ?_) (a' := ?_) #[true, true, false, false, true, true, false, false, false, true, false, false, false, false, false] rfl rfl (take_ofW HT_.out HW_.out jK) (fun _ _ _ h => h) (Or.inl ⟨by rfl, ?_⟩) hHeld ?_ ?_
            rotate_left
            ·rintro w' ⟨s0, s1, s2, s3, s4, s5⟩
             go_simp
             with_reducible rfl
            rotate_left
            ·simp only [Act.put, List.setIfInBounds_toArray, List.set_cons_zero, List.set_cons_succ, i64_w, i32_w]
             rfl
            refine take_ (i := 10) (N := some 17) (v := ?_) (a' := ?_) #[true, true, false, false, true, true, false, false, false, true, true, false, false, false, false] rfl rfl (take_ofW HT_.out HW_.out jK) (fun _ _ _ h => h) (Or.inl ⟨by rfl, ?_⟩) hHeld ?_ ?_
            rotate_left
            ·rintro w' ⟨s0, s1, s2, s3, s4, s5⟩
             go_simp
             with_reducible rfl
            rotate_left
            ·simp only [Act.put, List.setIfInBounds_toArray, List.set_cons_zero, List.set_cons_succ, i64_w, i32_w]
             rfl
            refine one_ (i := 2) (N := some 9) #[true, true, true, false, true, true, false, false, false, true, true, false, false, false, false] rfl rfl (one_of HT_.out jK) (by decide) (fun K hK => ?_)
            refine goes_ Tryd.func57 jK rfl #[.string a0_0] (by rfl) rfl rfl jA ?_
            with_reducible refine (spec_l5Dot.calls a0_0 t201 _ A4.out).mono ?_
            rintro e w' ⟨rfl, ⟨nd, rfl⟩⟩
            refine ⟨_, rfl, ?_⟩
            refine hK.out _ _ ⟨(blk_cell BK199.out 0).trans rfl, (blk_cell BK199.out 1).trans rfl, (blk_cell BK199.out 2).trans rfl, (blk_cell BK199.out 3).trans rfl, (blk_cell BK199.out 4).trans rfl, (blk_cell BK199.out 5).trans rfl⟩ (fun hHeld => ?_)
            clear hK K
            refine norm_ (a' := ?_) ?_ ?_
            rotate_left
            ·show Act.put _ (some 9) _ = _
             simp only [Act.put, List.setIfInBounds_toArray, List.set_cons_zero, List.set_cons_succ, i64_w, i32_w]
             rfl
            refine pure_ (i := 3) (N := some 10) (v := ?_) (a' := ?_) #[true, true, true, true, true, true, false, false, false, true, true, false, false, false, false] rfl rfl (any_of HT_.out jK) (fun _ _ _ h => h) (Or.inl ⟨by rfl, ?_⟩) ?_ ?_
            rotate_left
            ·intro w'
             go_simp
             with_reducible rfl
            rotate_left
            ·simp only [Act.put, List.setIfInBounds_toArray, List.set_cons_zero, List.set_cons_succ, i64_w, i32_w]
             rfl
            refine one_ (i := 6) (N := some 13) #[true, true, true, true, true, true, true, false, false, true, true, false, false, false, false] rfl rfl (one_of HT_.out jK) (by decide) (fun K hK => ?_)
            refine goes_ Tryd.func58 jK rfl #[.int .i64 a0_2] (by rfl) rfl rfl jA ?_
            with_reducible refine (spec_NumText.calls k a0_2 t202 _ A6.out).mono ?_
            rintro e w43 ⟨rfl, hb⟩
            refine ⟨_, rfl, ?_⟩
            have n0_ := aS (blk_below (bU BK199.out) hb)
            have n1_ := aS (below_step (wS1 HB.out GE199.out) hb)
            clear BK199
            clear HB
            have BK199 := n0_
            have HB := n1_
            clear n0_ n1_
            (try clear hb)
            (try clear hb2)
            (try clear hk)
            (try clear hi)
            refine hK.out _ _ ⟨(blk_cell BK199.out 0).trans rfl, (blk_cell BK199.out 1).trans rfl, (blk_cell BK199.out 2).trans rfl, (blk_cell BK199.out 3).trans rfl, (blk_cell BK199.out 4).trans rfl, (blk_cell BK199.out 5).trans rfl⟩ (fun hHeld => ?_)
            clear hK K
            refine norm_ (a' := ?_) ?_ ?_
            rotate_left
            ·show Act.put _ (some 13) _ = _
             simp only [Act.put, List.setIfInBounds_toArray, List.set_cons_zero, List.set_cons_succ, i64_w, i32_w]
             rfl
            refine pure_ (i := 7) (N := some 14) (v := ?_) (a' := ?_) #[true, true, true, true, true, true, true, true, false, true, true, false, false, false, false] rfl rfl (any_of HT_.out jK) (fun _ _ _ h => h) (Or.inl ⟨by rfl, ?_⟩) ?_ ?_
            rotate_left
            ·intro w'
             go_simp
             with_reducible rfl
            rotate_left
            ·simp only [Act.put, List.setIfInBounds_toArray, List.set_cons_zero, List.set_cons_succ, i64_w, i32_w]
             rfl
            refine pure_ (i := 8) (N := some 15) (v := ?_) (a' := ?_) #[true, true, true, true, true, true, true, true, true, true, true, false, false, false, false] rfl rfl (any_of HT_.out jK) (fun _ _ _ h => h) (Or.inl ⟨by rfl, ?_⟩) ?_ ?_
            rotate_left
            ·intro w'
             go_simp
             with_reducible rfl
            rotate_left
            ·simp only [Act.put, List.setIfInBounds_toArray, List.set_cons_zero, List.set_cons_succ, i64_w, i32_w]
             rfl
            refine one_ (i := 11) (N := some 18) #[true, true, true, true, true, true, true, true, true, true, true, true, false, false, false] rfl rfl (one_of HT_.out jK) (by decide) (fun K hK => ?_)
            refine goes_ Tryd.func59 jK rfl #[.int .i64 a0_1] (by rfl) rfl rfl jA ?_
            with_reducible refine (spec_TypeText.calls a0_1 t203 _ A9.out).mono ?_
            rintro e w' ⟨rfl, ⟨nd, rfl⟩⟩
            refine ⟨_, rfl, ?_⟩
            refine hK.out _ _ ⟨(blk_cell BK199.out 0).trans rfl, (blk_cell BK199.out 1).trans rfl, (blk_cell BK199.out 2).trans rfl, (blk_cell BK199.out 3).trans rfl, (blk_cell BK199.out 4).trans rfl, (blk_cell BK199.out 5).trans rfl⟩ (fun hHeld => ?_)
            clear hK K
            refine norm_ (a' := ?_) ?_ ?_
            rotate_left
            ·show Act.put _ (some 18) _ = _
             simp only [Act.put, List.setIfInBounds_toArray, List.set_cons_zero, List.set_cons_succ, i64_w, i32_w]
             rfl
            refine pure_ (i := 12) (N := some 19) (v := ?_) (a' := ?_) #[true, true, true, true, true, true, true, true, true, true, true, true, true, false, false] rfl rfl (any_of HT_.out jK) (fun _ _ _ h => h) (Or.inl ⟨by rfl, ?_⟩) ?_ ?_
            rotate_left
            ·intro w'
             go_simp
             with_reducible rfl
            rotate_left
            ·simp only [Act.put, List.setIfInBounds_toArray, List.set_cons_zero, List.set_cons_succ, i64_w, i32_w]
             rfl
            refine pure_ (i := 13) (N := some 20) (v := ?_) (a' := ?_) #[true, true, true, true, true, true, true, true, true, true, true, true, true, true, false] rfl rfl (any_of HT_.out jK) (fun _ _ _ h => h) (Or.inl ⟨by rfl, ?_⟩) ?_ ?_
            rotate_left
            ·intro w'
             go_simp
             with_reducible rfl
            rotate_left
            ·simp only [Act.put, List.setIfInBounds_toArray, List.set_cons_zero, List.set_cons_succ, i64_w, i32_w]
             rfl
            refine pure_ (i := 14) (N := some 3) (v := ?_) (a' := ?_) #[true, true, true, true, true, true, true, true, true, true, true, true, true, true, true] rfl rfl (any_of HT_.out jK) (fun _ _ _ h => h) (Or.inl ⟨by rfl, ?_⟩) ?_ ?_
            rotate_left
            ·intro w'
             go_simp
             with_reducible rfl
            rotate_left
            ·simp only [Act.put, List.setIfInBounds_toArray, List.set_cons_zero, List.set_cons_succ, i64_w, i32_w]
             rfl
            refine done_ (done_of HT_.out jK) ?_
            have hcz44 := cells6f BK199.out
            try go_wp2
            go_ret
            exact ⟨jE, by exact wS1 HB.out GE199.out⟩
           ·rw [if_neg c38] at H
            exact absurd H (by simp)
          ·rw [if_neg c37] at H
           exact absurd H (by simp)
         ·rw [if_neg c36] at H
          have c36b0 : (a0_1 == 16) = false := beq_eq_false_iff_ne.mpr c36
          have c36b1 : (a0_1 != 16) = true := bne_iff_ne.mpr c36
          replace H := Option.bind_eq_some_iff.mp H
          obtain ⟨t207, A45, H⟩ := H
          try dsimp only at H
          replace A45 := aS A45
          by_cases c46 : (((((t201 ++ (⟨#[32]⟩ : ByteArray)) ++ t202) ++ (⟨#[32]⟩ : ByteArray)) ++ t203) ++ (⟨#[32]⟩ : ByteArray)).size + t207.size ≤ 9223372036854775807
          ·rw [if_pos c46] at H
           have c46b0 := eq_true c46
           have c46b1 : decide ((((((t201 ++ (⟨#[32]⟩ : ByteArray)) ++ t202) ++ (⟨#[32]⟩ : ByteArray)) ++ t203) ++ (⟨#[32]⟩ : ByteArray)).size + t207.size ≤ 9223372036854775807) = true := decide_eq_true c46
           try have c46b2 : (9223372036854775807 < (((((t201 ++ (⟨#[32]⟩ : ByteArray)) ++ t202) ++ (⟨#[32]⟩ : ByteArray)) ++ t203) ++ (⟨#[32]⟩ : ByteArray)).size + t207.size) = False := eq_false (Nat.not_lt.2 c46)
           try have c46b8 : (9223372036854775807 < t201.size + 1 + t202.size + 1 + t203.size + 1 + t207.size) = False := by have q_ := c46b2; simp only [ByteArray.size_append] at q_; exact q_
           obtain rfl := Option.some.inj H
           go_enter Tryd.func22, Tryd.ntmps22
           try go_wp2_with (first | ((with_reducible refine gate_dst (N := 1) rfl ?_); refine box_event ?hg (N := 1) ?hd (cs := #[.string a0_0, .int .i64 a0_1, .int .i64 a0_2, .int .i64 a0_3, .string a0_4, .string a0_5]) (t := 33) ?hr ?_; (case hd => rfl); (case hg => rfl); (case hr => first | (go_simp; done) | (go_simp; rfl)); intro gb199 hg w47 hbox hb; have n0_ := aS (below_step (wU HB.out) hb); have n1_ := aS (hbox); have n2_ := aS ((by rw [hg]; exact (below_size (wU HB.out)) : w.heap.size ≤ gb199)); have n3_ := aS ((by rw [hg]; exact (below_size (wU HB.out)) : w.heap.size ≤ gb199)); clear HB; revert n0_ n1_ n2_ n3_; intro HB BK199 GW199 GE199; clear hb hbox hg; have hcz48 := cells6f BK199.out) | ((with_reducible refine gate_callee (f := 56) rfl ?_); refine goesL_ (some 5) rfl rfl Tryd.func56 jK rfl #[.agg #[.string a0_0, .int .i64 a0_1, .int .i64 a0_2, .int .i64 a0_3, .string a0_4, .string a0_5]] rfl jA ?_; (with_reducible refine (spec_RecordOk.calls k a0_0 a0_1 a0_2 a0_3 a0_4 a0_5 true _ A2.out).mono ?_); rintro e w49 ⟨rfl, hb⟩; refine ⟨_, rfl, ?_⟩; have n0_ := aS (blk_below (bU BK199.out) hb); have n1_ := aS (below_step (wS1 HB.out GE199.out) hb); clear BK199 HB; revert n0_ n1_; intro BK199 HB; clear hb))
           have n0_ := aS (blk_drew BK199.out)
           have n1_ := aS (below_drew1 HB.out)
           clear BK199
           clear HB
           have BK199 := n0_
           have HB := n1_
           clear n0_ n1_
           refine start_ (n := 15) (S := fun w' => w'.cell? ⟨gb199, 0, none⟩ = some (.string a0_0) ∧ w'.cell? ⟨gb199, 1, none⟩ = some (.int .i64 a0_1) ∧ w'.cell? ⟨gb199, 2, none⟩ = some (.int .i64 a0_2) ∧ w'.cell? ⟨gb199, 3, none⟩ = some (.int .i64 a0_3) ∧ w'.cell? ⟨gb199, 4, none⟩ = some (.string a0_4) ∧ w'.cell? ⟨gb199, 5, none⟩ = some (.string a0_5)) (ds := []) #[false, false, false, false, false, false, false, false, false, false, false, false, false, false, false] jK rfl rfl ⟨(blk_cell BK199.out 0).trans rfl, (blk_cell BK199.out 1).trans rfl, (blk_cell BK199.out 2).trans rfl, (blk_cell BK199.out 3).trans rfl, (blk_cell BK199.out 4).trans rfl, (blk_cell BK199.out 5).trans rfl⟩ (fun hHeld => ?_); refine with_tabW spec_RecordText.tab3 spec_RecordText.bits3 (fun HT_ HW_ => ?_)
           generalize w49.drew = w50 at BK199 HB hHeld ⊢
           refine pure_ (i := 0) (N := some 7) (v := ?_) (a' := ?_) #[true, false, false, false, false, false, false, false, false, false, false, false, false, false, false] rfl rfl (any_of HT_.out jK) (fun _ _ _ h => h) (Or.inl ⟨by rfl, ?_⟩) ?_ ?_
           rotate_left
           ·intro w'
            go_simp
            with_reducible rfl
           rotate_left
           ·simp only [Act.put, List.setIfInBounds_toArray, List.set_cons_zero, List.set_cons_succ, i64_w, i32_w]
            rfl
           refine pure_ (i := 4) (N := some 11) (v := ?_) (a' := ?_) #[true, false, false, false, true, false, false, false, false, false, false, false, false, false, false] rfl rfl (any_of HT_.out jK) (fun _ _ _ h => h) (Or.inl ⟨by rfl, ?_⟩) ?_ ?_
           rotate_left
           ·intro w'
            go_simp
            with_reducible rfl
           rotate_left
           ·simp only [Act.put, List.setIfInBounds_toArray, List.set_cons_zero, List.set_cons_succ, i64_w, i32_w]
            rfl
           refine pure_ (i := 9) (N := some 16) (v := ?_) (a' := ?_) #[true, false, false, false, true, false, false, false, false, true, false, false, false, false, false] rfl rfl (any_of HT_.out jK) (fun _ _ _ h => h) (Or.inl ⟨by rfl, ?_⟩) ?_ ?_
           rotate_left
           ·intro w'
            go_simp
            with_reducible rfl
           rotate_left
           ·simp only [Act.put, List.setIfInBounds_toArray, List.set_cons_zero, List.set_cons_succ, i64_w, i32_w]
            rfl
           refine take_ (i := 1) (N := some 8) (v := ?_) (a' := ?_) #[true, true, false, false, true, false, false, false, false, true, false, false, false, false, false] rfl rfl (take_ofW HT_.out HW_.out jK) (fun _ _ _ h => h) (Or.inl ⟨by rfl, ?_⟩) hHeld ?_ ?_
           rotate_left
           ·rintro w' ⟨s0, s1, s2, s3, s4, s5⟩
            go_simp
            with_reducible rfl
           rotate_left
           ·simp only [Act.put, List.setIfInBounds_toArray, List.set_cons_zero, List.set_cons_succ, i64_w, i32_w]
            rfl
           refine take_ (i := 5) (N := some 12) (v := ?_) (a' := ?_) #[true, true, false, false, true, true, false, false, false, true, false, false, false, false, false] rfl rfl (take_ofW HT_.out HW_.out jK) (fun _ _ _ h => h) (Or.inl ⟨by rfl, ?_⟩) hHeld ?_ ?_
           rotate_left
           ·rintro w' ⟨s0, s1, s2, s3, s4, s5⟩
            go_simp
            with_reducible rfl
           rotate_left
           ·simp only [Act.put, List.setIfInBounds_toArray, List.set_cons_zero, List.set_cons_succ, i64_w, i32_w]
            rfl
           refine take_ (i := 10) (N := some 17) (v := ?_) (a' := ?_) #[true, true, false, false, true, true, false, false, false, true, true, false, false, false, false] rfl rfl (take_ofW HT_.out HW_.out jK) (fun _ _ _ h => h) (Or.inl ⟨by rfl, ?_⟩) hHeld ?_ ?_
           rotate_left
           ·rintro w' ⟨s0, s1, s2, s3, s4, s5⟩
            go_simp
            with_reducible rfl
           rotate_left
           ·simp only [Act.put, List.setIfInBounds_toArray, List.set_cons_zero, List.set_cons_succ, i64_w, i32_w]
            rfl
           refine one_ (i := 2) (N := some 9) #[true, true, true, false, true, true, false, false, false, true, true, false, false, false, false] rfl rfl (one_of HT_.out jK) (by decide) (fun K hK => ?_)
           refine goes_ Tryd.func57 jK rfl #[.string a0_0] (by rfl) rfl rfl jA ?_
           with_reducible refine (spec_l5Dot.calls a0_0 t201 _ A4.out).mono ?_
           rintro e w' ⟨rfl, ⟨nd, rfl⟩⟩
           refine ⟨_, rfl, ?_⟩
           refine hK.out _ _ ⟨(blk_cell BK199.out 0).trans rfl, (blk_cell BK199.out 1).trans rfl, (blk_cell BK199.out 2).trans rfl, (blk_cell BK199.out 3).trans rfl, (blk_cell BK199.out 4).trans rfl, (blk_cell BK199.out 5).trans rfl⟩ (fun hHeld => ?_)
           clear hK K
           refine norm_ (a' := ?_) ?_ ?_
           rotate_left
           ·show Act.put _ (some 9) _ = _
            simp only [Act.put, List.setIfInBounds_toArray, List.set_cons_zero, List.set_cons_succ, i64_w, i32_w]
            rfl
           refine pure_ (i := 3) (N := some 10) (v := ?_) (a' := ?_) #[true, true, true, true, true, true, false, false, false, true, true, false, false, false, false] rfl rfl (any_of HT_.out jK) (fun _ _ _ h => h) (Or.inl ⟨by rfl, ?_⟩) ?_ ?_
           rotate_left
           ·intro w'
            go_simp
            with_reducible rfl
           rotate_left
           ·simp only [Act.put, List.setIfInBounds_toArray, List.set_cons_zero, List.set_cons_succ, i64_w, i32_w]
            rfl
           refine one_ (i := 6) (N := some 13) #[true, true, true, true, true, true, true, false, false, true, true, false, false, false, false] rfl rfl (one_of HT_.out jK) (by decide) (fun K hK => ?_)
           refine goes_ Tryd.func58 jK rfl #[.int .i64 a0_2] (by rfl) rfl rfl jA ?_
           with_reducible refine (spec_NumText.calls k a0_2 t202 _ A6.out).mono ?_
           rintro e w51 ⟨rfl, hb⟩
           refine ⟨_, rfl, ?_⟩
           have n0_ := aS (blk_below (bU BK199.out) hb)
           have n1_ := aS (below_step (wS1 HB.out GE199.out) hb)
           clear BK199
           clear HB
           have BK199 := n0_
           have HB := n1_
           clear n0_ n1_
           (try clear hb)
           (try clear hb2)
           (try clear hk)
           (try clear hi)
           refine hK.out _ _ ⟨(blk_cell BK199.out 0).trans rfl, (blk_cell BK199.out 1).trans rfl, (blk_cell BK199.out 2).trans rfl, (blk_cell BK199.out 3).trans rfl, (blk_cell BK199.out 4).trans rfl, (blk_cell BK199.out 5).trans rfl⟩ (fun hHeld => ?_)
           clear hK K
           refine norm_ (a' := ?_) ?_ ?_
           rotate_left
           ·show Act.put _ (some 13) _ = _
            simp only [Act.put, List.setIfInBounds_toArray, List.set_cons_zero, List.set_cons_succ, i64_w, i32_w]
            rfl
           refine pure_ (i := 7) (N := some 14) (v := ?_) (a' := ?_) #[true, true, true, true, true, true, true, true, false, true, true, false, false, false, false] rfl rfl (any_of HT_.out jK) (fun _ _ _ h => h) (Or.inl ⟨by rfl, ?_⟩) ?_ ?_
           rotate_left
           ·intro w'
            go_simp
            with_reducible rfl
           rotate_left
           ·simp only [Act.put, List.setIfInBounds_toArray, List.set_cons_zero, List.set_cons_succ, i64_w, i32_w]
            rfl
           refine pure_ (i := 8) (N := some 15) (v := ?_) (a' := ?_) #[true, true, true, true, true, true, true, true, true, true, true, false, false, false, false] rfl rfl (any_of HT_.out jK) (fun _ _ _ h => h) (Or.inl ⟨by rfl, ?_⟩) ?_ ?_
           rotate_left
           ·intro w'
            go_simp
            with_reducible rfl
           rotate_left
           ·simp only [Act.put, List.setIfInBounds_toArray, List.set_cons_zero, List.set_cons_succ, i64_w, i32_w]
            rfl
           refine one_ (i := 11) (N := some 18) #[true, true, true, true, true, true, true, true, true, true, true, true, false, false, false] rfl rfl (one_of HT_.out jK) (by decide) (fun K hK => ?_)
           refine goes_ Tryd.func59 jK rfl #[.int .i64 a0_1] (by rfl) rfl rfl jA ?_
           with_reducible refine (spec_TypeText.calls a0_1 t203 _ A9.out).mono ?_
           rintro e w' ⟨rfl, ⟨nd, rfl⟩⟩
           refine ⟨_, rfl, ?_⟩
           refine hK.out _ _ ⟨(blk_cell BK199.out 0).trans rfl, (blk_cell BK199.out 1).trans rfl, (blk_cell BK199.out 2).trans rfl, (blk_cell BK199.out 3).trans rfl, (blk_cell BK199.out 4).trans rfl, (blk_cell BK199.out 5).trans rfl⟩ (fun hHeld => ?_)
           clear hK K
           refine norm_ (a' := ?_) ?_ ?_
           rotate_left
           ·show Act.put _ (some 18) _ = _
            simp only [Act.put, List.setIfInBounds_toArray, List.set_cons_zero, List.set_cons_succ, i64_w, i32_w]
            rfl
           refine pure_ (i := 12) (N := some 19) (v := ?_) (a' := ?_) #[true, true, true, true, true, true, true, true, true, true, true, true, true, false, false] rfl rfl (any_of HT_.out jK) (fun _ _ _ h => h) (Or.inl ⟨by rfl, ?_⟩) ?_ ?_
           rotate_left
           ·intro w'
            go_simp
            with_reducible rfl
           rotate_left
           ·simp only [Act.put, List.setIfInBounds_toArray, List.set_cons_zero, List.set_cons_succ, i64_w, i32_w]
            rfl
           refine pure_ (i := 13) (N := some 20) (v := ?_) (a' := ?_) #[true, true, true, true, true, true, true, true, true, true, true, true, true, true, false] rfl rfl (any_of HT_.out jK) (fun _ _ _ h => h) (Or.inl ⟨by rfl, ?_⟩) ?_ ?_
           rotate_left
           ·intro w'
            go_simp
            with_reducible rfl
           rotate_left
           ·simp only [Act.put, List.setIfInBounds_toArray, List.set_cons_zero, List.set_cons_succ, i64_w, i32_w]
            rfl
           refine pure_ (i := 14) (N := some 3) (v := ?_) (a' := ?_) #[true, true, true, true, true, true, true, true, true, true, true, true, true, true, true] rfl rfl (any_of HT_.out jK) (fun _ _ _ h => h) (Or.inl ⟨by rfl, ?_⟩) ?_ ?_
           rotate_left
           ·intro w'
            go_simp
            with_reducible rfl
           rotate_left
           ·simp only [Act.put, List.setIfInBounds_toArray, List.set_cons_zero, List.set_cons_succ, i64_w, i32_w]
            rfl
           refine done_ (done_of HT_.out jK) ?_
           have hcz52 := cells6f BK199.out
           try go_wp2_with (first | ((with_reducible refine gate_callee (f := 57) rfl ?_); refine goesL_ (some 52) rfl rfl Tryd.func57 jK rfl #[.string a0_4] rfl jA ?_; (with_reducible refine (spec_l5Dot.calls a0_4 t207 _ A45.out).mono ?_); rintro e w' ⟨rfl, ⟨nd, rfl⟩⟩; refine ⟨_, rfl, ?_⟩))
           go_ret
           exact ⟨jE, by exact wS1 HB.out GE199.out⟩
          ·rw [if_neg c46] at H
           exact absurd H (by simp)
      ·rw [if_neg c11] at H
       exact absurd H (by simp)
     ·rw [if_neg c10] at H
      exact absurd H (by simp)
    ·rw [if_neg c8] at H
     exact absurd H (by simp)
   ·rw [if_neg c7] at H
    exact absurd H (by simp)
  ·rw [if_neg c5] at H
   exact absurd H (by simp)
 ·replace c3 := Bool.eq_false_iff.mpr c3
  subst c3
  have H1 : (some (⟨#[]⟩ : ByteArray)) = some r := by rw [if_neg (show ¬ (false = true) by decide)] at H; exact H
  clear H
  have H := H1
  clear H1
  obtain rfl := Option.some.inj H
  go_enter Tryd.func22, Tryd.ntmps22
  go_wp2_with (first | ((with_reducible refine gate_dst (N := 1) rfl ?_); refine box_event ?hg (N := 1) ?hd (cs := #[.string a0_0, .int .i64 a0_1, .int .i64 a0_2, .int .i64 a0_3, .string a0_4, .string a0_5]) (t := 33) ?hr ?_; (case hd => rfl); (case hg => rfl); (case hr => first | (go_simp; done) | (go_simp; rfl)); intro gb199 hg w53 hbox hb; have n0_ := aS (below_step (wU HB.out) hb); have n1_ := aS (hbox); have n2_ := aS ((by rw [hg]; exact (below_size (wU HB.out)) : w.heap.size ≤ gb199)); have n3_ := aS ((by rw [hg]; exact (below_size (wU HB.out)) : w.heap.size ≤ gb199)); clear HB; revert n0_ n1_ n2_ n3_; intro HB BK199 GW199 GE199; clear hb hbox hg; have hcz54 := cells6f BK199.out) | ((with_reducible refine gate_callee (f := 56) rfl ?_); refine goesL_ (some 5) rfl rfl Tryd.func56 jK rfl #[.agg #[.string a0_0, .int .i64 a0_1, .int .i64 a0_2, .int .i64 a0_3, .string a0_4, .string a0_5]] rfl jA ?_; (with_reducible refine (spec_RecordOk.calls k a0_0 a0_1 a0_2 a0_3 a0_4 a0_5 false _ A2.out).mono ?_); rintro e w55 ⟨rfl, hb⟩; refine ⟨_, rfl, ?_⟩; have n0_ := aS (blk_below (bU BK199.out) hb); have n1_ := aS (below_step (wS1 HB.out GE199.out) hb); clear BK199 HB; revert n0_ n1_; intro BK199 HB; clear hb))
  go_ret
  exact ⟨jE, by exact wS1 HB.out GE199.out⟩

end Go.Proofs.YtfmnofjijodgcaaDoor.Pr
