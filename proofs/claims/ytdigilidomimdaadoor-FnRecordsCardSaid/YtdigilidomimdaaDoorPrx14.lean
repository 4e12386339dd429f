-- Written for this claim by a program of this session (wip/tool/pr.py, over the kit's printer).
-- half
import Derived.Test.YtdigilidomimdaaDoorPrx0
namespace Go.Proofs.YtdigilidomimdaaDoor.Pr
open Go.RowKit Go.Proofs.YtdigilidomimdaaDoorW.PrintWords Go.Proofs.YtdigilidomimdaaDoorW.PrintLast Go.Proofs.YtdigilidomimdaaDoorW.PrintMore
attribute [local go_sem] max2_int min2_int max_two min_two max_three min_three max_four min_four   -- for this text's walks alone
set_option linter.unusedVariables false
set_option linter.unusedSimpArgs false

/-! ### impl_NumText: function 97 -/
mutual
def impl_NumText.j0 : Nat → Int → Bool → Option (ByteArray)
 | 0, _, _ => none
 | k + 1, x0, x3 => if x3 = true then ((impl_NumText.f k (wrap64 (-x0))).bind fun t513 => (if 1 + t513.size ≤ 9223372036854775807 then (some ((⟨#[45]⟩ : ByteArray) ++ t513)) else (none))) else (if x0 < 0 then ((impl_NumText.f k (wrap64 (Int.tdiv x0 10))).bind fun t514 => ((impl_NumText.f k (wrap64 (-(Int.tmod x0 10)))).bind fun t515 => (if t514.size + t515.size ≤ 9223372036854775807 then (some (t514 ++ t515)) else (none)))) else (if x0 < 10 then (some (Utf8.encode (wrap32 (wrap64 (48 + x0))))) else ((impl_NumText.f k (wrap64 (Int.tdiv x0 10))).bind fun t516 => (if t516.size + (Utf8.encode (wrap32 (wrap64 (48 + (Int.tmod x0 10))))).size ≤ 9223372036854775807 then (some (t516 ++ (Utf8.encode (wrap32 (wrap64 (48 + (Int.tmod x0 10))))))) else (none)))))
def impl_NumText.f : Nat → Int → Option (ByteArray)
 | 0, _ => none
 | k + 1, a0 => if a0 < 0 then (impl_NumText.j0 k a0 (decide (a0 > (-10)))) else (impl_NumText.j0 k a0 false)
end
theorem impl_NumText.mono_l : ∀ k, (∀ y0, LeO (impl_NumText.f k y0) (impl_NumText.f (k + 1) y0)) ∧ (∀ y0 y1, LeO (impl_NumText.j0 k y0 y1) (impl_NumText.j0 (k + 1) y0 y1))
 | 0 => ⟨fun _ r h => by simp [impl_NumText.f] at h, fun _ _ r h => by simp [impl_NumText.j0] at h⟩
 | k + 1 => by
  obtain ⟨ih0, ih1⟩ := impl_NumText.mono_l k
  refine ⟨?_, ?_⟩
  ·intro y0
   unfold impl_NumText.f
   repeat' first
   | (with_reducible first | exact ih0 _ | exact ih1 _ _ | exact LeO.refl _ | exact LeO.none _ | refine LeO.ite ?_ ?_ | refine LeO.bind ?_ (fun _ => ?_))
   | refine LeO.ite ?_ ?_
   | refine LeO.bind ?_ (fun _ => ?_)
  ·intro y0 y1
   unfold impl_NumText.j0
   repeat' first
   | (with_reducible first | exact ih0 _ | exact ih1 _ _ | exact LeO.refl _ | exact LeO.none _ | refine LeO.ite ?_ ?_ | refine LeO.bind ?_ (fun _ => ?_))
   | refine LeO.ite ?_ ?_
   | refine LeO.bind ?_ (fun _ => ?_)
theorem impl_NumText.mono : ∀ a0 k, LeO (impl_NumText.f k a0) (impl_NumText.f (k + 1) a0) := by
 intro a0 k
 obtain ⟨ih0, ih1⟩ := impl_NumText.mono_l k
 exact ih0 a0
set_option maxHeartbeats 8000000 in
set_option maxRecDepth 100000 in
theorem impl_NumText.calls (k : Nat) : ∀ (a0 : Int) (r : ByteArray) (w : World) (h : impl_NumText.f k a0 = some r),
  Calls Tryd.prog 97 #[.int .i64 a0] w fun e w' => e = .returned (.string r) ∧ Drawn0 w w' := by
 induction k using Nat.strongRecOn with
 | _ k ih =>
 intro a0 r w h
 cases k with
 | zero => exact absurd h (by simp [impl_NumText.f])
 | succ k =>
 simp only [impl_NumText.f] at h
 have H : (if a0 < 0 then (impl_NumText.j0 k a0 (decide (a0 > (-10)))) else (impl_NumText.j0 k a0 false)) = some r := h
 clear h
 have HC2 := aS H
 clear H
 go_enter Tryd.func97, Tryd.ntmps97
 go_upto_region 1 with (fail)
 go_cut [3] (fun v3 wc => ∃ (kq : Nat) (x3_1 : Bool), v3 = .bool x3_1 ∧ Aside0 (impl_NumText.j0 kq a0 x3_1 = some r) ∧ Aside0 (kq ≤ k) ∧ Drawn0 w wc)
 case first =>
  have H := HC2.out
  clear HC2
  by_cases c3 : a0 < 0
  ·rw [if_pos c3] at H
   have c3b0 := decide_eq_true c3
   clear c3
   (first | rw [c3b0] | (simp only [i64_w, i32_w]; rw [c3b0]) | skip)
   have H' := aS H
   clear H
   go_wp2
   go_meet
   case rel => exact ⟨_, (decide (a0 > (-10))), jB, H', ⟨by first | omega | exact Nat.le_refl _⟩, by repeat (first | exact Drawn0.refl _ | apply Drawn0.step)⟩
  ·rw [if_neg c3] at H
   have c3b0 := decide_eq_false c3
   clear c3
   (first | rw [c3b0] | (simp only [i64_w, i32_w]; rw [c3b0]) | skip)
   have H' := aS H
   clear H
   go_wp2
   go_meet
   case rel => exact ⟨_, (false), jB, H', ⟨by first | omega | exact Nat.le_refl _⟩, by repeat (first | exact Drawn0.refl _ | apply Drawn0.step)⟩
 case rest =>
  clear HC2
  try clear p2
  try clear c3
  try clear c3b0
  obtain ⟨kq, x3_1, rfl, HA, HJ1, ⟨mc1, rfl⟩⟩ := hcut
  cases kq with
  | zero => exact absurd HA.out (by simp [impl_NumText.j0])
  | succ kj1 =>
   have H := HA.out
   clear HA
   simp only [impl_NumText.j0] at H
   by_cases c4 : x3_1 = true
   ·subst c4
    rw [if_pos rfl] at H
    obtain ⟨t513, A5, H⟩ := bM H
    try dsimp only at H
    by_cases c6 : 1 + t513.size ≤ 9223372036854775807
    ·rw [if_pos c6] at H
     have c6b0 := eq_true c6
     have c6b1 := decide_eq_true c6
     try have c6b2 : (9223372036854775807 < 1 + t513.size) = False := eq_false (Nat.not_lt.2 c6)
     obtain rfl := Option.some.inj H
     go_wp2_with (first | ((with_reducible refine gate_callee (f := 97) rfl ?_); refine gL (some 12) Tryd.func97 #[.int .i64 (wrap64 (-a0))] ?_; (with_reducible refine (ih kj1 (by have := HJ1.out; omega) (wrap64 (-a0)) t513 _ A5.out).mono ?_); rintro e w' ⟨rfl, ⟨nd, rfl⟩⟩; refine ⟨_, rfl, ?_⟩))
     go_ret
     exact ⟨by first | rfl | (simp; done) | (simp [*]; done) | (simp [X.bne_nil, X.beq_nil]; done) | (simp [*, X.bne_nil, X.beq_nil]; done) | (simp [X.bne_nil, X.beq_nil]; done), by repeat (first | exact Drawn0.refl _ | apply Drawn0.step)⟩
    ·rw [if_neg c6] at H
     exact absurd H (by simp)
   ·replace c4 := Bool.eq_false_iff.mpr c4
    subst c4
    rw [if_neg Bool.false_ne_true] at H
    by_cases c7 : a0 < 0
    ·rw [if_pos c7] at H
     have c7b0 := decide_eq_true c7
     clear c7
     obtain ⟨t514, A8, H⟩ := bM H
     try dsimp only at H
     obtain ⟨t515, A9, H⟩ := bM H
     try dsimp only at H
     by_cases c10 : t514.size + t515.size ≤ 9223372036854775807
     ·rw [if_pos c10] at H
      have c10b0 := eq_true c10
      have c10b1 := decide_eq_true c10
      try have c10b2 : (9223372036854775807 < t514.size + t515.size) = False := eq_false (Nat.not_lt.2 c10)
      obtain rfl := Option.some.inj H
      go_wp2_with (first | ((with_reducible refine gate_callee (f := 97) rfl ?_); refine gL (some 19) Tryd.func97 #[.int .i64 (wrap64 (Int.tdiv a0 10))] ?_; (with_reducible refine (ih kj1 (by have := HJ1.out; omega) (wrap64 (Int.tdiv a0 10)) t514 _ A8.out).mono ?_); rintro e w' ⟨rfl, ⟨nd, rfl⟩⟩; refine ⟨_, rfl, ?_⟩) | ((with_reducible refine gate_callee (f := 97) rfl ?_); refine gL (some 23) Tryd.func97 #[.int .i64 (wrap64 (-(Int.tmod a0 10)))] ?_; (with_reducible refine (ih kj1 (by have := HJ1.out; omega) (wrap64 (-(Int.tmod a0 10))) t515 _ A9.out).mono ?_); rintro e w' ⟨rfl, ⟨nd, rfl⟩⟩; refine ⟨_, rfl, ?_⟩))
      go_ret
      exact ⟨by first | rfl | (simp; done) | (simp [*]; done) | (simp [X.bne_nil, X.beq_nil]; done) | (simp [*, X.bne_nil, X.beq_nil]; done) | (simp [X.bne_nil, X.beq_nil]; done), by repeat (first | exact Drawn0.refl _ | apply Drawn0.step)⟩
     ·rw [if_neg c10] at H
      exact absurd H (by simp)
    ·rw [if_neg c7] at H
     have c7b0 := decide_eq_false c7
     clear c7
     by_cases c11 : a0 < 10
     ·rw [if_pos c11] at H
      have c11b0 := decide_eq_true c11
      clear c11
      obtain rfl := Option.some.inj H
      go_wp2
      go_ret
      exact ⟨by first | rfl | (simp; done) | (simp [*]; done) | (simp [X.bne_nil, X.beq_nil]; done) | (simp [*, X.bne_nil, X.beq_nil]; done) | (simp [X.bne_nil, X.beq_nil]; done), by repeat (first | exact Drawn0.refl _ | apply Drawn0.step)⟩
     ·rw [if_neg c11] at H
      have c11b0 := decide_eq_false c11
      clear c11
      obtain ⟨t516, A12, H⟩ := bM H
      try dsimp only at H
      by_cases c13 : t516.size + (Utf8.encode (wrap32 (wrap64 (48 + (Int.tmod a0 10))))).size ≤ 9223372036854775807
      ·rw [if_pos c13] at H
       have c13b0 := eq_true c13
       have c13b1 := decide_eq_true c13
       try have c13b2 : (9223372036854775807 < t516.size + (Utf8.encode (wrap32 (wrap64 (48 + (Int.tmod a0 10))))).size) = False := eq_false (Nat.not_lt.2 c13)
       obtain rfl := Option.some.inj H
       go_wp2_with (first | ((with_reducible refine gate_callee (f := 97) rfl ?_); refine gL (some 34) Tryd.func97 #[.int .i64 (wrap64 (Int.tdiv a0 10))] ?_; (with_reducible refine (ih kj1 (by have := HJ1.out; omega) (wrap64 (Int.tdiv a0 10)) t516 _ A12.out).mono ?_); rintro e w' ⟨rfl, ⟨nd, rfl⟩⟩; refine ⟨_, rfl, ?_⟩))
       go_ret
       exact ⟨by first | rfl | (simp; done) | (simp [*]; done) | (simp [X.bne_nil, X.beq_nil]; done) | (simp [*, X.bne_nil, X.beq_nil]; done) | (simp [X.bne_nil, X.beq_nil]; done), by repeat (first | exact Drawn0.refl _ | apply Drawn0.step)⟩
      ·rw [if_neg c13] at H
       exact absurd H (by simp)

/-! ### impl_nameText: function 98 -/
def impl_nameText.f (a0 : ByteArray) : Option (ByteArray) := if a0.toList = ([] : List UInt8) then (some (⟨#[46]⟩ : ByteArray)) else (some a0)
set_option maxHeartbeats 8000000 in
set_option maxRecDepth 100000 in
theorem impl_nameText.calls (a0 : ByteArray) (r : ByteArray) (w : World) (h : impl_nameText.f a0 = some r) :
  Calls Tryd.prog 98 #[.string a0] w fun e w' => e = .returned (.string r) ∧ Drawn0 w w' := by
 have H : (if a0.toList = ([] : List UInt8) then (some (⟨#[46]⟩ : ByteArray)) else (some a0)) = some r := h
 clear h
 by_cases c2 : a0.toList = ([] : List UInt8)
 ·rw [if_pos c2] at H
  have c2b0 := beq_iff_eq.mpr c2
  have c2b1 := bne_eq_false_iff_eq.mpr c2
  clear c2
  obtain rfl := Option.some.inj H
  go_enter Tryd.func98, Tryd.ntmps98
  go_wp2
  go_ret
  exact ⟨by first | rfl | (simp; done) | (simp [*]; done) | (simp [X.bne_nil, X.beq_nil]; done) | (simp [*, X.bne_nil, X.beq_nil]; done) | (simp [X.bne_nil, X.beq_nil]; done), by repeat (first | exact Drawn0.refl _ | apply Drawn0.step)⟩
 ·rw [if_neg c2] at H
  have c2b0 := beq_eq_false_iff_ne.mpr c2
  have c2b1 := bne_iff_ne.mpr c2
  obtain rfl := Option.some.inj H
  go_enter Tryd.func98, Tryd.ntmps98
  go_wp2
  go_ret
  exact ⟨by first | rfl | (simp; done) | (simp [*]; done) | (simp [X.bne_nil, X.beq_nil]; done) | (simp [*, X.bne_nil, X.beq_nil]; done) | (simp [X.bne_nil, X.beq_nil]; done), by repeat (first | exact Drawn0.refl _ | apply Drawn0.step)⟩

/-! ### impl_TypeText: function 99 -/
def impl_TypeText.f (a0 : Int) : Option (ByteArray) := if a0 = 1 then (some (⟨#[97, 100, 100, 114]⟩ : ByteArray)) else (if a0 = 2 then (some (⟨#[115, 101, 114, 118, 101, 114]⟩ : ByteArray)) else (if a0 = 5 then (some (⟨#[97, 108, 105, 97, 115]⟩ : ByteArray)) else (if a0 = 6 then (some (⟨#[115, 116, 97, 114, 116]⟩ : ByteArray)) else (if a0 = 16 then (some (⟨#[116, 101, 120, 116]⟩ : ByteArray)) else (some (⟨#[]⟩ : ByteArray))))))
set_option maxHeartbeats 8000000 in
set_option maxRecDepth 100000 in
theorem impl_TypeText.calls (a0 : Int) (r : ByteArray) (w : World) (h : impl_TypeText.f a0 = some r) :
  Calls Tryd.prog 99 #[.int .i64 a0] w fun e w' => e = .returned (.string r) ∧ Drawn0 w w' := by
 have H : (if a0 = 1 then (some (⟨#[97, 100, 100, 114]⟩ : ByteArray)) else (if a0 = 2 then (some (⟨#[115, 101, 114, 118, 101, 114]⟩ : ByteArray)) else (if a0 = 5 then (some (⟨#[97, 108, 105, 97, 115]⟩ : ByteArray)) else (if a0 = 6 then (some (⟨#[115, 116, 97, 114, 116]⟩ : ByteArray)) else (if a0 = 16 then (some (⟨#[116, 101, 120, 116]⟩ : ByteArray)) else (some (⟨#[]⟩ : ByteArray))))))) = some r := h
 clear h
 by_cases c2 : a0 = 1
 ·rw [if_pos c2] at H
  have c2b0 := beq_iff_eq.mpr c2
  have c2b1 := bne_eq_false_iff_eq.mpr c2
  clear c2
  obtain rfl := Option.some.inj H
  go_enter Tryd.func99, Tryd.ntmps99
  go_wp2
  go_ret
  exact ⟨by first | rfl | (simp; done) | (simp [*]; done) | (simp [X.bne_nil, X.beq_nil]; done) | (simp [*, X.bne_nil, X.beq_nil]; done) | (simp [X.bne_nil, X.beq_nil]; done), by repeat (first | exact Drawn0.refl _ | apply Drawn0.step)⟩
 ·rw [if_neg c2] at H
  have c2b0 := beq_eq_false_iff_ne.mpr c2
  have c2b1 := bne_iff_ne.mpr c2
  by_cases c3 : a0 = 2
  ·rw [if_pos c3] at H
   have c3b0 := beq_iff_eq.mpr c3
   have c3b1 := bne_eq_false_iff_eq.mpr c3
   clear c3
   obtain rfl := Option.some.inj H
   go_enter Tryd.func99, Tryd.ntmps99
   go_wp2
   go_ret
   exact ⟨by first | rfl | (simp; done) | (simp [*]; done) | (simp [X.bne_nil, X.beq_nil]; done) | (simp [*, X.bne_nil, X.beq_nil]; done) | (simp [X.bne_nil, X.beq_nil]; done), by repeat (first | exact Drawn0.refl _ | apply Drawn0.step)⟩
  ·rw [if_neg c3] at H
   have c3b0 := beq_eq_false_iff_ne.mpr c3
   have c3b1 := bne_iff_ne.mpr c3
   by_cases c4 : a0 = 5
   ·rw [if_pos c4] at H
    have c4b0 := beq_iff_eq.mpr c4
    have c4b1 := bne_eq_false_iff_eq.mpr c4
    clear c4
    obtain rfl := Option.some.inj H
    go_enter Tryd.func99, Tryd.ntmps99
    go_wp2
    go_ret
    exact ⟨by first | rfl | (simp; done) | (simp [*]; done) | (simp [X.bne_nil, X.beq_nil]; done) | (simp [*, X.bne_nil, X.beq_nil]; done) | (simp [X.bne_nil, X.beq_nil]; done), by repeat (first | exact Drawn0.refl _ | apply Drawn0.step)⟩
   ·rw [if_neg c4] at H
    have c4b0 := beq_eq_false_iff_ne.mpr c4
    have c4b1 := bne_iff_ne.mpr c4
    by_cases c5 : a0 = 6
    ·rw [if_pos c5] at H
     have c5b0 := beq_iff_eq.mpr c5
     have c5b1 := bne_eq_false_iff_eq.mpr c5
     clear c5
     obtain rfl := Option.some.inj H
     go_enter Tryd.func99, Tryd.ntmps99
     go_wp2
     go_ret
     exact ⟨by first | rfl | (simp; done) | (simp [*]; done) | (simp [X.bne_nil, X.beq_nil]; done) | (simp [*, X.bne_nil, X.beq_nil]; done) | (simp [X.bne_nil, X.beq_nil]; done), by repeat (first | exact Drawn0.refl _ | apply Drawn0.step)⟩
    ·rw [if_neg c5] at H
     have c5b0 := beq_eq_false_iff_ne.mpr c5
     have c5b1 := bne_iff_ne.mpr c5
     by_cases c6 : a0 = 16
     ·rw [if_pos c6] at H
      have c6b0 := beq_iff_eq.mpr c6
      have c6b1 := bne_eq_false_iff_eq.mpr c6
      clear c6
      obtain rfl := Option.some.inj H
      go_enter Tryd.func99, Tryd.ntmps99
      go_wp2
      go_ret
      exact ⟨by first | rfl | (simp; done) | (simp [*]; done) | (simp [X.bne_nil, X.beq_nil]; done) | (simp [*, X.bne_nil, X.beq_nil]; done) | (simp [X.bne_nil, X.beq_nil]; done), by repeat (first | exact Drawn0.refl _ | apply Drawn0.step)⟩
     ·rw [if_neg c6] at H
      have c6b0 := beq_eq_false_iff_ne.mpr c6
      have c6b1 := bne_iff_ne.mpr c6
      obtain rfl := Option.some.inj H
      go_enter Tryd.func99, Tryd.ntmps99
      go_wp2
      go_ret
      exact ⟨by first | rfl | (simp; done) | (simp [*]; done) | (simp [X.bne_nil, X.beq_nil]; done) | (simp [*, X.bne_nil, X.beq_nil]; done) | (simp [X.bne_nil, X.beq_nil]; done), by repeat (first | exact Drawn0.refl _ | apply Drawn0.step)⟩

/-! ### strings_Join: function 109 -/
def strings_Join.f (l0 : List ByteArray) (a1 : ByteArray) : Option (ByteArray) := if (Lib.join (l0.map (·.data.toList)) a1.data.toList).length ≤ 140737488355328 ∧ l0.length ≤ 140737488355328 then some ⟨(Lib.join (l0.map (·.data.toList)) a1.data.toList).toArray⟩ else none
theorem strings_Join.calls (A0 : Option Addr) (c0 : Nat) (l0 : List ByteArray) (a1 : ByteArray) (r : ByteArray) (w : World) (hr0 : Kd.C Kd.string w A0 l0.length l0) (hc0 : l0.length ≤ c0) (h : strings_Join.f l0 a1 = some r) :
  Calls Tryd.prog 109 #[.slice A0 l0.length c0, .string a1] w fun e w' => e = .returned (.string r) ∧ Below w.heap.size w w' := by
 by_cases hb : (Lib.join (l0.map (·.data.toList)) a1.data.toList).length ≤ 140737488355328 ∧ l0.length ≤ 140737488355328
 ·rw [strings_Join.f, if_pos hb] at h
  obtain rfl := Option.some.inj h
  by_cases hne : l0 = []
  ·subst hne
   exact (Any.strings_Join_none Tryd.lays156 Tryd.Builder_Extra_156 A0 c0 a1 w).mono fun e w' ⟨he, hw⟩ => ⟨he, hw ▸ Below.refl _ _⟩
  ·obtain ⟨b, o, rfl, hcells, hlt⟩ := X.C_strings hr0 hne
   exact Any.strings_Join Tryd.lays156 Tryd.Builder_Extra_156 b o c0 l0 a1 w hcells hlt hb.2 hc0 hb.1
 ·rw [strings_Join.f, if_neg hb] at h
  cases h


end Go.Proofs.YtdigilidomimdaaDoor.Pr
