-- Written for this claim by a program of this session (wip/tool/pr.py, over the kit's printer).
-- half
import Derived.Test.YtdigilidomimdaaDoorPrx0
import Derived.Test.YtdigilidomimdaaDoorPrx10
namespace Go.Proofs.YtdigilidomimdaaDoor.Pr
open Go.RowKit Go.Proofs.YtdigilidomimdaaDoorW.PrintWords Go.Proofs.YtdigilidomimdaaDoorW.PrintLast Go.Proofs.YtdigilidomimdaaDoorW.PrintMore
attribute [local go_sem] max2_int min2_int max_two min_two max_three min_three max_four min_four   -- for this text's walks alone
set_option linter.unusedVariables false
set_option linter.unusedSimpArgs false

/-! ### impl_NumText: function 97 -/
mutual
def impl_NumText.j0 : Nat → Int → Bool → Option (ByteArray)
 | 0, _, _ => none
 | k + 1, x0, x3 => if x3 = true then ((impl_NumText.f k (wrap64 (-x0))).bind fun t638 => (if 1 + t638.size ≤ 9223372036854775807 then (some ((⟨#[45]⟩ : ByteArray) ++ t638)) else (none))) else (if x0 < 0 then ((impl_NumText.f k (wrap64 (Int.tdiv x0 10))).bind fun t639 => ((impl_NumText.f k (wrap64 (-(Int.tmod x0 10)))).bind fun t640 => (if t639.size + t640.size ≤ 9223372036854775807 then (some (t639 ++ t640)) else (none)))) else (if x0 < 10 then (some (Utf8.encode (wrap32 (wrap64 (48 + x0))))) else ((impl_NumText.f k (wrap64 (Int.tdiv x0 10))).bind fun t641 => (if t641.size + (Utf8.encode (wrap32 (wrap64 (48 + (Int.tmod x0 10))))).size ≤ 9223372036854775807 then (some (t641 ++ (Utf8.encode (wrap32 (wrap64 (48 + (Int.tmod x0 10))))))) else (none)))))
def impl_NumText.f : Nat → Int → Option (ByteArray)
 | 0, _ => none
 | k + 1, a0 => if a0 < 0 then (impl_NumText.j0 k a0 (decide (a0 > (-10)))) else (impl_NumText.j0 k a0 false)
end
theorem impl_NumText.mono_l : ∀ k, (∀ y0, LeO (impl_NumText.f k y0) (impl_NumText.f (k + 1) y0)) ∧ (∀ y0 y1, LeO (impl_NumText.j0 k y0 y1) (impl_NumText.j0 (k + 1) y0 y1))
 | 0 => ⟨fun _ r h => by simp [impl_NumText.f] at h, fun _ _ r h => by simp [impl_NumText.j0] at h⟩
 | k + 1 => by
  obtain ⟨ih0, ih1⟩ := impl_NumText.mono_l k
  refine ⟨?_, ?_⟩
  ·intro y0
   unfold impl_NumText.f
   repeat' first
   | (with_reducible first | exact ih0 _ | exact ih1 _ _ | exact LeO.refl _ | exact LeO.none _ | refine LeO.ite ?_ ?_ | refine LeO.bind ?_ (fun _ => ?_))
   | refine LeO.ite ?_ ?_
   | refine LeO.bind ?_ (fun _ => ?_)
  ·intro y0 y1
   unfold impl_NumText.j0
   repeat' first
   | (with_reducible first | exact ih0 _ | exact ih1 _ _ | exact LeO.refl _ | exact LeO.none _ | refine LeO.ite ?_ ?_ | refine LeO.bind ?_ (fun _ => ?_))
   | refine LeO.ite ?_ ?_
   | refine LeO.bind ?_ (fun _ => ?_)
theorem impl_NumText.mono : ∀ a0 k, LeO (impl_NumText.f k a0) (impl_NumText.f (k + 1) a0) := by
 intro a0 k
 obtain ⟨ih0, ih1⟩ := impl_NumText.mono_l k
 exact ih0 a0
set_option maxHeartbeats 8000000 in
set_option maxRecDepth 100000 in
theorem impl_NumText.calls (k : Nat) : ∀ (a0 : Int) (r : ByteArray) (w : World) (h : impl_NumText.f k a0 = some r),
  Calls Tryd.prog 97 #[.int .i64 a0] w fun e w' => e = .returned (.string r) ∧ Drawn0 w w' := by
 induction k using Nat.strongRecOn with
 | _ k ih =>
 intro a0 r w h
 cases k with
 | zero => exact absurd h (by simp [impl_NumText.f])
 | succ k =>
 simp only [impl_NumText.f] at h
 have H : (if a0 < 0 then (impl_NumText.j0 k a0 (decide (a0 > (-10)))) else (impl_NumText.j0 k a0 false)) = some r := h
 clear h
 have HC2 := aS H
 clear H
 go_enter Tryd.func97, Tryd.ntmps97
 go_upto_region 1 with (fail)
 go_cut [3] (fun v3 wc => ∃ (kq : Nat) (x3_1 : Bool), v3 = .bool x3_1 ∧ Aside0 (impl_NumText.j0 kq a0 x3_1 = some r) ∧ Aside0 (kq ≤ k) ∧ Drawn0 w wc)
 case first =>
  have H := HC2.out
  clear HC2
  by_cases c3 : a0 < 0
  ·rw [if_pos c3] at H
   have c3b0 := decide_eq_true c3
   clear c3
   (first | rw [c3b0] | (simp only [i64_w, i32_w]; rw [c3b0]) | skip)
   have H' := aS H
   clear H
   go_wp2
   go_meet
   case rel => exact ⟨_, (decide (a0 > (-10))), jB, H', ⟨by first | omega | exact Nat.le_refl _⟩, by repeat (first | exact Drawn0.refl _ | apply Drawn0.step)⟩
  ·rw [if_neg c3] at H
   have c3b0 := decide_eq_false c3
   clear c3
   (first | rw [c3b0] | (simp only [i64_w, i32_w]; rw [c3b0]) | skip)
   have H' := aS H
   clear H
   go_wp2
   go_meet
   case rel => exact ⟨_, (false), jB, H', ⟨by first | omega | exact Nat.le_refl _⟩, by repeat (first | exact Drawn0.refl _ | apply Drawn0.step)⟩
 case rest =>
  clear HC2
  try clear p2
  try clear c3
  try clear c3b0
  obtain ⟨kq, x3_1, rfl, HA, HJ1, ⟨mc1, rfl⟩⟩ := hcut
  cases kq with
  | zero => exact absurd HA.out (by simp [impl_NumText.j0])
  | succ kj1 =>
   have H := HA.out
   clear HA
   simp only [impl_NumText.j0] at H
   by_cases c4 : x3_1 = true
   ·subst c4
    rw [if_pos rfl] at H
    obtain ⟨t638, A5, H⟩ := bM H
    try dsimp only at H
    by_cases c6 : 1 + t638.size ≤ 9223372036854775807
    ·rw [if_pos c6] at H
     have c6b0 := eq_true c6
     have c6b1 := decide_eq_true c6
     try have c6b2 : (9223372036854775807 < 1 + t638.size) = False := eq_false (Nat.not_lt.2 c6)
     obtain rfl := Option.some.inj H
     go_wp2_with (first | ((with_reducible refine gate_callee (f := 97) rfl ?_); refine gL (some 12) Tryd.func97 #[.int .i64 (wrap64 (-a0))] ?_; (with_reducible refine (ih kj1 (by have := HJ1.out; omega) (wrap64 (-a0)) t638 _ A5.out).mono ?_); rintro e w' ⟨rfl, ⟨nd, rfl⟩⟩; refine ⟨_, rfl, ?_⟩))
     go_ret
     exact ⟨by first | rfl | (simp; done) | (simp [*]; done) | (simp [X.bne_nil, X.beq_nil]; done) | (simp [*, X.bne_nil, X.beq_nil]; done) | (simp [X.bne_nil, X.beq_nil]; done), by repeat (first | exact Drawn0.refl _ | apply Drawn0.step)⟩
    ·rw [if_neg c6] at H
     exact absurd H (by simp)
   ·replace c4 := Bool.eq_false_iff.mpr c4
    subst c4
    rw [if_neg Bool.false_ne_true] at H
    by_cases c7 : a0 < 0
    ·rw [if_pos c7] at H
     have c7b0 := decide_eq_true c7
     clear c7
     obtain ⟨t639, A8, H⟩ := bM H
     try dsimp only at H
     obtain ⟨t640, A9, H⟩ := bM H
     try dsimp only at H
     by_cases c10 : t639.size + t640.size ≤ 9223372036854775807
     ·rw [if_pos c10] at H
      have c10b0 := eq_true c10
      have c10b1 := decide_eq_true c10
      try have c10b2 : (9223372036854775807 < t639.size + t640.size) = False := eq_false (Nat.not_lt.2 c10)
      obtain rfl := Option.some.inj H
      go_wp2_with (first | ((with_reducible refine gate_callee (f := 97) rfl ?_); refine gL (some 19) Tryd.func97 #[.int .i64 (wrap64 (Int.tdiv a0 10))] ?_; (with_reducible refine (ih kj1 (by have := HJ1.out; omega) (wrap64 (Int.tdiv a0 10)) t639 _ A8.out).mono ?_); rintro e w' ⟨rfl, ⟨nd, rfl⟩⟩; refine ⟨_, rfl, ?_⟩) | ((with_reducible refine gate_callee (f := 97) rfl ?_); refine gL (some 23) Tryd.func97 #[.int .i64 (wrap64 (-(Int.tmod a0 10)))] ?_; (with_reducible refine (ih kj1 (by have := HJ1.out; omega) (wrap64 (-(Int.tmod a0 10))) t640 _ A9.out).mono ?_); rintro e w' ⟨rfl, ⟨nd, rfl⟩⟩; refine ⟨_, rfl, ?_⟩))
      go_ret
      exact ⟨by first | rfl | (simp; done) | (simp [*]; done) | (simp [X.bne_nil, X.beq_nil]; done) | (simp [*, X.bne_nil, X.beq_nil]; done) | (simp [X.bne_nil, X.beq_nil]; done), by repeat (first | exact Drawn0.refl _ | apply Drawn0.step)⟩
     ·rw [if_neg c10] at H
      exact absurd H (by simp)
    ·rw [if_neg c7] at H
     have c7b0 := decide_eq_false c7
     clear c7
     by_cases c11 : a0 < 10
     ·rw [if_pos c11] at H
      have c11b0 := decide_eq_true c11
      clear c11
      obtain rfl := Option.some.inj H
      go_wp2
      go_ret
      exact ⟨by first | rfl | (simp; done) | (simp [*]; done) | (simp [X.bne_nil, X.beq_nil]; done) | (simp [*, X.bne_nil, X.beq_nil]; done) | (simp [X.bne_nil, X.beq_nil]; done), by repeat (first | exact Drawn0.refl _ | apply Drawn0.step)⟩
     ·rw [if_neg c11] at H
      have c11b0 := decide_eq_false c11
      clear c11
      obtain ⟨t641, A12, H⟩ := bM H
      try dsimp only at H
      by_cases c13 : t641.size + (Utf8.encode (wrap32 (wrap64 (48 + (Int.tmod a0 10))))).size ≤ 9223372036854775807
      ·rw [if_pos c13] at H
       have c13b0 := eq_true c13
       have c13b1 := decide_eq_true c13
       try have c13b2 : (9223372036854775807 < t641.size + (Utf8.encode (wrap32 (wrap64 (48 + (Int.tmod a0 10))))).size) = False := eq_false (Nat.not_lt.2 c13)
       obtain rfl := Option.some.inj H
       go_wp2_with (first | ((with_reducible refine gate_callee (f := 97) rfl ?_); refine gL (some 34) Tryd.func97 #[.int .i64 (wrap64 (Int.tdiv a0 10))] ?_; (with_reducible refine (ih kj1 (by have := HJ1.out; omega) (wrap64 (Int.tdiv a0 10)) t641 _ A12.out).mono ?_); rintro e w' ⟨rfl, ⟨nd, rfl⟩⟩; refine ⟨_, rfl, ?_⟩))
       go_ret
       exact ⟨by first | rfl | (simp; done) | (simp [*]; done) | (simp [X.bne_nil, X.beq_nil]; done) | (simp [*, X.bne_nil, X.beq_nil]; done) | (simp [X.bne_nil, X.beq_nil]; done), by repeat (first | exact Drawn0.refl _ | apply Drawn0.step)⟩
      ·rw [if_neg c13] at H
       exact absurd H (by simp)

/-! ### impl_nameText: function 98 -/
def impl_nameText.f (a0 : ByteArray) : Option (ByteArray) := if a0.toList = ([] : List UInt8) then (some (⟨#[46]⟩ : ByteArray)) else (some a0)
set_option maxHeartbeats 8000000 in
set_option maxRecDepth 100000 in
theorem impl_nameText.calls (a0 : ByteArray) (r : ByteArray) (w : World) (h : impl_nameText.f a0 = some r) :
  Calls Tryd.prog 98 #[.string a0] w fun e w' => e = .returned (.string r) ∧ Drawn0 w w' := by
 have H := h
 unfold impl_nameText.f at H
 clear h
 by_cases c2 : a0.toList = ([] : List UInt8)
 ·rw [if_pos c2] at H
  have c2b0 := beq_iff_eq.mpr c2
  have c2b1 := bne_eq_false_iff_eq.mpr c2
  clear c2
  obtain rfl := Option.some.inj H
  go_enter Tryd.func98, Tryd.ntmps98
  go_wp2
  go_ret
  exact ⟨by first | rfl | (simp; done) | (simp [*]; done) | (simp [X.bne_nil, X.beq_nil]; done) | (simp [*, X.bne_nil, X.beq_nil]; done) | (simp [X.bne_nil, X.beq_nil]; done), by repeat (first | exact Drawn0.refl _ | apply Drawn0.step)⟩
 ·rw [if_neg c2] at H
  have c2b0 := beq_eq_false_iff_ne.mpr c2
  have c2b1 := bne_iff_ne.mpr c2
  obtain rfl := Option.some.inj H
  go_enter Tryd.func98, Tryd.ntmps98
  go_wp2
  go_ret
  exact ⟨by first | rfl | (simp; done) | (simp [*]; done) | (simp [X.bne_nil, X.beq_nil]; done) | (simp [*, X.bne_nil, X.beq_nil]; done) | (simp [X.bne_nil, X.beq_nil]; done), by repeat (first | exact Drawn0.refl _ | apply Drawn0.step)⟩

/-! ### strings_Join: function 109 -/
def strings_Join.f (l0 : List ByteArray) (a1 : ByteArray) : Option (ByteArray) := if (Lib.join (l0.map (·.data.toList)) a1.data.toList).length ≤ 140737488355328 ∧ l0.length ≤ 140737488355328 then some ⟨(Lib.join (l0.map (·.data.toList)) a1.data.toList).toArray⟩ else none
theorem strings_Join.calls (A0 : Option Addr) (c0 : Nat) (l0 : List ByteArray) (a1 : ByteArray) (r : ByteArray) (w : World) (hr0 : Kd.C Kd.string w A0 l0.length l0) (hc0 : l0.length ≤ c0) (h : strings_Join.f l0 a1 = some r) :
  Calls Tryd.prog 109 #[.slice A0 l0.length c0, .string a1] w fun e w' => e = .returned (.string r) ∧ Below w.heap.size w w' := by
 by_cases hb : (Lib.join (l0.map (·.data.toList)) a1.data.toList).length ≤ 140737488355328 ∧ l0.length ≤ 140737488355328
 ·rw [strings_Join.f, if_pos hb] at h
  obtain rfl := Option.some.inj h
  by_cases hne : l0 = []
  ·subst hne
   exact (Any.strings_Join_none Tryd.lays156 Tryd.Builder_Extra_156 A0 c0 a1 w).mono fun e w' ⟨he, hw⟩ => ⟨he, hw ▸ Below.refl _ _⟩
  ·obtain ⟨b, o, rfl, hcells, hlt⟩ := X.C_strings hr0 hne
   exact Any.strings_Join Tryd.lays156 Tryd.Builder_Extra_156 b o c0 l0 a1 w hcells hlt hb.2 hc0 hb.1
 ·rw [strings_Join.f, if_neg hb] at h
  cases h


/-! ### impl_RecordText: function 52 -/
def impl_RecordText.j0 : Nat → List ByteArray → Int → Bool → ByteArray → Int → Int → Int → ByteArray → ByteArray → Option (ByteArray)
 | 0, _, _, _, _, _, _, _, _, _ => none
 | k + 1, x3, x18, x27, x643000, x643001, x643002, x643003, x643004, x643005 => if x27 = true then ((impl_nameText.f x643004).bind fun t655 => (if x3.length < 8796093022208 then ((strings_Join.f (x3 ++ [t655]) (⟨#[32]⟩ : ByteArray)).bind fun t659 => (some t659)) else (none))) else (if x18 = 6 then ((impl_nameText.f x643004).bind fun t660 => ((impl_NumText.f k x643003).bind fun t661 => ((some (([t660, t661] : List ByteArray) : List ByteArray)).bind fun y662 => (if x3.length + y662.length < 8796093022208 then ((strings_Join.f (x3 ++ y662) (⟨#[32]⟩ : ByteArray)).bind fun t668 => (some t668)) else (none))))) else (if x18 = 16 then (if 1 + x643005.size ≤ 9223372036854775807 then (if x3.length < 8796093022208 then ((strings_Join.f (x3 ++ [(⟨#[39]⟩ : ByteArray) ++ x643005]) (⟨#[32]⟩ : ByteArray)).bind fun t672 => (some t672)) else (none)) else (none)) else ((strings_Join.f x3 (⟨#[32]⟩ : ByteArray)).bind fun t673 => (some t673))))
def impl_RecordText.f (k : Nat) (a0_0 : ByteArray) (a0_1 : Int) (a0_2 : Int) (a0_3 : Int) (a0_4 : ByteArray) (a0_5 : ByteArray) : Option (ByteArray) := (impl_RecordOk.f k a0_0 a0_1 a0_2 a0_3 a0_4 a0_5).bind fun t643 => (if t643 = true then ((impl_nameText.f a0_0).bind fun t644 => ((impl_NumText.f k a0_2).bind fun t645 => ((impl_TypeText.f a0_1).bind fun t646 => ((some (([t644, t645, t646] : List ByteArray) : List ByteArray)).bind fun y647 => (if a0_1 = 1 then ((impl_NumText.f k a0_3).bind fun t650 => (if y647.length < 8796093022208 then ((strings_Join.f (y647 ++ [t650]) (⟨#[32]⟩ : ByteArray)).bind fun t654 => (some t654)) else (none))) else (if a0_1 = 2 then (impl_RecordText.j0 k y647 a0_1 (a0_1 == 2) a0_0 a0_1 a0_2 a0_3 a0_4 a0_5) else (impl_RecordText.j0 k y647 a0_1 (a0_1 == 5) a0_0 a0_1 a0_2 a0_3 a0_4 a0_5))))))) else (some (⟨#[]⟩ : ByteArray)))
theorem impl_RecordText.mono_l : ∀ k, (∀ y0 y1 y2 y3 y4 y5 y6 y7 y8, LeO (impl_RecordText.j0 k y0 y1 y2 y3 y4 y5 y6 y7 y8) (impl_RecordText.j0 (k + 1) y0 y1 y2 y3 y4 y5 y6 y7 y8))
 | 0 => fun _ _ _ _ _ _ _ _ _ r h => by simp [impl_RecordText.j0] at h
 | k + 1 => by
  have ih0 := impl_RecordText.mono_l k
  ·intro y0 y1 y2 y3 y4 y5 y6 y7 y8
   unfold impl_RecordText.j0
   repeat' first
   | (with_reducible first | exact ih0 _ _ _ _ _ _ _ _ _ | exact impl_NumText.mono _ _ | exact impl_RecordOk.mono _ _ _ _ _ _ _ | exact LeO.refl _ | exact LeO.none _ | refine LeO.ite ?_ ?_ | refine LeO.bind ?_ (fun _ => ?_))
   | refine LeO.ite ?_ ?_
   | refine LeO.bind ?_ (fun _ => ?_)
theorem impl_RecordText.mono : ∀ a0 a1 a2 a3 a4 a5 k, LeO (impl_RecordText.f k a0 a1 a2 a3 a4 a5) (impl_RecordText.f (k + 1) a0 a1 a2 a3 a4 a5) := by
 intro a0 a1 a2 a3 a4 a5 k
 have ih0 := impl_RecordText.mono_l k
 unfold impl_RecordText.f
 repeat' first
   | (with_reducible first | exact ih0 _ _ _ _ _ _ _ _ _ | exact impl_NumText.mono _ _ | exact impl_RecordOk.mono _ _ _ _ _ _ _ | exact LeO.refl _ | exact LeO.none _ | refine LeO.ite ?_ ?_ | refine LeO.bind ?_ (fun _ => ?_))
   | refine LeO.ite ?_ ?_
   | refine LeO.bind ?_ (fun _ => ?_)
def impl_RecordText.T3 : Bool × List (List Nat × List Nat) := (true, [([], []), ([0], [0]), ([1], [1]), ([], []), ([3], [3]), ([4, 2], [4]), ([], []), ([6], [6]), ([7, 5], [7]), ([2, 5, 8], [2, 5, 8]), ([9, 8, 0, 1, 2, 3, 4, 5, 6, 7, 8, 9], [9])])
def impl_RecordText.B3 : List Nat := [0, 1, 3, 0, 8, 31, 0, 64, 255, 511, 1023]
theorem impl_RecordText.tab3 : rtab .any (opsOf Tryd.f52 3) = impl_RecordText.T3 := by kernel_rfl
theorem impl_RecordText.bits3 : waitsOk impl_RecordText.T3.2 impl_RecordText.B3 = true := by kernel_rfl
def impl_RecordText.T11 : Bool × List (List Nat × List Nat) := (true, [([], []), ([], []), ([1], [1]), ([2], [2]), ([], []), ([4], [4]), ([5, 3], [5]), ([3, 6], [3, 6]), ([0, 7, 6], [0, 7]), ([8, 8, 0, 1, 2, 3, 4, 5, 6, 7, 8], [0, 8])])
def impl_RecordText.B11 : List Nat := [0, 0, 2, 6, 0, 16, 62, 126, 255, 511]
theorem impl_RecordText.tab11 : rtab .any (opsOf Tryd.f52 11) = impl_RecordText.T11 := by kernel_rfl
theorem impl_RecordText.bits11 : waitsOk impl_RecordText.T11.2 impl_RecordText.B11 = true := by kernel_rfl
set_option maxHeartbeats 8000000 in
set_option maxRecDepth 100000 in
theorem impl_RecordText.calls (k : Nat) (a0_0 : ByteArray) (a0_1 : Int) (a0_2 : Int) (a0_3 : Int) (a0_4 : ByteArray) (a0_5 : ByteArray) (r : ByteArray) (w : World) (h : impl_RecordText.f k a0_0 a0_1 a0_2 a0_3 a0_4 a0_5 = some r) :
  Calls Tryd.prog 52 #[.agg #[.string a0_0, .int .i64 a0_1, .int .i64 a0_2, .int .i64 a0_3, .string a0_4, .string a0_5]] w fun e w' => e = .returned (.string r) ∧ Below w.heap.size w w' := by
 have hu25 := Tryd.underlying25
 have HB := aS (Below.refl w.heap.size w)
 have H := h
 unfold impl_RecordText.f at H
 clear h
 obtain ⟨t643, A2, H⟩ := bM H
 try dsimp only at H
 by_cases c3 : t643 = true
 ·subst c3
  rw [if_pos rfl] at H
  obtain ⟨t644, A4, H⟩ := bM H
  try dsimp only at H
  obtain ⟨t645, A5, H⟩ := bM H
  try dsimp only at H
  obtain ⟨t646, A6, H⟩ := bM H
  try dsimp only at H
  obtain ⟨y647, hy_⟩ : ∃ y_ : List ByteArray, y_ = (([t644, t645, t646] : List ByteArray)) := ⟨_, rfl⟩
  replace H : (if a0_1 = 1 then ((impl_NumText.f k a0_3).bind fun t650 => (if y647.length < 8796093022208 then ((strings_Join.f (y647 ++ [t650]) (⟨#[32]⟩ : ByteArray)).bind fun t654 => (some t654)) else (none))) else (if a0_1 = 2 then (impl_RecordText.j0 k y647 a0_1 (a0_1 == 2) a0_0 a0_1 a0_2 a0_3 a0_4 a0_5) else (impl_RecordText.j0 k y647 a0_1 (a0_1 == 5) a0_0 a0_1 a0_2 a0_3 a0_4 a0_5))) = some r := jD
  have Ny647 := aS hy_
  clear hy_
  by_cases c7 : a0_1 = 1
  ·rw [if_pos c7] at H
   have c7b0 := beq_iff_eq.mpr c7
   have c7b1 := bne_eq_false_iff_eq.mpr c7
   clear c7
   obtain ⟨t650, A8, H⟩ := bM H
   try dsimp only at H
   by_cases c9 : y647.length < 8796093022208
   ·rw [if_pos c9] at H
    have LMc9 := aS c9
    clear c9
    obtain ⟨y651, hy_⟩ : ∃ y_ : List ByteArray, y_ = (y647 ++ [t650]) := ⟨_, rfl⟩
    replace H : ((strings_Join.f y651 (⟨#[32]⟩ : ByteArray)).bind fun t654 => (some t654)) = some r := jD
    have Ny651 := aS hy_
    clear hy_
    obtain ⟨t654, A10, H⟩ := bM H
    try dsimp only at H
    obtain rfl := Option.some.inj H
    go_enter Tryd.func52, Tryd.ntmps52
    try go_wp2_with (first | ((with_reducible refine gate_dst (N := 1) rfl ?_); refine xB 1 #[.string a0_0, .int .i64 a0_1, .int .i64 a0_2, .int .i64 a0_3, .string a0_4, .string a0_5] 25 ?_; intro gb642 hg w11 hbox hb; have BK642 := aS (hbox); have GW642 := gW hg (wU HB.out); have GE642 := gW hg (wU HB.out); replace HB := aS (below_step (wU HB.out) hb); clear hb hbox hg; have hcz12 := cells6f BK642.out) | ((with_reducible refine gate_callee (f := 15) rfl ?_); refine gL (some 5) Tryd.func15 #[.agg #[.string a0_0, .int .i64 a0_1, .int .i64 a0_2, .int .i64 a0_3, .string a0_4, .string a0_5]] ?_; (with_reducible refine (impl_RecordOk.calls k a0_0 a0_1 a0_2 a0_3 a0_4 a0_5 true _ A2.out).mono ?_); rintro e w13 ⟨rfl, hb⟩; refine ⟨_, rfl, ?_⟩; replace BK642 := bB BK642 hb; replace HB := aS (below_step (wS1 HB.out GE642.out) hb); clear hb))
    replace BK642 := aS (blk_drew BK642.out)
    replace HB := aS (below_drew1 HB.out)
    refine start_ (n := 11) (S := fun w' => w'.cell? ⟨gb642, 0, none⟩ = some (.string a0_0) ∧ w'.cell? ⟨gb642, 1, none⟩ = some (.int .i64 a0_1) ∧ w'.cell? ⟨gb642, 2, none⟩ = some (.int .i64 a0_2) ∧ w'.cell? ⟨gb642, 3, none⟩ = some (.int .i64 a0_3) ∧ w'.cell? ⟨gb642, 4, none⟩ = some (.string a0_4) ∧ w'.cell? ⟨gb642, 5, none⟩ = some (.string a0_5)) (ds := []) #[false, false, false, false, false, false, false, false, false, false, false] jK rfl rfl (c6 BK642.out) (fun hHeld => ?_); refine with_tabW impl_RecordText.tab3 impl_RecordText.bits3 (fun HT_ HW_ => ?_)
    generalize w13.drew = w14 at BK642 HB hHeld ⊢
    refine pA HT_ 0 (some 7) (tf 1 10) ?_
    refine pA HT_ 3 (some 10) #[true, false, false, true, false, false, false, false, false, false, false] ?_
    refine pA HT_ 6 (some 13) #[true, false, false, true, false, false, true, false, false, false, false] ?_
    refine tA HT_ HW_ hHeld 1 (some 8) #[true, true, false, true, false, false, true, false, false, false, false] ?_
    refine tA HT_ HW_ hHeld 4 (some 11) #[true, true, false, true, true, false, true, false, false, false, false] ?_
    refine tA HT_ HW_ hHeld 7 (some 14) #[true, true, false, true, true, false, true, true, false, false, false] ?_
    refine one_ (i := 2) (N := some 9) #[true, true, true, true, true, false, true, true, false, false, false] rfl rfl (one_of HT_.out jK) (by decide) (fun K hK => ?_)
    refine goes_ Tryd.func98 jK rfl #[.string a0_0] (by rfl) rfl rfl jA ?_
    with_reducible refine (impl_nameText.calls a0_0 t644 _ A4.out).mono ?_
    rintro e w' ⟨rfl, ⟨nd, rfl⟩⟩
    refine ⟨_, rfl, ?_⟩
    refine hK.out _ _ (c6 BK642.out) (fun hHeld => ?_)
    clear hK K
    refine nA (some 9) ?_
    refine one_ (i := 5) (N := some 12) (tf 8 3) rfl rfl (one_of HT_.out jK) (by decide) (fun K hK => ?_)
    refine goes_ Tryd.func97 jK rfl #[.int .i64 a0_2] (by rfl) rfl rfl jA ?_
    with_reducible refine (impl_NumText.calls k a0_2 t645 _ A5.out).mono ?_
    rintro e w' ⟨rfl, ⟨nd, rfl⟩⟩
    refine ⟨_, rfl, ?_⟩
    refine hK.out _ _ (c6 BK642.out) (fun hHeld => ?_)
    clear hK K
    refine nA (some 12) ?_
    refine one_ (i := 8) (N := some 15) (tf 9 2) rfl rfl (one_of HT_.out jK) (by decide) (fun K hK => ?_)
    refine goes_ Tryd.func99 jK rfl #[.int .i64 a0_1] (by rfl) rfl rfl jA ?_
    with_reducible refine (impl_TypeText.calls a0_1 t646 _ A6.out).mono ?_
    rintro e w' ⟨rfl, ⟨nd, rfl⟩⟩
    refine ⟨_, rfl, ?_⟩
    refine hK.out _ _ (c6 BK642.out) (fun hHeld => ?_)
    clear hK K
    refine nA (some 15) ?_
    refine one_ (i := 9) (N := some 16) (tf 10 1) rfl rfl (one_of HT_.out jK) (by decide) (fun K hK => ?_)
    refine Kd.R_lit_step Kd.string _ 9 ?hg (N := 16) ?hd (xs := ([t644, t645, t646] : List ByteArray)) (inner := [.string t644, .string t645, .string t646]) (ok := fun _ => True) (okp := fun _ => True) ?hr ?hp (fun _ hk => hk) trivial (Below.refl _ _) (Nat.le_refl _) (by simp) ?_; (case hd => rfl); (case hg => rfl); (case hr => first | (go_simp; done) | (go_simp; rfl)); (case hp => exact (Reps.one (show Kd.M Kd.string _ _ _ t644 [.string t644] from rfl) (Reps.one (show Kd.M Kd.string _ _ _ t645 [.string t645] from rfl) (Reps.one (show Kd.M Kd.string _ _ _ t646 [.string t646] from rfl) (Reps.none _ _)))))
    intro v648 w15 ho16 hb hg_ hnew_
    clear hg_ hnew_
    (first | rw [← Ny647.out] at ho16 | (simp only [Int.reduceToNat] at ho16; rw [← Ny647.out] at ho16))
    have HO649 := aS (Kd.R_lower ho16 (below_size (wS1 HB.out GE642.out)))
    replace BK642 := bB BK642 hb
    replace HB := aS (below_step (wS1 HB.out GE642.out) hb)
    clear hb ho16
    refine hK.out _ _ (c6 BK642.out) (fun hHeld => ?_)
    clear hK K
    refine nA (some 16) ?_
    refine pA HT_ 10 (some 3) (tf 11 0) ?_
    refine done_ (done_of HT_.out jK) ?_
    have hcz17 := cells6f BK642.out
    try go_wp2_with (first | ((with_reducible refine gate_callee (f := 97) rfl ?_); refine gL (some 24) Tryd.func97 #[.int .i64 a0_3] ?_; (with_reducible refine (impl_NumText.calls k a0_3 t650 _ A8.out).mono ?_); rintro e w' ⟨rfl, ⟨nd, rfl⟩⟩; refine ⟨_, rfl, ?_⟩) | ((with_reducible refine gate_builtin (b := .append) (xs := #[.tmp 21, .tmp 25]) rfl ?_); at_builtin; refine Kd.R_append Kd.string (w0 := w) w.heap.size rfl (.tmp 21) (.tmp 25) 108 9 (.string ⟨#[]⟩) 16 rfl Tryd.underlying108 info9 rfl (by decide) (by omega) v648 y647 t650 [.string t650] (fun _ => True) (fun _ => False) rfl rfl ?aP (fun _ hk => hk.elim) ?aF ?aO ?aB ?aS ?aL ?_; (case aP => exact rfl); (case aB => exact (wS1 HB.out GE642.out)); (case aF => exact (fun _ _ => trivial)); (case aO => exact (rU HO649.out)); (case aS => exact (below_size (wS1 HB.out GE642.out))); (case aL => have := LMc9.out; omega); intro v652 w18 ho hb hg hat; rw [← Ny651.out] at ho; replace BK642 := aS (blk_grown (g := gb642) (o := .cells #[.string a0_0, .int .i64 a0_1, .int .i64 a0_2, .int .i64 a0_3, .string a0_4, .string a0_5] 25 (0, 0)) (bU BK642.out) hg (Kd.R_ne HO649.out BK642.out (by decide))); replace HB := aS (hb); have HO653 := aS (ho); clear HO649; clear ho hb hg hat; obtain ⟨Ao19, co19, eo19⟩ := Kd.R_slice HO653.out; subst eo19) | ((with_reducible refine gate_callee (f := 109) rfl ?_); refine gL (some 56) Tryd.func109 #[.slice Ao19 y651.length co19, .string (⟨#[32]⟩ : ByteArray)] ?_; (with_reducible refine (strings_Join.calls _ _ y651 (⟨#[32]⟩ : ByteArray) t654 _ ?side1 ?side2 A10.out).mono ?_); (case side1 => exact cU ((Kd.R_reads' HO653.out).2.2)); (case side2 => exact (Kd.R_reads' HO653.out).2.1); rintro e w20 ⟨rfl, hb⟩; refine ⟨_, rfl, ?_⟩; replace HO653 := rB HO653 hb; replace BK642 := bB BK642 hb; replace HB := aS (below_step (wS1 HB.out GE642.out) hb); clear hb))
    go_ret
    exact ⟨jE, by exact wS1 HB.out GE642.out⟩
   ·rw [if_neg c9] at H
    exact absurd H (by simp)
  ·rw [if_neg c7] at H
   have c7b0 := beq_eq_false_iff_ne.mpr c7
   have c7b1 := bne_iff_ne.mpr c7
   have HC21 := aS H
   clear H
   go_enter Tryd.func52, Tryd.ntmps52
   try go_wp2_with (first | ((with_reducible refine gate_dst (N := 1) rfl ?_); refine xB 1 #[.string a0_0, .int .i64 a0_1, .int .i64 a0_2, .int .i64 a0_3, .string a0_4, .string a0_5] 25 ?_; intro gb642 hg w22 hbox hb; have BK642 := aS (hbox); have GW642 := gW hg (wU HB.out); have GE642 := gW hg (wU HB.out); replace HB := aS (below_step (wU HB.out) hb); clear hb hbox hg; have hcz23 := cells6f BK642.out) | ((with_reducible refine gate_callee (f := 15) rfl ?_); refine gL (some 5) Tryd.func15 #[.agg #[.string a0_0, .int .i64 a0_1, .int .i64 a0_2, .int .i64 a0_3, .string a0_4, .string a0_5]] ?_; (with_reducible refine (impl_RecordOk.calls k a0_0 a0_1 a0_2 a0_3 a0_4 a0_5 true _ A2.out).mono ?_); rintro e w24 ⟨rfl, hb⟩; refine ⟨_, rfl, ?_⟩; replace BK642 := bB BK642 hb; replace HB := aS (below_step (wS1 HB.out GE642.out) hb); clear hb))
   replace BK642 := aS (blk_drew BK642.out)
   replace HB := aS (below_drew1 HB.out)
   refine start_ (n := 11) (S := fun w' => w'.cell? ⟨gb642, 0, none⟩ = some (.string a0_0) ∧ w'.cell? ⟨gb642, 1, none⟩ = some (.int .i64 a0_1) ∧ w'.cell? ⟨gb642, 2, none⟩ = some (.int .i64 a0_2) ∧ w'.cell? ⟨gb642, 3, none⟩ = some (.int .i64 a0_3) ∧ w'.cell? ⟨gb642, 4, none⟩ = some (.string a0_4) ∧ w'.cell? ⟨gb642, 5, none⟩ = some (.string a0_5)) (ds := []) #[false, false, false, false, false, false, false, false, false, false, false] jK rfl rfl (c6 BK642.out) (fun hHeld => ?_); refine with_tabW impl_RecordText.tab3 impl_RecordText.bits3 (fun HT_ HW_ => ?_)
   generalize w24.drew = w25 at BK642 HB hHeld ⊢
   refine pA HT_ 0 (some 7) (tf 1 10) ?_
   refine pA HT_ 3 (some 10) #[true, false, false, true, false, false, false, false, false, false, false] ?_
   refine pA HT_ 6 (some 13) #[true, false, false, true, false, false, true, false, false, false, false] ?_
   refine tA HT_ HW_ hHeld 1 (some 8) #[true, true, false, true, false, false, true, false, false, false, false] ?_
   refine tA HT_ HW_ hHeld 4 (some 11) #[true, true, false, true, true, false, true, false, false, false, false] ?_
   refine tA HT_ HW_ hHeld 7 (some 14) #[true, true, false, true, true, false, true, true, false, false, false] ?_
   refine one_ (i := 2) (N := some 9) #[true, true, true, true, true, false, true, true, false, false, false] rfl rfl (one_of HT_.out jK) (by decide) (fun K hK => ?_)
   refine goes_ Tryd.func98 jK rfl #[.string a0_0] (by rfl) rfl rfl jA ?_
   with_reducible refine (impl_nameText.calls a0_0 t644 _ A4.out).mono ?_
   rintro e w' ⟨rfl, ⟨nd, rfl⟩⟩
   refine ⟨_, rfl, ?_⟩
   refine hK.out _ _ (c6 BK642.out) (fun hHeld => ?_)
   clear hK K
   refine nA (some 9) ?_
   refine one_ (i := 5) (N := some 12) (tf 8 3) rfl rfl (one_of HT_.out jK) (by decide) (fun K hK => ?_)
   refine goes_ Tryd.func97 jK rfl #[.int .i64 a0_2] (by rfl) rfl rfl jA ?_
   with_reducible refine (impl_NumText.calls k a0_2 t645 _ A5.out).mono ?_
   rintro e w' ⟨rfl, ⟨nd, rfl⟩⟩
   refine ⟨_, rfl, ?_⟩
   refine hK.out _ _ (c6 BK642.out) (fun hHeld => ?_)
   clear hK K
   refine nA (some 12) ?_
   refine one_ (i := 8) (N := some 15) (tf 9 2) rfl rfl (one_of HT_.out jK) (by decide) (fun K hK => ?_)
   refine goes_ Tryd.func99 jK rfl #[.int .i64 a0_1] (by rfl) rfl rfl jA ?_
   with_reducible refine (impl_TypeText.calls a0_1 t646 _ A6.out).mono ?_
   rintro e w' ⟨rfl, ⟨nd, rfl⟩⟩
   refine ⟨_, rfl, ?_⟩
   refine hK.out _ _ (c6 BK642.out) (fun hHeld => ?_)
   clear hK K
   refine nA (some 15) ?_
   refine one_ (i := 9) (N := some 16) (tf 10 1) rfl rfl (one_of HT_.out jK) (by decide) (fun K hK => ?_)
   refine Kd.R_lit_step Kd.string _ 9 ?hg (N := 16) ?hd (xs := ([t644, t645, t646] : List ByteArray)) (inner := [.string t644, .string t645, .string t646]) (ok := fun _ => True) (okp := fun _ => True) ?hr ?hp (fun _ hk => hk) trivial (Below.refl _ _) (Nat.le_refl _) (by simp) ?_; (case hd => rfl); (case hg => rfl); (case hr => first | (go_simp; done) | (go_simp; rfl)); (case hp => exact (Reps.one (show Kd.M Kd.string _ _ _ t644 [.string t644] from rfl) (Reps.one (show Kd.M Kd.string _ _ _ t645 [.string t645] from rfl) (Reps.one (show Kd.M Kd.string _ _ _ t646 [.string t646] from rfl) (Reps.none _ _)))))
   intro v648 w26 ho27 hb hg_ hnew_
   clear hg_ hnew_
   (first | rw [← Ny647.out] at ho27 | (simp only [Int.reduceToNat] at ho27; rw [← Ny647.out] at ho27))
   have HO649 := aS (Kd.R_lower ho27 (below_size (wS1 HB.out GE642.out)))
   replace BK642 := bB BK642 hb
   replace HB := aS (below_step (wS1 HB.out GE642.out) hb)
   clear hb ho27
   refine hK.out _ _ (c6 BK642.out) (fun hHeld => ?_)
   clear hK K
   refine nA (some 16) ?_
   refine pA HT_ 10 (some 3) (tf 11 0) ?_
   refine done_ (done_of HT_.out jK) ?_
   have hcz28 := cells6f BK642.out
   go_upto_if 27 with (fail)
   go_cut [27] (fun v27 wc => ∃ (kq : Nat) (x27_20 : Bool), v27 = .bool x27_20 ∧ Aside0 (impl_RecordText.j0 kq y647 a0_1 x27_20 a0_0 a0_1 a0_2 a0_3 a0_4 a0_5 = some r) ∧ Aside0 (kq ≤ k) ∧ Aside0 (Kd.R Kd.string 9 wc w.heap.size (fun _ => True) v648 y647) ∧ Aside0 (wc.heap[gb642]? = some (.cells #[.string a0_0, .int .i64 a0_1, .int .i64 a0_2, .int .i64 a0_3, .string a0_4, .string a0_5] 25 (0, 0))) ∧ Aside0 (Below w.heap.size w wc))
   case first =>
    have H := HC21.out
    clear HC21
    by_cases c29 : a0_1 = 2
    ·rw [if_pos c29] at H
     have c29b0 := beq_iff_eq.mpr c29
     have c29b1 := bne_eq_false_iff_eq.mpr c29
     clear c29
     (first | rw [c29b0] | (simp only [i64_w, i32_w]; rw [c29b0]) | skip)
     have H' := aS H
     clear H
     go_wp2
     go_meet
     case rel => exact ⟨_, ((a0_1 == 2)), jB, H', ⟨by first | omega | exact Nat.le_refl _⟩, ⟨by exact rU HO649.out⟩, ⟨by exact bU BK642.out⟩, ⟨by exact wS1 HB.out GE642.out⟩⟩
    ·rw [if_neg c29] at H
     have c29b0 := beq_eq_false_iff_ne.mpr c29
     have c29b1 := bne_iff_ne.mpr c29
     (first | rw [c29b0] | (simp only [i64_w, i32_w]; rw [c29b0]) | skip)
     have H' := aS H
     clear H
     go_wp2
     go_meet
     case rel => exact ⟨_, ((a0_1 == 5)), jB, H', ⟨by first | omega | exact Nat.le_refl _⟩, ⟨by exact rU HO649.out⟩, ⟨by exact bU BK642.out⟩, ⟨by exact wS1 HB.out GE642.out⟩⟩
   case rest =>
    clear HC21
    try clear c1
    try clear c2
    try clear p2
    try clear c3
    try clear c5
    try clear c7
    try clear c7b0
    try clear c7b1
    try clear c9
    try clear c10
    try clear c15
    try clear c29
    try clear c29b0
    try clear c29b1
    try clear hcz12
    try clear hcz17
    try clear hcz23
    try clear hcz28
    obtain ⟨kq, x27_20, rfl, HA, HJ20, HO_3, BK642, HB⟩ := hcut
    cases kq with
    | zero => exact absurd HA.out (by simp [impl_RecordText.j0])
    | succ kj20 =>
     have H := HA.out
     clear HA
     simp only [impl_RecordText.j0] at H
     by_cases c30 : x27_20 = true
     ·subst c30
      rw [if_pos rfl] at H
      obtain ⟨t655, A31, H⟩ := bM H
      try dsimp only at H
      by_cases c32 : y647.length < 8796093022208
      ·rw [if_pos c32] at H
       have LMc32 := aS c32
       clear c32
       obtain ⟨y656, hy_⟩ : ∃ y_ : List ByteArray, y_ = (y647 ++ [t655]) := ⟨_, rfl⟩
       replace H : ((strings_Join.f y656 (⟨#[32]⟩ : ByteArray)).bind fun t659 => (some t659)) = some r := jD
       have Ny656 := aS hy_
       clear hy_
       obtain ⟨t659, A33, H⟩ := bM H
       try dsimp only at H
       obtain rfl := Option.some.inj H
       have hcz34 := cells6f BK642.out
       go_wp2_with (first | ((with_reducible refine gate_callee (f := 98) rfl ?_); refine gL (some 33) Tryd.func98 #[.string a0_4] ?_; (with_reducible refine (impl_nameText.calls a0_4 t655 _ A31.out).mono ?_); rintro e w' ⟨rfl, ⟨nd, rfl⟩⟩; refine ⟨_, rfl, ?_⟩) | ((with_reducible refine gate_builtin (b := .append) (xs := #[.tmp 30, .tmp 34]) rfl ?_); at_builtin; refine Kd.R_append Kd.string (w0 := w) w.heap.size rfl (.tmp 30) (.tmp 34) 108 9 (.string ⟨#[]⟩) 16 rfl Tryd.underlying108 info9 rfl (by decide) (by omega) v648 y647 t655 [.string t655] (fun _ => True) (fun _ => False) rfl rfl ?aP (fun _ hk => hk.elim) ?aF ?aO ?aB ?aS ?aL ?_; (case aP => exact rfl); (case aB => exact (wS1 HB.out GE642.out)); (case aF => exact (fun _ _ => trivial)); (case aO => exact (rU HO_3.out)); (case aS => exact (below_size (wS1 HB.out GE642.out))); (case aL => have := LMc32.out; omega); intro v657 w35 ho hb hg hat; rw [← Ny656.out] at ho; replace BK642 := aS (blk_grown (g := gb642) (o := .cells #[.string a0_0, .int .i64 a0_1, .int .i64 a0_2, .int .i64 a0_3, .string a0_4, .string a0_5] 25 (0, 0)) (bU BK642.out) hg (Kd.R_ne HO_3.out BK642.out (by decide))); replace HB := aS (hb); have HO658 := aS (ho); clear HO_3; clear ho hb hg hat; obtain ⟨Ao36, co36, eo36⟩ := Kd.R_slice HO658.out; subst eo36) | ((with_reducible refine gate_callee (f := 109) rfl ?_); refine gL (some 56) Tryd.func109 #[.slice Ao36 y656.length co36, .string (⟨#[32]⟩ : ByteArray)] ?_; (with_reducible refine (strings_Join.calls _ _ y656 (⟨#[32]⟩ : ByteArray) t659 _ ?side1 ?side2 A33.out).mono ?_); (case side1 => exact cU ((Kd.R_reads' HO658.out).2.2)); (case side2 => exact (Kd.R_reads' HO658.out).2.1); rintro e w37 ⟨rfl, hb⟩; refine ⟨_, rfl, ?_⟩; replace HO658 := rB HO658 hb; replace BK642 := bB BK642 hb; replace HB := aS (below_step (wS1 HB.out GE642.out) hb); clear hb))
       go_ret
       exact ⟨jE, by exact wS1 HB.out GE642.out⟩
      ·rw [if_neg c32] at H
       exact absurd H (by simp)
     ·replace c30 := Bool.eq_false_iff.mpr c30
      subst c30
      rw [if_neg Bool.false_ne_true] at H
      by_cases c38 : a0_1 = 6
      ·rw [if_pos c38] at H
       have c38b0 := beq_iff_eq.mpr c38
       have c38b1 := bne_eq_false_iff_eq.mpr c38
       clear c38
       obtain ⟨t660, A39, H⟩ := bM H
       try dsimp only at H
       obtain ⟨t661, A40, H⟩ := bM H
       try dsimp only at H
       obtain ⟨y662, hy_⟩ : ∃ y_ : List ByteArray, y_ = (([t660, t661] : List ByteArray)) := ⟨_, rfl⟩
       replace H : (if y647.length + y662.length < 8796093022208 then ((strings_Join.f (y647 ++ y662) (⟨#[32]⟩ : ByteArray)).bind fun t668 => (some t668)) else (none)) = some r := jD
       have Ny662 := aS hy_
       clear hy_
       by_cases c41 : y647.length + y662.length < 8796093022208
       ·rw [if_pos c41] at H
        have LMc41 := aS c41
        clear c41
        obtain ⟨y665, hy_⟩ : ∃ y_ : List ByteArray, y_ = (y647 ++ y662) := ⟨_, rfl⟩
        replace H : ((strings_Join.f y665 (⟨#[32]⟩ : ByteArray)).bind fun t668 => (some t668)) = some r := jD
        have Ny665 := aS hy_
        clear hy_
        obtain ⟨t668, A42, H⟩ := bM H
        try dsimp only at H
        obtain rfl := Option.some.inj H
        try go_wp2
        replace HO_3 := aS (Kd.R_drew HO_3.out)
        replace BK642 := aS (blk_drew BK642.out)
        replace HB := aS (below_drew1 HB.out)
        refine start_ (n := 10) (S := fun w' => w'.cell? ⟨gb642, 0, none⟩ = some (.string a0_0) ∧ w'.cell? ⟨gb642, 1, none⟩ = some (.int .i64 a0_1) ∧ w'.cell? ⟨gb642, 2, none⟩ = some (.int .i64 a0_2) ∧ w'.cell? ⟨gb642, 3, none⟩ = some (.int .i64 a0_3) ∧ w'.cell? ⟨gb642, 4, none⟩ = some (.string a0_4) ∧ w'.cell? ⟨gb642, 5, none⟩ = some (.string a0_5)) (ds := []) #[false, false, false, false, false, false, false, false, false, false] jK rfl rfl (c6 BK642.out) (fun hHeld => ?_); refine with_tabW impl_RecordText.tab11 impl_RecordText.bits11 (fun HT_ HW_ => ?_)
        generalize wc.drew = w43 at HO_3 BK642 HB hHeld ⊢
        refine pA HT_ 0 (some 38) (tf 1 9) ?_
        refine pA HT_ 1 (some 39) (tf 2 8) ?_
        refine pA HT_ 4 (some 42) #[true, true, false, false, true, false, false, false, false, false] ?_
        refine tA HT_ HW_ hHeld 2 (some 40) #[true, true, true, false, true, false, false, false, false, false] ?_
        refine tA HT_ HW_ hHeld 5 (some 43) #[true, true, true, false, true, true, false, false, false, false] ?_
        refine one_ (i := 3) (N := some 41) (tf 6 4) rfl rfl (one_of HT_.out jK) (by decide) (fun K hK => ?_)
        refine goes_ Tryd.func98 jK rfl #[.string a0_4] (by rfl) rfl rfl jA ?_
        with_reducible refine (impl_nameText.calls a0_4 t660 _ A39.out).mono ?_
        rintro e w' ⟨rfl, ⟨nd, rfl⟩⟩
        refine ⟨_, rfl, ?_⟩
        refine hK.out _ _ (c6 BK642.out) (fun hHeld => ?_)
        clear hK K
        refine nA (some 41) ?_
        refine one_ (i := 6) (N := some 44) (tf 7 3) rfl rfl (one_of HT_.out jK) (by decide) (fun K hK => ?_)
        refine goes_ Tryd.func97 jK rfl #[.int .i64 a0_3] (by rfl) rfl rfl jA ?_
        with_reducible refine (impl_NumText.calls kj20 a0_3 t661 _ A40.out).mono ?_
        rintro e w' ⟨rfl, ⟨nd, rfl⟩⟩
        refine ⟨_, rfl, ?_⟩
        refine hK.out _ _ (c6 BK642.out) (fun hHeld => ?_)
        clear hK K
        refine nA (some 44) ?_
        refine one_ (i := 7) (N := some 45) (tf 8 2) rfl rfl (one_of HT_.out jK) (by decide) (fun K hK => ?_)
        refine Kd.R_lit_step Kd.string _ 9 ?hg (N := 45) ?hd (xs := ([t660, t661] : List ByteArray)) (inner := [.string t660, .string t661]) (ok := fun _ => True) (okp := fun _ => True) ?hr ?hp (fun _ hk => hk) trivial (Below.refl _ _) (Nat.le_refl _) (by simp) ?_; (case hd => rfl); (case hg => rfl); (case hr => first | (go_simp; done) | (go_simp; rfl)); (case hp => exact (Reps.one (show Kd.M Kd.string _ _ _ t660 [.string t660] from rfl) (Reps.one (show Kd.M Kd.string _ _ _ t661 [.string t661] from rfl) (Reps.none _ _))))
        intro v663 w44 ho45 hb hg_ hnew_
        clear hg_ hnew_
        (first | rw [← Ny662.out] at ho45 | (simp only [Int.reduceToNat] at ho45; rw [← Ny662.out] at ho45))
        have HO664 := aS (Kd.R_lower (Kd.R_new' ho45 (Kd.R_lt (rU HO_3.out))) (below_size (wS1 HB.out GE642.out)))
        replace HO_3 := aS (Kd.R_elder' (rU HO_3.out) (Kd.R_base ho45) hb)
        replace BK642 := bB BK642 hb
        replace HB := aS (below_step (wS1 HB.out GE642.out) hb)
        clear hb ho45
        obtain ⟨Ao47, co47, eo47⟩ := Kd.R_slice HO664.out
        (first | subst eo47 | (injection eo47 with f1_ f2_ f3_; have f4_ := f1_.symm; have f5_ := f3_.symm; clear f1_ f2_ f3_; subst f4_; subst f5_))
        refine hK.out _ _ (c6 BK642.out) (fun hHeld => ?_)
        clear hK K
        refine nA (some 45) ?_
        refine one_ (i := 8) (N := some 46) (tf 9 1) rfl rfl (one_of HT_.out jK) (by decide) (fun K hK => ?_)
        refine Kd.R_append_rows_step Kd.string (w0 := w) w.heap.size (by rfl) (.tmp 38) (.tmp 45) 108 9 (.string ⟨#[]⟩) 16 rfl Tryd.underlying108 info9 rfl (by decide) (by omega) v648 y647 y662 _ _ _ (fun k_ => some k_ ≠ (.slice Ao47 y662.length co47 : Value).ownBlock) (fun _ => False) rfl rfl ?aO ?aR (fun _ _ h => h) (fun _ h => h.elim) ?aF ?aB ?aS ?aL ?_
        (case aR => exact cU ((Kd.R_reads' HO664.out).2.2))
        (case aB => exact (wS1 HB.out GE642.out))
        (case aF => exact (fun k_ hk => Kd.fresh' (Kd.R_lt (rU HO664.out)) k_ hk))
        (case aO => exact (by exact rO (Kd.R_mono HO_3.out (fun _ hk => hk.2))))
        (case aS => exact (below_size (wS1 HB.out GE642.out)))
        (case aL => have := LMc41.out; omega)
        intro v666 w46 ho hb hg hat
        rw [← Ny665.out] at ho
        replace BK642 := aS (blk_grown (g := gb642) (o := .cells #[.string a0_0, .int .i64 a0_1, .int .i64 a0_2, .int .i64 a0_3, .string a0_4, .string a0_5] 25 (0, 0)) (bU BK642.out) hg (Kd.R_ne HO_3.out BK642.out (by decide)))
        replace HO664 := aS (Kd.R_after (ok := (fun _ => True)) (rU HO664.out) hg hat)
        replace HB := aS (hb)
        have HO667 := aS (ho)
        clear HO_3
        clear ho hb hg hat
        refine hK.out _ _ (c6 BK642.out) (fun hHeld => ?_)
        clear hK K
        refine nA (some 46) ?_
        refine pA HT_ 9 (some 3) (tf 10 0) ?_
        refine done_ (done_of HT_.out jK) ?_
        obtain ⟨Ao48, co48, eo48⟩ := Kd.R_slice HO667.out
        subst eo48
        try go_wp2_with (first | ((with_reducible refine gate_callee (f := 109) rfl ?_); refine gL (some 56) Tryd.func109 #[.slice Ao48 y665.length co48, .string (⟨#[32]⟩ : ByteArray)] ?_; (with_reducible refine (strings_Join.calls _ _ y665 (⟨#[32]⟩ : ByteArray) t668 _ ?side1 ?side2 A42.out).mono ?_); (case side1 => exact cU ((Kd.R_reads' HO667.out).2.2)); (case side2 => exact (Kd.R_reads' HO667.out).2.1); rintro e w49 ⟨rfl, hb⟩; refine ⟨_, rfl, ?_⟩; replace HO664 := rB HO664 hb; replace HO667 := rB HO667 hb; replace BK642 := bB BK642 hb; replace HB := aS (below_step (wS1 HB.out GE642.out) hb); clear hb))
        go_ret
        exact ⟨jE, by exact wS1 HB.out GE642.out⟩
       ·rw [if_neg c41] at H
        exact absurd H (by simp)
      ·rw [if_neg c38] at H
       have c38b0 := beq_eq_false_iff_ne.mpr c38
       have c38b1 := bne_iff_ne.mpr c38
       by_cases c50 : a0_1 = 16
       ·rw [if_pos c50] at H
        have c50b0 := beq_iff_eq.mpr c50
        have c50b1 := bne_eq_false_iff_eq.mpr c50
        clear c50
        by_cases c51 : 1 + a0_5.size ≤ 9223372036854775807
        ·rw [if_pos c51] at H
         have c51b0 := eq_true c51
         have c51b1 := decide_eq_true c51
         try have c51b2 : (9223372036854775807 < 1 + a0_5.size) = False := eq_false (Nat.not_lt.2 c51)
         by_cases c52 : y647.length < 8796093022208
         ·rw [if_pos c52] at H
          have LMc52 := aS c52
          clear c52
          obtain ⟨y669, hy_⟩ : ∃ y_ : List ByteArray, y_ = (y647 ++ [(⟨#[39]⟩ : ByteArray) ++ a0_5]) := ⟨_, rfl⟩
          replace H : ((strings_Join.f y669 (⟨#[32]⟩ : ByteArray)).bind fun t672 => (some t672)) = some r := jD
          have Ny669 := aS hy_
          clear hy_
          obtain ⟨t672, A53, H⟩ := bM H
          try dsimp only at H
          obtain rfl := Option.some.inj H
          have hcz54 := cells6f BK642.out
          go_wp2_with (first | ((with_reducible refine gate_builtin (b := .append) (xs := #[.tmp 49, .tmp 53]) rfl ?_); at_builtin; refine Kd.R_append Kd.string (w0 := w) w.heap.size rfl (.tmp 49) (.tmp 53) 108 9 (.string ⟨#[]⟩) 16 rfl Tryd.underlying108 info9 rfl (by decide) (by omega) v648 y647 ((⟨#[39]⟩ : ByteArray) ++ a0_5) [.string ((⟨#[39]⟩ : ByteArray) ++ a0_5)] (fun _ => True) (fun _ => False) rfl rfl ?aP (fun _ hk => hk.elim) ?aF ?aO ?aB ?aS ?aL ?_; (case aP => exact rfl); (case aB => exact (wS1 HB.out GE642.out)); (case aF => exact (fun _ _ => trivial)); (case aO => exact (rU HO_3.out)); (case aS => exact (below_size (wS1 HB.out GE642.out))); (case aL => have := LMc52.out; omega); intro v670 w55 ho hb hg hat; rw [← Ny669.out] at ho; replace BK642 := aS (blk_grown (g := gb642) (o := .cells #[.string a0_0, .int .i64 a0_1, .int .i64 a0_2, .int .i64 a0_3, .string a0_4, .string a0_5] 25 (0, 0)) (bU BK642.out) hg (Kd.R_ne HO_3.out BK642.out (by decide))); replace HB := aS (hb); have HO671 := aS (ho); clear HO_3; clear ho hb hg hat; obtain ⟨Ao56, co56, eo56⟩ := Kd.R_slice HO671.out; subst eo56) | ((with_reducible refine gate_callee (f := 109) rfl ?_); refine gL (some 56) Tryd.func109 #[.slice Ao56 y669.length co56, .string (⟨#[32]⟩ : ByteArray)] ?_; (with_reducible refine (strings_Join.calls _ _ y669 (⟨#[32]⟩ : ByteArray) t672 _ ?side1 ?side2 A53.out).mono ?_); (case side1 => exact cU ((Kd.R_reads' HO671.out).2.2)); (case side2 => exact (Kd.R_reads' HO671.out).2.1); rintro e w57 ⟨rfl, hb⟩; refine ⟨_, rfl, ?_⟩; replace HO671 := rB HO671 hb; replace BK642 := bB BK642 hb; replace HB := aS (below_step (wS1 HB.out GE642.out) hb); clear hb))
          go_ret
          exact ⟨jE, by exact wS1 HB.out GE642.out⟩
         ·rw [if_neg c52] at H
          exact absurd H (by simp)
        ·rw [if_neg c51] at H
         exact absurd H (by simp)
       ·rw [if_neg c50] at H
        have c50b0 := beq_eq_false_iff_ne.mpr c50
        have c50b1 := bne_iff_ne.mpr c50
        obtain ⟨t673, A58, H⟩ := bM H
        try dsimp only at H
        obtain rfl := Option.some.inj H
        obtain ⟨Ao59, co59, eo59⟩ := Kd.R_slice HO_3.out
        subst eo59
        go_wp2_with (first | ((with_reducible refine gate_callee (f := 109) rfl ?_); refine gL (some 56) Tryd.func109 #[.slice Ao59 y647.length co59, .string (⟨#[32]⟩ : ByteArray)] ?_; (with_reducible refine (strings_Join.calls _ _ y647 (⟨#[32]⟩ : ByteArray) t673 _ ?side1 ?side2 A58.out).mono ?_); (case side1 => exact cU ((Kd.R_reads' HO_3.out).2.2)); (case side2 => exact (Kd.R_reads' HO_3.out).2.1); rintro e w60 ⟨rfl, hb⟩; refine ⟨_, rfl, ?_⟩; replace HO_3 := rB HO_3 hb; replace BK642 := bB BK642 hb; replace HB := aS (below_step (wS1 HB.out GE642.out) hb); clear hb))
        go_ret
        exact ⟨jE, by exact wS1 HB.out GE642.out⟩
 ·replace c3 := Bool.eq_false_iff.mpr c3
  subst c3
  rw [if_neg Bool.false_ne_true] at H
  obtain rfl := Option.some.inj H
  go_enter Tryd.func52, Tryd.ntmps52
  go_wp2_with (first | ((with_reducible refine gate_dst (N := 1) rfl ?_); refine xB 1 #[.string a0_0, .int .i64 a0_1, .int .i64 a0_2, .int .i64 a0_3, .string a0_4, .string a0_5] 25 ?_; intro gb642 hg w61 hbox hb; have BK642 := aS (hbox); have GW642 := gW hg (wU HB.out); have GE642 := gW hg (wU HB.out); replace HB := aS (below_step (wU HB.out) hb); clear hb hbox hg; have hcz62 := cells6f BK642.out) | ((with_reducible refine gate_callee (f := 15) rfl ?_); refine gL (some 5) Tryd.func15 #[.agg #[.string a0_0, .int .i64 a0_1, .int .i64 a0_2, .int .i64 a0_3, .string a0_4, .string a0_5]] ?_; (with_reducible refine (impl_RecordOk.calls k a0_0 a0_1 a0_2 a0_3 a0_4 a0_5 false _ A2.out).mono ?_); rintro e w63 ⟨rfl, hb⟩; refine ⟨_, rfl, ?_⟩; replace BK642 := bB BK642 hb; replace HB := aS (below_step (wS1 HB.out GE642.out) hb); clear hb))
  go_ret
  exact ⟨jE, by exact wS1 HB.out GE642.out⟩

end Go.Proofs.YtdigilidomimdaaDoor.Pr
