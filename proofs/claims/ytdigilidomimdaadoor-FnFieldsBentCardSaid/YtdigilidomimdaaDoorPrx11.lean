-- Written for this claim by a program of this session (wip/tool/pr.py, over the kit's printer).
-- half
import Derived.Test.YtdigilidomimdaaDoorPrx0
import Derived.Test.YtdigilidomimdaaDoorPrx10
namespace Go.Proofs.YtdigilidomimdaaDoor.Pr
open Go.RowKit Go.Proofs.YtdigilidomimdaaDoorW.PrintWords Go.Proofs.YtdigilidomimdaaDoorW.PrintLast Go.Proofs.YtdigilidomimdaaDoorW.PrintMore
attribute [local go_sem] max2_int min2_int max_two min_two max_three min_three max_four min_four   -- for this text's walks alone
set_option linter.unusedVariables false
set_option linter.unusedSimpArgs false

/-! ### spec_l1Byte: function 129 -/
def spec_l1Byte.f (s0_0 : List Int) (s0_1 : Int) (s0_2 : Int) : Option (Int × Int × Int) := if s0_1 < (s0_0.length : Int) then (if 0 ≤ s0_1 then (some (Go.bits .and .i64 (wrap64 ((Go.bits .and .i64 (Go.bits .xor .i64 ((wrap64 ((wrap64 (s0_2 * 6364136223846793005)) + 1442695040888963407)) / 8589934592) ((wrap64 ((wrap64 (s0_2 * 6364136223846793005)) + 1442695040888963407)) / 140737488355328)) 255) + (wrap64 (rd s0_0 s0_1)))) 255, wrap64 (s0_1 + 1), wrap64 ((wrap64 (s0_2 * 6364136223846793005)) + 1442695040888963407))) else (none)) else (some (Go.bits .and .i64 (Go.bits .xor .i64 ((wrap64 ((wrap64 (s0_2 * 6364136223846793005)) + 1442695040888963407)) / 8589934592) ((wrap64 ((wrap64 (s0_2 * 6364136223846793005)) + 1442695040888963407)) / 140737488355328)) 255, s0_1, wrap64 ((wrap64 (s0_2 * 6364136223846793005)) + 1442695040888963407)))
set_option maxHeartbeats 8000000 in
set_option maxRecDepth 100000 in
theorem spec_l1Byte.calls (g : Nat) (s0_0 : List Int) (s0_1 : Int) (s0_2 : Int) (r1 : Int) (r2 : Int) (r3 : Int) (w0 w : World) (hI : IsS111 w0 w g s0_0 s0_1 s0_2) (hB : Below w0.heap.size w0 w) (h : spec_l1Byte.f s0_0 s0_1 s0_2 = some (r1, r2, r3)) :
  Calls Tryd.prog 129 #[.pointer (some ⟨g, 0, none⟩)] w fun e w' => e = .returned (.int .i64 r1) ∧ IsS111 w0 w' g s0_0 r2 r3 ∧ Below w0.heap.size w0 w' ∧ KeepBut w w' g none := by
 have HI0 := aS hI
 have HK := aS (KeepBut.refl w g none)
 have HL := aS hB.size
 clear hI
 have HW0 := aS hB.size
 have HB := aS hB
 clear hB
 have H : (if s0_1 < (s0_0.length : Int) then (if 0 ≤ s0_1 then (some (Go.bits .and .i64 (wrap64 ((Go.bits .and .i64 (Go.bits .xor .i64 ((wrap64 ((wrap64 (s0_2 * 6364136223846793005)) + 1442695040888963407)) / 8589934592) ((wrap64 ((wrap64 (s0_2 * 6364136223846793005)) + 1442695040888963407)) / 140737488355328)) 255) + (wrap64 (rd s0_0 s0_1)))) 255, wrap64 (s0_1 + 1), wrap64 ((wrap64 (s0_2 * 6364136223846793005)) + 1442695040888963407))) else (none)) else (some (Go.bits .and .i64 (Go.bits .xor .i64 ((wrap64 ((wrap64 (s0_2 * 6364136223846793005)) + 1442695040888963407)) / 8589934592) ((wrap64 ((wrap64 (s0_2 * 6364136223846793005)) + 1442695040888963407)) / 140737488355328)) 255, s0_1, wrap64 ((wrap64 (s0_2 * 6364136223846793005)) + 1442695040888963407)))) = some (r1, r2, r3) := h
 clear h
 obtain ⟨ji2, hji2⟩ : ∃ j_ : Int, (Go.bits .xor .i64 ((wrap64 ((wrap64 (s0_2 * 6364136223846793005)) + 1442695040888963407)) / 8589934592) ((wrap64 ((wrap64 (s0_2 * 6364136223846793005)) + 1442695040888963407)) / 140737488355328)) = j_ := ⟨_, rfl⟩
 replace H : (if s0_1 < (s0_0.length : Int) then (if 0 ≤ s0_1 then (some (Go.bits .and .i64 (wrap64 ((Go.bits .and .i64 (ji2) 255) + (wrap64 (rd s0_0 s0_1)))) 255, wrap64 (s0_1 + 1), wrap64 ((wrap64 (s0_2 * 6364136223846793005)) + 1442695040888963407))) else (none)) else (some (Go.bits .and .i64 (ji2) 255, s0_1, wrap64 ((wrap64 (s0_2 * 6364136223846793005)) + 1442695040888963407)))) = some (r1, r2, r3) := by first | (rw [hji2] at H; exact H) | (simp only [hji2] at H ⊢; exact H)
 obtain ⟨ji3, hji3⟩ : ∃ j_ : Int, (Go.bits .and .i64 (ji2) 255) = j_ := ⟨_, rfl⟩
 replace H : (if s0_1 < (s0_0.length : Int) then (if 0 ≤ s0_1 then (some (Go.bits .and .i64 (wrap64 ((ji3) + (wrap64 (rd s0_0 s0_1)))) 255, wrap64 (s0_1 + 1), wrap64 ((wrap64 (s0_2 * 6364136223846793005)) + 1442695040888963407))) else (none)) else (some (ji3, s0_1, wrap64 ((wrap64 (s0_2 * 6364136223846793005)) + 1442695040888963407)))) = some (r1, r2, r3) := by first | (rw [hji3] at H; exact H) | (simp only [hji3] at H ⊢; exact H)
 by_cases c4 : s0_1 < (s0_0.length : Int)
 ·rw [if_pos c4] at H
  have c4b0 := decide_eq_true c4
  clear c4
  by_cases c5 : 0 ≤ s0_1
  ·rw [if_pos c5] at H
   have c5b0 := decide_eq_true c5
   clear c5
   obtain ⟨ji6, hji6⟩ : ∃ j_ : Int, (Go.bits .and .i64 (wrap64 ((ji3) + (wrap64 (rd s0_0 s0_1)))) 255) = j_ := ⟨_, rfl⟩
   replace H : (some (ji6, wrap64 (s0_1 + 1), wrap64 ((wrap64 (s0_2 * 6364136223846793005)) + 1442695040888963407))) = some (r1, r2, r3) := by first | (rw [hji6] at H; exact H) | (simp only [hji6] at H ⊢; exact H)
   simp only [Option.some.injEq, Prod.mk.injEq] at H
   obtain ⟨rfl, rfl, rfl⟩ := H
   obtain ⟨ASz7_0, cSz7_0, HGz7, hgz7, HSz7_0⟩ := HI0.out
   have hcz7_0 := cellS111_0 HGz7
   have hcz7_1 := cellS111_1 HGz7
   have hcz7_2 := cellS111_2 HGz7
   have hfz7_1 := blk_frozen HGz7 1
   have hfz7_2 := blk_frozen HGz7 2
   clear HGz7 hgz7
   have p426 : 0 ≤ (s0_1 : Int) := of_decide_eq_true jC
   have q426 : s0_1 < (s0_0.length : Int) := of_decide_eq_true jC
   obtain ⟨ad426, e426, hx426_0⟩ := Kd.at_int HSz7_0 s0_1 p426 q426
   cases e426
   have hn426_0 : ad426.block ≠ g := Nat.ne_of_lt (Nat.lt_of_lt_of_le (by have := World.block_lt_of_cell? _ _ hx426_0; first | rwa [add_block] at this | exact this) (IsS111.ge HI0.out))
   replace hx426_0 := pw_cell_below HB.out hx426_0
   replace hx426_0 := (cell_far (p := ⟨g, 2, none⟩) (by first | (rw [add_block]; exact hn426_0) | (show (Addr.add _ _).block ≠ _; rw [add_block]; exact hn426_0) | exact hn426_0) (.int .i64 (wrap64 ((wrap64 (s0_2 * 6364136223846793005)) + 1442695040888963407)))).trans hx426_0
   (try have hy426_0 := fun (n_ : Nat) => (show (((w.drewN n_).setCell ⟨g, 2, none⟩ (.int .i64 (wrap64 ((wrap64 (s0_2 * 6364136223846793005)) + 1442695040888963407))))).cell? _ = some _ from hx426_0))
   clear hn426_0
   replace p426 := eq_true p426
   replace q426 := eq_true q426
   go_enter Tryd.func129, Tryd.ntmps129
   go_wp2
   repeat (go_quiet (fail); try go_wp2)
   go_ret
   exact ⟨by first | rfl | (simp [errW_none, errW_some] <;> rfl) | (simp only [← hji2, ← hji3, ← hji6]; first | rfl | (simp [errW_none, errW_some] <;> rfl)) | (simp [*, errW_none, errW_some] <;> rfl), by repeat (first | (with_reducible first | exact HI0.out | apply IsS111.alloc | apply IsS111.drewN | apply IsS111.drew | apply IsS111.set_1 | apply IsS111.set_2) | exact HI0.out), by exact wS1 HB.out (IsS111.ge HI0.out), by exact kS0 HK.out⟩
  ·rw [if_neg c5] at H
   exact absurd H (by simp)
 ·rw [if_neg c4] at H
  have c4b0 := decide_eq_false c4
  clear c4
  simp only [Option.some.injEq, Prod.mk.injEq] at H
  obtain ⟨rfl, rfl, rfl⟩ := H
  obtain ⟨ASz8_0, cSz8_0, HGz8, hgz8, HSz8_0⟩ := HI0.out
  have hcz8_0 := cellS111_0 HGz8
  have hcz8_1 := cellS111_1 HGz8
  have hcz8_2 := cellS111_2 HGz8
  have hfz8_1 := blk_frozen HGz8 1
  have hfz8_2 := blk_frozen HGz8 2
  clear HGz8 hgz8
  go_enter Tryd.func129, Tryd.ntmps129
  go_wp2
  repeat (go_quiet (fail); try go_wp2)
  go_ret
  exact ⟨by first | rfl | (simp [errW_none, errW_some] <;> rfl) | (simp only [← hji2, ← hji3]; first | rfl | (simp [errW_none, errW_some] <;> rfl)) | (simp [*, errW_none, errW_some] <;> rfl), by repeat (first | (with_reducible first | exact HI0.out | apply IsS111.alloc | apply IsS111.drewN | apply IsS111.drew | apply IsS111.set_1 | apply IsS111.set_2) | exact HI0.out), by exact wS1 HB.out (IsS111.ge HI0.out), by exact kS0 HK.out⟩

/-! ### spec_l1Below: function 78 -/
def spec_l1Below.f (s0_0 : List Int) (s0_1 : Int) (s0_2 : Int) (a1 : Int) : Option (Int × Int × Int) := if a1 ≤ 0 then (some (0, s0_1, s0_2)) else (if a1 ≤ 256 then ((spec_l1Byte.f s0_0 s0_1 s0_2).bind fun bt427 => (if a1 = 0 then (none) else (some (Int.tmod bt427.1 a1, bt427.2.1, bt427.2.2)))) else ((spec_l1Byte.f s0_0 s0_1 s0_2).bind fun bt430 => ((spec_l1Byte.f s0_0 bt430.2.1 bt430.2.2).bind fun bt433 => ((spec_l1Byte.f s0_0 bt433.2.1 bt433.2.2).bind fun bt436 => (if a1 = 0 then (none) else (some (Int.tmod (wrap64 ((wrap64 ((wrap64 (bt430.1 * 65536)) + (wrap64 (bt433.1 * 256)))) + bt436.1)) a1, bt436.2.1, bt436.2.2)))))))
set_option maxHeartbeats 8000000 in
set_option maxRecDepth 100000 in
theorem spec_l1Below.calls (g : Nat) (s0_0 : List Int) (s0_1 : Int) (s0_2 : Int) (a1 : Int) (r1 : Int) (r2 : Int) (r3 : Int) (w0 w : World) (hI : IsS111 w0 w g s0_0 s0_1 s0_2) (hB : Below w0.heap.size w0 w) (h : spec_l1Below.f s0_0 s0_1 s0_2 a1 = some (r1, r2, r3)) :
  Calls Tryd.prog 78 #[.pointer (some ⟨g, 0, none⟩), .int .i64 a1] w fun e w' => e = .returned (.int .i64 r1) ∧ IsS111 w0 w' g s0_0 r2 r3 ∧ Below w0.heap.size w0 w' ∧ KeepBut w w' g none := by
 have HI0 := aS hI
 have HK := aS (KeepBut.refl w g none)
 have HL := aS hB.size
 clear hI
 have HW0 := aS hB.size
 have HB := aS hB
 clear hB
 have H : (if a1 ≤ 0 then (some (0, s0_1, s0_2)) else (if a1 ≤ 256 then ((spec_l1Byte.f s0_0 s0_1 s0_2).bind fun bt427 => (if a1 = 0 then (none) else (some (Int.tmod bt427.1 a1, bt427.2.1, bt427.2.2)))) else ((spec_l1Byte.f s0_0 s0_1 s0_2).bind fun bt430 => ((spec_l1Byte.f s0_0 bt430.2.1 bt430.2.2).bind fun bt433 => ((spec_l1Byte.f s0_0 bt433.2.1 bt433.2.2).bind fun bt436 => (if a1 = 0 then (none) else (some (Int.tmod (wrap64 ((wrap64 ((wrap64 (bt430.1 * 65536)) + (wrap64 (bt433.1 * 256)))) + bt436.1)) a1, bt436.2.1, bt436.2.2)))))))) = some (r1, r2, r3) := h
 clear h
 by_cases c3 : a1 ≤ 0
 ·rw [if_pos c3] at H
  have c3b0 := decide_eq_true c3
  clear c3
  simp only [Option.some.injEq, Prod.mk.injEq] at H
  obtain ⟨rfl, rfl, rfl⟩ := H
  go_enter Tryd.func78, Tryd.ntmps78
  go_wp2
  go_ret
  exact ⟨jE, by exact IsS111.iS0 HI0.out, by exact wS1 HB.out (IsS111.ge HI0.out), by exact kS0 HK.out⟩
 ·rw [if_neg c3] at H
  have c3b0 := decide_eq_false c3
  clear c3
  by_cases c4 : a1 ≤ 256
  ·rw [if_pos c4] at H
   have c4b0 := decide_eq_true c4
   clear c4
   obtain ⟨⟨t427, t428, t429⟩, A5, H⟩ := bM H
   try dsimp only at H
   by_cases c6 : a1 = 0
   ·rw [if_pos c6] at H
    exact absurd H (by simp)
   ·rw [if_neg c6] at H
    have c6b0 := beq_eq_false_iff_ne.mpr c6
    have c6b1 := bne_iff_ne.mpr c6
    simp only [Option.some.injEq, Prod.mk.injEq] at H
    obtain ⟨rfl, rfl, rfl⟩ := H
    go_enter Tryd.func78, Tryd.ntmps78
    go_wp2_with (first | ((with_reducible refine gate_callee (f := 129) rfl ?_); refine goesL_ (some 13) rfl rfl Tryd.func129 jK rfl #[.pointer (some ⟨g, 0, none⟩)] rfl jA ?_; (with_reducible refine (spec_l1Byte.calls g s0_0 s0_1 s0_2 t427 t428 t429 w0 _ ?side1 ?side2 A5.out).mono ?_); (case side1 => exact IsS111.iS0 HI0.out); (case side2 => exact wS1 HB.out (IsS111.ge HI0.out)); rintro e w7 ⟨rfl, hi, hb, hk⟩; refine ⟨_, rfl, ?_⟩; replace HK := aS (KeepBut.trans (kS0 HK.out) hk (.inl rfl)); replace HB := aS (hb); replace HI0 := aS (hi); clear hi hb hk))
    go_ret
    exact ⟨jE, by exact IsS111.iS0 HI0.out, by exact wS1 HB.out (IsS111.ge HI0.out), by exact kS0 HK.out⟩
  ·rw [if_neg c4] at H
   have c4b0 := decide_eq_false c4
   clear c4
   obtain ⟨⟨t430, t431, t432⟩, A8, H⟩ := bM H
   try dsimp only at H
   obtain ⟨⟨t433, t434, t435⟩, A9, H⟩ := bM H
   try dsimp only at H
   obtain ⟨⟨t436, t437, t438⟩, A10, H⟩ := bM H
   try dsimp only at H
   by_cases c11 : a1 = 0
   ·rw [if_pos c11] at H
    exact absurd H (by simp)
   ·rw [if_neg c11] at H
    have c11b0 := beq_eq_false_iff_ne.mpr c11
    have c11b1 := bne_iff_ne.mpr c11
    simp only [Option.some.injEq, Prod.mk.injEq] at H
    obtain ⟨rfl, rfl, rfl⟩ := H
    go_enter Tryd.func78, Tryd.ntmps78
    go_wp2_with (first | ((with_reducible refine gate_callee (f := 129) rfl ?_); refine goesL_ (some 17) rfl rfl Tryd.func129 jK rfl #[.pointer (some ⟨g, 0, none⟩)] rfl jA ?_; (with_reducible refine (spec_l1Byte.calls g s0_0 s0_1 s0_2 t430 t431 t432 w0 _ ?side1 ?side2 A8.out).mono ?_); (case side1 => exact IsS111.iS0 HI0.out); (case side2 => exact wS1 HB.out (IsS111.ge HI0.out)); rintro e w12 ⟨rfl, hi, hb, hk⟩; refine ⟨_, rfl, ?_⟩; replace HK := aS (KeepBut.trans (kS0 HK.out) hk (.inl rfl)); replace HB := aS (hb); replace HI0 := aS (hi); clear hi hb hk) | ((with_reducible refine gate_callee (f := 129) rfl ?_); refine goesL_ (some 19) rfl rfl Tryd.func129 jK rfl #[.pointer (some ⟨g, 0, none⟩)] rfl jA ?_; (with_reducible refine (spec_l1Byte.calls g s0_0 t431 t432 t433 t434 t435 w0 _ ?side1 ?side2 A9.out).mono ?_); (case side1 => exact IsS111.iS0 HI0.out); (case side2 => exact wS1 HB.out (IsS111.ge HI0.out)); rintro e w13 ⟨rfl, hi, hb, hk⟩; refine ⟨_, rfl, ?_⟩; replace HK := aS (KeepBut.trans (kS0 HK.out) hk (.inl rfl)); replace HB := aS (hb); replace HI0 := aS (hi); clear hi hb hk) | ((with_reducible refine gate_callee (f := 129) rfl ?_); refine goesL_ (some 21) rfl rfl Tryd.func129 jK rfl #[.pointer (some ⟨g, 0, none⟩)] rfl jA ?_; (with_reducible refine (spec_l1Byte.calls g s0_0 t434 t435 t436 t437 t438 w0 _ ?side1 ?side2 A10.out).mono ?_); (case side1 => exact IsS111.iS0 HI0.out); (case side2 => exact wS1 HB.out (IsS111.ge HI0.out)); rintro e w14 ⟨rfl, hi, hb, hk⟩; refine ⟨_, rfl, ?_⟩; replace HK := aS (KeepBut.trans (kS0 HK.out) hk (.inl rfl)); replace HB := aS (hb); replace HI0 := aS (hi); clear hi hb hk))
    go_ret
    exact ⟨jE, by exact IsS111.iS0 HI0.out, by exact wS1 HB.out (IsS111.ge HI0.out), by exact kS0 HK.out⟩

/-! ### spec_l1Once: function 76 -/
def spec_l1Once.f (s0_0 : List Int) (s0_1 : Int) (s0_2 : Int) (a1 : Int) : Option (Bool × Int × Int) := (spec_l1Below.f s0_0 s0_1 s0_2 a1).bind fun bt439 => (some ((bt439.1 == 0), bt439.2.1, bt439.2.2))
set_option maxHeartbeats 8000000 in
set_option maxRecDepth 100000 in
theorem spec_l1Once.calls (g : Nat) (s0_0 : List Int) (s0_1 : Int) (s0_2 : Int) (a1 : Int) (r1 : Bool) (r2 : Int) (r3 : Int) (w0 w : World) (hI : IsS111 w0 w g s0_0 s0_1 s0_2) (hB : Below w0.heap.size w0 w) (h : spec_l1Once.f s0_0 s0_1 s0_2 a1 = some (r1, r2, r3)) :
  Calls Tryd.prog 76 #[.pointer (some ⟨g, 0, none⟩), .int .i64 a1] w fun e w' => e = .returned (.bool r1) ∧ IsS111 w0 w' g s0_0 r2 r3 ∧ Below w0.heap.size w0 w' ∧ KeepBut w w' g none := by
 have HI0 := aS hI
 have HK := aS (KeepBut.refl w g none)
 have HL := aS hB.size
 clear hI
 have HW0 := aS hB.size
 have HB := aS hB
 clear hB
 have H : ((spec_l1Below.f s0_0 s0_1 s0_2 a1).bind fun bt439 => (some ((bt439.1 == 0), bt439.2.1, bt439.2.2))) = some (r1, r2, r3) := h
 clear h
 obtain ⟨⟨t439, t440, t441⟩, A3, H⟩ := bM H
 try dsimp only at H
 simp only [Option.some.injEq, Prod.mk.injEq] at H
 obtain ⟨rfl, rfl, rfl⟩ := H
 go_enter Tryd.func76, Tryd.ntmps76
 go_wp2_with (first | ((with_reducible refine gate_callee (f := 78) rfl ?_); refine goesL_ (some 7) rfl rfl Tryd.func78 jK rfl #[.pointer (some ⟨g, 0, none⟩), .int .i64 a1] rfl jA ?_; (with_reducible refine (spec_l1Below.calls g s0_0 s0_1 s0_2 a1 t439 t440 t441 w0 _ ?side1 ?side2 A3.out).mono ?_); (case side1 => exact IsS111.iS0 HI0.out); (case side2 => exact wS1 HB.out (IsS111.ge HI0.out)); rintro e w4 ⟨rfl, hi, hb, hk⟩; refine ⟨_, rfl, ?_⟩; replace HK := aS (KeepBut.trans (kS0 HK.out) hk (.inl rfl)); replace HB := aS (hb); replace HI0 := aS (hi); clear hi hb hk))
 go_ret
 exact ⟨jE, by exact IsS111.iS0 HI0.out, by exact wS1 HB.out (IsS111.ge HI0.out), by exact kS0 HK.out⟩

/-! ### spec_l1Bytes: function 77 -/
def spec_l1Bytes.l0 : Nat → Int → List Int → Int → List Int → Int → Int → Option (List Int × Int × Int)
 | 0, _, _, _, _, _, _ => none
 | k + 1, x1, x5, x6, x1000, x1001, x1002 => if x6 < x1 then ((spec_l1Byte.f x1000 x1001 x1002).bind fun bt445 => (if x5.length < 140737488355328 then (spec_l1Bytes.l0 k x1 (x5 ++ [(bt445.1) % 256]) (wrap64 (x6 + 1)) x1000 bt445.2.1 bt445.2.2) else (none))) else (some (x5, x1001, x1002))
def spec_l1Bytes.f (k : Nat) (s0_0 : List Int) (s0_1 : Int) (s0_2 : Int) (a1 : Int) : Option (List Int × Int × Int) := spec_l1Bytes.l0 k a1 (([] : List Int)) 0 s0_0 s0_1 s0_2
theorem spec_l1Bytes.mono_l : ∀ k, (∀ y0 y1 y2 y3 y4 y5, LeO (spec_l1Bytes.l0 k y0 y1 y2 y3 y4 y5) (spec_l1Bytes.l0 (k + 1) y0 y1 y2 y3 y4 y5))
 | 0 => fun _ _ _ _ _ _ r h => by simp [spec_l1Bytes.l0] at h
 | k + 1 => by
  have ih0 := spec_l1Bytes.mono_l k
  ·intro y0 y1 y2 y3 y4 y5
   unfold spec_l1Bytes.l0
   repeat' first
   | (with_reducible first | exact ih0 _ _ _ _ _ _ | exact LeO.refl _ | exact LeO.none _ | refine LeO.ite ?_ ?_ | refine LeO.bind ?_ (fun _ => ?_))
   | exact ih0 _ _ _ _ _ _
   | exact LeO.none _
   | refine LeO.ite ?_ ?_
   | refine LeO.bind ?_ (fun _ => ?_)
theorem spec_l1Bytes.mono : ∀ a0 a1 a2 a3 k, LeO (spec_l1Bytes.f k a0 a1 a2 a3) (spec_l1Bytes.f (k + 1) a0 a1 a2 a3) := by
 intro a0 a1 a2 a3 k
 have ih0 := spec_l1Bytes.mono_l k
 unfold spec_l1Bytes.f
 repeat' first
   | (with_reducible first | exact ih0 _ _ _ _ _ _ | exact LeO.refl _ | exact LeO.none _ | refine LeO.ite ?_ ?_ | refine LeO.bind ?_ (fun _ => ?_))
   | exact ih0 _ _ _ _ _ _
   | exact LeO.none _
   | refine LeO.ite ?_ ?_
   | refine LeO.bind ?_ (fun _ => ?_)
set_option maxHeartbeats 8000000 in
set_option maxRecDepth 100000 in
theorem spec_l1Bytes.calls (k : Nat) (g : Nat) (s0_0 : List Int) (s0_1 : Int) (s0_2 : Int) (a1 : Int) (r1 : List Int) (r2 : Int) (r3 : Int) (w0 w : World) (hI : IsS111 w0 w g s0_0 s0_1 s0_2) (hB : Below w0.heap.size w0 w) (h : spec_l1Bytes.f k s0_0 s0_1 s0_2 a1 = some (r1, r2, r3)) :
  Calls Tryd.prog 77 #[.pointer (some ⟨g, 0, none⟩), .int .i64 a1] w fun e w' => ∃ v0_ : Value, e = .returned (v0_) ∧ Kd.R (Kd.int .u8) 5 w' w.heap.size (fun _ => True) v0_ r1 ∧ IsS111 w0 w' g s0_0 r2 r3 ∧ Below w0.heap.size w0 w' ∧ KeepBut w w' g none := by
 have HI0 := aS hI
 have HK := aS (KeepBut.refl w g none)
 have HL := aS hB.size
 clear hI
 have HW0 := aS hB.size
 have HB := aS hB
 clear hB
 have H : (spec_l1Bytes.l0 k a1 (([] : List Int)) 0 s0_0 s0_1 s0_2) = some (r1, r2, r3) := h
 clear h
 obtain ⟨y442, hy_⟩ : ∃ y_ : List Int, y_ = (([] : List Int)) := ⟨_, rfl⟩
 replace H : (spec_l1Bytes.l0 k a1 y442 0 s0_0 s0_1 s0_2) = some (r1, r2, r3) := jD
 have Ny442 := aS hy_
 clear hy_
 have H' := aS H
 clear H
 go_enter Tryd.func77, Tryd.ntmps77
 go_wp2_with (first | ((with_reducible refine gate_dst (N := 7) rfl ?_); refine Kd.R_lit (Kd.int .u8) _ 5 ?hg (N := 7) ?hd (xs := ([] : List Int)) (inner := []) (ok := fun _ => True) (okp := fun _ => True) ?hr ?hp (fun _ hk => hk) trivial (Below.refl _ _) (Nat.le_refl _) (by simp) ?_; (case hd => rfl); (case hg => rfl); (case hr => first | (go_simp; done) | (go_simp; rfl)); (case hp => exact (Reps.none _ _)); intro v443 w3 ho4 hb hg_ hnew_; clear hg_ hnew_; (first | rw [← Ny442.out] at ho4 | (simp only [Int.reduceToNat] at ho4; rw [← Ny442.out] at ho4)); have HO444 := aS (Kd.R_lower ho4 (keep_size (w := w) (g := g) (row := none) (kS0 HK.out))); replace HK := aS (KeepBut.trans (kS0 HK.out) (KeepBut.of_below hb g none) (.inl rfl)); replace HB := aS (below_step (by exact wS1 HB.out (IsS111.ge HI0.out)) hb); replace HI0 := aS (IsS111.below (IsS111.iS0 HI0.out) hb); clear hb ho4))
 go_loopg [5, 6] k (fun kq v5 v6 w' => ∃ (x5_1 : List Int) (x6_1 : Int) (x1001_1 : Int) (x1002_1 : Int), v6 = .int .i64 x6_1 ∧ Aside0 (spec_l1Bytes.l0 kq a1 x5_1 x6_1 s0_0 x1001_1 x1002_1 = some (r1, r2, r3)) ∧ Aside0 (kq ≤ k) ∧ Aside0 (Kd.R (Kd.int .u8) 5 w' w.heap.size (fun _ => True) v5 x5_1) ∧ Aside0 (IsS111 w0 w' g s0_0 x1001_1 x1002_1) ∧ Aside0 (KeepBut w w' g none) ∧ Aside0 (Below w0.heap.size w0 w'))
 case atStart => exact ⟨(y442), (0), (s0_1), (s0_2), jB, H', ⟨Nat.le_refl _⟩, ⟨by exact rU HO444.out⟩, ⟨by exact IsS111.iS0 HI0.out⟩, ⟨by exact kS0 HK.out⟩, ⟨by exact wS1 HB.out (IsS111.ge HI0.out)⟩⟩
 case round =>
  clear H'
  try clear p2
  obtain ⟨x5_1, x6_1, x1001_1, x1002_1, rfl, HA, HK1, HO_5, HI0, HK, HB⟩ := hrel
  cases gk with
  | zero => exact absurd HA.out (by simp [spec_l1Bytes.l0])
  | succ k1 =>
   have H := HA.out
   clear HA
   simp only [spec_l1Bytes.l0] at H
   by_cases c5 : x6_1 < a1
   ·rw [if_pos c5] at H
    have c5b0 := decide_eq_true c5
    clear c5
    obtain ⟨⟨t445, t446, t447⟩, A6, H⟩ := bM H
    try dsimp only at H
    by_cases c7 : x5_1.length < 140737488355328
    ·rw [if_pos c7] at H
     have LMc7 := aS c7
     clear c7
     obtain ⟨y448, hy_⟩ : ∃ y_ : List Int, y_ = (x5_1 ++ [(t445) % 256]) := ⟨_, rfl⟩
     replace H : (spec_l1Bytes.l0 k1 a1 y448 (wrap64 (x6_1 + 1)) s0_0 t446 t447) = some (r1, r2, r3) := jD
     have Ny448 := aS hy_
     clear hy_
     have H' := aS H
     clear H
     go_wp2_with (first | ((with_reducible refine gate_callee (f := 129) rfl ?_); refine goesL_ (some 15) rfl rfl Tryd.func129 jK rfl #[.pointer (some ⟨g, 0, none⟩)] rfl jA ?_; (with_reducible refine (spec_l1Byte.calls g s0_0 x1001_1 x1002_1 t445 t446 t447 w0 _ ?side1 ?side2 A6.out).mono ?_); (case side1 => exact IsS111.iS0 HI0.out); (case side2 => exact wS1 HB.out (IsS111.ge HI0.out)); rintro e w8 ⟨rfl, hi, hb, hk⟩; refine ⟨_, rfl, ?_⟩; replace HO_5 := aS (Kd.R_mono (Kd.R_keep (IsS111.apart (show IsS111 w0 _ g s0_0 x1001_1 x1002_1 from by exact IsS111.iS0 HI0.out) (rU HO_5.out) (by decide)) hk (fun _ h => h.2)) (fun _ h => h.1)); replace HK := aS (KeepBut.trans (kS0 HK.out) hk (.inl rfl)); replace HB := aS (hb); replace HI0 := aS (hi); clear hi hb hk) | ((with_reducible refine gate_builtin (b := .append) (xs := #[.tmp 13, .tmp 17]) rfl ?_); at_builtin; refine Kd.R_append (Kd.int .u8) w.heap.size rfl (.tmp 13) (.tmp 17) 22 5 (.int .u8 0) 1 rfl Tryd.underlying22 info5 rfl (by decide) (by omega) u5 x5_1 ((t445) % 256) [.int .u8 ((t445) % 256)] (fun _ => True) (fun _ => False) rfl rfl ?aP (fun _ hk => hk.elim) ?aF ?aO (Below.refl _ _) ?aS ?aL ?_; (case aP => exact rfl); (case aF => exact (fun _ _ => trivial)); (case aO => exact (rU HO_5.out)); (case aS => exact (keep_size (w := w) (g := g) (row := none) (kS0 HK.out))); (case aL => have := LMc7.out; omega); intro v449 w9 ho hb hg hat; rw [← Ny448.out] at ho; replace HB := aS (below_weaken (by exact wS1 HB.out (IsS111.ge HI0.out)) HL.out hb); replace HI0 := aS (IsS111.grown (IsS111.iS0 HI0.out) hg (IsS111.own_ne HI0.out HO_5.out (by decide))); replace HK := aS (KeepBut.trans (kS0 HK.out) (KeepBut.of_grown hg g) (Kd.R_base2 HO_5.out)); have HO450 := aS (ho); clear HO_5; clear ho hb hg hat))
     go_roundg k1
     case measure => have := HK1.out; omega
     case rel => exact ⟨(y448), (wrap64 (x6_1 + 1)), (t446), (t447), jB, H', ⟨by have := HK1.out; omega⟩, ⟨by exact rU HO450.out⟩, ⟨by exact IsS111.iS0 HI0.out⟩, ⟨by exact kS0 HK.out⟩, ⟨by exact wS1 HB.out (IsS111.ge HI0.out)⟩⟩
    ·rw [if_neg c7] at H
     exact absurd H (by simp)
   ·rw [if_neg c5] at H
    have c5b0 := decide_eq_false c5
    clear c5
    simp only [Option.some.injEq, Prod.mk.injEq] at H
    obtain ⟨rfl, rfl, rfl⟩ := H
    go_wp2
    go_ret
    exact ⟨_, jE, by exact rU HO_5.out, by exact IsS111.iS0 HI0.out, by exact wS1 HB.out (IsS111.ge HI0.out), by exact kS0 HK.out⟩

/-! ### spec_l1Int: function 81 -/
def spec_l1Int.f (s0_0 : List Int) (s0_1 : Int) (s0_2 : Int) (l1 : List Int) : Option (Int × Int × Int) := (spec_l1Below.f s0_0 s0_1 s0_2 (l1.length : Int)).bind fun bt451 => (if 0 ≤ bt451.1 then (if bt451.1 < (l1.length : Int) then (some (rd l1 bt451.1, bt451.2.1, bt451.2.2)) else (none)) else (none))
set_option maxHeartbeats 8000000 in
set_option maxRecDepth 100000 in
theorem spec_l1Int.calls (g : Nat) (s0_0 : List Int) (s0_1 : Int) (s0_2 : Int) (A1 : Option Addr) (c1 : Nat) (l1 : List Int) (r1 : Int) (r2 : Int) (r3 : Int) (w0 w : World) (hI : IsS111 w0 w g s0_0 s0_1 s0_2) (hB : Below w0.heap.size w0 w) (hr1 : Kd.C (Kd.int .i64) w A1 l1.length l1) (hc1 : l1.length ≤ c1) (hf1 : ∀ ad, A1 = some ad → 0 < l1.length → ad.block ≠ g) (h : spec_l1Int.f s0_0 s0_1 s0_2 l1 = some (r1, r2, r3)) :
  Calls Tryd.prog 81 #[.pointer (some ⟨g, 0, none⟩), .slice A1 l1.length c1] w fun e w' => e = .returned (.int .i64 r1) ∧ IsS111 w0 w' g s0_0 r2 r3 ∧ Below w0.heap.size w0 w' ∧ KeepBut w w' g none := by
 have HR1 := aS hr1
 have HC1 := aS hc1
 clear hr1 hc1
 have HI0 := aS hI
 have HK := aS (KeepBut.refl w g none)
 have HL := aS hB.size
 clear hI
 have HW0 := aS hB.size
 have HB := aS hB
 clear hB
 have H : ((spec_l1Below.f s0_0 s0_1 s0_2 (l1.length : Int)).bind fun bt451 => (if 0 ≤ bt451.1 then (if bt451.1 < (l1.length : Int) then (some (rd l1 bt451.1, bt451.2.1, bt451.2.2)) else (none)) else (none))) = some (r1, r2, r3) := h
 clear h
 obtain ⟨⟨t451, t452, t453⟩, A3, H⟩ := bM H
 try dsimp only at H
 by_cases c4 : 0 ≤ t451
 ·rw [if_pos c4] at H
  have c4b0 := decide_eq_true c4
  clear c4
  by_cases c5 : t451 < (l1.length : Int)
  ·rw [if_pos c5] at H
   have c5b0 := decide_eq_true c5
   clear c5
   simp only [Option.some.injEq, Prod.mk.injEq] at H
   obtain ⟨rfl, rfl, rfl⟩ := H
   go_enter Tryd.func81, Tryd.ntmps81
   go_wp2_with (first | ((with_reducible refine gate_callee (f := 78) rfl ?_); refine goesL_ (some 9) rfl rfl Tryd.func78 jK rfl #[.pointer (some ⟨g, 0, none⟩), .int .i64 (l1.length : Int)] rfl jA ?_; (with_reducible refine (spec_l1Below.calls g s0_0 s0_1 s0_2 (l1.length : Int) t451 t452 t453 w0 _ ?side1 ?side2 A3.out).mono ?_); (case side1 => exact IsS111.iS0 HI0.out); (case side2 => exact wS1 HB.out (IsS111.ge HI0.out)); rintro e w6 ⟨rfl, hi, hb, hk⟩; refine ⟨_, rfl, ?_⟩; replace HK := aS (KeepBut.trans (kS0 HK.out) hk (.inl rfl)); replace HB := aS (hb); replace HI0 := aS (hi); clear hi hb hk; have p454 : 0 ≤ (t451 : Int) := of_decide_eq_true jC; have q454 : t451 < (l1.length : Int) := of_decide_eq_true jC; obtain ⟨ad454, e454, hx454_0⟩ := Kd.at_int HR1.out t451 p454 q454; cases e454; replace hx454_0 := keep_cell HK.out hx454_0 (by first | (rw [add_block]; exact hf1 _ rfl (by omega)) | exact hf1 _ rfl (by omega) | exact hf1 ad454 rfl (by omega)); replace p454 := eq_true p454; replace q454 := eq_true q454))
   go_ret
   exact ⟨jE, by exact IsS111.iS0 HI0.out, by exact wS1 HB.out (IsS111.ge HI0.out), by exact kS0 HK.out⟩
  ·rw [if_neg c5] at H
   exact absurd H (by simp)
 ·rw [if_neg c4] at H
  exact absurd H (by simp)

/-! ### spec_l1Bent: function 80 -/
def spec_l1Bent.f (s0_0 : List Int) (s0_1 : Int) (s0_2 : Int) (l1 : List Int) : Option (List Int × Int × Int) := (some (([] : List Int) : List Int)).bind fun y455 => (if y455.length + l1.length < 140737488355328 then ((some (y455 ++ l1 : List Int)).bind fun y458 => ((spec_l1Below.f s0_0 s0_1 s0_2 7).bind fun bt461 => (if bt461.1 = 0 then (if (y458.length : Int) > 0 then ((spec_l1Below.f s0_0 bt461.2.1 bt461.2.2 (y458.length : Int)).bind fun bt464 => ((spec_l1Below.f s0_0 bt464.2.1 bt464.2.2 256).bind fun bt467 => (if 0 ≤ bt464.1 then (if bt464.1 < (y458.length : Int) then (some ((y458.set (bt464.1 : Int).toNat ((bt467.1) % 256)), bt467.2.1, bt467.2.2)) else (none)) else (none)))) else (some (y458, bt461.2.1, bt461.2.2))) else (if bt461.1 = 1 then ((spec_l1Below.f s0_0 bt461.2.1 bt461.2.2 (wrap64 ((y458.length : Int) + 1))).bind fun bt471 => (if 0 ≤ bt471.1 then (if bt471.1 ≤ (y458.length : Int) then (some ((y458.take (bt471.1 : Int).toNat), bt471.2.1, bt471.2.2)) else (none)) else (none))) else (if bt461.1 = 2 then ((spec_l1Int.f s0_0 bt461.2.1 bt461.2.2 (([0, 1, 192, 255] : List Int))).bind fun bt480 => (if y458.length < 140737488355328 then (some ((y458 ++ [(bt480.1) % 256]), bt480.2.1, bt480.2.2)) else (none))) else (if bt461.1 = 3 then (if (y458.length : Int) > 0 then ((spec_l1Below.f s0_0 bt461.2.1 bt461.2.2 (y458.length : Int)).bind fun bt486 => (if 0 ≤ bt486.1 then (if bt486.1 < (y458.length : Int) then ((spec_l1Below.f s0_0 bt486.2.1 bt486.2.2 8).bind fun bt490 => (if 0 ≤ bt490.1 then (some ((y458.set (bt486.1 : Int).toNat (Go.bits .xor .u8 (rd y458 bt486.1) (shl .u8 1 bt490.1))), bt490.2.1, bt490.2.2)) else (none))) else (none)) else (none))) else (some (y458, bt461.2.1, bt461.2.2))) else (some (y458, bt461.2.1, bt461.2.2)))))))) else (none))
def spec_l1Bent.T13 : Bool × List (List Nat × List Nat) := (true, [([], []), ([], []), ([], []), ([], []), ([2, 3], [2, 3]), ([4], [4]), ([], []), ([6], [6]), ([7], [7]), ([5, 8], [5, 8]), ([0, 1, 0, 1, 2, 3, 4, 5, 6, 7, 8, 9], [0, 1]), ([10, 9, 7, 0, 1, 2, 3, 4, 5, 6, 7, 8, 9], [9, 10])])
def spec_l1Bent.B13 : List Nat := [0, 0, 0, 0, 12, 28, 0, 64, 192, 508, 1023, 2047]
theorem spec_l1Bent.tab13 : rtab .any (opsOf Tryd.f80 13) = spec_l1Bent.T13 := by kernel_rfl
theorem spec_l1Bent.bits13 : waitsOk spec_l1Bent.T13.2 spec_l1Bent.B13 = true := by kernel_rfl
set_option maxHeartbeats 8000000 in
set_option maxRecDepth 100000 in
theorem spec_l1Bent.calls (g : Nat) (s0_0 : List Int) (s0_1 : Int) (s0_2 : Int) (A1 : Option Addr) (c1 : Nat) (l1 : List Int) (r1 : List Int) (r2 : Int) (r3 : Int) (w0 w : World) (hI : IsS111 w0 w g s0_0 s0_1 s0_2) (hB : Below w0.heap.size w0 w) (hr1 : Kd.C (Kd.int .u8) w A1 l1.length l1) (hc1 : l1.length ≤ c1) (hf1 : ∀ ad, A1 = some ad → 0 < l1.length → ad.block ≠ g) (h : spec_l1Bent.f s0_0 s0_1 s0_2 l1 = some (r1, r2, r3)) :
  Calls Tryd.prog 80 #[.pointer (some ⟨g, 0, none⟩), .slice A1 l1.length c1] w fun e w' => ∃ v0_ : Value, e = .returned (v0_) ∧ Kd.R (Kd.int .u8) 5 w' w.heap.size (fun _ => True) v0_ r1 ∧ IsS111 w0 w' g s0_0 r2 r3 ∧ Below w0.heap.size w0 w' ∧ KeepBut w w' g none := by
 have HR1 := aS hr1
 have HC1 := aS hc1
 clear hr1 hc1
 have HI0 := aS hI
 have HK := aS (KeepBut.refl w g none)
 have HL := aS hB.size
 clear hI
 have HW0 := aS hB.size
 have HB := aS hB
 clear hB
 have H : ((some (([] : List Int) : List Int)).bind fun y455 => (if y455.length + l1.length < 140737488355328 then ((some (y455 ++ l1 : List Int)).bind fun y458 => ((spec_l1Below.f s0_0 s0_1 s0_2 7).bind fun bt461 => (if bt461.1 = 0 then (if (y458.length : Int) > 0 then ((spec_l1Below.f s0_0 bt461.2.1 bt461.2.2 (y458.length : Int)).bind fun bt464 => ((spec_l1Below.f s0_0 bt464.2.1 bt464.2.2 256).bind fun bt467 => (if 0 ≤ bt464.1 then (if bt464.1 < (y458.length : Int) then (some ((y458.set (bt464.1 : Int).toNat ((bt467.1) % 256)), bt467.2.1, bt467.2.2)) else (none)) else (none)))) else (some (y458, bt461.2.1, bt461.2.2))) else (if bt461.1 = 1 then ((spec_l1Below.f s0_0 bt461.2.1 bt461.2.2 (wrap64 ((y458.length : Int) + 1))).bind fun bt471 => (if 0 ≤ bt471.1 then (if bt471.1 ≤ (y458.length : Int) then (some ((y458.take (bt471.1 : Int).toNat), bt471.2.1, bt471.2.2)) else (none)) else (none))) else (if bt461.1 = 2 then ((spec_l1Int.f s0_0 bt461.2.1 bt461.2.2 (([0, 1, 192, 255] : List Int))).bind fun bt480 => (if y458.length < 140737488355328 then (some ((y458 ++ [(bt480.1) % 256]), bt480.2.1, bt480.2.2)) else (none))) else (if bt461.1 = 3 then (if (y458.length : Int) > 0 then ((spec_l1Below.f s0_0 bt461.2.1 bt461.2.2 (y458.length : Int)).bind fun bt486 => (if 0 ≤ bt486.1 then (if bt486.1 < (y458.length : Int) then ((spec_l1Below.f s0_0 bt486.2.1 bt486.2.2 8).bind fun bt490 => (if 0 ≤ bt490.1 then (some ((y458.set (bt486.1 : Int).toNat (Go.bits .xor .u8 (rd y458 bt486.1) (shl .u8 1 bt490.1))), bt490.2.1, bt490.2.2)) else (none))) else (none)) else (none))) else (some (y458, bt461.2.1, bt461.2.2))) else (some (y458, bt461.2.1, bt461.2.2)))))))) else (none))) = some (r1, r2, r3) := h
 clear h
 obtain ⟨y455, hy_⟩ : ∃ y_ : List Int, y_ = (([] : List Int)) := ⟨_, rfl⟩
 replace H : (if y455.length + l1.length < 140737488355328 then ((some (y455 ++ l1 : List Int)).bind fun y458 => ((spec_l1Below.f s0_0 s0_1 s0_2 7).bind fun bt461 => (if bt461.1 = 0 then (if (y458.length : Int) > 0 then ((spec_l1Below.f s0_0 bt461.2.1 bt461.2.2 (y458.length : Int)).bind fun bt464 => ((spec_l1Below.f s0_0 bt464.2.1 bt464.2.2 256).bind fun bt467 => (if 0 ≤ bt464.1 then (if bt464.1 < (y458.length : Int) then (some ((y458.set (bt464.1 : Int).toNat ((bt467.1) % 256)), bt467.2.1, bt467.2.2)) else (none)) else (none)))) else (some (y458, bt461.2.1, bt461.2.2))) else (if bt461.1 = 1 then ((spec_l1Below.f s0_0 bt461.2.1 bt461.2.2 (wrap64 ((y458.length : Int) + 1))).bind fun bt471 => (if 0 ≤ bt471.1 then (if bt471.1 ≤ (y458.length : Int) then (some ((y458.take (bt471.1 : Int).toNat), bt471.2.1, bt471.2.2)) else (none)) else (none))) else (if bt461.1 = 2 then ((spec_l1Int.f s0_0 bt461.2.1 bt461.2.2 (([0, 1, 192, 255] : List Int))).bind fun bt480 => (if y458.length < 140737488355328 then (some ((y458 ++ [(bt480.1) % 256]), bt480.2.1, bt480.2.2)) else (none))) else (if bt461.1 = 3 then (if (y458.length : Int) > 0 then ((spec_l1Below.f s0_0 bt461.2.1 bt461.2.2 (y458.length : Int)).bind fun bt486 => (if 0 ≤ bt486.1 then (if bt486.1 < (y458.length : Int) then ((spec_l1Below.f s0_0 bt486.2.1 bt486.2.2 8).bind fun bt490 => (if 0 ≤ bt490.1 then (some ((y458.set (bt486.1 : Int).toNat (Go.bits .xor .u8 (rd y458 bt486.1) (shl .u8 1 bt490.1))), bt490.2.1, bt490.2.2)) else (none))) else (none)) else (none))) else (some (y458, bt461.2.1, bt461.2.2))) else (some (y458, bt461.2.1, bt461.2.2)))))))) else (none)) = some (r1, r2, r3) := jD
 have Ny455 := aS hy_
 clear hy_
 by_cases c3 : y455.length + l1.length < 140737488355328
 ·rw [if_pos c3] at H
  have LMc3 := aS c3
  clear c3
  obtain ⟨y458, hy_⟩ : ∃ y_ : List Int, y_ = (y455 ++ l1) := ⟨_, rfl⟩
  replace H : ((spec_l1Below.f s0_0 s0_1 s0_2 7).bind fun bt461 => (if bt461.1 = 0 then (if (y458.length : Int) > 0 then ((spec_l1Below.f s0_0 bt461.2.1 bt461.2.2 (y458.length : Int)).bind fun bt464 => ((spec_l1Below.f s0_0 bt464.2.1 bt464.2.2 256).bind fun bt467 => (if 0 ≤ bt464.1 then (if bt464.1 < (y458.length : Int) then (some ((y458.set (bt464.1 : Int).toNat ((bt467.1) % 256)), bt467.2.1, bt467.2.2)) else (none)) else (none)))) else (some (y458, bt461.2.1, bt461.2.2))) else (if bt461.1 = 1 then ((spec_l1Below.f s0_0 bt461.2.1 bt461.2.2 (wrap64 ((y458.length : Int) + 1))).bind fun bt471 => (if 0 ≤ bt471.1 then (if bt471.1 ≤ (y458.length : Int) then (some ((y458.take (bt471.1 : Int).toNat), bt471.2.1, bt471.2.2)) else (none)) else (none))) else (if bt461.1 = 2 then ((spec_l1Int.f s0_0 bt461.2.1 bt461.2.2 (([0, 1, 192, 255] : List Int))).bind fun bt480 => (if y458.length < 140737488355328 then (some ((y458 ++ [(bt480.1) % 256]), bt480.2.1, bt480.2.2)) else (none))) else (if bt461.1 = 3 then (if (y458.length : Int) > 0 then ((spec_l1Below.f s0_0 bt461.2.1 bt461.2.2 (y458.length : Int)).bind fun bt486 => (if 0 ≤ bt486.1 then (if bt486.1 < (y458.length : Int) then ((spec_l1Below.f s0_0 bt486.2.1 bt486.2.2 8).bind fun bt490 => (if 0 ≤ bt490.1 then (some ((y458.set (bt486.1 : Int).toNat (Go.bits .xor .u8 (rd y458 bt486.1) (shl .u8 1 bt490.1))), bt490.2.1, bt490.2.2)) else (none))) else (none)) else (none))) else (some (y458, bt461.2.1, bt461.2.2))) else (some (y458, bt461.2.1, bt461.2.2))))))) = some (r1, r2, r3) := jD
  have Ny458 := aS hy_
  clear hy_
  obtain ⟨⟨t461, t462, t463⟩, A4, H⟩ := bM H
  try dsimp only at H
  by_cases c5 : t461 = 0
  ·rw [if_pos c5] at H
   have c5b0 := beq_iff_eq.mpr c5
   have c5b1 := bne_eq_false_iff_eq.mpr c5
   clear c5
   by_cases c6 : (y458.length : Int) > 0
   ·rw [if_pos c6] at H
    have c6b0 := decide_eq_true c6
    have c6b1 : decide (0 < y458.length) = true := decide_eq_true (by omega)
    clear c6
    obtain ⟨⟨t464, t465, t466⟩, A7, H⟩ := bM H
    try dsimp only at H
    obtain ⟨⟨t467, t468, t469⟩, A8, H⟩ := bM H
    try dsimp only at H
    by_cases c9 : 0 ≤ t464
    ·rw [if_pos c9] at H
     have c9b0 := decide_eq_true c9
     clear c9
     by_cases c10 : t464 < (y458.length : Int)
     ·rw [if_pos c10] at H
      have c10b0 := decide_eq_true c10
      clear c10
      obtain ⟨y470, hy_⟩ : ∃ y_ : List Int, y_ = (y458.set (t464 : Int).toNat ((t467) % 256)) := ⟨_, rfl⟩
      replace H : (some (y470, t468, t469)) = some (r1, r2, r3) := jD
      have Ny470 := aS hy_
      clear hy_
      simp only [Option.some.injEq, Prod.mk.injEq] at H
      obtain ⟨rfl, rfl, rfl⟩ := H
      go_enter Tryd.func80, Tryd.ntmps80
      go_wp2_with (first | ((with_reducible refine gate_dst (N := 7) rfl ?_); refine Kd.R_lit (Kd.int .u8) _ 5 ?hg (N := 7) ?hd (xs := ([] : List Int)) (inner := []) (ok := fun _ => True) (okp := fun _ => True) ?hr ?hp (fun _ hk => hk) trivial (Below.refl _ _) (Nat.le_refl _) (by simp) ?_; (case hd => rfl); (case hg => rfl); (case hr => first | (go_simp; done) | (go_simp; rfl)); (case hp => exact (Reps.none _ _)); intro v456 w12 ho13 hb hg_ hnew_; clear hg_ hnew_; (first | rw [← Ny455.out] at ho13 | (simp only [Int.reduceToNat] at ho13; rw [← Ny455.out] at ho13)); have HO457 := aS (Kd.R_lower ho13 (keep_size (w := w) (g := g) (row := none) (kS0 HK.out))); replace HK := aS (KeepBut.trans (kS0 HK.out) (KeepBut.of_below hb g none) (.inl rfl)); replace HB := aS (below_step (by exact wS1 HB.out (IsS111.ge HI0.out)) hb); replace HI0 := aS (IsS111.below (IsS111.iS0 HI0.out) hb); clear hb ho13) | ((with_reducible refine gate_builtin (b := .append) (xs := #[.tmp 7, .tmp 8]) rfl ?_); at_builtin; refine Kd.R_append_rows (Kd.int .u8) w.heap.size rfl (.tmp 7) (.tmp 8) 22 5 (.int .u8 0) 1 rfl Tryd.underlying22 info5 rfl (by decide) (by omega) v456 y455 l1 _ _ _ (fun _ => True) (fun _ => False) rfl rfl ?aO ?aR (fun _ _ h => h) (fun _ h => h.elim) ?aF (Below.refl _ _) ?aS ?aL ?_; (case aR => exact Kd.C_keep 0 HR1.out (kS0 HK.out) hf1); (case aF => exact (fun _ _ => trivial)); (case aO => exact (rU HO457.out)); (case aS => exact (keep_size (w := w) (g := g) (row := none) (kS0 HK.out))); (case aL => have := LMc3.out; omega); intro v459 w14 ho hb hg hat; rw [← Ny458.out] at ho; replace HB := aS (below_weaken (by exact wS1 HB.out (IsS111.ge HI0.out)) HL.out hb); replace HI0 := aS (IsS111.grown (IsS111.iS0 HI0.out) hg (IsS111.own_ne HI0.out HO457.out (by decide))); replace HK := aS (KeepBut.trans (kS0 HK.out) (KeepBut.of_grown hg g) (Kd.R_base2 HO457.out)); have HO460 := aS (ho); clear HO457; clear ho hb hg hat) | ((with_reducible refine gate_callee (f := 78) rfl ?_); refine goesL_ (some 11) rfl rfl Tryd.func78 jK rfl #[.pointer (some ⟨g, 0, none⟩), .int .i64 7] rfl jA ?_; (with_reducible refine (spec_l1Below.calls g s0_0 s0_1 s0_2 7 t461 t462 t463 w0 _ ?side1 ?side2 A4.out).mono ?_); (case side1 => exact IsS111.iS0 HI0.out); (case side2 => exact wS1 HB.out (IsS111.ge HI0.out)); rintro e w15 ⟨rfl, hi, hb, hk⟩; refine ⟨_, rfl, ?_⟩; replace HO460 := aS (Kd.R_mono (Kd.R_keep (IsS111.apart (show IsS111 w0 _ g s0_0 s0_1 s0_2 from by exact IsS111.iS0 HI0.out) (rU HO460.out) (by decide)) hk (fun _ h => h.2)) (fun _ h => h.1)); replace HK := aS (KeepBut.trans (kS0 HK.out) hk (.inl rfl)); replace HB := aS (hb); replace HI0 := aS (hi); clear hi hb hk; obtain ⟨Ao16, co16, eo16⟩ := Kd.R_slice HO460.out; subst eo16) | ((with_reducible refine gate_callee (f := 78) rfl ?_); refine goesL_ (some 21) rfl rfl Tryd.func78 jK rfl #[.pointer (some ⟨g, 0, none⟩), .int .i64 (y458.length : Int)] rfl jA ?_; (with_reducible refine (spec_l1Below.calls g s0_0 t462 t463 (y458.length : Int) t464 t465 t466 w0 _ ?side1 ?side2 A7.out).mono ?_); (case side1 => exact IsS111.iS0 HI0.out); (case side2 => exact wS1 HB.out (IsS111.ge HI0.out)); rintro e w17 ⟨rfl, hi, hb, hk⟩; refine ⟨_, rfl, ?_⟩; replace HO460 := aS (Kd.R_mono (Kd.R_keep (IsS111.apart (show IsS111 w0 _ g s0_0 t462 t463 from by exact IsS111.iS0 HI0.out) (rU HO460.out) (by decide)) hk (fun _ h => h.2)) (fun _ h => h.1)); replace HK := aS (KeepBut.trans (kS0 HK.out) hk (.inl rfl)); replace HB := aS (hb); replace HI0 := aS (hi); clear hi hb hk) | ((with_reducible refine gate_callee (f := 78) rfl ?_); refine goesL_ (some 23) rfl rfl Tryd.func78 jK rfl #[.pointer (some ⟨g, 0, none⟩), .int .i64 256] rfl jA ?_; (with_reducible refine (spec_l1Below.calls g s0_0 t465 t466 256 t467 t468 t469 w0 _ ?side1 ?side2 A8.out).mono ?_); (case side1 => exact IsS111.iS0 HI0.out); (case side2 => exact wS1 HB.out (IsS111.ge HI0.out)); rintro e w18 ⟨rfl, hi, hb, hk⟩; refine ⟨_, rfl, ?_⟩; replace HO460 := aS (Kd.R_mono (Kd.R_keep (IsS111.apart (show IsS111 w0 _ g s0_0 t465 t466 from by exact IsS111.iS0 HI0.out) (rU HO460.out) (by decide)) hk (fun _ h => h.2)) (fun _ h => h.1)); replace HK := aS (KeepBut.trans (kS0 HK.out) hk (.inl rfl)); replace HB := aS (hb); replace HI0 := aS (hi); clear hi hb hk; have p11 : 0 ≤ (t464 : Int) := of_decide_eq_true jC; have q11 : (t464 : Int) < ((y458.length : Int) : Int) := of_decide_eq_true jC; obtain ⟨go11, co11, eo11, gb11, gl11, cl11, HG11⟩ := Kd.R_form HO460.out (by omega); (first | cases eo11 | (injection eo11 with ea_ en_ ec_; (first | subst ea_ | (injection ea_ with ea_; subst ea_)); subst ec_; clear en_)); have GB11 := aS gb11; have GG11 := aS HG11; clear gb11 gl11 HG11; obtain ⟨hx11_0, hf11_0⟩ := Kd.R_celln 0 HO460.out (t464 : Int) p11 q11; replace p11 := eq_true p11; replace q11 := eq_true q11; obtain ⟨hy19_, hz19_⟩ := Kd.R_celln 0 HO460.out (t464 : Int) (of_decide_eq_true jC) (of_decide_eq_true jC); have HP19 := Kd.R_putg HO460.out (t464 : Int) ((t467) % 256)) | ((with_reducible refine gate_store (t := 5) (p := 25) rfl ?_); refine store_event (t := 5) (p := 25) (v := ?vo_w20) (w1 := (w18.setCell ⟨go11, (t464 : Int).toNat, none⟩ (.int .u8 ((t467) % 256)))) ?hg ?ho ?hn ?hr ?_; (case ho => rfl); (case hg => rfl); (case hn => rfl); (case hr => first | (go_simp; done) | (go_simp; rfl)); intro w20 hw; have hg : w18.grownBy w20 (some go11) := (by rw [hw]; exact HP19.2); have hp_ : Kd.R (Kd.int .u8) 5 w20 w.heap.size (fun _ => True) (.slice (some ⟨go11, 0, none⟩) y458.length co16) y470 := (by rw [hw, Ny470.out]; exact HP19.1); clear HP19; replace HI0 := aS (IsS111.grown (IsS111.iS0 HI0.out) hg (IsS111.own_ne HI0.out HO460.out (by decide))); replace HB := aS ((by rw [hw]; exact below_set (HB.out) (Nat.le_trans HL.out GB11.out) : Below w0.heap.size w0 w20)); replace HK := aS (KeepBut.trans (kS0 HK.out) (KeepBut.of_grown hg g) (Kd.R_base2 HO460.out)); replace HO460 := aS (hp_); clear hg hw hp_))
      go_ret
      exact ⟨_, jE, by exact rU HO460.out, by exact IsS111.iS0 HI0.out, by exact wS1 HB.out (IsS111.ge HI0.out), by exact kS0 HK.out⟩
     ·rw [if_neg c10] at H
      exact absurd H (by simp)
    ·rw [if_neg c9] at H
     exact absurd H (by simp)
   ·rw [if_neg c6] at H
    have c6b0 := decide_eq_false c6
    have c6b1 : decide (0 < y458.length) = false := decide_eq_false (by omega)
    clear c6
    simp only [Option.some.injEq, Prod.mk.injEq] at H
    obtain ⟨rfl, rfl, rfl⟩ := H
    go_enter Tryd.func80, Tryd.ntmps80
    go_wp2_with (first | ((with_reducible refine gate_dst (N := 7) rfl ?_); refine Kd.R_lit (Kd.int .u8) _ 5 ?hg (N := 7) ?hd (xs := ([] : List Int)) (inner := []) (ok := fun _ => True) (okp := fun _ => True) ?hr ?hp (fun _ hk => hk) trivial (Below.refl _ _) (Nat.le_refl _) (by simp) ?_; (case hd => rfl); (case hg => rfl); (case hr => first | (go_simp; done) | (go_simp; rfl)); (case hp => exact (Reps.none _ _)); intro v456 w21 ho22 hb hg_ hnew_; clear hg_ hnew_; (first | rw [← Ny455.out] at ho22 | (simp only [Int.reduceToNat] at ho22; rw [← Ny455.out] at ho22)); have HO457 := aS (Kd.R_lower ho22 (keep_size (w := w) (g := g) (row := none) (kS0 HK.out))); replace HK := aS (KeepBut.trans (kS0 HK.out) (KeepBut.of_below hb g none) (.inl rfl)); replace HB := aS (below_step (by exact wS1 HB.out (IsS111.ge HI0.out)) hb); replace HI0 := aS (IsS111.below (IsS111.iS0 HI0.out) hb); clear hb ho22) | ((with_reducible refine gate_builtin (b := .append) (xs := #[.tmp 7, .tmp 8]) rfl ?_); at_builtin; refine Kd.R_append_rows (Kd.int .u8) w.heap.size rfl (.tmp 7) (.tmp 8) 22 5 (.int .u8 0) 1 rfl Tryd.underlying22 info5 rfl (by decide) (by omega) v456 y455 l1 _ _ _ (fun _ => True) (fun _ => False) rfl rfl ?aO ?aR (fun _ _ h => h) (fun _ h => h.elim) ?aF (Below.refl _ _) ?aS ?aL ?_; (case aR => exact Kd.C_keep 0 HR1.out (kS0 HK.out) hf1); (case aF => exact (fun _ _ => trivial)); (case aO => exact (rU HO457.out)); (case aS => exact (keep_size (w := w) (g := g) (row := none) (kS0 HK.out))); (case aL => have := LMc3.out; omega); intro v459 w23 ho hb hg hat; rw [← Ny458.out] at ho; replace HB := aS (below_weaken (by exact wS1 HB.out (IsS111.ge HI0.out)) HL.out hb); replace HI0 := aS (IsS111.grown (IsS111.iS0 HI0.out) hg (IsS111.own_ne HI0.out HO457.out (by decide))); replace HK := aS (KeepBut.trans (kS0 HK.out) (KeepBut.of_grown hg g) (Kd.R_base2 HO457.out)); have HO460 := aS (ho); clear HO457; clear ho hb hg hat) | ((with_reducible refine gate_callee (f := 78) rfl ?_); refine goesL_ (some 11) rfl rfl Tryd.func78 jK rfl #[.pointer (some ⟨g, 0, none⟩), .int .i64 7] rfl jA ?_; (with_reducible refine (spec_l1Below.calls g s0_0 s0_1 s0_2 7 t461 t462 t463 w0 _ ?side1 ?side2 A4.out).mono ?_); (case side1 => exact IsS111.iS0 HI0.out); (case side2 => exact wS1 HB.out (IsS111.ge HI0.out)); rintro e w24 ⟨rfl, hi, hb, hk⟩; refine ⟨_, rfl, ?_⟩; replace HO460 := aS (Kd.R_mono (Kd.R_keep (IsS111.apart (show IsS111 w0 _ g s0_0 s0_1 s0_2 from by exact IsS111.iS0 HI0.out) (rU HO460.out) (by decide)) hk (fun _ h => h.2)) (fun _ h => h.1)); replace HK := aS (KeepBut.trans (kS0 HK.out) hk (.inl rfl)); replace HB := aS (hb); replace HI0 := aS (hi); clear hi hb hk; obtain ⟨Ao25, co25, eo25⟩ := Kd.R_slice HO460.out; subst eo25))
    go_ret
    exact ⟨_, jE, by exact rU HO460.out, by exact IsS111.iS0 HI0.out, by exact wS1 HB.out (IsS111.ge HI0.out), by exact kS0 HK.out⟩
  ·rw [if_neg c5] at H
   have c5b0 := beq_eq_false_iff_ne.mpr c5
   have c5b1 := bne_iff_ne.mpr c5
   by_cases c26 : t461 = 1
   ·rw [if_pos c26] at H
    have c26b0 := beq_iff_eq.mpr c26
    have c26b1 := bne_eq_false_iff_eq.mpr c26
    clear c26
    obtain ⟨⟨t471, t472, t473⟩, A27, H⟩ := bM H
    try dsimp only at H
    by_cases c28 : 0 ≤ t471
    ·rw [if_pos c28] at H
     have c28b0 := eq_true c28
     have c28b1 := decide_eq_true c28
     clear c28
     by_cases c29 : t471 ≤ (y458.length : Int)
     ·rw [if_pos c29] at H
      have c29b0 := eq_true c29
      have c29b1 := decide_eq_true c29
      clear c29
      obtain ⟨y474, hy_⟩ : ∃ y_ : List Int, y_ = (y458.take (t471 : Int).toNat) := ⟨_, rfl⟩
      replace H : (some (y474, t472, t473)) = some (r1, r2, r3) := jD
      have Ny474 := aS hy_
      clear hy_
      simp only [Option.some.injEq, Prod.mk.injEq] at H
      obtain ⟨rfl, rfl, rfl⟩ := H
      go_enter Tryd.func80, Tryd.ntmps80
      go_wp2_with (first | ((with_reducible refine gate_dst (N := 7) rfl ?_); refine Kd.R_lit (Kd.int .u8) _ 5 ?hg (N := 7) ?hd (xs := ([] : List Int)) (inner := []) (ok := fun _ => True) (okp := fun _ => True) ?hr ?hp (fun _ hk => hk) trivial (Below.refl _ _) (Nat.le_refl _) (by simp) ?_; (case hd => rfl); (case hg => rfl); (case hr => first | (go_simp; done) | (go_simp; rfl)); (case hp => exact (Reps.none _ _)); intro v456 w30 ho31 hb hg_ hnew_; clear hg_ hnew_; (first | rw [← Ny455.out] at ho31 | (simp only [Int.reduceToNat] at ho31; rw [← Ny455.out] at ho31)); have HO457 := aS (Kd.R_lower ho31 (keep_size (w := w) (g := g) (row := none) (kS0 HK.out))); replace HK := aS (KeepBut.trans (kS0 HK.out) (KeepBut.of_below hb g none) (.inl rfl)); replace HB := aS (below_step (by exact wS1 HB.out (IsS111.ge HI0.out)) hb); replace HI0 := aS (IsS111.below (IsS111.iS0 HI0.out) hb); clear hb ho31) | ((with_reducible refine gate_builtin (b := .append) (xs := #[.tmp 7, .tmp 8]) rfl ?_); at_builtin; refine Kd.R_append_rows (Kd.int .u8) w.heap.size rfl (.tmp 7) (.tmp 8) 22 5 (.int .u8 0) 1 rfl Tryd.underlying22 info5 rfl (by decide) (by omega) v456 y455 l1 _ _ _ (fun _ => True) (fun _ => False) rfl rfl ?aO ?aR (fun _ _ h => h) (fun _ h => h.elim) ?aF (Below.refl _ _) ?aS ?aL ?_; (case aR => exact Kd.C_keep 0 HR1.out (kS0 HK.out) hf1); (case aF => exact (fun _ _ => trivial)); (case aO => exact (rU HO457.out)); (case aS => exact (keep_size (w := w) (g := g) (row := none) (kS0 HK.out))); (case aL => have := LMc3.out; omega); intro v459 w32 ho hb hg hat; rw [← Ny458.out] at ho; replace HB := aS (below_weaken (by exact wS1 HB.out (IsS111.ge HI0.out)) HL.out hb); replace HI0 := aS (IsS111.grown (IsS111.iS0 HI0.out) hg (IsS111.own_ne HI0.out HO457.out (by decide))); replace HK := aS (KeepBut.trans (kS0 HK.out) (KeepBut.of_grown hg g) (Kd.R_base2 HO457.out)); have HO460 := aS (ho); clear HO457; clear ho hb hg hat) | ((with_reducible refine gate_callee (f := 78) rfl ?_); refine goesL_ (some 11) rfl rfl Tryd.func78 jK rfl #[.pointer (some ⟨g, 0, none⟩), .int .i64 7] rfl jA ?_; (with_reducible refine (spec_l1Below.calls g s0_0 s0_1 s0_2 7 t461 t462 t463 w0 _ ?side1 ?side2 A4.out).mono ?_); (case side1 => exact IsS111.iS0 HI0.out); (case side2 => exact wS1 HB.out (IsS111.ge HI0.out)); rintro e w33 ⟨rfl, hi, hb, hk⟩; refine ⟨_, rfl, ?_⟩; replace HO460 := aS (Kd.R_mono (Kd.R_keep (IsS111.apart (show IsS111 w0 _ g s0_0 s0_1 s0_2 from by exact IsS111.iS0 HI0.out) (rU HO460.out) (by decide)) hk (fun _ h => h.2)) (fun _ h => h.1)); replace HK := aS (KeepBut.trans (kS0 HK.out) hk (.inl rfl)); replace HB := aS (hb); replace HI0 := aS (hi); clear hi hb hk; obtain ⟨Ao34, co34, eo34⟩ := Kd.R_slice HO460.out; subst eo34) | ((with_reducible refine gate_callee (f := 78) rfl ?_); refine goesL_ (some 33) rfl rfl Tryd.func78 jK rfl #[.pointer (some ⟨g, 0, none⟩), .int .i64 (wrap64 ((y458.length : Int) + 1))] rfl jA ?_; (with_reducible refine (spec_l1Below.calls g s0_0 t462 t463 (wrap64 ((y458.length : Int) + 1)) t471 t472 t473 w0 _ ?side1 ?side2 A27.out).mono ?_); (case side1 => exact IsS111.iS0 HI0.out); (case side2 => exact wS1 HB.out (IsS111.ge HI0.out)); rintro e w35 ⟨rfl, hi, hb, hk⟩; refine ⟨_, rfl, ?_⟩; replace HO460 := aS (Kd.R_mono (Kd.R_keep (IsS111.apart (show IsS111 w0 _ g s0_0 t462 t463 from by exact IsS111.iS0 HI0.out) (rU HO460.out) (by decide)) hk (fun _ h => h.2)) (fun _ h => h.1)); replace HK := aS (KeepBut.trans (kS0 HK.out) hk (.inl rfl)); replace HB := aS (hb); replace HI0 := aS (hi); clear hi hb hk; have q36 : (t471 : Int) ≤ ((y458.length : Int) : Int) := of_decide_eq_true jC; obtain ⟨i036, hi036, _, hsz36, _⟩ := info_parts info5; have hcut36 := cut_to (P := Tryd.prog) 22 5 .i64 Tryd.underlying22 hi036 Ao34 y458.length co34 t471 (of_decide_eq_true jC) q36 (Kd.R_reads' HO460.out).2.1; have hr36 := Kd.R_take (m := (t471 : Int).toNat) HO460.out (by omega); have hy36 : y474.length = (t471 : Int).toNat := (by rw [Ny474.out, List.length_take]; omega); rw [← Ny474.out] at hr36; rw [← hy36] at hr36 hcut36; clear hy36 hi036 hsz36 HO460; have HO476 := aS hr36; clear hr36; replace q36 := eq_true q36))
      go_ret
      exact ⟨_, jE, by exact rU HO476.out, by exact IsS111.iS0 HI0.out, by exact wS1 HB.out (IsS111.ge HI0.out), by exact kS0 HK.out⟩
     ·rw [if_neg c29] at H
      exact absurd H (by simp)
    ·rw [if_neg c28] at H
     exact absurd H (by simp)
   ·rw [if_neg c26] at H
    have c26b0 := beq_eq_false_iff_ne.mpr c26
    have c26b1 := bne_iff_ne.mpr c26
    by_cases c37 : t461 = 2
    ·rw [if_pos c37] at H
     have c37b0 := beq_iff_eq.mpr c37
     have c37b1 := bne_eq_false_iff_eq.mpr c37
     clear c37
     obtain ⟨y477, hy_⟩ : ∃ y_ : List Int, y_ = (([0, 1, 192, 255] : List Int)) := ⟨_, rfl⟩
     rw [← hy_] at H
     have Ny477 := aS hy_
     clear hy_
     obtain ⟨⟨t480, t481, t482⟩, A38, H⟩ := bM H
     try dsimp only at H
     by_cases c39 : y458.length < 140737488355328
     ·rw [if_pos c39] at H
      have LMc39 := aS c39
      clear c39
      obtain ⟨y483, hy_⟩ : ∃ y_ : List Int, y_ = (y458 ++ [(t480) % 256]) := ⟨_, rfl⟩
      replace H : (some (y483, t481, t482)) = some (r1, r2, r3) := jD
      have Ny483 := aS hy_
      clear hy_
      simp only [Option.some.injEq, Prod.mk.injEq] at H
      obtain ⟨rfl, rfl, rfl⟩ := H
      go_enter Tryd.func80, Tryd.ntmps80
      go_wp2_with (first | ((with_reducible refine gate_dst (N := 7) rfl ?_); refine Kd.R_lit (Kd.int .u8) _ 5 ?hg (N := 7) ?hd (xs := ([] : List Int)) (inner := []) (ok := fun _ => True) (okp := fun _ => True) ?hr ?hp (fun _ hk => hk) trivial (Below.refl _ _) (Nat.le_refl _) (by simp) ?_; (case hd => rfl); (case hg => rfl); (case hr => first | (go_simp; done) | (go_simp; rfl)); (case hp => exact (Reps.none _ _)); intro v456 w40 ho41 hb hg_ hnew_; clear hg_ hnew_; (first | rw [← Ny455.out] at ho41 | (simp only [Int.reduceToNat] at ho41; rw [← Ny455.out] at ho41)); have HO457 := aS (Kd.R_lower ho41 (keep_size (w := w) (g := g) (row := none) (kS0 HK.out))); replace HK := aS (KeepBut.trans (kS0 HK.out) (KeepBut.of_below hb g none) (.inl rfl)); replace HB := aS (below_step (by exact wS1 HB.out (IsS111.ge HI0.out)) hb); replace HI0 := aS (IsS111.below (IsS111.iS0 HI0.out) hb); clear hb ho41) | ((with_reducible refine gate_builtin (b := .append) (xs := #[.tmp 7, .tmp 8]) rfl ?_); at_builtin; refine Kd.R_append_rows (Kd.int .u8) w.heap.size rfl (.tmp 7) (.tmp 8) 22 5 (.int .u8 0) 1 rfl Tryd.underlying22 info5 rfl (by decide) (by omega) v456 y455 l1 _ _ _ (fun _ => True) (fun _ => False) rfl rfl ?aO ?aR (fun _ _ h => h) (fun _ h => h.elim) ?aF (Below.refl _ _) ?aS ?aL ?_; (case aR => exact Kd.C_keep 0 HR1.out (kS0 HK.out) hf1); (case aF => exact (fun _ _ => trivial)); (case aO => exact (rU HO457.out)); (case aS => exact (keep_size (w := w) (g := g) (row := none) (kS0 HK.out))); (case aL => have := LMc3.out; omega); intro v459 w42 ho hb hg hat; rw [← Ny458.out] at ho; replace HB := aS (below_weaken (by exact wS1 HB.out (IsS111.ge HI0.out)) HL.out hb); replace HI0 := aS (IsS111.grown (IsS111.iS0 HI0.out) hg (IsS111.own_ne HI0.out HO457.out (by decide))); replace HK := aS (KeepBut.trans (kS0 HK.out) (KeepBut.of_grown hg g) (Kd.R_base2 HO457.out)); have HO460 := aS (ho); clear HO457; clear ho hb hg hat) | ((with_reducible refine gate_callee (f := 78) rfl ?_); refine goesL_ (some 11) rfl rfl Tryd.func78 jK rfl #[.pointer (some ⟨g, 0, none⟩), .int .i64 7] rfl jA ?_; (with_reducible refine (spec_l1Below.calls g s0_0 s0_1 s0_2 7 t461 t462 t463 w0 _ ?side1 ?side2 A4.out).mono ?_); (case side1 => exact IsS111.iS0 HI0.out); (case side2 => exact wS1 HB.out (IsS111.ge HI0.out)); rintro e w43 ⟨rfl, hi, hb, hk⟩; refine ⟨_, rfl, ?_⟩; replace HO460 := aS (Kd.R_mono (Kd.R_keep (IsS111.apart (show IsS111 w0 _ g s0_0 s0_1 s0_2 from by exact IsS111.iS0 HI0.out) (rU HO460.out) (by decide)) hk (fun _ h => h.2)) (fun _ h => h.1)); replace HK := aS (KeepBut.trans (kS0 HK.out) hk (.inl rfl)); replace HB := aS (hb); replace HI0 := aS (hi); clear hi hb hk) | ((with_reducible refine gate_dst (N := 39) rfl ?_); refine Kd.R_lit (Kd.int .i64) _ 3 ?hg (N := 39) ?hd (xs := ([0, 1, 192, 255] : List Int)) (inner := [.int .i64 0, .int .i64 1, .int .i64 192, .int .i64 255]) (ok := fun _ => True) (okp := fun _ => True) ?hr ?hp (fun _ hk => hk) trivial (Below.refl _ _) (Nat.le_refl _) (by simp) ?_; (case hd => rfl); (case hg => rfl); (case hr => first | (go_simp; done) | (go_simp; rfl)); (case hp => exact (Reps.one (show Kd.M (Kd.int .i64) _ _ _ 0 [.int .i64 0] from rfl) (Reps.one (show Kd.M (Kd.int .i64) _ _ _ 1 [.int .i64 1] from rfl) (Reps.one (show Kd.M (Kd.int .i64) _ _ _ 192 [.int .i64 192] from rfl) (Reps.one (show Kd.M (Kd.int .i64) _ _ _ 255 [.int .i64 255] from rfl) (Reps.none _ _)))))); intro v478 w44 ho45 hb hg_ hnew_; clear hg_ hnew_; (first | rw [← Ny477.out] at ho45 | (simp only [Int.reduceToNat] at ho45; rw [← Ny477.out] at ho45)); replace HO460 := aS (Kd.R_below (rU HO460.out) hb); have HO479 := aS (Kd.R_lower ho45 (keep_size (w := w) (g := g) (row := none) (kS0 HK.out))); replace HK := aS (KeepBut.trans (kS0 HK.out) (KeepBut.of_below hb g none) (.inl rfl)); replace HB := aS (below_step (by exact wS1 HB.out (IsS111.ge HI0.out)) hb); replace HI0 := aS (IsS111.below (IsS111.iS0 HI0.out) hb); clear hb ho45; obtain ⟨Ao46, co46, eo46⟩ := Kd.R_slice HO479.out; subst eo46) | ((with_reducible refine gate_callee (f := 81) rfl ?_); refine goesL_ (some 40) rfl rfl Tryd.func81 jK rfl #[.pointer (some ⟨g, 0, none⟩), .slice Ao46 y477.length co46] rfl jA ?_; (with_reducible refine (spec_l1Int.calls g s0_0 t462 t463 _ _ y477 t480 t481 t482 w0 _ ?side1 ?side2 ?side3 ?side4 ?side5 A38.out).mono ?_); (case side1 => exact IsS111.iS0 HI0.out); (case side2 => exact wS1 HB.out (IsS111.ge HI0.out)); (case side3 => exact cU ((Kd.R_reads' HO479.out).2.2)); (case side4 => exact (Kd.R_reads' HO479.out).2.1); (case side5 => exact far_slice (IsS111.own_ne HI0.out HO479.out (by decide))); rintro e w47 ⟨rfl, hi, hb, hk⟩; refine ⟨_, rfl, ?_⟩; replace HO460 := aS (Kd.R_mono (Kd.R_keep (IsS111.apart (show IsS111 w0 _ g s0_0 t462 t463 from by exact IsS111.iS0 HI0.out) (rU HO460.out) (by decide)) hk (fun _ h => h.2)) (fun _ h => h.1)); replace HO479 := aS (Kd.R_mono (Kd.R_keep (IsS111.apart (show IsS111 w0 _ g s0_0 t462 t463 from by exact IsS111.iS0 HI0.out) (rU HO479.out) (by decide)) hk (fun _ h => h.2)) (fun _ h => h.1)); replace HK := aS (KeepBut.trans (kS0 HK.out) hk (.inl rfl)); replace HB := aS (hb); replace HI0 := aS (hi); clear hi hb hk) | ((with_reducible refine gate_builtin (b := .append) (xs := #[.tmp 37, .tmp 42]) rfl ?_); at_builtin; refine Kd.R_append (Kd.int .u8) w.heap.size rfl (.tmp 37) (.tmp 42) 22 5 (.int .u8 0) 1 rfl Tryd.underlying22 info5 rfl (by decide) (by omega) v459 y458 ((t480) % 256) [.int .u8 ((t480) % 256)] (fun _ => True) (fun _ => False) rfl rfl ?aP (fun _ hk => hk.elim) ?aF ?aO (Below.refl _ _) ?aS ?aL ?_; (case aP => exact rfl); (case aF => exact (fun _ _ => trivial)); (case aO => exact (rU HO460.out)); (case aS => exact (keep_size (w := w) (g := g) (row := none) (kS0 HK.out))); (case aL => have := LMc39.out; omega); intro v484 w48 ho hb hg hat; rw [← Ny483.out] at ho; replace HO479 := aS (Kd.R_over' (rU HO479.out) (Kd.R_typed (rU HO460.out)) (by decide) hg); replace HB := aS (below_weaken (by exact wS1 HB.out (IsS111.ge HI0.out)) HL.out hb); replace HI0 := aS (IsS111.grown (IsS111.iS0 HI0.out) hg (IsS111.own_ne HI0.out HO460.out (by decide))); replace HK := aS (KeepBut.trans (kS0 HK.out) (KeepBut.of_grown hg g) (Kd.R_base2 HO460.out)); have HO485 := aS (ho); clear HO460; clear ho hb hg hat))
      go_ret
      exact ⟨_, jE, by exact rU HO485.out, by exact IsS111.iS0 HI0.out, by exact wS1 HB.out (IsS111.ge HI0.out), by exact kS0 HK.out⟩
     ·rw [if_neg c39] at H
      exact absurd H (by simp)
    ·rw [if_neg c37] at H
     have c37b0 := beq_eq_false_iff_ne.mpr c37
     have c37b1 := bne_iff_ne.mpr c37
     by_cases c49 : t461 = 3
     ·rw [if_pos c49] at H
      have c49b0 := beq_iff_eq.mpr c49
      have c49b1 := bne_eq_false_iff_eq.mpr c49
      clear c49
      by_cases c50 : (y458.length : Int) > 0
      ·rw [if_pos c50] at H
       have c50b0 := decide_eq_true c50
       have c50b1 : decide (0 < y458.length) = true := decide_eq_true (by omega)
       clear c50
       obtain ⟨⟨t486, t487, t488⟩, A51, H⟩ := bM H
       try dsimp only at H
       by_cases c52 : 0 ≤ t486
       ·rw [if_pos c52] at H
        have c52b0 := decide_eq_true c52
        clear c52
        by_cases c53 : t486 < (y458.length : Int)
        ·rw [if_pos c53] at H
         have c53b0 := decide_eq_true c53
         clear c53
         obtain ⟨⟨t490, t491, t492⟩, A54, H⟩ := bM H
         try dsimp only at H
         by_cases c55 : 0 ≤ t490
         ·rw [if_pos c55] at H
          have c55b0 := eq_true c55
          have c55b1 := decide_eq_true c55
          clear c55
          obtain ⟨ji56, hji56⟩ : ∃ j_ : Int, (shl .u8 1 t490) = j_ := ⟨_, rfl⟩
          replace H : (some ((y458.set (t486 : Int).toNat (Go.bits .xor .u8 (rd y458 t486) (ji56))), t491, t492)) = some (r1, r2, r3) := by first | (rw [hji56] at H; exact H) | (simp only [hji56] at H ⊢; exact H)
          (try rw [hji56] at A4)
          (try rw [hji56] at A51)
          (try rw [hji56] at A54)
          have hji56_ : (IntKind.u8.wrap (1 * 2 ^ min t490.toNat 8)) = ji56 := hji56
          have hji56z : t490 ≤ 8 → (IntKind.u8.wrap (1 * 2 ^ t490.toNat)) = ji56 := shl_small hji56
          have hji56u : (IntKind.u8.wrap (2 ^ min t490.toNat 8)) = ji56 := by have h_ := hji56_; rw [Int.one_mul] at h_; exact h_
          have hji56v : t490 ≤ 8 → (IntKind.u8.wrap (2 ^ t490.toNat)) = ji56 := fun hle_ => by have h_ := hji56z hle_; rw [Int.one_mul] at h_; exact h_
          obtain ⟨y493, hy_⟩ : ∃ y_ : List Int, y_ = (y458.set (t486 : Int).toNat (Go.bits .xor .u8 (rd y458 t486) (ji56))) := ⟨_, rfl⟩
          replace H : (some (y493, t491, t492)) = some (r1, r2, r3) := jD
          have Ny493 := aS hy_
          clear hy_
          simp only [Option.some.injEq, Prod.mk.injEq] at H
          obtain ⟨rfl, rfl, rfl⟩ := H
          go_enter Tryd.func80, Tryd.ntmps80
          try go_wp2_with (first | ((with_reducible refine gate_dst (N := 7) rfl ?_); refine Kd.R_lit (Kd.int .u8) _ 5 ?hg (N := 7) ?hd (xs := ([] : List Int)) (inner := []) (ok := fun _ => True) (okp := fun _ => True) ?hr ?hp (fun _ hk => hk) trivial (Below.refl _ _) (Nat.le_refl _) (by simp) ?_; (case hd => rfl); (case hg => rfl); (case hr => first | (go_simp; done) | (go_simp; rfl)); (case hp => exact (Reps.none _ _)); intro v456 w58 ho59 hb hg_ hnew_; clear hg_ hnew_; (first | rw [← Ny455.out] at ho59 | (simp only [Int.reduceToNat] at ho59; rw [← Ny455.out] at ho59)); have HO457 := aS (Kd.R_lower ho59 (keep_size (w := w) (g := g) (row := none) (kS0 HK.out))); replace HK := aS (KeepBut.trans (kS0 HK.out) (KeepBut.of_below hb g none) (.inl rfl)); replace HB := aS (below_step (by exact wS1 HB.out (IsS111.ge HI0.out)) hb); replace HI0 := aS (IsS111.below (IsS111.iS0 HI0.out) hb); clear hb ho59) | ((with_reducible refine gate_builtin (b := .append) (xs := #[.tmp 7, .tmp 8]) rfl ?_); at_builtin; refine Kd.R_append_rows (Kd.int .u8) w.heap.size rfl (.tmp 7) (.tmp 8) 22 5 (.int .u8 0) 1 rfl Tryd.underlying22 info5 rfl (by decide) (by omega) v456 y455 l1 _ _ _ (fun _ => True) (fun _ => False) rfl rfl ?aO ?aR (fun _ _ h => h) (fun _ h => h.elim) ?aF (Below.refl _ _) ?aS ?aL ?_; (case aR => exact Kd.C_keep 0 HR1.out (kS0 HK.out) hf1); (case aF => exact (fun _ _ => trivial)); (case aO => exact (rU HO457.out)); (case aS => exact (keep_size (w := w) (g := g) (row := none) (kS0 HK.out))); (case aL => have := LMc3.out; omega); intro v459 w60 ho hb hg hat; rw [← Ny458.out] at ho; replace HB := aS (below_weaken (by exact wS1 HB.out (IsS111.ge HI0.out)) HL.out hb); replace HI0 := aS (IsS111.grown (IsS111.iS0 HI0.out) hg (IsS111.own_ne HI0.out HO457.out (by decide))); replace HK := aS (KeepBut.trans (kS0 HK.out) (KeepBut.of_grown hg g) (Kd.R_base2 HO457.out)); have HO460 := aS (ho); clear HO457; clear ho hb hg hat) | ((with_reducible refine gate_callee (f := 78) rfl ?_); refine goesL_ (some 11) rfl rfl Tryd.func78 jK rfl #[.pointer (some ⟨g, 0, none⟩), .int .i64 7] rfl jA ?_; (with_reducible refine (spec_l1Below.calls g s0_0 s0_1 s0_2 7 t461 t462 t463 w0 _ ?side1 ?side2 A4.out).mono ?_); (case side1 => exact IsS111.iS0 HI0.out); (case side2 => exact wS1 HB.out (IsS111.ge HI0.out)); rintro e w61 ⟨rfl, hi, hb, hk⟩; refine ⟨_, rfl, ?_⟩; replace HO460 := aS (Kd.R_mono (Kd.R_keep (IsS111.apart (show IsS111 w0 _ g s0_0 s0_1 s0_2 from by exact IsS111.iS0 HI0.out) (rU HO460.out) (by decide)) hk (fun _ h => h.2)) (fun _ h => h.1)); replace HK := aS (KeepBut.trans (kS0 HK.out) hk (.inl rfl)); replace HB := aS (hb); replace HI0 := aS (hi); clear hi hb hk; obtain ⟨Ao62, co62, eo62⟩ := Kd.R_slice HO460.out; subst eo62) | ((with_reducible refine gate_callee (f := 78) rfl ?_); refine goesL_ (some 52) rfl rfl Tryd.func78 jK rfl #[.pointer (some ⟨g, 0, none⟩), .int .i64 (y458.length : Int)] rfl jA ?_; (with_reducible refine (spec_l1Below.calls g s0_0 t462 t463 (y458.length : Int) t486 t487 t488 w0 _ ?side1 ?side2 A51.out).mono ?_); (case side1 => exact IsS111.iS0 HI0.out); (case side2 => exact wS1 HB.out (IsS111.ge HI0.out)); rintro e w63 ⟨rfl, hi, hb, hk⟩; refine ⟨_, rfl, ?_⟩; replace HO460 := aS (Kd.R_mono (Kd.R_keep (IsS111.apart (show IsS111 w0 _ g s0_0 t462 t463 from by exact IsS111.iS0 HI0.out) (rU HO460.out) (by decide)) hk (fun _ h => h.2)) (fun _ h => h.1)); replace HK := aS (KeepBut.trans (kS0 HK.out) hk (.inl rfl)); replace HB := aS (hb); replace HI0 := aS (hi); clear hi hb hk))
          replace HO460 := aS (Kd.R_drew HO460.out)
          replace HI0 := aS (IsS111.drew HI0.out)
          replace HK := aS (keep_drew HK.out)
          replace HB := aS (below_drew1 HB.out)
          have p489 : 0 ≤ (t486 : Int) := of_decide_eq_true jC
          have q489 : t486 < (y458.length : Int) := of_decide_eq_true jC
          obtain ⟨ad489, e489, hx489_0⟩ := Kd.at_int (Kd.R_reads' HO460.out).2.2 t486 p489 q489
          cases e489
          replace p489 := eq_true p489
          replace q489 := eq_true q489
          refine start_ (n := 12) (S := fun w' => w'.cell? (ad489.add (t486).toNat) = some (.int .u8 (rd y458 t486))) (ds := [11]) #[false, false, false, false, false, false, false, false, false, false, false, false] jK rfl rfl (hx489_0) (fun hHeld => ?_); refine with_tabW spec_l1Bent.tab13 spec_l1Bent.bits13 (fun HT_ HW_ => ?_)
          generalize w63.drew = w64 at HO460 HI0 HK HB hx489_0 hHeld ⊢
          refine pure_ (i := 0) (N := some 53) (v := ?_) (a' := ?_) #[true, false, false, false, false, false, false, false, false, false, false, false] rfl rfl (any_of HT_.out jK) (fun _ _ _ h => h) (Or.inl ⟨by rfl, ?_⟩) ?_ ?_
          rotate_left
          ·intro w'
           go_simp
           with_reducible rfl
          rotate_left
          ·simp only [Act.put, List.setIfInBounds_toArray, List.set_cons_zero, List.set_cons_succ, i64_w, i32_w]
           rfl
          refine pure_ (i := 1) (N := some 54) (v := ?_) (a' := ?_) #[true, true, false, false, false, false, false, false, false, false, false, false] rfl rfl (any_of HT_.out jK) (fun _ _ _ h => h) (Or.inl ⟨by rfl, ?_⟩) ?_ ?_
          rotate_left
          ·intro w'
           go_simp
           with_reducible rfl
          rotate_left
          ·simp only [Act.put, List.setIfInBounds_toArray, List.set_cons_zero, List.set_cons_succ, i64_w, i32_w]
           rfl
          refine pure_ (i := 2) (N := some 55) (v := ?_) (a' := ?_) #[true, true, true, false, false, false, false, false, false, false, false, false] rfl rfl (any_of HT_.out jK) (fun _ _ _ h => h) (Or.inl ⟨by rfl, ?_⟩) ?_ ?_
          rotate_left
          ·intro w'
           go_simp
           with_reducible rfl
          rotate_left
          ·simp only [Act.put, List.setIfInBounds_toArray, List.set_cons_zero, List.set_cons_succ, i64_w, i32_w]
           rfl
          refine pure_ (i := 3) (N := some 56) (v := ?_) (a' := ?_) #[true, true, true, true, false, false, false, false, false, false, false, false] rfl rfl (any_of HT_.out jK) (fun _ _ _ h => h) (Or.inl ⟨by rfl, ?_⟩) ?_ ?_
          rotate_left
          ·intro w'
           go_simp
           with_reducible rfl
          rotate_left
          ·simp only [Act.put, List.setIfInBounds_toArray, List.set_cons_zero, List.set_cons_succ, i64_w, i32_w]
           rfl
          refine pure_ (i := 4) (N := some 57) (v := ?_) (a' := ?_) #[true, true, true, true, true, false, false, false, false, false, false, false] rfl rfl (any_of HT_.out jK) (fun _ _ _ h => h) (Or.inl ⟨by rfl, ?_⟩) ?_ ?_
          rotate_left
          ·intro w'
           go_simp
           with_reducible rfl
          rotate_left
          ·simp only [Act.put, List.setIfInBounds_toArray, List.set_cons_zero, List.set_cons_succ, i64_w, i32_w]
           rfl
          refine pure_ (i := 6) (N := some 59) (v := ?_) (a' := ?_) #[true, true, true, true, true, false, true, false, false, false, false, false] rfl rfl (any_of HT_.out jK) (fun _ _ _ h => h) (Or.inl ⟨by rfl, ?_⟩) ?_ ?_
          rotate_left
          ·intro w'
           go_simp
           with_reducible rfl
          rotate_left
          ·simp only [Act.put, List.setIfInBounds_toArray, List.set_cons_zero, List.set_cons_succ, i64_w, i32_w]
           rfl
          refine take_ (i := 5) (N := some 58) (v := ?_) (a' := ?_) #[true, true, true, true, true, true, true, false, false, false, false, false] rfl rfl (take_ofW HT_.out HW_.out jK) (fun _ _ _ h => h) (Or.inl ⟨by rfl, ?_⟩) hHeld ?_ ?_
          rotate_left
          ·intro w' s0
           go_simp
           with_reducible rfl
          rotate_left
          ·simp only [Act.put, List.setIfInBounds_toArray, List.set_cons_zero, List.set_cons_succ, i64_w, i32_w]
           rfl
          refine one_ (i := 7) (N := some 60) #[true, true, true, true, true, true, true, true, false, false, false, false] rfl rfl (one_of HT_.out jK) (by decide) (fun K hK => ?_)
          refine goes_ Tryd.func78 jK rfl #[.pointer (some ⟨g, 0, none⟩), .int .i64 8] (by rfl) rfl rfl jA ?_
          with_reducible refine (spec_l1Below.calls g s0_0 t487 t488 8 t490 t491 t492 w0 _ ?side1 ?side2 A54.out).mono ?_
          (case side1 => exact IsS111.iS0 HI0.out)
          (case side2 => exact wS1 HB.out (IsS111.ge HI0.out))
          rintro e w65 ⟨rfl, hi, hb, hk⟩
          have HS0_ := keep_cell hk (hHeld) (by first | (rw [add_block]; exact Kd.own_blk (IsS111.own_ne HI0.out HO460.out (by decide))) | (show (Addr.add _ _).block ≠ _; rw [add_block]; exact Kd.own_blk (IsS111.own_ne HI0.out HO460.out (by decide))) | exact Kd.own_blk (IsS111.own_ne HI0.out HO460.out (by decide)))
          refine ⟨_, rfl, ?_⟩
          replace HO460 := aS (Kd.R_mono (Kd.R_keep (IsS111.apart (show IsS111 w0 _ g s0_0 t487 t488 from by exact IsS111.iS0 HI0.out) (rU HO460.out) (by decide)) hk (fun _ h => h.2)) (fun _ h => h.1))
          replace HK := aS (KeepBut.trans (kS0 HK.out) hk (.inl rfl))
          replace HB := aS (hb)
          replace HI0 := aS (hi)
          (try clear hb)
          (try clear hb2)
          (try clear hk)
          (try clear hi)
          have p57 : 0 ≤ (t486 : Int) := of_decide_eq_true jC
          have q57 : (t486 : Int) < ((y458.length : Int) : Int) := of_decide_eq_true jC
          obtain ⟨go57, co57, eo57, gb57, gl57, cl57, HG57⟩ := Kd.R_form HO460.out (by omega)
          (first | cases eo57 | (injection eo57 with ea_ en_ ec_; (first | subst ea_ | (injection ea_ with ea_; subst ea_)); subst ec_; clear en_))
          have GB57 := aS gb57
          have GG57 := aS HG57
          clear gb57 gl57 HG57
          (first | simp only [add_plain] at hx489_0 | skip)
          obtain ⟨hx57_0, hf57_0⟩ := Kd.R_celln 0 HO460.out (t486 : Int) p57 q57
          replace p57 := eq_true p57
          replace q57 := eq_true q57
          have HN0_go57 := aS (show g ≠ go57 from by have h_ := IsS111.own_ne HI0.out HO460.out (by decide); intro e_; exact h_ (by rw [e_]; rfl))
          have HP66 := Kd.R_putn HO460.out (t486 : Int) (Go.bits .xor .u8 (rd y458 t486) (ji56))
          rw [← Ny493.out] at HP66
          have HQ66 := aS HP66
          clear HP66
          refine hK.out _ _ (HS0_) (fun hHeld => ?_)
          clear hK K
          refine norm_ (a' := ?_) ?_ ?_
          rotate_left
          ·show Act.put _ (some 60) _ = _
           simp only [Act.put, List.setIfInBounds_toArray, List.set_cons_zero, List.set_cons_succ, i64_w, i32_w]
           rfl
          refine pure_ (i := 8) (N := some 61) (v := ?_) (a' := ?_) #[true, true, true, true, true, true, true, true, true, false, false, false] rfl rfl (any_of HT_.out jK) (fun _ _ _ h => h) (Or.inl ⟨by rfl, ?_⟩) ?_ ?_
          rotate_left
          ·intro w'
           go_simp
           with_reducible rfl
          rotate_left
          ·simp only [Act.put, List.setIfInBounds_toArray, List.set_cons_zero, List.set_cons_succ, i64_w, i32_w]
           rfl
          refine pure_ (i := 9) (N := some 62) (v := ?_) (a' := ?_) #[true, true, true, true, true, true, true, true, true, true, false, false] rfl rfl (any_of HT_.out jK) (fun _ _ _ h => h) (Or.inl ⟨by rfl, ?_⟩) ?_ ?_
          rotate_left
          ·intro w'
           go_simp
           with_reducible rfl
          rotate_left
          ·simp only [Act.put, List.setIfInBounds_toArray, List.set_cons_zero, List.set_cons_succ, i64_w, i32_w]
           rfl
          refine pure_ (i := 10) (N := some 63) (v := ?_) (a' := ?_) #[true, true, true, true, true, true, true, true, true, true, true, false] rfl rfl (any_of HT_.out jK) (fun _ _ _ h => h) (Or.inl ⟨by rfl, ?_⟩) ?_ ?_
          rotate_left
          ·intro w'
           go_simp
           with_reducible rfl
          rotate_left
          ·simp only [Act.put, List.setIfInBounds_toArray, List.set_cons_zero, List.set_cons_succ, i64_w, i32_w]
           rfl
          refine last_ (i := 11) (N := none) #[true, true, true, true, true, true, true, true, true, true, true, true] rfl rfl (one_of HT_.out jK) (by decide) (fun K hK => ?_)
          refine skip_ (w1 := ?_) (by rfl) rfl ?_ ?_
          rotate_left
          ·go_simp
           rfl
          refine hK.out _ _ ?_
          clear hK K
          refine done_ (done_of HT_.out jK) ?_
          try go_wp2
          go_ret
          exact ⟨_, by first | rfl | (simp [errW_none, errW_some] <;> rfl) | (simp only [← hji56]; first | rfl | (simp [errW_none, errW_some] <;> rfl)) | (simp [*, errW_none, errW_some] <;> rfl), by (with_reducible repeat (first | apply Kd.R_alloc | apply Kd.R_drewN | apply Kd.R_drew)); exact HQ66.out, by exact IsS111.iS1 HI0.out HN0_go57.out, by repeat (first | (with_reducible first | exact HB.out | apply below_alloc | apply pw_below_drewN | apply below_drew1 | refine below_set ?_ (Nat.le_trans HL.out GB57.out) | refine below_set ?_ (IsS111.ge HI0.out)) | exact HB.out), by exact kS1 HK.out GB57.out⟩
         ·rw [if_neg c55] at H
          exact absurd H (by simp)
        ·rw [if_neg c53] at H
         exact absurd H (by simp)
       ·rw [if_neg c52] at H
        exact absurd H (by simp)
      ·rw [if_neg c50] at H
       have c50b0 := decide_eq_false c50
       have c50b1 : decide (0 < y458.length) = false := decide_eq_false (by omega)
       clear c50
       simp only [Option.some.injEq, Prod.mk.injEq] at H
       obtain ⟨rfl, rfl, rfl⟩ := H
       go_enter Tryd.func80, Tryd.ntmps80
       go_wp2_with (first | ((with_reducible refine gate_dst (N := 7) rfl ?_); refine Kd.R_lit (Kd.int .u8) _ 5 ?hg (N := 7) ?hd (xs := ([] : List Int)) (inner := []) (ok := fun _ => True) (okp := fun _ => True) ?hr ?hp (fun _ hk => hk) trivial (Below.refl _ _) (Nat.le_refl _) (by simp) ?_; (case hd => rfl); (case hg => rfl); (case hr => first | (go_simp; done) | (go_simp; rfl)); (case hp => exact (Reps.none _ _)); intro v456 w67 ho68 hb hg_ hnew_; clear hg_ hnew_; (first | rw [← Ny455.out] at ho68 | (simp only [Int.reduceToNat] at ho68; rw [← Ny455.out] at ho68)); have HO457 := aS (Kd.R_lower ho68 (keep_size (w := w) (g := g) (row := none) (kS0 HK.out))); replace HK := aS (KeepBut.trans (kS0 HK.out) (KeepBut.of_below hb g none) (.inl rfl)); replace HB := aS (below_step (by exact wS1 HB.out (IsS111.ge HI0.out)) hb); replace HI0 := aS (IsS111.below (IsS111.iS0 HI0.out) hb); clear hb ho68) | ((with_reducible refine gate_builtin (b := .append) (xs := #[.tmp 7, .tmp 8]) rfl ?_); at_builtin; refine Kd.R_append_rows (Kd.int .u8) w.heap.size rfl (.tmp 7) (.tmp 8) 22 5 (.int .u8 0) 1 rfl Tryd.underlying22 info5 rfl (by decide) (by omega) v456 y455 l1 _ _ _ (fun _ => True) (fun _ => False) rfl rfl ?aO ?aR (fun _ _ h => h) (fun _ h => h.elim) ?aF (Below.refl _ _) ?aS ?aL ?_; (case aR => exact Kd.C_keep 0 HR1.out (kS0 HK.out) hf1); (case aF => exact (fun _ _ => trivial)); (case aO => exact (rU HO457.out)); (case aS => exact (keep_size (w := w) (g := g) (row := none) (kS0 HK.out))); (case aL => have := LMc3.out; omega); intro v459 w69 ho hb hg hat; rw [← Ny458.out] at ho; replace HB := aS (below_weaken (by exact wS1 HB.out (IsS111.ge HI0.out)) HL.out hb); replace HI0 := aS (IsS111.grown (IsS111.iS0 HI0.out) hg (IsS111.own_ne HI0.out HO457.out (by decide))); replace HK := aS (KeepBut.trans (kS0 HK.out) (KeepBut.of_grown hg g) (Kd.R_base2 HO457.out)); have HO460 := aS (ho); clear HO457; clear ho hb hg hat) | ((with_reducible refine gate_callee (f := 78) rfl ?_); refine goesL_ (some 11) rfl rfl Tryd.func78 jK rfl #[.pointer (some ⟨g, 0, none⟩), .int .i64 7] rfl jA ?_; (with_reducible refine (spec_l1Below.calls g s0_0 s0_1 s0_2 7 t461 t462 t463 w0 _ ?side1 ?side2 A4.out).mono ?_); (case side1 => exact IsS111.iS0 HI0.out); (case side2 => exact wS1 HB.out (IsS111.ge HI0.out)); rintro e w70 ⟨rfl, hi, hb, hk⟩; refine ⟨_, rfl, ?_⟩; replace HO460 := aS (Kd.R_mono (Kd.R_keep (IsS111.apart (show IsS111 w0 _ g s0_0 s0_1 s0_2 from by exact IsS111.iS0 HI0.out) (rU HO460.out) (by decide)) hk (fun _ h => h.2)) (fun _ h => h.1)); replace HK := aS (KeepBut.trans (kS0 HK.out) hk (.inl rfl)); replace HB := aS (hb); replace HI0 := aS (hi); clear hi hb hk; obtain ⟨Ao71, co71, eo71⟩ := Kd.R_slice HO460.out; subst eo71))
       go_ret
       exact ⟨_, jE, by exact rU HO460.out, by exact IsS111.iS0 HI0.out, by exact wS1 HB.out (IsS111.ge HI0.out), by exact kS0 HK.out⟩
     ·rw [if_neg c49] at H
      have c49b0 := beq_eq_false_iff_ne.mpr c49
      have c49b1 := bne_iff_ne.mpr c49
      simp only [Option.some.injEq, Prod.mk.injEq] at H
      obtain ⟨rfl, rfl, rfl⟩ := H
      go_enter Tryd.func80, Tryd.ntmps80
      go_wp2_with (first | ((with_reducible refine gate_dst (N := 7) rfl ?_); refine Kd.R_lit (Kd.int .u8) _ 5 ?hg (N := 7) ?hd (xs := ([] : List Int)) (inner := []) (ok := fun _ => True) (okp := fun _ => True) ?hr ?hp (fun _ hk => hk) trivial (Below.refl _ _) (Nat.le_refl _) (by simp) ?_; (case hd => rfl); (case hg => rfl); (case hr => first | (go_simp; done) | (go_simp; rfl)); (case hp => exact (Reps.none _ _)); intro v456 w72 ho73 hb hg_ hnew_; clear hg_ hnew_; (first | rw [← Ny455.out] at ho73 | (simp only [Int.reduceToNat] at ho73; rw [← Ny455.out] at ho73)); have HO457 := aS (Kd.R_lower ho73 (keep_size (w := w) (g := g) (row := none) (kS0 HK.out))); replace HK := aS (KeepBut.trans (kS0 HK.out) (KeepBut.of_below hb g none) (.inl rfl)); replace HB := aS (below_step (by exact wS1 HB.out (IsS111.ge HI0.out)) hb); replace HI0 := aS (IsS111.below (IsS111.iS0 HI0.out) hb); clear hb ho73) | ((with_reducible refine gate_builtin (b := .append) (xs := #[.tmp 7, .tmp 8]) rfl ?_); at_builtin; refine Kd.R_append_rows (Kd.int .u8) w.heap.size rfl (.tmp 7) (.tmp 8) 22 5 (.int .u8 0) 1 rfl Tryd.underlying22 info5 rfl (by decide) (by omega) v456 y455 l1 _ _ _ (fun _ => True) (fun _ => False) rfl rfl ?aO ?aR (fun _ _ h => h) (fun _ h => h.elim) ?aF (Below.refl _ _) ?aS ?aL ?_; (case aR => exact Kd.C_keep 0 HR1.out (kS0 HK.out) hf1); (case aF => exact (fun _ _ => trivial)); (case aO => exact (rU HO457.out)); (case aS => exact (keep_size (w := w) (g := g) (row := none) (kS0 HK.out))); (case aL => have := LMc3.out; omega); intro v459 w74 ho hb hg hat; rw [← Ny458.out] at ho; replace HB := aS (below_weaken (by exact wS1 HB.out (IsS111.ge HI0.out)) HL.out hb); replace HI0 := aS (IsS111.grown (IsS111.iS0 HI0.out) hg (IsS111.own_ne HI0.out HO457.out (by decide))); replace HK := aS (KeepBut.trans (kS0 HK.out) (KeepBut.of_grown hg g) (Kd.R_base2 HO457.out)); have HO460 := aS (ho); clear HO457; clear ho hb hg hat) | ((with_reducible refine gate_callee (f := 78) rfl ?_); refine goesL_ (some 11) rfl rfl Tryd.func78 jK rfl #[.pointer (some ⟨g, 0, none⟩), .int .i64 7] rfl jA ?_; (with_reducible refine (spec_l1Below.calls g s0_0 s0_1 s0_2 7 t461 t462 t463 w0 _ ?side1 ?side2 A4.out).mono ?_); (case side1 => exact IsS111.iS0 HI0.out); (case side2 => exact wS1 HB.out (IsS111.ge HI0.out)); rintro e w75 ⟨rfl, hi, hb, hk⟩; refine ⟨_, rfl, ?_⟩; replace HO460 := aS (Kd.R_mono (Kd.R_keep (IsS111.apart (show IsS111 w0 _ g s0_0 s0_1 s0_2 from by exact IsS111.iS0 HI0.out) (rU HO460.out) (by decide)) hk (fun _ h => h.2)) (fun _ h => h.1)); replace HK := aS (KeepBut.trans (kS0 HK.out) hk (.inl rfl)); replace HB := aS (hb); replace HI0 := aS (hi); clear hi hb hk))
      go_ret
      exact ⟨_, jE, by exact rU HO460.out, by exact IsS111.iS0 HI0.out, by exact wS1 HB.out (IsS111.ge HI0.out), by exact kS0 HK.out⟩
 ·rw [if_neg c3] at H
  exact absurd H (by simp)

/-! ### spec_l1Str: function 113 -/
def spec_l1Str.f (s0_0 : List Int) (s0_1 : Int) (s0_2 : Int) (l1 : List ByteArray) : Option (ByteArray × Int × Int) := (spec_l1Below.f s0_0 s0_1 s0_2 (l1.length : Int)).bind fun bt494 => (if 0 ≤ bt494.1 then (if bt494.1 < (l1.length : Int) then (some (rdOf ByteArray.empty l1 bt494.1, bt494.2.1, bt494.2.2)) else (none)) else (none))
set_option maxHeartbeats 8000000 in
set_option maxRecDepth 100000 in
theorem spec_l1Str.calls (g : Nat) (s0_0 : List Int) (s0_1 : Int) (s0_2 : Int) (A1 : Option Addr) (c1 : Nat) (l1 : List ByteArray) (r1 : ByteArray) (r2 : Int) (r3 : Int) (w0 w : World) (hI : IsS111 w0 w g s0_0 s0_1 s0_2) (hB : Below w0.heap.size w0 w) (hr1 : Kd.C Kd.string w A1 l1.length l1) (hc1 : l1.length ≤ c1) (hf1 : ∀ ad, A1 = some ad → 0 < l1.length → ad.block ≠ g) (h : spec_l1Str.f s0_0 s0_1 s0_2 l1 = some (r1, r2, r3)) :
  Calls Tryd.prog 113 #[.pointer (some ⟨g, 0, none⟩), .slice A1 l1.length c1] w fun e w' => e = .returned (.string r1) ∧ IsS111 w0 w' g s0_0 r2 r3 ∧ Below w0.heap.size w0 w' ∧ KeepBut w w' g none := by
 have HR1 := aS hr1
 have HC1 := aS hc1
 clear hr1 hc1
 have HI0 := aS hI
 have HK := aS (KeepBut.refl w g none)
 have HL := aS hB.size
 clear hI
 have HW0 := aS hB.size
 have HB := aS hB
 clear hB
 have H : ((spec_l1Below.f s0_0 s0_1 s0_2 (l1.length : Int)).bind fun bt494 => (if 0 ≤ bt494.1 then (if bt494.1 < (l1.length : Int) then (some (rdOf ByteArray.empty l1 bt494.1, bt494.2.1, bt494.2.2)) else (none)) else (none))) = some (r1, r2, r3) := h
 clear h
 obtain ⟨⟨t494, t495, t496⟩, A3, H⟩ := bM H
 try dsimp only at H
 by_cases c4 : 0 ≤ t494
 ·rw [if_pos c4] at H
  have c4b0 := decide_eq_true c4
  clear c4
  by_cases c5 : t494 < (l1.length : Int)
  ·rw [if_pos c5] at H
   have c5b0 := decide_eq_true c5
   clear c5
   simp only [Option.some.injEq, Prod.mk.injEq] at H
   obtain ⟨rfl, rfl, rfl⟩ := H
   go_enter Tryd.func113, Tryd.ntmps113
   go_wp2_with (first | ((with_reducible refine gate_callee (f := 78) rfl ?_); refine goesL_ (some 9) rfl rfl Tryd.func78 jK rfl #[.pointer (some ⟨g, 0, none⟩), .int .i64 (l1.length : Int)] rfl jA ?_; (with_reducible refine (spec_l1Below.calls g s0_0 s0_1 s0_2 (l1.length : Int) t494 t495 t496 w0 _ ?side1 ?side2 A3.out).mono ?_); (case side1 => exact IsS111.iS0 HI0.out); (case side2 => exact wS1 HB.out (IsS111.ge HI0.out)); rintro e w6 ⟨rfl, hi, hb, hk⟩; refine ⟨_, rfl, ?_⟩; replace HK := aS (KeepBut.trans (kS0 HK.out) hk (.inl rfl)); replace HB := aS (hb); replace HI0 := aS (hi); clear hi hb hk; have p497 : 0 ≤ (t494 : Int) := of_decide_eq_true jC; have q497 : t494 < (l1.length : Int) := of_decide_eq_true jC; obtain ⟨ad497, e497, hx497_0⟩ := Kd.at_string HR1.out t494 p497 q497; cases e497; replace hx497_0 := keep_cell HK.out hx497_0 (by first | (rw [add_block]; exact hf1 _ rfl (by omega)) | exact hf1 _ rfl (by omega) | exact hf1 ad497 rfl (by omega)); replace p497 := eq_true p497; replace q497 := eq_true q497))
   go_ret
   exact ⟨jE, by exact IsS111.iS0 HI0.out, by exact wS1 HB.out (IsS111.ge HI0.out), by exact kS0 HK.out⟩
  ·rw [if_neg c5] at H
   exact absurd H (by simp)
 ·rw [if_neg c4] at H
  exact absurd H (by simp)

/-! ### spec_l3Name: function 85 -/
def spec_l3Name.f (s0_0 : List Int) (s0_1 : Int) (s0_2 : Int) : Option (ByteArray × Int × Int) := (spec_l1Str.f s0_0 s0_1 s0_2 (([(⟨#[]⟩ : ByteArray), (⟨#[99, 111, 109]⟩ : ByteArray), (⟨#[101, 120, 46, 99, 111, 109]⟩ : ByteArray), (⟨#[119, 119, 119, 46, 101, 120, 46, 99, 111, 109]⟩ : ByteArray), (⟨#[110, 115, 46, 101, 120, 46, 99, 111, 109]⟩ : ByteArray), (⟨#[111, 114, 103]⟩ : ByteArray), (⟨#[97, 46, 111, 114, 103]⟩ : ByteArray), (⟨#[98, 46, 97, 46, 111, 114, 103]⟩ : ByteArray), (⟨#[110, 115, 49, 46, 111, 114, 103]⟩ : ByteArray), (⟨#[120, 46, 121, 46, 122, 46, 101, 120, 46, 99, 111, 109]⟩ : ByteArray)] : List ByteArray))).bind fun bt501 => (some (bt501.1, bt501.2.1, bt501.2.2))
set_option maxHeartbeats 8000000 in
set_option maxRecDepth 100000 in
theorem spec_l3Name.calls (g : Nat) (s0_0 : List Int) (s0_1 : Int) (s0_2 : Int) (r1 : ByteArray) (r2 : Int) (r3 : Int) (w0 w : World) (hI : IsS111 w0 w g s0_0 s0_1 s0_2) (hB : Below w0.heap.size w0 w) (h : spec_l3Name.f s0_0 s0_1 s0_2 = some (r1, r2, r3)) :
  Calls Tryd.prog 85 #[.pointer (some ⟨g, 0, none⟩)] w fun e w' => e = .returned (.string r1) ∧ IsS111 w0 w' g s0_0 r2 r3 ∧ Below w0.heap.size w0 w' ∧ KeepBut w w' g none := by
 have HI0 := aS hI
 have HK := aS (KeepBut.refl w g none)
 have HL := aS hB.size
 clear hI
 have HW0 := aS hB.size
 have HB := aS hB
 clear hB
 have H : ((spec_l1Str.f s0_0 s0_1 s0_2 (([(⟨#[]⟩ : ByteArray), (⟨#[99, 111, 109]⟩ : ByteArray), (⟨#[101, 120, 46, 99, 111, 109]⟩ : ByteArray), (⟨#[119, 119, 119, 46, 101, 120, 46, 99, 111, 109]⟩ : ByteArray), (⟨#[110, 115, 46, 101, 120, 46, 99, 111, 109]⟩ : ByteArray), (⟨#[111, 114, 103]⟩ : ByteArray), (⟨#[97, 46, 111, 114, 103]⟩ : ByteArray), (⟨#[98, 46, 97, 46, 111, 114, 103]⟩ : ByteArray), (⟨#[110, 115, 49, 46, 111, 114, 103]⟩ : ByteArray), (⟨#[120, 46, 121, 46, 122, 46, 101, 120, 46, 99, 111, 109]⟩ : ByteArray)] : List ByteArray))).bind fun bt501 => (some (bt501.1, bt501.2.1, bt501.2.2))) = some (r1, r2, r3) := h
 clear h
 obtain ⟨y498, hy_⟩ : ∃ y_ : List ByteArray, y_ = (([(⟨#[]⟩ : ByteArray), (⟨#[99, 111, 109]⟩ : ByteArray), (⟨#[101, 120, 46, 99, 111, 109]⟩ : ByteArray), (⟨#[119, 119, 119, 46, 101, 120, 46, 99, 111, 109]⟩ : ByteArray), (⟨#[110, 115, 46, 101, 120, 46, 99, 111, 109]⟩ : ByteArray), (⟨#[111, 114, 103]⟩ : ByteArray), (⟨#[97, 46, 111, 114, 103]⟩ : ByteArray), (⟨#[98, 46, 97, 46, 111, 114, 103]⟩ : ByteArray), (⟨#[110, 115, 49, 46, 111, 114, 103]⟩ : ByteArray), (⟨#[120, 46, 121, 46, 122, 46, 101, 120, 46, 99, 111, 109]⟩ : ByteArray)] : List ByteArray)) := ⟨_, rfl⟩
 replace H : ((spec_l1Str.f s0_0 s0_1 s0_2 y498).bind fun bt501 => (some (bt501.1, bt501.2.1, bt501.2.2))) = some (r1, r2, r3) := jD
 have Ny498 := aS hy_
 clear hy_
 obtain ⟨⟨t501, t502, t503⟩, A2, H⟩ := bM H
 try dsimp only at H
 simp only [Option.some.injEq, Prod.mk.injEq] at H
 obtain ⟨rfl, rfl, rfl⟩ := H
 go_enter Tryd.func85, Tryd.ntmps85
 go_wp2_with (first | ((with_reducible refine gate_dst (N := 4) rfl ?_); refine Kd.R_lit Kd.string _ 9 ?hg (N := 4) ?hd (xs := ([(⟨#[]⟩ : ByteArray), (⟨#[99, 111, 109]⟩ : ByteArray), (⟨#[101, 120, 46, 99, 111, 109]⟩ : ByteArray), (⟨#[119, 119, 119, 46, 101, 120, 46, 99, 111, 109]⟩ : ByteArray), (⟨#[110, 115, 46, 101, 120, 46, 99, 111, 109]⟩ : ByteArray), (⟨#[111, 114, 103]⟩ : ByteArray), (⟨#[97, 46, 111, 114, 103]⟩ : ByteArray), (⟨#[98, 46, 97, 46, 111, 114, 103]⟩ : ByteArray), (⟨#[110, 115, 49, 46, 111, 114, 103]⟩ : ByteArray), (⟨#[120, 46, 121, 46, 122, 46, 101, 120, 46, 99, 111, 109]⟩ : ByteArray)] : List ByteArray)) (inner := [.string (⟨#[]⟩ : ByteArray), .string (⟨#[99, 111, 109]⟩ : ByteArray), .string (⟨#[101, 120, 46, 99, 111, 109]⟩ : ByteArray), .string (⟨#[119, 119, 119, 46, 101, 120, 46, 99, 111, 109]⟩ : ByteArray), .string (⟨#[110, 115, 46, 101, 120, 46, 99, 111, 109]⟩ : ByteArray), .string (⟨#[111, 114, 103]⟩ : ByteArray), .string (⟨#[97, 46, 111, 114, 103]⟩ : ByteArray), .string (⟨#[98, 46, 97, 46, 111, 114, 103]⟩ : ByteArray), .string (⟨#[110, 115, 49, 46, 111, 114, 103]⟩ : ByteArray), .string (⟨#[120, 46, 121, 46, 122, 46, 101, 120, 46, 99, 111, 109]⟩ : ByteArray)]) (ok := fun _ => True) (okp := fun _ => True) ?hr ?hp (fun _ hk => hk) trivial (Below.refl _ _) (Nat.le_refl _) (by simp) ?_; (case hd => rfl); (case hg => rfl); (case hr => first | (go_simp; done) | (go_simp; rfl)); (case hp => exact (Reps.one (show Kd.M Kd.string _ _ _ (⟨#[]⟩ : ByteArray) [.string (⟨#[]⟩ : ByteArray)] from rfl) (Reps.one (show Kd.M Kd.string _ _ _ (⟨#[99, 111, 109]⟩ : ByteArray) [.string (⟨#[99, 111, 109]⟩ : ByteArray)] from rfl) (Reps.one (show Kd.M Kd.string _ _ _ (⟨#[101, 120, 46, 99, 111, 109]⟩ : ByteArray) [.string (⟨#[101, 120, 46, 99, 111, 109]⟩ : ByteArray)] from rfl) (Reps.one (show Kd.M Kd.string _ _ _ (⟨#[119, 119, 119, 46, 101, 120, 46, 99, 111, 109]⟩ : ByteArray) [.string (⟨#[119, 119, 119, 46, 101, 120, 46, 99, 111, 109]⟩ : ByteArray)] from rfl) (Reps.one (show Kd.M Kd.string _ _ _ (⟨#[110, 115, 46, 101, 120, 46, 99, 111, 109]⟩ : ByteArray) [.string (⟨#[110, 115, 46, 101, 120, 46, 99, 111, 109]⟩ : ByteArray)] from rfl) (Reps.one (show Kd.M Kd.string _ _ _ (⟨#[111, 114, 103]⟩ : ByteArray) [.string (⟨#[111, 114, 103]⟩ : ByteArray)] from rfl) (Reps.one (show Kd.M Kd.string _ _ _ (⟨#[97, 46, 111, 114, 103]⟩ : ByteArray) [.string (⟨#[97, 46, 111, 114, 103]⟩ : ByteArray)] from rfl) (Reps.one (show Kd.M Kd.string _ _ _ (⟨#[98, 46, 97, 46, 111, 114, 103]⟩ : ByteArray) [.string (⟨#[98, 46, 97, 46, 111, 114, 103]⟩ : ByteArray)] from rfl) (Reps.one (show Kd.M Kd.string _ _ _ (⟨#[110, 115, 49, 46, 111, 114, 103]⟩ : ByteArray) [.string (⟨#[110, 115, 49, 46, 111, 114, 103]⟩ : ByteArray)] from rfl) (Reps.one (show Kd.M Kd.string _ _ _ (⟨#[120, 46, 121, 46, 122, 46, 101, 120, 46, 99, 111, 109]⟩ : ByteArray) [.string (⟨#[120, 46, 121, 46, 122, 46, 101, 120, 46, 99, 111, 109]⟩ : ByteArray)] from rfl) (Reps.none _ _)))))))))))); intro v499 w3 ho4 hb hg_ hnew_; clear hg_ hnew_; (first | rw [← Ny498.out] at ho4 | (simp only [Int.reduceToNat] at ho4; rw [← Ny498.out] at ho4)); have HO500 := aS (Kd.R_lower ho4 (keep_size (w := w) (g := g) (row := none) (kS0 HK.out))); replace HK := aS (KeepBut.trans (kS0 HK.out) (KeepBut.of_below hb g none) (.inl rfl)); replace HB := aS (below_step (by exact wS1 HB.out (IsS111.ge HI0.out)) hb); replace HI0 := aS (IsS111.below (IsS111.iS0 HI0.out) hb); clear hb ho4; obtain ⟨Ao5, co5, eo5⟩ := Kd.R_slice HO500.out; subst eo5) | ((with_reducible refine gate_callee (f := 113) rfl ?_); refine goesL_ (some 5) rfl rfl Tryd.func113 jK rfl #[.pointer (some ⟨g, 0, none⟩), .slice Ao5 y498.length co5] rfl jA ?_; (with_reducible refine (spec_l1Str.calls g s0_0 s0_1 s0_2 _ _ y498 t501 t502 t503 w0 _ ?side1 ?side2 ?side3 ?side4 ?side5 A2.out).mono ?_); (case side1 => exact IsS111.iS0 HI0.out); (case side2 => exact wS1 HB.out (IsS111.ge HI0.out)); (case side3 => exact cU ((Kd.R_reads' HO500.out).2.2)); (case side4 => exact (Kd.R_reads' HO500.out).2.1); (case side5 => exact far_slice (IsS111.own_ne HI0.out HO500.out (by decide))); rintro e w6 ⟨rfl, hi, hb, hk⟩; refine ⟨_, rfl, ?_⟩; replace HO500 := aS (Kd.R_mono (Kd.R_keep (IsS111.apart (show IsS111 w0 _ g s0_0 s0_1 s0_2 from by exact IsS111.iS0 HI0.out) (rU HO500.out) (by decide)) hk (fun _ h => h.2)) (fun _ h => h.1)); replace HK := aS (KeepBut.trans (kS0 HK.out) hk (.inl rfl)); replace HB := aS (hb); replace HI0 := aS (hi); clear hi hb hk))
 go_ret
 exact ⟨jE, by exact IsS111.iS0 HI0.out, by exact wS1 HB.out (IsS111.ge HI0.out), by exact kS0 HK.out⟩

end Go.Proofs.YtdigilidomimdaaDoor.Pr
