-- Written for this claim by a program of this session (wip/tool/pr.py, over the kit's printer).
-- half
import Derived.Test.YtdigilidomimdaaDoorPrx0
import Derived.Test.YtdigilidomimdaaDoorPrx2
import Derived.Test.YtdigilidomimdaaDoorPrx5
namespace Go.Proofs.YtdigilidomimdaaDoor.Pr
open Go.RowKit Go.Proofs.YtdigilidomimdaaDoorW.PrintWords Go.Proofs.YtdigilidomimdaaDoorW.PrintLast Go.Proofs.YtdigilidomimdaaDoorW.PrintMore
attribute [local go_sem] max2_int min2_int max_two min_two max_three min_three max_four min_four   -- for this text's walks alone
set_option linter.unusedVariables false
set_option linter.unusedSimpArgs false

/-! ### spec_l1Bent: function 80 -/
def spec_l1Bent.f (s0_0 : List Int) (s0_1 : Int) (s0_2 : Int) (l1 : List Int) : Option (List Int × Int × Int) := (some (([] : List Int) : List Int)).bind fun y230 => (if y230.length + l1.length < 140737488355328 then ((some (y230 ++ l1 : List Int)).bind fun y233 => ((spec_l1Below.f s0_0 s0_1 s0_2 7).bind fun bt236 => (if bt236.1 = 0 then (if (y233.length : Int) > 0 then ((spec_l1Below.f s0_0 bt236.2.1 bt236.2.2 (y233.length : Int)).bind fun bt239 => ((spec_l1Below.f s0_0 bt239.2.1 bt239.2.2 256).bind fun bt242 => (if 0 ≤ bt239.1 then (if bt239.1 < (y233.length : Int) then (some ((y233.set (bt239.1 : Int).toNat ((bt242.1) % 256)), bt242.2.1, bt242.2.2)) else (none)) else (none)))) else (some (y233, bt236.2.1, bt236.2.2))) else (if bt236.1 = 1 then ((spec_l1Below.f s0_0 bt236.2.1 bt236.2.2 (wrap64 ((y233.length : Int) + 1))).bind fun bt246 => (if 0 ≤ bt246.1 then (if bt246.1 ≤ (y233.length : Int) then (some ((y233.take (bt246.1 : Int).toNat), bt246.2.1, bt246.2.2)) else (none)) else (none))) else (if bt236.1 = 2 then ((spec_l1Int.f s0_0 bt236.2.1 bt236.2.2 (([0, 1, 192, 255] : List Int))).bind fun bt255 => (if y233.length < 140737488355328 then (some ((y233 ++ [(bt255.1) % 256]), bt255.2.1, bt255.2.2)) else (none))) else (if bt236.1 = 3 then (if (y233.length : Int) > 0 then ((spec_l1Below.f s0_0 bt236.2.1 bt236.2.2 (y233.length : Int)).bind fun bt261 => (if 0 ≤ bt261.1 then (if bt261.1 < (y233.length : Int) then ((spec_l1Below.f s0_0 bt261.2.1 bt261.2.2 8).bind fun bt265 => (if 0 ≤ bt265.1 then (some ((y233.set (bt261.1 : Int).toNat (Go.bits .xor .u8 (rd y233 bt261.1) (shl .u8 1 bt265.1))), bt265.2.1, bt265.2.2)) else (none))) else (none)) else (none))) else (some (y233, bt236.2.1, bt236.2.2))) else (some (y233, bt236.2.1, bt236.2.2)))))))) else (none))
def spec_l1Bent.T13 : Bool × List (List Nat × List Nat) := (true, [([], []), ([], []), ([], []), ([], []), ([2, 3], [2, 3]), ([4], [4]), ([], []), ([6], [6]), ([7], [7]), ([5, 8], [5, 8]), ([0, 1, 0, 1, 2, 3, 4, 5, 6, 7, 8, 9], [0, 1]), ([10, 9, 7, 0, 1, 2, 3, 4, 5, 6, 7, 8, 9], [9, 10])])
def spec_l1Bent.B13 : List Nat := [0, 0, 0, 0, 12, 28, 0, 64, 192, 508, 1023, 2047]
theorem spec_l1Bent.tab13 : rtab .any (opsOf Tryd.f80 13) = spec_l1Bent.T13 := by kernel_rfl
theorem spec_l1Bent.bits13 : waitsOk spec_l1Bent.T13.2 spec_l1Bent.B13 = true := by kernel_rfl
set_option maxHeartbeats 8000000 in
set_option maxRecDepth 100000 in
theorem spec_l1Bent.calls (g : Nat) (s0_0 : List Int) (s0_1 : Int) (s0_2 : Int) (A1 : Option Addr) (c1 : Nat) (l1 : List Int) (r1 : List Int) (r2 : Int) (r3 : Int) (w0 w : World) (hI : IsS111 w0 w g s0_0 s0_1 s0_2) (hB : Below w0.heap.size w0 w) (hr1 : Kd.C (Kd.int .u8) w A1 l1.length l1) (hc1 : l1.length ≤ c1) (hf1 : ∀ ad, A1 = some ad → 0 < l1.length → ad.block ≠ g) (h : spec_l1Bent.f s0_0 s0_1 s0_2 l1 = some (r1, r2, r3)) :
  Calls Tryd.prog 80 #[.pointer (some ⟨g, 0, none⟩), .slice A1 l1.length c1] w fun e w' => ∃ v0_ : Value, e = .returned (v0_) ∧ Kd.R (Kd.int .u8) 5 w' w.heap.size (fun _ => True) v0_ r1 ∧ IsS111 w0 w' g s0_0 r2 r3 ∧ Below w0.heap.size w0 w' ∧ KeepBut w w' g none := by
 have HR1 := aS hr1
 have HC1 := aS hc1
 clear hr1 hc1
 have HI0 := aS hI
 have HK := aS (KeepBut.refl w g none)
 have HL := aS hB.size
 clear hI
 have HW0 := aS hB.size
 have HB := aS hB
 clear hB
 have H : ((some (([] : List Int) : List Int)).bind fun y230 => (if y230.length + l1.length < 140737488355328 then ((some (y230 ++ l1 : List Int)).bind fun y233 => ((spec_l1Below.f s0_0 s0_1 s0_2 7).bind fun bt236 => (if bt236.1 = 0 then (if (y233.length : Int) > 0 then ((spec_l1Below.f s0_0 bt236.2.1 bt236.2.2 (y233.length : Int)).bind fun bt239 => ((spec_l1Below.f s0_0 bt239.2.1 bt239.2.2 256).bind fun bt242 => (if 0 ≤ bt239.1 then (if bt239.1 < (y233.length : Int) then (some ((y233.set (bt239.1 : Int).toNat ((bt242.1) % 256)), bt242.2.1, bt242.2.2)) else (none)) else (none)))) else (some (y233, bt236.2.1, bt236.2.2))) else (if bt236.1 = 1 then ((spec_l1Below.f s0_0 bt236.2.1 bt236.2.2 (wrap64 ((y233.length : Int) + 1))).bind fun bt246 => (if 0 ≤ bt246.1 then (if bt246.1 ≤ (y233.length : Int) then (some ((y233.take (bt246.1 : Int).toNat), bt246.2.1, bt246.2.2)) else (none)) else (none))) else (if bt236.1 = 2 then ((spec_l1Int.f s0_0 bt236.2.1 bt236.2.2 (([0, 1, 192, 255] : List Int))).bind fun bt255 => (if y233.length < 140737488355328 then (some ((y233 ++ [(bt255.1) % 256]), bt255.2.1, bt255.2.2)) else (none))) else (if bt236.1 = 3 then (if (y233.length : Int) > 0 then ((spec_l1Below.f s0_0 bt236.2.1 bt236.2.2 (y233.length : Int)).bind fun bt261 => (if 0 ≤ bt261.1 then (if bt261.1 < (y233.length : Int) then ((spec_l1Below.f s0_0 bt261.2.1 bt261.2.2 8).bind fun bt265 => (if 0 ≤ bt265.1 then (some ((y233.set (bt261.1 : Int).toNat (Go.bits .xor .u8 (rd y233 bt261.1) (shl .u8 1 bt265.1))), bt265.2.1, bt265.2.2)) else (none))) else (none)) else (none))) else (some (y233, bt236.2.1, bt236.2.2))) else (some (y233, bt236.2.1, bt236.2.2)))))))) else (none))) = some (r1, r2, r3) := h
 clear h
 obtain ⟨y230, hy_⟩ : ∃ y_ : List Int, y_ = (([] : List Int)) := ⟨_, rfl⟩
 replace H : (if y230.length + l1.length < 140737488355328 then ((some (y230 ++ l1 : List Int)).bind fun y233 => ((spec_l1Below.f s0_0 s0_1 s0_2 7).bind fun bt236 => (if bt236.1 = 0 then (if (y233.length : Int) > 0 then ((spec_l1Below.f s0_0 bt236.2.1 bt236.2.2 (y233.length : Int)).bind fun bt239 => ((spec_l1Below.f s0_0 bt239.2.1 bt239.2.2 256).bind fun bt242 => (if 0 ≤ bt239.1 then (if bt239.1 < (y233.length : Int) then (some ((y233.set (bt239.1 : Int).toNat ((bt242.1) % 256)), bt242.2.1, bt242.2.2)) else (none)) else (none)))) else (some (y233, bt236.2.1, bt236.2.2))) else (if bt236.1 = 1 then ((spec_l1Below.f s0_0 bt236.2.1 bt236.2.2 (wrap64 ((y233.length : Int) + 1))).bind fun bt246 => (if 0 ≤ bt246.1 then (if bt246.1 ≤ (y233.length : Int) then (some ((y233.take (bt246.1 : Int).toNat), bt246.2.1, bt246.2.2)) else (none)) else (none))) else (if bt236.1 = 2 then ((spec_l1Int.f s0_0 bt236.2.1 bt236.2.2 (([0, 1, 192, 255] : List Int))).bind fun bt255 => (if y233.length < 140737488355328 then (some ((y233 ++ [(bt255.1) % 256]), bt255.2.1, bt255.2.2)) else (none))) else (if bt236.1 = 3 then (if (y233.length : Int) > 0 then ((spec_l1Below.f s0_0 bt236.2.1 bt236.2.2 (y233.length : Int)).bind fun bt261 => (if 0 ≤ bt261.1 then (if bt261.1 < (y233.length : Int) then ((spec_l1Below.f s0_0 bt261.2.1 bt261.2.2 8).bind fun bt265 => (if 0 ≤ bt265.1 then (some ((y233.set (bt261.1 : Int).toNat (Go.bits .xor .u8 (rd y233 bt261.1) (shl .u8 1 bt265.1))), bt265.2.1, bt265.2.2)) else (none))) else (none)) else (none))) else (some (y233, bt236.2.1, bt236.2.2))) else (some (y233, bt236.2.1, bt236.2.2)))))))) else (none)) = some (r1, r2, r3) := jD
 have Ny230 := aS hy_
 clear hy_
 by_cases c3 : y230.length + l1.length < 140737488355328
 ·rw [if_pos c3] at H
  have LMc3 := aS c3
  clear c3
  obtain ⟨y233, hy_⟩ : ∃ y_ : List Int, y_ = (y230 ++ l1) := ⟨_, rfl⟩
  replace H : ((spec_l1Below.f s0_0 s0_1 s0_2 7).bind fun bt236 => (if bt236.1 = 0 then (if (y233.length : Int) > 0 then ((spec_l1Below.f s0_0 bt236.2.1 bt236.2.2 (y233.length : Int)).bind fun bt239 => ((spec_l1Below.f s0_0 bt239.2.1 bt239.2.2 256).bind fun bt242 => (if 0 ≤ bt239.1 then (if bt239.1 < (y233.length : Int) then (some ((y233.set (bt239.1 : Int).toNat ((bt242.1) % 256)), bt242.2.1, bt242.2.2)) else (none)) else (none)))) else (some (y233, bt236.2.1, bt236.2.2))) else (if bt236.1 = 1 then ((spec_l1Below.f s0_0 bt236.2.1 bt236.2.2 (wrap64 ((y233.length : Int) + 1))).bind fun bt246 => (if 0 ≤ bt246.1 then (if bt246.1 ≤ (y233.length : Int) then (some ((y233.take (bt246.1 : Int).toNat), bt246.2.1, bt246.2.2)) else (none)) else (none))) else (if bt236.1 = 2 then ((spec_l1Int.f s0_0 bt236.2.1 bt236.2.2 (([0, 1, 192, 255] : List Int))).bind fun bt255 => (if y233.length < 140737488355328 then (some ((y233 ++ [(bt255.1) % 256]), bt255.2.1, bt255.2.2)) else (none))) else (if bt236.1 = 3 then (if (y233.length : Int) > 0 then ((spec_l1Below.f s0_0 bt236.2.1 bt236.2.2 (y233.length : Int)).bind fun bt261 => (if 0 ≤ bt261.1 then (if bt261.1 < (y233.length : Int) then ((spec_l1Below.f s0_0 bt261.2.1 bt261.2.2 8).bind fun bt265 => (if 0 ≤ bt265.1 then (some ((y233.set (bt261.1 : Int).toNat (Go.bits .xor .u8 (rd y233 bt261.1) (shl .u8 1 bt265.1))), bt265.2.1, bt265.2.2)) else (none))) else (none)) else (none))) else (some (y233, bt236.2.1, bt236.2.2))) else (some (y233, bt236.2.1, bt236.2.2))))))) = some (r1, r2, r3) := jD
  have Ny233 := aS hy_
  clear hy_
  replace H := Option.bind_eq_some_iff.mp H
  obtain ⟨⟨t236, t237, t238⟩, A4, H⟩ := H
  try dsimp only at H
  replace A4 := aS A4
  by_cases c5 : t236 = 0
  ·rw [if_pos c5] at H
   have c5b0 : (t236 == 0) = true := beq_iff_eq.mpr c5
   have c5b1 : (t236 != 0) = false := bne_eq_false_iff_eq.mpr c5
   clear c5
   by_cases c6 : (y233.length : Int) > 0
   ·rw [if_pos c6] at H
    have c6b0 : decide (0 < (y233.length : Int)) = true := decide_eq_true c6
    have c6b1 : decide (0 < y233.length) = true := decide_eq_true (by omega)
    clear c6
    replace H := Option.bind_eq_some_iff.mp H
    obtain ⟨⟨t239, t240, t241⟩, A7, H⟩ := H
    try dsimp only at H
    replace A7 := aS A7
    replace H := Option.bind_eq_some_iff.mp H
    obtain ⟨⟨t242, t243, t244⟩, A8, H⟩ := H
    try dsimp only at H
    replace A8 := aS A8
    by_cases c9 : 0 ≤ t239
    ·rw [if_pos c9] at H
     have c9b0 : decide (0 ≤ t239) = true := decide_eq_true c9
     clear c9
     by_cases c10 : t239 < (y233.length : Int)
     ·rw [if_pos c10] at H
      have c10b0 : decide (t239 < (y233.length : Int)) = true := decide_eq_true c10
      clear c10
      obtain ⟨y245, hy_⟩ : ∃ y_ : List Int, y_ = (y233.set (t239 : Int).toNat ((t242) % 256)) := ⟨_, rfl⟩
      replace H : (some (y245, t243, t244)) = some (r1, r2, r3) := jD
      have Ny245 := aS hy_
      clear hy_
      simp only [Option.some.injEq, Prod.mk.injEq] at H
      obtain ⟨rfl, rfl, rfl⟩ := H
      go_enter Tryd.func80, Tryd.ntmps80
      go_wp2_with (first | ((with_reducible refine gate_dst (N := 7) rfl ?_); refine Kd.R_lit (Kd.int .u8) _ 5 ?hg (N := 7) ?hd (xs := ([] : List Int)) (inner := []) (ok := fun _ => True) (okp := fun _ => True) ?hr ?hp (fun _ hk => hk) trivial (Below.refl _ _) (Nat.le_refl _) (by simp) ?_; (case hd => rfl); (case hg => rfl); (case hr => first | (go_simp; done) | (go_simp; rfl)); (case hp => exact (Reps.none _ _)); intro v231 w12 ho13 hb hg_ hnew_; clear hg_ hnew_; (first | rw [← Ny230.out] at ho13 | (simp only [Int.reduceToNat] at ho13; rw [← Ny230.out] at ho13)); have n0_ := aS (Kd.R_lower ho13 (keep_size (w := w) (g := g) (row := none) (kS0 HK.out))); have n1_ := aS (IsS111.below (IsS111.iS0 HI0.out) hb); have n2_ := aS (KeepBut.trans (kS0 HK.out) (KeepBut.of_below hb g none) (.inl rfl)); have n3_ := aS (below_step (by exact wS1 HB.out (IsS111.ge HI0.out)) hb); clear HI0 HK HB; revert n0_ n1_ n2_ n3_; intro HO232 HI0 HK HB; clear hb ho13) | ((with_reducible refine gate_builtin (b := .append) (xs := #[.tmp 7, .tmp 8]) rfl ?_); at_builtin; refine Kd.R_append_rows (Kd.int .u8) w.heap.size rfl (.tmp 7) (.tmp 8) 22 5 (.int .u8 0) 1 rfl Tryd.underlying22 info5 rfl (by decide) (by omega) v231 y230 l1 _ _ _ (fun _ => True) (fun _ => False) rfl rfl ?aO ?aR (fun _ _ h => h) (fun _ h => h.elim) ?aF (Below.refl _ _) ?aS ?aL ?_; (case aR => exact Kd.C_keep 0 HR1.out (kS0 HK.out) hf1); (case aF => exact (fun _ _ => trivial)); (case aO => exact (rU HO232.out)); (case aS => exact (keep_size (w := w) (g := g) (row := none) (kS0 HK.out))); (case aL => have := LMc3.out; omega); intro v234 w14 ho hb hg hat; rw [← Ny233.out] at ho; have n0_ := aS (IsS111.grown (IsS111.iS0 HI0.out) hg (IsS111.own_ne HI0.out HO232.out (by decide))); have n1_ := aS (below_weaken (by exact wS1 HB.out (IsS111.ge HI0.out)) HL.out hb); have n2_ := aS (KeepBut.trans (kS0 HK.out) (KeepBut.of_grown hg g) (Kd.R_base2 HO232.out)); have n3_ := aS (ho); clear HI0 HB HK HO232; revert n0_ n1_ n2_ n3_; intro HI0 HB HK HO235; clear ho hb hg hat) | ((with_reducible refine gate_callee (f := 78) rfl ?_); refine goesL_ (some 11) rfl rfl Tryd.func78 jK rfl #[.pointer (some ⟨g, 0, none⟩), .int .i64 7] rfl jA ?_; (with_reducible refine (spec_l1Below.calls g s0_0 s0_1 s0_2 7 t236 t237 t238 w0 _ ?side1 ?side2 A4.out).mono ?_); (case side1 => exact IsS111.iS0 HI0.out); (case side2 => exact wS1 HB.out (IsS111.ge HI0.out)); rintro e w15 ⟨rfl, hi, hb, hk⟩; refine ⟨_, rfl, ?_⟩; have n0_ := aS (Kd.R_mono (Kd.R_keep (IsS111.apart (show IsS111 w0 _ g s0_0 s0_1 s0_2 from by exact IsS111.iS0 HI0.out) (rU HO235.out) (by decide)) hk (fun _ h => h.2)) (fun _ h => h.1)); have n1_ := aS (KeepBut.trans (kS0 HK.out) hk (.inl rfl)); have n2_ := aS (hb); have n3_ := aS (hi); clear HO235 HK HB HI0; revert n0_ n1_ n2_ n3_; intro HO235 HK HB HI0; clear hi hb hk; obtain ⟨Ao16, co16, eo16⟩ := Kd.R_slice HO235.out; subst eo16) | ((with_reducible refine gate_callee (f := 78) rfl ?_); refine goesL_ (some 21) rfl rfl Tryd.func78 jK rfl #[.pointer (some ⟨g, 0, none⟩), .int .i64 (y233.length : Int)] rfl jA ?_; (with_reducible refine (spec_l1Below.calls g s0_0 t237 t238 (y233.length : Int) t239 t240 t241 w0 _ ?side1 ?side2 A7.out).mono ?_); (case side1 => exact IsS111.iS0 HI0.out); (case side2 => exact wS1 HB.out (IsS111.ge HI0.out)); rintro e w17 ⟨rfl, hi, hb, hk⟩; refine ⟨_, rfl, ?_⟩; have n0_ := aS (Kd.R_mono (Kd.R_keep (IsS111.apart (show IsS111 w0 _ g s0_0 t237 t238 from by exact IsS111.iS0 HI0.out) (rU HO235.out) (by decide)) hk (fun _ h => h.2)) (fun _ h => h.1)); have n1_ := aS (KeepBut.trans (kS0 HK.out) hk (.inl rfl)); have n2_ := aS (hb); have n3_ := aS (hi); clear HO235 HK HB HI0; revert n0_ n1_ n2_ n3_; intro HO235 HK HB HI0; clear hi hb hk) | ((with_reducible refine gate_callee (f := 78) rfl ?_); refine goesL_ (some 23) rfl rfl Tryd.func78 jK rfl #[.pointer (some ⟨g, 0, none⟩), .int .i64 256] rfl jA ?_; (with_reducible refine (spec_l1Below.calls g s0_0 t240 t241 256 t242 t243 t244 w0 _ ?side1 ?side2 A8.out).mono ?_); (case side1 => exact IsS111.iS0 HI0.out); (case side2 => exact wS1 HB.out (IsS111.ge HI0.out)); rintro e w18 ⟨rfl, hi, hb, hk⟩; refine ⟨_, rfl, ?_⟩; have n0_ := aS (Kd.R_mono (Kd.R_keep (IsS111.apart (show IsS111 w0 _ g s0_0 t240 t241 from by exact IsS111.iS0 HI0.out) (rU HO235.out) (by decide)) hk (fun _ h => h.2)) (fun _ h => h.1)); have n1_ := aS (KeepBut.trans (kS0 HK.out) hk (.inl rfl)); have n2_ := aS (hb); have n3_ := aS (hi); clear HO235 HK HB HI0; revert n0_ n1_ n2_ n3_; intro HO235 HK HB HI0; clear hi hb hk; have p11 : 0 ≤ (t239 : Int) := of_decide_eq_true jC; have q11 : (t239 : Int) < ((y233.length : Int) : Int) := of_decide_eq_true jC; obtain ⟨go11, co11, eo11, gb11, gl11, cl11, HG11⟩ := Kd.R_form HO235.out (by omega); (first | cases eo11 | (injection eo11 with ea_ en_ ec_; (first | subst ea_ | (injection ea_ with ea_; subst ea_)); subst ec_; clear en_)); have GB11 := aS gb11; have GG11 := aS HG11; clear gb11 gl11 HG11; obtain ⟨hx11_0, hf11_0⟩ := Kd.R_celln 0 HO235.out (t239 : Int) p11 q11; replace p11 := eq_true p11; replace q11 := eq_true q11; obtain ⟨hy19_, hz19_⟩ := Kd.R_celln 0 HO235.out (t239 : Int) (of_decide_eq_true jC) (of_decide_eq_true jC); have HP19 := Kd.R_putg HO235.out (t239 : Int) ((t242) % 256)) | ((with_reducible refine gate_store (t := 5) (p := 25) rfl ?_); refine store_event (t := 5) (p := 25) (v := ?vo_w20) (w1 := (w18.setCell ⟨go11, (t239 : Int).toNat, none⟩ (.int .u8 ((t242) % 256)))) ?hg ?ho ?hn ?hr ?_; (case ho => rfl); (case hg => rfl); (case hn => rfl); (case hr => first | (go_simp; done) | (go_simp; rfl)); intro w20 hw; have hg : w18.grownBy w20 (some go11) := (by rw [hw]; exact HP19.2); have hp_ : Kd.R (Kd.int .u8) 5 w20 w.heap.size (fun _ => True) (.slice (some ⟨go11, 0, none⟩) y233.length co16) y245 := (by rw [hw, Ny245.out]; exact HP19.1); clear HP19; have n0_ := aS (IsS111.grown (IsS111.iS0 HI0.out) hg (IsS111.own_ne HI0.out HO235.out (by decide))); have n1_ := aS (hp_); have n2_ := aS ((by rw [hw]; exact below_set (HB.out) (Nat.le_trans HL.out GB11.out) : Below w0.heap.size w0 w20)); have n3_ := aS (KeepBut.trans (kS0 HK.out) (KeepBut.of_grown hg g) (Kd.R_base2 HO235.out)); clear HI0 HO235 HB HK; revert n0_ n1_ n2_ n3_; intro HI0 HO235 HB HK; clear hg hw hp_))
      go_ret
      exact ⟨_, jE, by (with_reducible repeat (first | apply Kd.R_alloc | apply Kd.R_drewN | apply Kd.R_drew)); exact HO235.out, by exact IsS111.iS0 HI0.out, by exact wS1 HB.out (IsS111.ge HI0.out), by exact kS0 HK.out⟩
     ·rw [if_neg c10] at H
      exact absurd H (by simp)
    ·rw [if_neg c9] at H
     exact absurd H (by simp)
   ·rw [if_neg c6] at H
    have c6b0 : decide (0 < (y233.length : Int)) = false := decide_eq_false c6
    have c6b1 : decide (0 < y233.length) = false := decide_eq_false (by omega)
    clear c6
    simp only [Option.some.injEq, Prod.mk.injEq] at H
    obtain ⟨rfl, rfl, rfl⟩ := H
    go_enter Tryd.func80, Tryd.ntmps80
    go_wp2_with (first | ((with_reducible refine gate_dst (N := 7) rfl ?_); refine Kd.R_lit (Kd.int .u8) _ 5 ?hg (N := 7) ?hd (xs := ([] : List Int)) (inner := []) (ok := fun _ => True) (okp := fun _ => True) ?hr ?hp (fun _ hk => hk) trivial (Below.refl _ _) (Nat.le_refl _) (by simp) ?_; (case hd => rfl); (case hg => rfl); (case hr => first | (go_simp; done) | (go_simp; rfl)); (case hp => exact (Reps.none _ _)); intro v231 w21 ho22 hb hg_ hnew_; clear hg_ hnew_; (first | rw [← Ny230.out] at ho22 | (simp only [Int.reduceToNat] at ho22; rw [← Ny230.out] at ho22)); have n0_ := aS (Kd.R_lower ho22 (keep_size (w := w) (g := g) (row := none) (kS0 HK.out))); have n1_ := aS (IsS111.below (IsS111.iS0 HI0.out) hb); have n2_ := aS (KeepBut.trans (kS0 HK.out) (KeepBut.of_below hb g none) (.inl rfl)); have n3_ := aS (below_step (by exact wS1 HB.out (IsS111.ge HI0.out)) hb); clear HI0 HK HB; revert n0_ n1_ n2_ n3_; intro HO232 HI0 HK HB; clear hb ho22) | ((with_reducible refine gate_builtin (b := .append) (xs := #[.tmp 7, .tmp 8]) rfl ?_); at_builtin; refine Kd.R_append_rows (Kd.int .u8) w.heap.size rfl (.tmp 7) (.tmp 8) 22 5 (.int .u8 0) 1 rfl Tryd.underlying22 info5 rfl (by decide) (by omega) v231 y230 l1 _ _ _ (fun _ => True) (fun _ => False) rfl rfl ?aO ?aR (fun _ _ h => h) (fun _ h => h.elim) ?aF (Below.refl _ _) ?aS ?aL ?_; (case aR => exact Kd.C_keep 0 HR1.out (kS0 HK.out) hf1); (case aF => exact (fun _ _ => trivial)); (case aO => exact (rU HO232.out)); (case aS => exact (keep_size (w := w) (g := g) (row := none) (kS0 HK.out))); (case aL => have := LMc3.out; omega); intro v234 w23 ho hb hg hat; rw [← Ny233.out] at ho; have n0_ := aS (IsS111.grown (IsS111.iS0 HI0.out) hg (IsS111.own_ne HI0.out HO232.out (by decide))); have n1_ := aS (below_weaken (by exact wS1 HB.out (IsS111.ge HI0.out)) HL.out hb); have n2_ := aS (KeepBut.trans (kS0 HK.out) (KeepBut.of_grown hg g) (Kd.R_base2 HO232.out)); have n3_ := aS (ho); clear HI0 HB HK HO232; revert n0_ n1_ n2_ n3_; intro HI0 HB HK HO235; clear ho hb hg hat) | ((with_reducible refine gate_callee (f := 78) rfl ?_); refine goesL_ (some 11) rfl rfl Tryd.func78 jK rfl #[.pointer (some ⟨g, 0, none⟩), .int .i64 7] rfl jA ?_; (with_reducible refine (spec_l1Below.calls g s0_0 s0_1 s0_2 7 t236 t237 t238 w0 _ ?side1 ?side2 A4.out).mono ?_); (case side1 => exact IsS111.iS0 HI0.out); (case side2 => exact wS1 HB.out (IsS111.ge HI0.out)); rintro e w24 ⟨rfl, hi, hb, hk⟩; refine ⟨_, rfl, ?_⟩; have n0_ := aS (Kd.R_mono (Kd.R_keep (IsS111.apart (show IsS111 w0 _ g s0_0 s0_1 s0_2 from by exact IsS111.iS0 HI0.out) (rU HO235.out) (by decide)) hk (fun _ h => h.2)) (fun _ h => h.1)); have n1_ := aS (KeepBut.trans (kS0 HK.out) hk (.inl rfl)); have n2_ := aS (hb); have n3_ := aS (hi); clear HO235 HK HB HI0; revert n0_ n1_ n2_ n3_; intro HO235 HK HB HI0; clear hi hb hk; obtain ⟨Ao25, co25, eo25⟩ := Kd.R_slice HO235.out; subst eo25))
    go_ret
    exact ⟨_, jE, by (with_reducible repeat (first | apply Kd.R_alloc | apply Kd.R_drewN | apply Kd.R_drew)); exact HO235.out, by exact IsS111.iS0 HI0.out, by exact wS1 HB.out (IsS111.ge HI0.out), by exact kS0 HK.out⟩
  ·rw [if_neg c5] at H
   have c5b0 : (t236 == 0) = false := beq_eq_false_iff_ne.mpr c5
   have c5b1 : (t236 != 0) = true := bne_iff_ne.mpr c5
   by_cases c26 : t236 = 1
   ·rw [if_pos c26] at H
    have c26b0 : (t236 == 1) = true := beq_iff_eq.mpr c26
    have c26b1 : (t236 != 1) = false := bne_eq_false_iff_eq.mpr c26
    clear c26
    replace H := Option.bind_eq_some_iff.mp H
    obtain ⟨⟨t246, t247, t248⟩, A27, H⟩ := H
    try dsimp only at H
    replace A27 := aS A27
    by_cases c28 : 0 ≤ t246
    ·rw [if_pos c28] at H
     have c28b0 := eq_true c28
     have c28b1 : decide (0 ≤ t246) = true := decide_eq_true c28
     clear c28
     by_cases c29 : t246 ≤ (y233.length : Int)
     ·rw [if_pos c29] at H
      have c29b0 := eq_true c29
      have c29b1 : decide (t246 ≤ (y233.length : Int)) = true := decide_eq_true c29
      clear c29
      obtain ⟨y249, hy_⟩ : ∃ y_ : List Int, y_ = (y233.take (t246 : Int).toNat) := ⟨_, rfl⟩
      replace H : (some (y249, t247, t248)) = some (r1, r2, r3) := jD
      have Ny249 := aS hy_
      clear hy_
      simp only [Option.some.injEq, Prod.mk.injEq] at H
      obtain ⟨rfl, rfl, rfl⟩ := H
      go_enter Tryd.func80, Tryd.ntmps80
      go_wp2_with (first | ((with_reducible refine gate_dst (N := 7) rfl ?_); refine Kd.R_lit (Kd.int .u8) _ 5 ?hg (N := 7) ?hd (xs := ([] : List Int)) (inner := []) (ok := fun _ => True) (okp := fun _ => True) ?hr ?hp (fun _ hk => hk) trivial (Below.refl _ _) (Nat.le_refl _) (by simp) ?_; (case hd => rfl); (case hg => rfl); (case hr => first | (go_simp; done) | (go_simp; rfl)); (case hp => exact (Reps.none _ _)); intro v231 w30 ho31 hb hg_ hnew_; clear hg_ hnew_; (first | rw [← Ny230.out] at ho31 | (simp only [Int.reduceToNat] at ho31; rw [← Ny230.out] at ho31)); have n0_ := aS (Kd.R_lower ho31 (keep_size (w := w) (g := g) (row := none) (kS0 HK.out))); have n1_ := aS (IsS111.below (IsS111.iS0 HI0.out) hb); have n2_ := aS (KeepBut.trans (kS0 HK.out) (KeepBut.of_below hb g none) (.inl rfl)); have n3_ := aS (below_step (by exact wS1 HB.out (IsS111.ge HI0.out)) hb); clear HI0 HK HB; revert n0_ n1_ n2_ n3_; intro HO232 HI0 HK HB; clear hb ho31) | ((with_reducible refine gate_builtin (b := .append) (xs := #[.tmp 7, .tmp 8]) rfl ?_); at_builtin; refine Kd.R_append_rows (Kd.int .u8) w.heap.size rfl (.tmp 7) (.tmp 8) 22 5 (.int .u8 0) 1 rfl Tryd.underlying22 info5 rfl (by decide) (by omega) v231 y230 l1 _ _ _ (fun _ => True) (fun _ => False) rfl rfl ?aO ?aR (fun _ _ h => h) (fun _ h => h.elim) ?aF (Below.refl _ _) ?aS ?aL ?_; (case aR => exact Kd.C_keep 0 HR1.out (kS0 HK.out) hf1); (case aF => exact (fun _ _ => trivial)); (case aO => exact (rU HO232.out)); (case aS => exact (keep_size (w := w) (g := g) (row := none) (kS0 HK.out))); (case aL => have := LMc3.out; omega); intro v234 w32 ho hb hg hat; rw [← Ny233.out] at ho; have n0_ := aS (IsS111.grown (IsS111.iS0 HI0.out) hg (IsS111.own_ne HI0.out HO232.out (by decide))); have n1_ := aS (below_weaken (by exact wS1 HB.out (IsS111.ge HI0.out)) HL.out hb); have n2_ := aS (KeepBut.trans (kS0 HK.out) (KeepBut.of_grown hg g) (Kd.R_base2 HO232.out)); have n3_ := aS (ho); clear HI0 HB HK HO232; revert n0_ n1_ n2_ n3_; intro HI0 HB HK HO235; clear ho hb hg hat) | ((with_reducible refine gate_callee (f := 78) rfl ?_); refine goesL_ (some 11) rfl rfl Tryd.func78 jK rfl #[.pointer (some ⟨g, 0, none⟩), .int .i64 7] rfl jA ?_; (with_reducible refine (spec_l1Below.calls g s0_0 s0_1 s0_2 7 t236 t237 t238 w0 _ ?side1 ?side2 A4.out).mono ?_); (case side1 => exact IsS111.iS0 HI0.out); (case side2 => exact wS1 HB.out (IsS111.ge HI0.out)); rintro e w33 ⟨rfl, hi, hb, hk⟩; refine ⟨_, rfl, ?_⟩; have n0_ := aS (Kd.R_mono (Kd.R_keep (IsS111.apart (show IsS111 w0 _ g s0_0 s0_1 s0_2 from by exact IsS111.iS0 HI0.out) (rU HO235.out) (by decide)) hk (fun _ h => h.2)) (fun _ h => h.1)); have n1_ := aS (KeepBut.trans (kS0 HK.out) hk (.inl rfl)); have n2_ := aS (hb); have n3_ := aS (hi); clear HO235 HK HB HI0; revert n0_ n1_ n2_ n3_; intro HO235 HK HB HI0; clear hi hb hk; obtain ⟨Ao34, co34, eo34⟩ := Kd.R_slice HO235.out; subst eo34) | ((with_reducible refine gate_callee (f := 78) rfl ?_); refine goesL_ (some 33) rfl rfl Tryd.func78 jK rfl #[.pointer (some ⟨g, 0, none⟩), .int .i64 (wrap64 ((y233.length : Int) + 1))] rfl jA ?_; (with_reducible refine (spec_l1Below.calls g s0_0 t237 t238 (wrap64 ((y233.length : Int) + 1)) t246 t247 t248 w0 _ ?side1 ?side2 A27.out).mono ?_); (case side1 => exact IsS111.iS0 HI0.out); (case side2 => exact wS1 HB.out (IsS111.ge HI0.out)); rintro e w35 ⟨rfl, hi, hb, hk⟩; refine ⟨_, rfl, ?_⟩; have n0_ := aS (Kd.R_mono (Kd.R_keep (IsS111.apart (show IsS111 w0 _ g s0_0 t237 t238 from by exact IsS111.iS0 HI0.out) (rU HO235.out) (by decide)) hk (fun _ h => h.2)) (fun _ h => h.1)); have n1_ := aS (KeepBut.trans (kS0 HK.out) hk (.inl rfl)); have n2_ := aS (hb); have n3_ := aS (hi); clear HO235 HK HB HI0; revert n0_ n1_ n2_ n3_; intro HO235 HK HB HI0; clear hi hb hk; have q36 : (t246 : Int) ≤ ((y233.length : Int) : Int) := of_decide_eq_true jC; obtain ⟨i036, hi036, _, hsz36, _⟩ := info_parts info5; have hcut36 := cut_to (P := Tryd.prog) 22 5 .i64 Tryd.underlying22 hi036 Ao34 y233.length co34 t246 (of_decide_eq_true jC) q36 (Kd.R_reads' HO235.out).2.1; have hr36 := Kd.R_take (m := (t246 : Int).toNat) HO235.out (by omega); have hy36 : y249.length = (t246 : Int).toNat := (by rw [Ny249.out, List.length_take]; omega); rw [← Ny249.out] at hr36; rw [← hy36] at hr36 hcut36; clear hy36 hi036 hsz36 HO235; have HO251 := aS hr36; clear hr36; replace q36 := eq_true q36))
      go_ret
      exact ⟨_, jE, by (with_reducible repeat (first | apply Kd.R_alloc | apply Kd.R_drewN | apply Kd.R_drew)); exact HO251.out, by exact IsS111.iS0 HI0.out, by exact wS1 HB.out (IsS111.ge HI0.out), by exact kS0 HK.out⟩
     ·rw [if_neg c29] at H
      exact absurd H (by simp)
    ·rw [if_neg c28] at H
     exact absurd H (by simp)
   ·rw [if_neg c26] at H
    have c26b0 : (t236 == 1) = false := beq_eq_false_iff_ne.mpr c26
    have c26b1 : (t236 != 1) = true := bne_iff_ne.mpr c26
    by_cases c37 : t236 = 2
    ·rw [if_pos c37] at H
     have c37b0 : (t236 == 2) = true := beq_iff_eq.mpr c37
     have c37b1 : (t236 != 2) = false := bne_eq_false_iff_eq.mpr c37
     clear c37
     obtain ⟨y252, hy_⟩ : ∃ y_ : List Int, y_ = (([0, 1, 192, 255] : List Int)) := ⟨_, rfl⟩
     rw [← hy_] at H
     have Ny252 := aS hy_
     clear hy_
     replace H := Option.bind_eq_some_iff.mp H
     obtain ⟨⟨t255, t256, t257⟩, A38, H⟩ := H
     try dsimp only at H
     replace A38 := aS A38
     by_cases c39 : y233.length < 140737488355328
     ·rw [if_pos c39] at H
      have LMc39 := aS c39
      clear c39
      obtain ⟨y258, hy_⟩ : ∃ y_ : List Int, y_ = (y233 ++ [(t255) % 256]) := ⟨_, rfl⟩
      replace H : (some (y258, t256, t257)) = some (r1, r2, r3) := jD
      have Ny258 := aS hy_
      clear hy_
      simp only [Option.some.injEq, Prod.mk.injEq] at H
      obtain ⟨rfl, rfl, rfl⟩ := H
      go_enter Tryd.func80, Tryd.ntmps80
      go_wp2_with (first | ((with_reducible refine gate_dst (N := 7) rfl ?_); refine Kd.R_lit (Kd.int .u8) _ 5 ?hg (N := 7) ?hd (xs := ([] : List Int)) (inner := []) (ok := fun _ => True) (okp := fun _ => True) ?hr ?hp (fun _ hk => hk) trivial (Below.refl _ _) (Nat.le_refl _) (by simp) ?_; (case hd => rfl); (case hg => rfl); (case hr => first | (go_simp; done) | (go_simp; rfl)); (case hp => exact (Reps.none _ _)); intro v231 w40 ho41 hb hg_ hnew_; clear hg_ hnew_; (first | rw [← Ny230.out] at ho41 | (simp only [Int.reduceToNat] at ho41; rw [← Ny230.out] at ho41)); have n0_ := aS (Kd.R_lower ho41 (keep_size (w := w) (g := g) (row := none) (kS0 HK.out))); have n1_ := aS (IsS111.below (IsS111.iS0 HI0.out) hb); have n2_ := aS (KeepBut.trans (kS0 HK.out) (KeepBut.of_below hb g none) (.inl rfl)); have n3_ := aS (below_step (by exact wS1 HB.out (IsS111.ge HI0.out)) hb); clear HI0 HK HB; revert n0_ n1_ n2_ n3_; intro HO232 HI0 HK HB; clear hb ho41) | ((with_reducible refine gate_builtin (b := .append) (xs := #[.tmp 7, .tmp 8]) rfl ?_); at_builtin; refine Kd.R_append_rows (Kd.int .u8) w.heap.size rfl (.tmp 7) (.tmp 8) 22 5 (.int .u8 0) 1 rfl Tryd.underlying22 info5 rfl (by decide) (by omega) v231 y230 l1 _ _ _ (fun _ => True) (fun _ => False) rfl rfl ?aO ?aR (fun _ _ h => h) (fun _ h => h.elim) ?aF (Below.refl _ _) ?aS ?aL ?_; (case aR => exact Kd.C_keep 0 HR1.out (kS0 HK.out) hf1); (case aF => exact (fun _ _ => trivial)); (case aO => exact (rU HO232.out)); (case aS => exact (keep_size (w := w) (g := g) (row := none) (kS0 HK.out))); (case aL => have := LMc3.out; omega); intro v234 w42 ho hb hg hat; rw [← Ny233.out] at ho; have n0_ := aS (IsS111.grown (IsS111.iS0 HI0.out) hg (IsS111.own_ne HI0.out HO232.out (by decide))); have n1_ := aS (below_weaken (by exact wS1 HB.out (IsS111.ge HI0.out)) HL.out hb); have n2_ := aS (KeepBut.trans (kS0 HK.out) (KeepBut.of_grown hg g) (Kd.R_base2 HO232.out)); have n3_ := aS (ho); clear HI0 HB HK HO232; revert n0_ n1_ n2_ n3_; intro HI0 HB HK HO235; clear ho hb hg hat) | ((with_reducible refine gate_callee (f := 78) rfl ?_); refine goesL_ (some 11) rfl rfl Tryd.func78 jK rfl #[.pointer (some ⟨g, 0, none⟩), .int .i64 7] rfl jA ?_; (with_reducible refine (spec_l1Below.calls g s0_0 s0_1 s0_2 7 t236 t237 t238 w0 _ ?side1 ?side2 A4.out).mono ?_); (case side1 => exact IsS111.iS0 HI0.out); (case side2 => exact wS1 HB.out (IsS111.ge HI0.out)); rintro e w43 ⟨rfl, hi, hb, hk⟩; refine ⟨_, rfl, ?_⟩; have n0_ := aS (Kd.R_mono (Kd.R_keep (IsS111.apart (show IsS111 w0 _ g s0_0 s0_1 s0_2 from by exact IsS111.iS0 HI0.out) (rU HO235.out) (by decide)) hk (fun _ h => h.2)) (fun _ h => h.1)); have n1_ := aS (KeepBut.trans (kS0 HK.out) hk (.inl rfl)); have n2_ := aS (hb); have n3_ := aS (hi); clear HO235 HK HB HI0; revert n0_ n1_ n2_ n3_; intro HO235 HK HB HI0; clear hi hb hk) | ((with_reducible refine gate_dst (N := 39) rfl ?_); refine Kd.R_lit (Kd.int .i64) _ 3 ?hg (N := 39) ?hd (xs := ([0, 1, 192, 255] : List Int)) (inner := [.int .i64 0, .int .i64 1, .int .i64 192, .int .i64 255]) (ok := fun _ => True) (okp := fun _ => True) ?hr ?hp (fun _ hk => hk) trivial (Below.refl _ _) (Nat.le_refl _) (by simp) ?_; (case hd => rfl); (case hg => rfl); (case hr => first | (go_simp; done) | (go_simp; rfl)); (case hp => exact (Reps.one (show Kd.M (Kd.int .i64) _ _ _ 0 [.int .i64 0] from rfl) (Reps.one (show Kd.M (Kd.int .i64) _ _ _ 1 [.int .i64 1] from rfl) (Reps.one (show Kd.M (Kd.int .i64) _ _ _ 192 [.int .i64 192] from rfl) (Reps.one (show Kd.M (Kd.int .i64) _ _ _ 255 [.int .i64 255] from rfl) (Reps.none _ _)))))); intro v253 w44 ho45 hb hg_ hnew_; clear hg_ hnew_; (first | rw [← Ny252.out] at ho45 | (simp only [Int.reduceToNat] at ho45; rw [← Ny252.out] at ho45)); have n0_ := aS (Kd.R_below (rU HO235.out) hb); have n1_ := aS (Kd.R_lower ho45 (keep_size (w := w) (g := g) (row := none) (kS0 HK.out))); have n2_ := aS (IsS111.below (IsS111.iS0 HI0.out) hb); have n3_ := aS (KeepBut.trans (kS0 HK.out) (KeepBut.of_below hb g none) (.inl rfl)); have n4_ := aS (below_step (by exact wS1 HB.out (IsS111.ge HI0.out)) hb); clear HO235 HI0 HK HB; revert n0_ n1_ n2_ n3_ n4_; intro HO235 HO254 HI0 HK HB; clear hb ho45; obtain ⟨Ao46, co46, eo46⟩ := Kd.R_slice HO254.out; subst eo46) | ((with_reducible refine gate_callee (f := 81) rfl ?_); refine goesL_ (some 40) rfl rfl Tryd.func81 jK rfl #[.pointer (some ⟨g, 0, none⟩), .slice Ao46 y252.length co46] rfl jA ?_; (with_reducible refine (spec_l1Int.calls g s0_0 t237 t238 _ _ y252 t255 t256 t257 w0 _ ?side1 ?side2 ?side3 ?side4 ?side5 A38.out).mono ?_); (case side1 => exact IsS111.iS0 HI0.out); (case side2 => exact wS1 HB.out (IsS111.ge HI0.out)); (case side3 => exact cU ((Kd.R_reads' HO254.out).2.2)); (case side4 => exact (Kd.R_reads' HO254.out).2.1); (case side5 => exact far_slice (IsS111.own_ne HI0.out HO254.out (by decide))); rintro e w47 ⟨rfl, hi, hb, hk⟩; refine ⟨_, rfl, ?_⟩; have n0_ := aS (Kd.R_mono (Kd.R_keep (IsS111.apart (show IsS111 w0 _ g s0_0 t237 t238 from by exact IsS111.iS0 HI0.out) (rU HO235.out) (by decide)) hk (fun _ h => h.2)) (fun _ h => h.1)); have n1_ := aS (Kd.R_mono (Kd.R_keep (IsS111.apart (show IsS111 w0 _ g s0_0 t237 t238 from by exact IsS111.iS0 HI0.out) (rU HO254.out) (by decide)) hk (fun _ h => h.2)) (fun _ h => h.1)); have n2_ := aS (KeepBut.trans (kS0 HK.out) hk (.inl rfl)); have n3_ := aS (hb); have n4_ := aS (hi); clear HO235 HO254 HK HB HI0; revert n0_ n1_ n2_ n3_ n4_; intro HO235 HO254 HK HB HI0; clear hi hb hk) | ((with_reducible refine gate_builtin (b := .append) (xs := #[.tmp 37, .tmp 42]) rfl ?_); at_builtin; refine Kd.R_append (Kd.int .u8) w.heap.size rfl (.tmp 37) (.tmp 42) 22 5 (.int .u8 0) 1 rfl Tryd.underlying22 info5 rfl (by decide) (by omega) v234 y233 ((t255) % 256) [.int .u8 ((t255) % 256)] (fun _ => True) (fun _ => False) rfl rfl ?aP (fun _ hk => hk.elim) ?aF ?aO (Below.refl _ _) ?aS ?aL ?_; (case aP => exact rfl); (case aF => exact (fun _ _ => trivial)); (case aO => exact (rU HO235.out)); (case aS => exact (keep_size (w := w) (g := g) (row := none) (kS0 HK.out))); (case aL => have := LMc39.out; omega); intro v259 w48 ho hb hg hat; rw [← Ny258.out] at ho; have n0_ := aS (IsS111.grown (IsS111.iS0 HI0.out) hg (IsS111.own_ne HI0.out HO235.out (by decide))); have n1_ := aS (Kd.R_over' (rU HO254.out) (Kd.R_typed (rU HO235.out)) (by decide) hg); have n2_ := aS (below_weaken (by exact wS1 HB.out (IsS111.ge HI0.out)) HL.out hb); have n3_ := aS (KeepBut.trans (kS0 HK.out) (KeepBut.of_grown hg g) (Kd.R_base2 HO235.out)); have n4_ := aS (ho); clear HI0 HO254 HB HK HO235; revert n0_ n1_ n2_ n3_ n4_; intro HI0 HO254 HB HK HO260; clear ho hb hg hat))
      go_ret
      exact ⟨_, jE, by (with_reducible repeat (first | apply Kd.R_alloc | apply Kd.R_drewN | apply Kd.R_drew)); exact HO260.out, by exact IsS111.iS0 HI0.out, by exact wS1 HB.out (IsS111.ge HI0.out), by exact kS0 HK.out⟩
     ·rw [if_neg c39] at H
      exact absurd H (by simp)
    ·rw [if_neg c37] at H
     have c37b0 : (t236 == 2) = false := beq_eq_false_iff_ne.mpr c37
     have c37b1 : (t236 != 2) = true := bne_iff_ne.mpr c37
     by_cases c49 : t236 = 3
     ·rw [if_pos c49] at H
      have c49b0 : (t236 == 3) = true := beq_iff_eq.mpr c49
      have c49b1 : (t236 != 3) = false := bne_eq_false_iff_eq.mpr c49
      clear c49
      by_cases c50 : (y233.length : Int) > 0
      ·rw [if_pos c50] at H
       have c50b0 : decide (0 < (y233.length : Int)) = true := decide_eq_true c50
       have c50b1 : decide (0 < y233.length) = true := decide_eq_true (by omega)
       clear c50
       replace H := Option.bind_eq_some_iff.mp H
       obtain ⟨⟨t261, t262, t263⟩, A51, H⟩ := H
       try dsimp only at H
       replace A51 := aS A51
       by_cases c52 : 0 ≤ t261
       ·rw [if_pos c52] at H
        have c52b0 : decide (0 ≤ t261) = true := decide_eq_true c52
        clear c52
        by_cases c53 : t261 < (y233.length : Int)
        ·rw [if_pos c53] at H
         have c53b0 : decide (t261 < (y233.length : Int)) = true := decide_eq_true c53
         clear c53
         replace H := Option.bind_eq_some_iff.mp H
         obtain ⟨⟨t265, t266, t267⟩, A54, H⟩ := H
         try dsimp only at H
         replace A54 := aS A54
         by_cases c55 : 0 ≤ t265
         ·rw [if_pos c55] at H
          have c55b0 := eq_true c55
          have c55b1 : decide (0 ≤ t265) = true := decide_eq_true c55
          clear c55
          obtain ⟨ji56, hji56⟩ : ∃ j_ : Int, (shl .u8 1 t265) = j_ := ⟨_, rfl⟩
          replace H : (some ((y233.set (t261 : Int).toNat (Go.bits .xor .u8 (rd y233 t261) (ji56))), t266, t267)) = some (r1, r2, r3) := by first | (rw [hji56] at H; exact H) | (simp only [hji56] at H ⊢; exact H)
          (try rw [hji56] at A4)
          (try rw [hji56] at A51)
          (try rw [hji56] at A54)
          have hji56_ : (IntKind.u8.wrap (1 * 2 ^ min t265.toNat 8)) = ji56 := hji56
          have hji56z : t265 ≤ 8 → (IntKind.u8.wrap (1 * 2 ^ t265.toNat)) = ji56 := shl_small hji56
          have hji56u : (IntKind.u8.wrap (2 ^ min t265.toNat 8)) = ji56 := by have h_ := hji56_; rw [Int.one_mul] at h_; exact h_
          have hji56v : t265 ≤ 8 → (IntKind.u8.wrap (2 ^ t265.toNat)) = ji56 := fun hle_ => by have h_ := hji56z hle_; rw [Int.one_mul] at h_; exact h_
          obtain ⟨y268, hy_⟩ : ∃ y_ : List Int, y_ = (y233.set (t261 : Int).toNat (Go.bits .xor .u8 (rd y233 t261) (ji56))) := ⟨_, rfl⟩
          replace H : (some (y268, t266, t267)) = some (r1, r2, r3) := jD
          have Ny268 := aS hy_
          clear hy_
          simp only [Option.some.injEq, Prod.mk.injEq] at H
          obtain ⟨rfl, rfl, rfl⟩ := H
          go_enter Tryd.func80, Tryd.ntmps80
          try go_wp2_with (first | ((with_reducible refine gate_dst (N := 7) rfl ?_); refine Kd.R_lit (Kd.int .u8) _ 5 ?hg (N := 7) ?hd (xs := ([] : List Int)) (inner := []) (ok := fun _ => True) (okp := fun _ => True) ?hr ?hp (fun _ hk => hk) trivial (Below.refl _ _) (Nat.le_refl _) (by simp) ?_; (case hd => rfl); (case hg => rfl); (case hr => first | (go_simp; done) | (go_simp; rfl)); (case hp => exact (Reps.none _ _)); intro v231 w58 ho59 hb hg_ hnew_; clear hg_ hnew_; (first | rw [← Ny230.out] at ho59 | (simp only [Int.reduceToNat] at ho59; rw [← Ny230.out] at ho59)); have n0_ := aS (Kd.R_lower ho59 (keep_size (w := w) (g := g) (row := none) (kS0 HK.out))); have n1_ := aS (IsS111.below (IsS111.iS0 HI0.out) hb); have n2_ := aS (KeepBut.trans (kS0 HK.out) (KeepBut.of_below hb g none) (.inl rfl)); have n3_ := aS (below_step (by exact wS1 HB.out (IsS111.ge HI0.out)) hb); clear HI0 HK HB; revert n0_ n1_ n2_ n3_; intro HO232 HI0 HK HB; clear hb ho59) | ((with_reducible refine gate_builtin (b := .append) (xs := #[.tmp 7, .tmp 8]) rfl ?_); at_builtin; refine Kd.R_append_rows (Kd.int .u8) w.heap.size rfl (.tmp 7) (.tmp 8) 22 5 (.int .u8 0) 1 rfl Tryd.underlying22 info5 rfl (by decide) (by omega) v231 y230 l1 _ _ _ (fun _ => True) (fun _ => False) rfl rfl ?aO ?aR (fun _ _ h => h) (fun _ h => h.elim) ?aF (Below.refl _ _) ?aS ?aL ?_; (case aR => exact Kd.C_keep 0 HR1.out (kS0 HK.out) hf1); (case aF => exact (fun _ _ => trivial)); (case aO => exact (rU HO232.out)); (case aS => exact (keep_size (w := w) (g := g) (row := none) (kS0 HK.out))); (case aL => have := LMc3.out; omega); intro v234 w60 ho hb hg hat; rw [← Ny233.out] at ho; have n0_ := aS (IsS111.grown (IsS111.iS0 HI0.out) hg (IsS111.own_ne HI0.out HO232.out (by decide))); have n1_ := aS (below_weaken (by exact wS1 HB.out (IsS111.ge HI0.out)) HL.out hb); have n2_ := aS (KeepBut.trans (kS0 HK.out) (KeepBut.of_grown hg g) (Kd.R_base2 HO232.out)); have n3_ := aS (ho); clear HI0 HB HK HO232; revert n0_ n1_ n2_ n3_; intro HI0 HB HK HO235; clear ho hb hg hat) | ((with_reducible refine gate_callee (f := 78) rfl ?_); refine goesL_ (some 11) rfl rfl Tryd.func78 jK rfl #[.pointer (some ⟨g, 0, none⟩), .int .i64 7] rfl jA ?_; (with_reducible refine (spec_l1Below.calls g s0_0 s0_1 s0_2 7 t236 t237 t238 w0 _ ?side1 ?side2 A4.out).mono ?_); (case side1 => exact IsS111.iS0 HI0.out); (case side2 => exact wS1 HB.out (IsS111.ge HI0.out)); rintro e w61 ⟨rfl, hi, hb, hk⟩; refine ⟨_, rfl, ?_⟩; have n0_ := aS (Kd.R_mono (Kd.R_keep (IsS111.apart (show IsS111 w0 _ g s0_0 s0_1 s0_2 from by exact IsS111.iS0 HI0.out) (rU HO235.out) (by decide)) hk (fun _ h => h.2)) (fun _ h => h.1)); have n1_ := aS (KeepBut.trans (kS0 HK.out) hk (.inl rfl)); have n2_ := aS (hb); have n3_ := aS (hi); clear HO235 HK HB HI0; revert n0_ n1_ n2_ n3_; intro HO235 HK HB HI0; clear hi hb hk; obtain ⟨Ao62, co62, eo62⟩ := Kd.R_slice HO235.out; subst eo62) | ((with_reducible refine gate_callee (f := 78) rfl ?_); refine goesL_ (some 52) rfl rfl Tryd.func78 jK rfl #[.pointer (some ⟨g, 0, none⟩), .int .i64 (y233.length : Int)] rfl jA ?_; (with_reducible refine (spec_l1Below.calls g s0_0 t237 t238 (y233.length : Int) t261 t262 t263 w0 _ ?side1 ?side2 A51.out).mono ?_); (case side1 => exact IsS111.iS0 HI0.out); (case side2 => exact wS1 HB.out (IsS111.ge HI0.out)); rintro e w63 ⟨rfl, hi, hb, hk⟩; refine ⟨_, rfl, ?_⟩; have n0_ := aS (Kd.R_mono (Kd.R_keep (IsS111.apart (show IsS111 w0 _ g s0_0 t237 t238 from by exact IsS111.iS0 HI0.out) (rU HO235.out) (by decide)) hk (fun _ h => h.2)) (fun _ h => h.1)); have n1_ := aS (KeepBut.trans (kS0 HK.out) hk (.inl rfl)); have n2_ := aS (hb); have n3_ := aS (hi); clear HO235 HK HB HI0; revert n0_ n1_ n2_ n3_; intro HO235 HK HB HI0; clear hi hb hk))
          have n0_ := aS (Kd.R_drew HO235.out)
          have n1_ := aS (IsS111.drew HI0.out)
          have n2_ := aS (keep_drew HK.out)
          have n3_ := aS (below_drew1 HB.out)
          clear HO235
          clear HI0
          clear HK
          clear HB
          have HO235 := n0_
          have HI0 := n1_
          have HK := n2_
          have HB := n3_
          clear n0_ n1_ n2_ n3_
          have p264 : 0 ≤ (t261 : Int) := of_decide_eq_true jC
          have q264 : t261 < (y233.length : Int) := of_decide_eq_true jC
          obtain ⟨ad264, e264, hx264_0⟩ := Kd.at_int (Kd.R_reads' HO235.out).2.2 t261 p264 q264
          cases e264
          replace p264 := eq_true p264
          replace q264 := eq_true q264
          refine start_ (n := 12) (S := fun w' => w'.cell? (ad264.add (t261).toNat) = some (.int .u8 (rd y233 t261))) (ds := [11]) #[false, false, false, false, false, false, false, false, false, false, false, false] jK rfl rfl (hx264_0) (fun hHeld => ?_); refine with_tabW spec_l1Bent.tab13 spec_l1Bent.bits13 (fun HT_ HW_ => ?_)
          generalize w63.drew = w64 at HO235 HI0 HK HB hx264_0 hHeld ⊢
          refine pure_ (i := 0) (N := some 53) (v := ?_) (a' := ?_) #[true, false, false, false, false, false, false, false, false, false, false, false] rfl rfl (any_of HT_.out jK) (fun _ _ _ h => h) (Or.inl ⟨by rfl, ?_⟩) ?_ ?_
          rotate_left
          ·intro w'
           go_simp
           with_reducible rfl
          rotate_left
          ·simp only [Act.put, List.setIfInBounds_toArray, List.set_cons_zero, List.set_cons_succ, i64_w, i32_w]
           rfl
          refine pure_ (i := 1) (N := some 54) (v := ?_) (a' := ?_) #[true, true, false, false, false, false, false, false, false, false, false, false] rfl rfl (any_of HT_.out jK) (fun _ _ _ h => h) (Or.inl ⟨by rfl, ?_⟩) ?_ ?_
          rotate_left
          ·intro w'
           go_simp
           with_reducible rfl
          rotate_left
          ·simp only [Act.put, List.setIfInBounds_toArray, List.set_cons_zero, List.set_cons_succ, i64_w, i32_w]
           rfl
          refine pure_ (i := 2) (N := some 55) (v := ?_) (a' := ?_) #[true, true, true, false, false, false, false, false, false, false, false, false] rfl rfl (any_of HT_.out jK) (fun _ _ _ h => h) (Or.inl ⟨by rfl, ?_⟩) ?_ ?_
          rotate_left
          ·intro w'
           go_simp
           with_reducible rfl
          rotate_left
          ·simp only [Act.put, List.setIfInBounds_toArray, List.set_cons_zero, List.set_cons_succ, i64_w, i32_w]
           rfl
          refine pure_ (i := 3) (N := some 56) (v := ?_) (a' := ?_) #[true, true, true, true, false, false, false, false, false, false, false, false] rfl rfl (any_of HT_.out jK) (fun _ _ _ h => h) (Or.inl ⟨by rfl, ?_⟩) ?_ ?_
          rotate_left
          ·intro w'
           go_simp
           with_reducible rfl
          rotate_left
          ·simp only [Act.put, List.setIfInBounds_toArray, List.set_cons_zero, List.set_cons_succ, i64_w, i32_w]
           rfl
          refine pure_ (i := 4) (N := some 57) (v := ?_) (a' := ?_) #[true, true, true, true, true, false, false, false, false, false, false, false] rfl rfl (any_of HT_.out jK) (fun _ _ _ h => h) (Or.inl ⟨by rfl, ?_⟩) ?_ ?_
          rotate_left
          ·intro w'
           go_simp
           with_reducible rfl
          rotate_left
          ·simp only [Act.put, List.setIfInBounds_toArray, List.set_cons_zero, List.set_cons_succ, i64_w, i32_w]
           rfl
          refine pure_ (i := 6) (N := some 59) (v := ?_) (a' := ?_) #[true, true, true, true, true, false, true, false, false, false, false, false] rfl rfl (any_of HT_.out jK) (fun _ _ _ h => h) (Or.inl ⟨by rfl, ?_⟩) ?_ ?_
          rotate_left
          ·intro w'
           go_simp
           with_reducible rfl
          rotate_left
          ·simp only [Act.put, List.setIfInBounds_toArray, List.set_cons_zero, List.set_cons_succ, i64_w, i32_w]
           rfl
          refine take_ (i := 5) (N := some 58) (v := ?_) (a' := ?_) #[true, true, true, true, true, true, true, false, false, false, false, false] rfl rfl (take_ofW HT_.out HW_.out jK) (fun _ _ _ h => h) (Or.inl ⟨by rfl, ?_⟩) hHeld ?_ ?_
          rotate_left
          ·intro w' s0
           go_simp
           with_reducible rfl
          rotate_left
          ·simp only [Act.put, List.setIfInBounds_toArray, List.set_cons_zero, List.set_cons_succ, i64_w, i32_w]
           rfl
          refine one_ (i := 7) (N := some 60) #[true, true, true, true, true, true, true, true, false, false, false, false] rfl rfl (one_of HT_.out jK) (by decide) (fun K hK => ?_)
          refine goes_ Tryd.func78 jK rfl #[.pointer (some ⟨g, 0, none⟩), .int .i64 8] (by rfl) rfl rfl jA ?_
          with_reducible refine (spec_l1Below.calls g s0_0 t262 t263 8 t265 t266 t267 w0 _ ?side1 ?side2 A54.out).mono ?_
          (case side1 => exact IsS111.iS0 HI0.out)
          (case side2 => exact wS1 HB.out (IsS111.ge HI0.out))
          rintro e w65 ⟨rfl, hi, hb, hk⟩
          have HS0_ := keep_cell hk (hHeld) (by first | (rw [add_block]; exact Kd.own_blk (IsS111.own_ne HI0.out HO235.out (by decide))) | (show (Addr.add _ _).block ≠ _; rw [add_block]; exact Kd.own_blk (IsS111.own_ne HI0.out HO235.out (by decide))) | exact Kd.own_blk (IsS111.own_ne HI0.out HO235.out (by decide)))
          refine ⟨_, rfl, ?_⟩
          have n0_ := aS (Kd.R_mono (Kd.R_keep (IsS111.apart (show IsS111 w0 _ g s0_0 t262 t263 from by exact IsS111.iS0 HI0.out) (rU HO235.out) (by decide)) hk (fun _ h => h.2)) (fun _ h => h.1))
          have n1_ := aS (KeepBut.trans (kS0 HK.out) hk (.inl rfl))
          have n2_ := aS (hb)
          have n3_ := aS (hi)
          clear HO235
          clear HK
          clear HB
          clear HI0
          have HO235 := n0_
          have HK := n1_
          have HB := n2_
          have HI0 := n3_
          clear n0_ n1_ n2_ n3_
          (try clear hb)
          (try clear hb2)
          (try clear hk)
          (try clear hi)
          have p57 : 0 ≤ (t261 : Int) := of_decide_eq_true jC
          have q57 : (t261 : Int) < ((y233.length : Int) : Int) := of_decide_eq_true jC
          obtain ⟨go57, co57, eo57, gb57, gl57, cl57, HG57⟩ := Kd.R_form HO235.out (by omega)
          (first | cases eo57 | (injection eo57 with ea_ en_ ec_; (first | subst ea_ | (injection ea_ with ea_; subst ea_)); subst ec_; clear en_))
          have GB57 := aS gb57
          have GG57 := aS HG57
          clear gb57 gl57 HG57
          (first | simp only [add_plain] at hx264_0 | skip)
          obtain ⟨hx57_0, hf57_0⟩ := Kd.R_celln 0 HO235.out (t261 : Int) p57 q57
          replace p57 := eq_true p57
          replace q57 := eq_true q57
          have HN0_go57 := aS (show g ≠ go57 from by have h_ := IsS111.own_ne HI0.out HO235.out (by decide); intro e_; exact h_ (by rw [e_]; rfl))
          have HP66 := Kd.R_putn HO235.out (t261 : Int) (Go.bits .xor .u8 (rd y233 t261) (ji56))
          rw [← Ny268.out] at HP66
          have HQ66 := aS HP66
          clear HP66
          refine hK.out _ _ (HS0_) (fun hHeld => ?_)
          clear hK K
          refine norm_ (a' := ?_) ?_ ?_
          rotate_left
          ·show Act.put _ (some 60) _ = _
           simp only [Act.put, List.setIfInBounds_toArray, List.set_cons_zero, List.set_cons_succ, i64_w, i32_w]
           rfl
          refine pure_ (i := 8) (N := some 61) (v := ?_) (a' := ?_) #[true, true, true, true, true, true, true, true, true, false, false, false] rfl rfl (any_of HT_.out jK) (fun _ _ _ h => h) (Or.inl ⟨by rfl, ?_⟩) ?_ ?_
          rotate_left
          ·intro w'
           go_simp
           with_reducible rfl
          rotate_left
          ·simp only [Act.put, List.setIfInBounds_toArray, List.set_cons_zero, List.set_cons_succ, i64_w, i32_w]
           rfl
          refine pure_ (i := 9) (N := some 62) (v := ?_) (a' := ?_) #[true, true, true, true, true, true, true, true, true, true, false, false] rfl rfl (any_of HT_.out jK) (fun _ _ _ h => h) (Or.inl ⟨by rfl, ?_⟩) ?_ ?_
          rotate_left
          ·intro w'
           go_simp
           with_reducible rfl
          rotate_left
          ·simp only [Act.put, List.setIfInBounds_toArray, List.set_cons_zero, List.set_cons_succ, i64_w, i32_w]
           rfl
          refine pure_ (i := 10) (N := some 63) (v := ?_) (a' := ?_) #[true, true, true, true, true, true, true, true, true, true, true, false] rfl rfl (any_of HT_.out jK) (fun _ _ _ h => h) (Or.inl ⟨by rfl, ?_⟩) ?_ ?_
          rotate_left
          ·intro w'
           go_simp
           with_reducible rfl
          rotate_left
          ·simp only [Act.put, List.setIfInBounds_toArray, List.set_cons_zero, List.set_cons_succ, i64_w, i32_w]
           rfl
          refine last_ (i := 11) (N := none) #[true, true, true, true, true, true, true, true, true, true, true, true] rfl rfl (one_of HT_.out jK) (by decide) (fun K hK => ?_)
          refine skip_ (w1 := ?_) (by rfl) rfl ?_ ?_
          rotate_left
          ·go_simp
           rfl
          refine hK.out _ _ ?_
          clear hK K
          refine done_ (done_of HT_.out jK) ?_
          try go_wp2
          go_ret
          exact ⟨_, by first | rfl | (simp [errW_none, errW_some] <;> rfl) | (simp only [← hji56]; first | rfl | (simp [errW_none, errW_some] <;> rfl)) | (simp [*, errW_none, errW_some] <;> rfl), by (with_reducible repeat (first | apply Kd.R_alloc | apply Kd.R_drewN | apply Kd.R_drew)); exact HQ66.out, by exact IsS111.iS1 HI0.out HN0_go57.out, by repeat (first | (with_reducible first | exact HB.out | apply below_alloc | apply pw_below_drewN | apply below_drew1 | refine below_set ?_ (Nat.le_trans HL.out GB57.out) | refine below_set ?_ (IsS111.ge HI0.out)) | exact HB.out), by exact kS1 HK.out GB57.out⟩
         ·rw [if_neg c55] at H
          exact absurd H (by simp)
        ·rw [if_neg c53] at H
         exact absurd H (by simp)
       ·rw [if_neg c52] at H
        exact absurd H (by simp)
      ·rw [if_neg c50] at H
       have c50b0 : decide (0 < (y233.length : Int)) = false := decide_eq_false c50
       have c50b1 : decide (0 < y233.length) = false := decide_eq_false (by omega)
       clear c50
       simp only [Option.some.injEq, Prod.mk.injEq] at H
       obtain ⟨rfl, rfl, rfl⟩ := H
       go_enter Tryd.func80, Tryd.ntmps80
       go_wp2_with (first | ((with_reducible refine gate_dst (N := 7) rfl ?_); refine Kd.R_lit (Kd.int .u8) _ 5 ?hg (N := 7) ?hd (xs := ([] : List Int)) (inner := []) (ok := fun _ => True) (okp := fun _ => True) ?hr ?hp (fun _ hk => hk) trivial (Below.refl _ _) (Nat.le_refl _) (by simp) ?_; (case hd => rfl); (case hg => rfl); (case hr => first | (go_simp; done) | (go_simp; rfl)); (case hp => exact (Reps.none _ _)); intro v231 w67 ho68 hb hg_ hnew_; clear hg_ hnew_; (first | rw [← Ny230.out] at ho68 | (simp only [Int.reduceToNat] at ho68; rw [← Ny230.out] at ho68)); have n0_ := aS (Kd.R_lower ho68 (keep_size (w := w) (g := g) (row := none) (kS0 HK.out))); have n1_ := aS (IsS111.below (IsS111.iS0 HI0.out) hb); have n2_ := aS (KeepBut.trans (kS0 HK.out) (KeepBut.of_below hb g none) (.inl rfl)); have n3_ := aS (below_step (by exact wS1 HB.out (IsS111.ge HI0.out)) hb); clear HI0 HK HB; revert n0_ n1_ n2_ n3_; intro HO232 HI0 HK HB; clear hb ho68) | ((with_reducible refine gate_builtin (b := .append) (xs := #[.tmp 7, .tmp 8]) rfl ?_); at_builtin; refine Kd.R_append_rows (Kd.int .u8) w.heap.size rfl (.tmp 7) (.tmp 8) 22 5 (.int .u8 0) 1 rfl Tryd.underlying22 info5 rfl (by decide) (by omega) v231 y230 l1 _ _ _ (fun _ => True) (fun _ => False) rfl rfl ?aO ?aR (fun _ _ h => h) (fun _ h => h.elim) ?aF (Below.refl _ _) ?aS ?aL ?_; (case aR => exact Kd.C_keep 0 HR1.out (kS0 HK.out) hf1); (case aF => exact (fun _ _ => trivial)); (case aO => exact (rU HO232.out)); (case aS => exact (keep_size (w := w) (g := g) (row := none) (kS0 HK.out))); (case aL => have := LMc3.out; omega); intro v234 w69 ho hb hg hat; rw [← Ny233.out] at ho; have n0_ := aS (IsS111.grown (IsS111.iS0 HI0.out) hg (IsS111.own_ne HI0.out HO232.out (by decide))); have n1_ := aS (below_weaken (by exact wS1 HB.out (IsS111.ge HI0.out)) HL.out hb); have n2_ := aS (KeepBut.trans (kS0 HK.out) (KeepBut.of_grown hg g) (Kd.R_base2 HO232.out)); have n3_ := aS (ho); clear HI0 HB HK HO232; revert n0_ n1_ n2_ n3_; intro HI0 HB HK HO235; clear ho hb hg hat) | ((with_reducible refine gate_callee (f := 78) rfl ?_); refine goesL_ (some 11) rfl rfl Tryd.func78 jK rfl #[.pointer (some ⟨g, 0, none⟩), .int .i64 7] rfl jA ?_; (with_reducible refine (spec_l1Below.calls g s0_0 s0_1 s0_2 7 t236 t237 t238 w0 _ ?side1 ?side2 A4.out).mono ?_); (case side1 => exact IsS111.iS0 HI0.out); (case side2 => exact wS1 HB.out (IsS111.ge HI0.out)); rintro e w70 ⟨rfl, hi, hb, hk⟩; refine ⟨_, rfl, ?_⟩; have n0_ := aS (Kd.R_mono (Kd.R_keep (IsS111.apart (show IsS111 w0 _ g s0_0 s0_1 s0_2 from by exact IsS111.iS0 HI0.out) (rU HO235.out) (by decide)) hk (fun _ h => h.2)) (fun _ h => h.1)); have n1_ := aS (KeepBut.trans (kS0 HK.out) hk (.inl rfl)); have n2_ := aS (hb); have n3_ := aS (hi); clear HO235 HK HB HI0; revert n0_ n1_ n2_ n3_; intro HO235 HK HB HI0; clear hi hb hk; obtain ⟨Ao71, co71, eo71⟩ := Kd.R_slice HO235.out; subst eo71))
       go_ret
       exact ⟨_, jE, by (with_reducible repeat (first | apply Kd.R_alloc | apply Kd.R_drewN | apply Kd.R_drew)); exact HO235.out, by exact IsS111.iS0 HI0.out, by exact wS1 HB.out (IsS111.ge HI0.out), by exact kS0 HK.out⟩
     ·rw [if_neg c49] at H
      have c49b0 : (t236 == 3) = false := beq_eq_false_iff_ne.mpr c49
      have c49b1 : (t236 != 3) = true := bne_iff_ne.mpr c49
      simp only [Option.some.injEq, Prod.mk.injEq] at H
      obtain ⟨rfl, rfl, rfl⟩ := H
      go_enter Tryd.func80, Tryd.ntmps80
      go_wp2_with (first | ((with_reducible refine gate_dst (N := 7) rfl ?_); refine Kd.R_lit (Kd.int .u8) _ 5 ?hg (N := 7) ?hd (xs := ([] : List Int)) (inner := []) (ok := fun _ => True) (okp := fun _ => True) ?hr ?hp (fun _ hk => hk) trivial (Below.refl _ _) (Nat.le_refl _) (by simp) ?_; (case hd => rfl); (case hg => rfl); (case hr => first | (go_simp; done) | (go_simp; rfl)); (case hp => exact (Reps.none _ _)); intro v231 w72 ho73 hb hg_ hnew_; clear hg_ hnew_; (first | rw [← Ny230.out] at ho73 | (simp only [Int.reduceToNat] at ho73; rw [← Ny230.out] at ho73)); have n0_ := aS (Kd.R_lower ho73 (keep_size (w := w) (g := g) (row := none) (kS0 HK.out))); have n1_ := aS (IsS111.below (IsS111.iS0 HI0.out) hb); have n2_ := aS (KeepBut.trans (kS0 HK.out) (KeepBut.of_below hb g none) (.inl rfl)); have n3_ := aS (below_step (by exact wS1 HB.out (IsS111.ge HI0.out)) hb); clear HI0 HK HB; revert n0_ n1_ n2_ n3_; intro HO232 HI0 HK HB; clear hb ho73) | ((with_reducible refine gate_builtin (b := .append) (xs := #[.tmp 7, .tmp 8]) rfl ?_); at_builtin; refine Kd.R_append_rows (Kd.int .u8) w.heap.size rfl (.tmp 7) (.tmp 8) 22 5 (.int .u8 0) 1 rfl Tryd.underlying22 info5 rfl (by decide) (by omega) v231 y230 l1 _ _ _ (fun _ => True) (fun _ => False) rfl rfl ?aO ?aR (fun _ _ h => h) (fun _ h => h.elim) ?aF (Below.refl _ _) ?aS ?aL ?_; (case aR => exact Kd.C_keep 0 HR1.out (kS0 HK.out) hf1); (case aF => exact (fun _ _ => trivial)); (case aO => exact (rU HO232.out)); (case aS => exact (keep_size (w := w) (g := g) (row := none) (kS0 HK.out))); (case aL => have := LMc3.out; omega); intro v234 w74 ho hb hg hat; rw [← Ny233.out] at ho; have n0_ := aS (IsS111.grown (IsS111.iS0 HI0.out) hg (IsS111.own_ne HI0.out HO232.out (by decide))); have n1_ := aS (below_weaken (by exact wS1 HB.out (IsS111.ge HI0.out)) HL.out hb); have n2_ := aS (KeepBut.trans (kS0 HK.out) (KeepBut.of_grown hg g) (Kd.R_base2 HO232.out)); have n3_ := aS (ho); clear HI0 HB HK HO232; revert n0_ n1_ n2_ n3_; intro HI0 HB HK HO235; clear ho hb hg hat) | ((with_reducible refine gate_callee (f := 78) rfl ?_); refine goesL_ (some 11) rfl rfl Tryd.func78 jK rfl #[.pointer (some ⟨g, 0, none⟩), .int .i64 7] rfl jA ?_; (with_reducible refine (spec_l1Below.calls g s0_0 s0_1 s0_2 7 t236 t237 t238 w0 _ ?side1 ?side2 A4.out).mono ?_); (case side1 => exact IsS111.iS0 HI0.out); (case side2 => exact wS1 HB.out (IsS111.ge HI0.out)); rintro e w75 ⟨rfl, hi, hb, hk⟩; refine ⟨_, rfl, ?_⟩; have n0_ := aS (Kd.R_mono (Kd.R_keep (IsS111.apart (show IsS111 w0 _ g s0_0 s0_1 s0_2 from by exact IsS111.iS0 HI0.out) (rU HO235.out) (by decide)) hk (fun _ h => h.2)) (fun _ h => h.1)); have n1_ := aS (KeepBut.trans (kS0 HK.out) hk (.inl rfl)); have n2_ := aS (hb); have n3_ := aS (hi); clear HO235 HK HB HI0; revert n0_ n1_ n2_ n3_; intro HO235 HK HB HI0; clear hi hb hk))
      go_ret
      exact ⟨_, jE, by (with_reducible repeat (first | apply Kd.R_alloc | apply Kd.R_drewN | apply Kd.R_drew)); exact HO235.out, by exact IsS111.iS0 HI0.out, by exact wS1 HB.out (IsS111.ge HI0.out), by exact kS0 HK.out⟩
 ·rw [if_neg c3] at H
  exact absurd H (by simp)

/-! ### spec_l1Str: function 113 -/
def spec_l1Str.f (s0_0 : List Int) (s0_1 : Int) (s0_2 : Int) (l1 : List ByteArray) : Option (ByteArray × Int × Int) := (spec_l1Below.f s0_0 s0_1 s0_2 (l1.length : Int)).bind fun bt269 => (if 0 ≤ bt269.1 then (if bt269.1 < (l1.length : Int) then (some (rdOf ByteArray.empty l1 bt269.1, bt269.2.1, bt269.2.2)) else (none)) else (none))
set_option maxHeartbeats 8000000 in
set_option maxRecDepth 100000 in
theorem spec_l1Str.calls (g : Nat) (s0_0 : List Int) (s0_1 : Int) (s0_2 : Int) (A1 : Option Addr) (c1 : Nat) (l1 : List ByteArray) (r1 : ByteArray) (r2 : Int) (r3 : Int) (w0 w : World) (hI : IsS111 w0 w g s0_0 s0_1 s0_2) (hB : Below w0.heap.size w0 w) (hr1 : Kd.C Kd.string w A1 l1.length l1) (hc1 : l1.length ≤ c1) (hf1 : ∀ ad, A1 = some ad → 0 < l1.length → ad.block ≠ g) (h : spec_l1Str.f s0_0 s0_1 s0_2 l1 = some (r1, r2, r3)) :
  Calls Tryd.prog 113 #[.pointer (some ⟨g, 0, none⟩), .slice A1 l1.length c1] w fun e w' => e = .returned (.string r1) ∧ IsS111 w0 w' g s0_0 r2 r3 ∧ Below w0.heap.size w0 w' ∧ KeepBut w w' g none := by
 have HR1 := aS hr1
 have HC1 := aS hc1
 clear hr1 hc1
 have HI0 := aS hI
 have HK := aS (KeepBut.refl w g none)
 have HL := aS hB.size
 clear hI
 have HW0 := aS hB.size
 have HB := aS hB
 clear hB
 have H : ((spec_l1Below.f s0_0 s0_1 s0_2 (l1.length : Int)).bind fun bt269 => (if 0 ≤ bt269.1 then (if bt269.1 < (l1.length : Int) then (some (rdOf ByteArray.empty l1 bt269.1, bt269.2.1, bt269.2.2)) else (none)) else (none))) = some (r1, r2, r3) := h
 clear h
 replace H := Option.bind_eq_some_iff.mp H
 obtain ⟨⟨t269, t270, t271⟩, A3, H⟩ := H
 try dsimp only at H
 replace A3 := aS A3
 by_cases c4 : 0 ≤ t269
 ·rw [if_pos c4] at H
  have c4b0 : decide (0 ≤ t269) = true := decide_eq_true c4
  clear c4
  by_cases c5 : t269 < (l1.length : Int)
  ·rw [if_pos c5] at H
   have c5b0 : decide (t269 < (l1.length : Int)) = true := decide_eq_true c5
   clear c5
   simp only [Option.some.injEq, Prod.mk.injEq] at H
   obtain ⟨rfl, rfl, rfl⟩ := H
   go_enter Tryd.func113, Tryd.ntmps113
   go_wp2_with (first | ((with_reducible refine gate_callee (f := 78) rfl ?_); refine goesL_ (some 9) rfl rfl Tryd.func78 jK rfl #[.pointer (some ⟨g, 0, none⟩), .int .i64 (l1.length : Int)] rfl jA ?_; (with_reducible refine (spec_l1Below.calls g s0_0 s0_1 s0_2 (l1.length : Int) t269 t270 t271 w0 _ ?side1 ?side2 A3.out).mono ?_); (case side1 => exact IsS111.iS0 HI0.out); (case side2 => exact wS1 HB.out (IsS111.ge HI0.out)); rintro e w6 ⟨rfl, hi, hb, hk⟩; refine ⟨_, rfl, ?_⟩; have n0_ := aS (KeepBut.trans (kS0 HK.out) hk (.inl rfl)); have n1_ := aS (hb); have n2_ := aS (hi); clear HK HB HI0; revert n0_ n1_ n2_; intro HK HB HI0; clear hi hb hk; have p272 : 0 ≤ (t269 : Int) := of_decide_eq_true jC; have q272 : t269 < (l1.length : Int) := of_decide_eq_true jC; obtain ⟨ad272, e272, hx272_0⟩ := Kd.at_string HR1.out t269 p272 q272; cases e272; replace hx272_0 := keep_cell HK.out hx272_0 (by first | (rw [add_block]; exact hf1 _ rfl (by omega)) | exact hf1 _ rfl (by omega) | exact hf1 ad272 rfl (by omega)); replace p272 := eq_true p272; replace q272 := eq_true q272))
   go_ret
   exact ⟨jE, by exact IsS111.iS0 HI0.out, by exact wS1 HB.out (IsS111.ge HI0.out), by exact kS0 HK.out⟩
  ·rw [if_neg c5] at H
   exact absurd H (by simp)
 ·rw [if_neg c4] at H
  exact absurd H (by simp)

/-! ### spec_l3Name: function 85 -/
def spec_l3Name.f (s0_0 : List Int) (s0_1 : Int) (s0_2 : Int) : Option (ByteArray × Int × Int) := (spec_l1Str.f s0_0 s0_1 s0_2 (([(⟨#[]⟩ : ByteArray), (⟨#[99, 111, 109]⟩ : ByteArray), (⟨#[101, 120, 46, 99, 111, 109]⟩ : ByteArray), (⟨#[119, 119, 119, 46, 101, 120, 46, 99, 111, 109]⟩ : ByteArray), (⟨#[110, 115, 46, 101, 120, 46, 99, 111, 109]⟩ : ByteArray), (⟨#[111, 114, 103]⟩ : ByteArray), (⟨#[97, 46, 111, 114, 103]⟩ : ByteArray), (⟨#[98, 46, 97, 46, 111, 114, 103]⟩ : ByteArray), (⟨#[110, 115, 49, 46, 111, 114, 103]⟩ : ByteArray), (⟨#[120, 46, 121, 46, 122, 46, 101, 120, 46, 99, 111, 109]⟩ : ByteArray)] : List ByteArray))).bind fun bt276 => (some (bt276.1, bt276.2.1, bt276.2.2))
set_option maxHeartbeats 8000000 in
set_option maxRecDepth 100000 in
theorem spec_l3Name.calls (g : Nat) (s0_0 : List Int) (s0_1 : Int) (s0_2 : Int) (r1 : ByteArray) (r2 : Int) (r3 : Int) (w0 w : World) (hI : IsS111 w0 w g s0_0 s0_1 s0_2) (hB : Below w0.heap.size w0 w) (h : spec_l3Name.f s0_0 s0_1 s0_2 = some (r1, r2, r3)) :
  Calls Tryd.prog 85 #[.pointer (some ⟨g, 0, none⟩)] w fun e w' => e = .returned (.string r1) ∧ IsS111 w0 w' g s0_0 r2 r3 ∧ Below w0.heap.size w0 w' ∧ KeepBut w w' g none := by
 have HI0 := aS hI
 have HK := aS (KeepBut.refl w g none)
 have HL := aS hB.size
 clear hI
 have HW0 := aS hB.size
 have HB := aS hB
 clear hB
 have H : ((spec_l1Str.f s0_0 s0_1 s0_2 (([(⟨#[]⟩ : ByteArray), (⟨#[99, 111, 109]⟩ : ByteArray), (⟨#[101, 120, 46, 99, 111, 109]⟩ : ByteArray), (⟨#[119, 119, 119, 46, 101, 120, 46, 99, 111, 109]⟩ : ByteArray), (⟨#[110, 115, 46, 101, 120, 46, 99, 111, 109]⟩ : ByteArray), (⟨#[111, 114, 103]⟩ : ByteArray), (⟨#[97, 46, 111, 114, 103]⟩ : ByteArray), (⟨#[98, 46, 97, 46, 111, 114, 103]⟩ : ByteArray), (⟨#[110, 115, 49, 46, 111, 114, 103]⟩ : ByteArray), (⟨#[120, 46, 121, 46, 122, 46, 101, 120, 46, 99, 111, 109]⟩ : ByteArray)] : List ByteArray))).bind fun bt276 => (some (bt276.1, bt276.2.1, bt276.2.2))) = some (r1, r2, r3) := h
 clear h
 obtain ⟨y273, hy_⟩ : ∃ y_ : List ByteArray, y_ = (([(⟨#[]⟩ : ByteArray), (⟨#[99, 111, 109]⟩ : ByteArray), (⟨#[101, 120, 46, 99, 111, 109]⟩ : ByteArray), (⟨#[119, 119, 119, 46, 101, 120, 46, 99, 111, 109]⟩ : ByteArray), (⟨#[110, 115, 46, 101, 120, 46, 99, 111, 109]⟩ : ByteArray), (⟨#[111, 114, 103]⟩ : ByteArray), (⟨#[97, 46, 111, 114, 103]⟩ : ByteArray), (⟨#[98, 46, 97, 46, 111, 114, 103]⟩ : ByteArray), (⟨#[110, 115, 49, 46, 111, 114, 103]⟩ : ByteArray), (⟨#[120, 46, 121, 46, 122, 46, 101, 120, 46, 99, 111, 109]⟩ : ByteArray)] : List ByteArray)) := ⟨_, rfl⟩
 replace H : ((spec_l1Str.f s0_0 s0_1 s0_2 y273).bind fun bt276 => (some (bt276.1, bt276.2.1, bt276.2.2))) = some (r1, r2, r3) := jD
 have Ny273 := aS hy_
 clear hy_
 replace H := Option.bind_eq_some_iff.mp H
 obtain ⟨⟨t276, t277, t278⟩, A2, H⟩ := H
 try dsimp only at H
 replace A2 := aS A2
 simp only [Option.some.injEq, Prod.mk.injEq] at H
 obtain ⟨rfl, rfl, rfl⟩ := H
 go_enter Tryd.func85, Tryd.ntmps85
 go_wp2_with (first | ((with_reducible refine gate_dst (N := 4) rfl ?_); refine Kd.R_lit Kd.string _ 9 ?hg (N := 4) ?hd (xs := ([(⟨#[]⟩ : ByteArray), (⟨#[99, 111, 109]⟩ : ByteArray), (⟨#[101, 120, 46, 99, 111, 109]⟩ : ByteArray), (⟨#[119, 119, 119, 46, 101, 120, 46, 99, 111, 109]⟩ : ByteArray), (⟨#[110, 115, 46, 101, 120, 46, 99, 111, 109]⟩ : ByteArray), (⟨#[111, 114, 103]⟩ : ByteArray), (⟨#[97, 46, 111, 114, 103]⟩ : ByteArray), (⟨#[98, 46, 97, 46, 111, 114, 103]⟩ : ByteArray), (⟨#[110, 115, 49, 46, 111, 114, 103]⟩ : ByteArray), (⟨#[120, 46, 121, 46, 122, 46, 101, 120, 46, 99, 111, 109]⟩ : ByteArray)] : List ByteArray)) (inner := [.string (⟨#[]⟩ : ByteArray), .string (⟨#[99, 111, 109]⟩ : ByteArray), .string (⟨#[101, 120, 46, 99, 111, 109]⟩ : ByteArray), .string (⟨#[119, 119, 119, 46, 101, 120, 46, 99, 111, 109]⟩ : ByteArray), .string (⟨#[110, 115, 46, 101, 120, 46, 99, 111, 109]⟩ : ByteArray), .string (⟨#[111, 114, 103]⟩ : ByteArray), .string (⟨#[97, 46, 111, 114, 103]⟩ : ByteArray), .string (⟨#[98, 46, 97, 46, 111, 114, 103]⟩ : ByteArray), .string (⟨#[110, 115, 49, 46, 111, 114, 103]⟩ : ByteArray), .string (⟨#[120, 46, 121, 46, 122, 46, 101, 120, 46, 99, 111, 109]⟩ : ByteArray)]) (ok := fun _ => True) (okp := fun _ => True) ?hr ?hp (fun _ hk => hk) trivial (Below.refl _ _) (Nat.le_refl _) (by simp) ?_; (case hd => rfl); (case hg => rfl); (case hr => first | (go_simp; done) | (go_simp; rfl)); (case hp => exact (Reps.one (show Kd.M Kd.string _ _ _ (⟨#[]⟩ : ByteArray) [.string (⟨#[]⟩ : ByteArray)] from rfl) (Reps.one (show Kd.M Kd.string _ _ _ (⟨#[99, 111, 109]⟩ : ByteArray) [.string (⟨#[99, 111, 109]⟩ : ByteArray)] from rfl) (Reps.one (show Kd.M Kd.string _ _ _ (⟨#[101, 120, 46, 99, 111, 109]⟩ : ByteArray) [.string (⟨#[101, 120, 46, 99, 111, 109]⟩ : ByteArray)] from rfl) (Reps.one (show Kd.M Kd.string _ _ _ (⟨#[119, 119, 119, 46, 101, 120, 46, 99, 111, 109]⟩ : ByteArray) [.string (⟨#[119, 119, 119, 46, 101, 120, 46, 99, 111, 109]⟩ : ByteArray)] from rfl) (Reps.one (show Kd.M Kd.string _ _ _ (⟨#[110, 115, 46, 101, 120, 46, 99, 111, 109]⟩ : ByteArray) [.string (⟨#[110, 115, 46, 101, 120, 46, 99, 111, 109]⟩ : ByteArray)] from rfl) (Reps.one (show Kd.M Kd.string _ _ _ (⟨#[111, 114, 103]⟩ : ByteArray) [.string (⟨#[111, 114, 103]⟩ : ByteArray)] from rfl) (Reps.one (show Kd.M Kd.string _ _ _ (⟨#[97, 46, 111, 114, 103]⟩ : ByteArray) [.string (⟨#[97, 46, 111, 114, 103]⟩ : ByteArray)] from rfl) (Reps.one (show Kd.M Kd.string _ _ _ (⟨#[98, 46, 97, 46, 111, 114, 103]⟩ : ByteArray) [.string (⟨#[98, 46, 97, 46, 111, 114, 103]⟩ : ByteArray)] from rfl) (Reps.one (show Kd.M Kd.string _ _ _ (⟨#[110, 115, 49, 46, 111, 114, 103]⟩ : ByteArray) [.string (⟨#[110, 115, 49, 46, 111, 114, 103]⟩ : ByteArray)] from rfl) (Reps.one (show Kd.M Kd.string _ _ _ (⟨#[120, 46, 121, 46, 122, 46, 101, 120, 46, 99, 111, 109]⟩ : ByteArray) [.string (⟨#[120, 46, 121, 46, 122, 46, 101, 120, 46, 99, 111, 109]⟩ : ByteArray)] from rfl) (Reps.none _ _)))))))))))); intro v274 w3 ho4 hb hg_ hnew_; clear hg_ hnew_; (first | rw [← Ny273.out] at ho4 | (simp only [Int.reduceToNat] at ho4; rw [← Ny273.out] at ho4)); have n0_ := aS (Kd.R_lower ho4 (keep_size (w := w) (g := g) (row := none) (kS0 HK.out))); have n1_ := aS (IsS111.below (IsS111.iS0 HI0.out) hb); have n2_ := aS (KeepBut.trans (kS0 HK.out) (KeepBut.of_below hb g none) (.inl rfl)); have n3_ := aS (below_step (by exact wS1 HB.out (IsS111.ge HI0.out)) hb); clear HI0 HK HB; revert n0_ n1_ n2_ n3_; intro HO275 HI0 HK HB; clear hb ho4; obtain ⟨Ao5, co5, eo5⟩ := Kd.R_slice HO275.out; subst eo5) | ((with_reducible refine gate_callee (f := 113) rfl ?_); refine goesL_ (some 5) rfl rfl Tryd.func113 jK rfl #[.pointer (some ⟨g, 0, none⟩), .slice Ao5 y273.length co5] rfl jA ?_; (with_reducible refine (spec_l1Str.calls g s0_0 s0_1 s0_2 _ _ y273 t276 t277 t278 w0 _ ?side1 ?side2 ?side3 ?side4 ?side5 A2.out).mono ?_); (case side1 => exact IsS111.iS0 HI0.out); (case side2 => exact wS1 HB.out (IsS111.ge HI0.out)); (case side3 => exact cU ((Kd.R_reads' HO275.out).2.2)); (case side4 => exact (Kd.R_reads' HO275.out).2.1); (case side5 => exact far_slice (IsS111.own_ne HI0.out HO275.out (by decide))); rintro e w6 ⟨rfl, hi, hb, hk⟩; refine ⟨_, rfl, ?_⟩; have n0_ := aS (Kd.R_mono (Kd.R_keep (IsS111.apart (show IsS111 w0 _ g s0_0 s0_1 s0_2 from by exact IsS111.iS0 HI0.out) (rU HO275.out) (by decide)) hk (fun _ h => h.2)) (fun _ h => h.1)); have n1_ := aS (KeepBut.trans (kS0 HK.out) hk (.inl rfl)); have n2_ := aS (hb); have n3_ := aS (hi); clear HO275 HK HB HI0; revert n0_ n1_ n2_ n3_; intro HO275 HK HB HI0; clear hi hb hk))
 go_ret
 exact ⟨jE, by exact IsS111.iS0 HI0.out, by exact wS1 HB.out (IsS111.ge HI0.out), by exact kS0 HK.out⟩

/-! ### spec_l4Bytes: function 57 -/
def spec_l4Bytes.l0 : Nat → List Int → Int → Int → List Int → Int → Int → Option (List Int × Int × Int × Int)
 | 0, _, _, _, _, _, _ => none
 | k + 1, x4, x5, x6, x1000, x1001, x1002 => if x6 ≥ 0 then ((spec_l3Name.f x1000 x1001 x1002).bind fun bt290 => ((spec_PutName.f k x4 bt290.1).bind fun t293 => ((spec_l1Once.f x1000 bt290.2.1 bt290.2.2 5).bind fun bt296 => (if bt296.1 = true then ((spec_l1Int.f x1000 bt296.2.1 bt296.2.2 (([192, 193, 255, 3, 13, 0] : List Int))).bind fun bt302 => ((spec_l1Below.f x1000 bt302.2.1 bt302.2.2 12).bind fun bt305 => ((some (([(bt302.1) % 256, (bt305.1) % 256] : List Int) : List Int)).bind fun y308 => (if t293.length + y308.length < 140737488355328 then (spec_l4Bytes.l0 k (t293 ++ y308) (x4.length : Int) (wrap64 (x6 - 1)) x1000 bt305.2.1 bt305.2.2) else (none))))) else (spec_l4Bytes.l0 k t293 (x4.length : Int) (wrap64 (x6 - 1)) x1000 bt296.2.1 bt296.2.2))))) else ((spec_l1Once.f x1000 x1001 x1002 4).bind fun bt314 => (if bt314.1 = true then ((spec_l1Bent.f x1000 bt314.2.1 bt314.2.2 x4).bind fun bt317 => (some (bt317.1, x5, bt317.2.1, bt317.2.2))) else (some (x4, x5, bt314.2.1, bt314.2.2))))
def spec_l4Bytes.f (k : Nat) (s0_0 : List Int) (s0_1 : Int) (s0_2 : Int) : Option (List Int × Int × Int × Int) := (spec_l1Below.f s0_0 s0_1 s0_2 3).bind fun bt279 => ((spec_l1Bytes.f k s0_0 bt279.2.1 bt279.2.2 bt279.1).bind fun bt282 => ((spec_l1Below.f s0_0 bt282.2.1 bt282.2.2 4).bind fun bt287 => (spec_l4Bytes.l0 k bt282.1 (bt282.1.length : Int) bt287.1 s0_0 bt287.2.1 bt287.2.2)))
theorem spec_l4Bytes.mono_l : ∀ k, (∀ y0 y1 y2 y3 y4 y5, LeO (spec_l4Bytes.l0 k y0 y1 y2 y3 y4 y5) (spec_l4Bytes.l0 (k + 1) y0 y1 y2 y3 y4 y5))
 | 0 => fun _ _ _ _ _ _ r h => by simp [spec_l4Bytes.l0] at h
 | k + 1 => by
  have ih0 := spec_l4Bytes.mono_l k
  ·intro y0 y1 y2 y3 y4 y5
   unfold spec_l4Bytes.l0
   repeat' first
   | (with_reducible first | exact ih0 _ _ _ _ _ _ | exact spec_PutName.mono _ _ _ | exact spec_l1Bytes.mono _ _ _ _ _ | exact LeO.refl _ | exact LeO.none _ | refine LeO.ite ?_ ?_ | refine LeO.bind ?_ (fun _ => ?_))
   | exact ih0 _ _ _ _ _ _
   | exact spec_PutName.mono _ _ _
   | exact spec_l1Bytes.mono _ _ _ _ _
   | exact LeO.none _
   | refine LeO.ite ?_ ?_
   | refine LeO.bind ?_ (fun _ => ?_)
theorem spec_l4Bytes.mono : ∀ a0 a1 a2 k, LeO (spec_l4Bytes.f k a0 a1 a2) (spec_l4Bytes.f (k + 1) a0 a1 a2) := by
 intro a0 a1 a2 k
 have ih0 := spec_l4Bytes.mono_l k
 unfold spec_l4Bytes.f
 repeat' first
   | (with_reducible first | exact ih0 _ _ _ _ _ _ | exact spec_PutName.mono _ _ _ | exact spec_l1Bytes.mono _ _ _ _ _ | exact LeO.refl _ | exact LeO.none _ | refine LeO.ite ?_ ?_ | refine LeO.bind ?_ (fun _ => ?_))
   | exact ih0 _ _ _ _ _ _
   | exact spec_PutName.mono _ _ _
   | exact spec_l1Bytes.mono _ _ _ _ _
   | exact LeO.none _
   | refine LeO.ite ?_ ?_
   | refine LeO.bind ?_ (fun _ => ?_)
set_option maxHeartbeats 8000000 in
set_option maxRecDepth 100000 in
theorem spec_l4Bytes.calls (k : Nat) (g : Nat) (s0_0 : List Int) (s0_1 : Int) (s0_2 : Int) (r1 : List Int) (r2 : Int) (r3 : Int) (r4 : Int) (w0 w : World) (hI : IsS111 w0 w g s0_0 s0_1 s0_2) (hB : Below w0.heap.size w0 w) (h : spec_l4Bytes.f k s0_0 s0_1 s0_2 = some (r1, r2, r3, r4)) :
  Calls Tryd.prog 57 #[.pointer (some ⟨g, 0, none⟩)] w fun e w' => ∃ v0_ : Value, e = .returned (.tuple #[v0_, .int .i64 r2]) ∧ Kd.R (Kd.int .u8) 5 w' w.heap.size (fun _ => True) v0_ r1 ∧ IsS111 w0 w' g s0_0 r3 r4 ∧ Below w0.heap.size w0 w' ∧ KeepBut w w' g none := by
 have HI0 := aS hI
 have HK := aS (KeepBut.refl w g none)
 have HL := aS hB.size
 clear hI
 have HW0 := aS hB.size
 have HB := aS hB
 clear hB
 have H : ((spec_l1Below.f s0_0 s0_1 s0_2 3).bind fun bt279 => ((spec_l1Bytes.f k s0_0 bt279.2.1 bt279.2.2 bt279.1).bind fun bt282 => ((spec_l1Below.f s0_0 bt282.2.1 bt282.2.2 4).bind fun bt287 => (spec_l4Bytes.l0 k bt282.1 (bt282.1.length : Int) bt287.1 s0_0 bt287.2.1 bt287.2.2)))) = some (r1, r2, r3, r4) := h
 clear h
 replace H := Option.bind_eq_some_iff.mp H
 obtain ⟨⟨t279, t280, t281⟩, A2, H⟩ := H
 try dsimp only at H
 replace A2 := aS A2
 replace H := Option.bind_eq_some_iff.mp H
 obtain ⟨⟨t282, t285, t286⟩, A3, H⟩ := H
 try dsimp only at H
 replace A3 := aS A3
 replace H := Option.bind_eq_some_iff.mp H
 obtain ⟨⟨t287, t288, t289⟩, A4, H⟩ := H
 try dsimp only at H
 replace A4 := aS A4
 have H' := aS H
 clear H
 go_enter Tryd.func57, Tryd.ntmps57
 go_wp2_with (first | ((with_reducible refine gate_callee (f := 78) rfl ?_); refine goesL_ (some 9) rfl rfl Tryd.func78 jK rfl #[.pointer (some ⟨g, 0, none⟩), .int .i64 3] rfl jA ?_; (with_reducible refine (spec_l1Below.calls g s0_0 s0_1 s0_2 3 t279 t280 t281 w0 _ ?side1 ?side2 A2.out).mono ?_); (case side1 => exact IsS111.iS0 HI0.out); (case side2 => exact wS1 HB.out (IsS111.ge HI0.out)); rintro e w5 ⟨rfl, hi, hb, hk⟩; refine ⟨_, rfl, ?_⟩; have n0_ := aS (KeepBut.trans (kS0 HK.out) hk (.inl rfl)); have n1_ := aS (hb); have n2_ := aS (hi); clear HK HB HI0; revert n0_ n1_ n2_; intro HK HB HI0; clear hi hb hk) | ((with_reducible refine gate_callee (f := 77) rfl ?_); refine goesL_ (some 10) rfl rfl Tryd.func77 jK rfl #[.pointer (some ⟨g, 0, none⟩), .int .i64 t279] rfl jA ?_; (with_reducible refine (spec_l1Bytes.calls k g s0_0 t280 t281 t279 t282 t285 t286 w0 _ ?side1 ?side2 A3.out).mono ?_); (case side1 => exact IsS111.iS0 HI0.out); (case side2 => exact wS1 HB.out (IsS111.ge HI0.out)); rintro e w6 ⟨v283, rfl, ho0, hi, hb, hk⟩; refine ⟨_, rfl, ?_⟩; have n0_ := aS (Kd.R_lower ho0 (keep_size (w := w) (g := g) (row := none) (kS0 HK.out))); have n1_ := aS (KeepBut.trans (kS0 HK.out) hk (.inl rfl)); have n2_ := aS (hb); have n3_ := aS (hi); clear HK HB HI0; revert n0_ n1_ n2_ n3_; intro HO284 HK HB HI0; clear hi hb hk; (try clear ho0); obtain ⟨Ao7, co7, eo7⟩ := Kd.R_slice HO284.out; subst eo7) | ((with_reducible refine gate_callee (f := 78) rfl ?_); refine goesL_ (some 14) rfl rfl Tryd.func78 jK rfl #[.pointer (some ⟨g, 0, none⟩), .int .i64 4] rfl jA ?_; (with_reducible refine (spec_l1Below.calls g s0_0 t285 t286 4 t287 t288 t289 w0 _ ?side1 ?side2 A4.out).mono ?_); (case side1 => exact IsS111.iS0 HI0.out); (case side2 => exact wS1 HB.out (IsS111.ge HI0.out)); rintro e w8 ⟨rfl, hi, hb, hk⟩; refine ⟨_, rfl, ?_⟩; have n0_ := aS (Kd.R_mono (Kd.R_keep (IsS111.apart (show IsS111 w0 _ g s0_0 t285 t286 from by exact IsS111.iS0 HI0.out) (rU HO284.out) (by decide)) hk (fun _ h => h.2)) (fun _ h => h.1)); have n1_ := aS (KeepBut.trans (kS0 HK.out) hk (.inl rfl)); have n2_ := aS (hb); have n3_ := aS (hi); clear HO284 HK HB HI0; revert n0_ n1_ n2_ n3_; intro HO284 HK HB HI0; clear hi hb hk))
 go_loopg [4, 5, 6] k (fun kq v4 v5 v6 w' => ∃ (x4_1 : List Int) (x5_1 : Int) (x6_1 : Int) (x1001_1 : Int) (x1002_1 : Int), v5 = .int .i64 x5_1 ∧ v6 = .int .i64 x6_1 ∧ Aside0 (spec_l4Bytes.l0 kq x4_1 x5_1 x6_1 s0_0 x1001_1 x1002_1 = some (r1, r2, r3, r4)) ∧ Aside0 (kq ≤ k) ∧ Aside0 (Kd.R (Kd.int .u8) 5 w' w.heap.size (fun _ => True) v4 x4_1) ∧ Aside0 (IsS111 w0 w' g s0_0 x1001_1 x1002_1) ∧ Aside0 (KeepBut w w' g none) ∧ Aside0 (Below w0.heap.size w0 w'))
 case atStart => exact ⟨(t282), ((t282.length : Int)), (t287), (t288), (t289), jB, jB, H', ⟨Nat.le_refl _⟩, ⟨by (with_reducible repeat (first | apply Kd.R_alloc | apply Kd.R_drewN | apply Kd.R_drew)); exact HO284.out⟩, ⟨by exact IsS111.iS0 HI0.out⟩, ⟨by exact kS0 HK.out⟩, ⟨by exact wS1 HB.out (IsS111.ge HI0.out)⟩⟩
 case round =>
  clear H'
  try clear p2
  try clear c5
  try clear c7
  obtain ⟨x4_1, x5_1, x6_1, x1001_1, x1002_1, rfl, rfl, HA, HK1, HO_4, HI0, HK, HB⟩ := hrel
  cases gk with
  | zero => exact absurd HA.out (by simp [spec_l4Bytes.l0])
  | succ k1 =>
   have H := HA.out
   clear HA
   simp only [spec_l4Bytes.l0] at H
   by_cases c9 : x6_1 ≥ 0
   ·rw [if_pos c9] at H
    have c9b0 : decide (0 ≤ x6_1) = true := decide_eq_true c9
    clear c9
    replace H := Option.bind_eq_some_iff.mp H
    obtain ⟨⟨t290, t291, t292⟩, A10, H⟩ := H
    try dsimp only at H
    replace A10 := aS A10
    replace H := Option.bind_eq_some_iff.mp H
    obtain ⟨t293, A11, H⟩ := H
    try dsimp only at H
    replace A11 := aS A11
    replace H := Option.bind_eq_some_iff.mp H
    obtain ⟨⟨t296, t297, t298⟩, A12, H⟩ := H
    try dsimp only at H
    replace A12 := aS A12
    have HC13 := aS H
    clear H
    obtain ⟨Ao14, co14, eo14⟩ := Kd.R_slice HO_4.out
    subst eo14
    go_upto_if 26 with (first | ((with_reducible refine gate_callee (f := 85) rfl ?_); refine goesL_ (some 23) rfl rfl Tryd.func85 jK rfl #[.pointer (some ⟨g, 0, none⟩)] rfl jA ?_; (with_reducible refine (spec_l3Name.calls g s0_0 x1001_1 x1002_1 t290 t291 t292 w0 _ ?side1 ?side2 A10.out).mono ?_); (case side1 => exact IsS111.iS0 HI0.out); (case side2 => exact wS1 HB.out (IsS111.ge HI0.out)); rintro e w15 ⟨rfl, hi, hb, hk⟩; refine ⟨_, rfl, ?_⟩; have n0_ := aS (Kd.R_mono (Kd.R_keep (IsS111.apart (show IsS111 w0 _ g s0_0 x1001_1 x1002_1 from by exact IsS111.iS0 HI0.out) (rU HO_4.out) (by decide)) hk (fun _ h => h.2)) (fun _ h => h.1)); have n1_ := aS (KeepBut.trans (kS0 HK.out) hk (.inl rfl)); have n2_ := aS (hb); have n3_ := aS (hi); clear HO_4 HK HB HI0; revert n0_ n1_ n2_ n3_; intro HO_4 HK HB HI0; clear hi hb hk) | ((with_reducible refine gate_callee (f := 65) rfl ?_); refine goesL_ (some 24) rfl rfl Tryd.func65 jK rfl #[.slice Ao14 x4_1.length co14, .string t290] rfl jA ?_; (with_reducible refine (spec_PutName.calls k1 _ _ x4_1 t290 t293 _ ?side1 ?side2 A11.out).mono ?_); (case side1 => exact cU ((Kd.R_reads' HO_4.out).2.2)); (case side2 => exact (Kd.R_reads' HO_4.out).2.1); rintro e w16 ⟨v294, rfl, ho0, hb⟩; refine ⟨_, rfl, ?_⟩; have n0_ := aS (Kd.R_elder' (rU HO_4.out) (Kd.R_base ho0) hb); have n1_ := aS (Kd.R_lower (Kd.R_new' ho0 (Kd.R_lt (rU HO_4.out))) (keep_size (w := w) (g := g) (row := none) (kS0 HK.out))); have n2_ := aS (IsS111.below (IsS111.iS0 HI0.out) hb); have n3_ := aS (KeepBut.trans (kS0 HK.out) (KeepBut.of_below hb g none) (.inl rfl)); have n4_ := aS (below_step (by exact wS1 HB.out (IsS111.ge HI0.out)) hb); clear HO_4 HI0 HK HB; revert n0_ n1_ n2_ n3_ n4_; intro HO_4 HO295 HI0 HK HB; clear hb; (try clear ho0)) | ((with_reducible refine gate_callee (f := 76) rfl ?_); refine goesL_ (some 26) rfl rfl Tryd.func76 jK rfl #[.pointer (some ⟨g, 0, none⟩), .int .i64 5] rfl jA ?_; (with_reducible refine (spec_l1Once.calls g s0_0 t291 t292 5 t296 t297 t298 w0 _ ?side1 ?side2 A12.out).mono ?_); (case side1 => exact IsS111.iS0 HI0.out); (case side2 => exact wS1 HB.out (IsS111.ge HI0.out)); rintro e w17 ⟨rfl, hi, hb, hk⟩; refine ⟨_, rfl, ?_⟩; have n0_ := aS (Kd.R_mono (Kd.R_keep (IsS111.apart (show IsS111 w0 _ g s0_0 t291 t292 from by exact IsS111.iS0 HI0.out) (rU HO_4.out) (by decide)) hk (fun _ h => h.2)) (fun _ h => h.1)); have n1_ := aS (Kd.R_mono (Kd.R_keep (IsS111.apart (show IsS111 w0 _ g s0_0 t291 t292 from by exact IsS111.iS0 HI0.out) (rU HO295.out) (by decide)) hk (fun _ h => h.2)) (fun _ h => h.1)); have n2_ := aS (KeepBut.trans (kS0 HK.out) hk (.inl rfl)); have n3_ := aS (hb); have n4_ := aS (hi); clear HO_4 HO295 HK HB HI0; revert n0_ n1_ n2_ n3_ n4_; intro HO_4 HO295 HK HB HI0; clear hi hb hk))
    (try simp only [Act.put, List.setIfInBounds_toArray, List.set_cons_zero, List.set_cons_succ])
    have H := HC13.out
    clear HC13
    by_cases c18 : t296 = true
    ·subst c18
     have H1 : ((spec_l1Int.f s0_0 t297 t298 (([192, 193, 255, 3, 13, 0] : List Int))).bind fun bt302 => ((spec_l1Below.f s0_0 bt302.2.1 bt302.2.2 12).bind fun bt305 => ((some (([(bt302.1) % 256, (bt305.1) % 256] : List Int) : List Int)).bind fun y308 => (if t293.length + y308.length < 140737488355328 then (spec_l4Bytes.l0 k1 (t293 ++ y308) (x4_1.length : Int) (wrap64 (x6_1 - 1)) s0_0 bt305.2.1 bt305.2.2) else (none))))) = some (r1, r2, r3, r4) := by rw [if_pos rfl] at H; exact H
     clear H
     have H := H1
     clear H1
     obtain ⟨y299, hy_⟩ : ∃ y_ : List Int, y_ = (([192, 193, 255, 3, 13, 0] : List Int)) := ⟨_, rfl⟩
     rw [← hy_] at H
     have Ny299 := aS hy_
     clear hy_
     replace H := Option.bind_eq_some_iff.mp H
     obtain ⟨⟨t302, t303, t304⟩, A19, H⟩ := H
     try dsimp only at H
     replace A19 := aS A19
     replace H := Option.bind_eq_some_iff.mp H
     obtain ⟨⟨t305, t306, t307⟩, A20, H⟩ := H
     try dsimp only at H
     replace A20 := aS A20
     obtain ⟨y308, hy_⟩ : ∃ y_ : List Int, y_ = (([(t302) % 256, (t305) % 256] : List Int)) := ⟨_, rfl⟩
     replace H : (if t293.length + y308.length < 140737488355328 then (spec_l4Bytes.l0 k1 (t293 ++ y308) (x4_1.length : Int) (wrap64 (x6_1 - 1)) s0_0 t306 t307) else (none)) = some (r1, r2, r3, r4) := jD
     have Ny308 := aS hy_
     clear hy_
     by_cases c21 : t293.length + y308.length < 140737488355328
     ·rw [if_pos c21] at H
      have LMc21 := aS c21
      clear c21
      obtain ⟨y311, hy_⟩ : ∃ y_ : List Int, y_ = (t293 ++ y308) := ⟨_, rfl⟩
      replace H : (spec_l4Bytes.l0 k1 y311 (x4_1.length : Int) (wrap64 (x6_1 - 1)) s0_0 t306 t307) = some (r1, r2, r3, r4) := jD
      have Ny311 := aS hy_
      clear hy_
      have H' := aS H
      clear H
      go_wp2_with (first | ((with_reducible refine gate_dst (N := 29) rfl ?_); refine Kd.R_lit (Kd.int .i64) _ 3 ?hg (N := 29) ?hd (xs := ([192, 193, 255, 3, 13, 0] : List Int)) (inner := [.int .i64 192, .int .i64 193, .int .i64 255, .int .i64 3, .int .i64 13, .int .i64 0]) (ok := fun _ => True) (okp := fun _ => True) ?hr ?hp (fun _ hk => hk) trivial (Below.refl _ _) (Nat.le_refl _) (by simp) ?_; (case hd => rfl); (case hg => rfl); (case hr => first | (go_simp; done) | (go_simp; rfl)); (case hp => exact (Reps.one (show Kd.M (Kd.int .i64) _ _ _ 192 [.int .i64 192] from rfl) (Reps.one (show Kd.M (Kd.int .i64) _ _ _ 193 [.int .i64 193] from rfl) (Reps.one (show Kd.M (Kd.int .i64) _ _ _ 255 [.int .i64 255] from rfl) (Reps.one (show Kd.M (Kd.int .i64) _ _ _ 3 [.int .i64 3] from rfl) (Reps.one (show Kd.M (Kd.int .i64) _ _ _ 13 [.int .i64 13] from rfl) (Reps.one (show Kd.M (Kd.int .i64) _ _ _ 0 [.int .i64 0] from rfl) (Reps.none _ _)))))))); intro v300 w22 ho23 hb hg_ hnew_; clear hg_ hnew_; (first | rw [← Ny299.out] at ho23 | (simp only [Int.reduceToNat] at ho23; rw [← Ny299.out] at ho23)); have n0_ := aS (Kd.R_below (rU HO_4.out) hb); have n1_ := aS (Kd.R_below (rU HO295.out) hb); have n2_ := aS (Kd.R_lower ho23 (keep_size (w := w) (g := g) (row := none) (kS0 HK.out))); have n3_ := aS (IsS111.below (IsS111.iS0 HI0.out) hb); have n4_ := aS (KeepBut.trans (kS0 HK.out) (KeepBut.of_below hb g none) (.inl rfl)); have n5_ := aS (below_step (by exact wS1 HB.out (IsS111.ge HI0.out)) hb); clear HO_4 HO295 HI0 HK HB; revert n0_ n1_ n2_ n3_ n4_ n5_; intro HO_4 HO295 HO301 HI0 HK HB; clear hb ho23; obtain ⟨Ao24, co24, eo24⟩ := Kd.R_slice HO301.out; subst eo24) | ((with_reducible refine gate_callee (f := 81) rfl ?_); refine goesL_ (some 30) rfl rfl Tryd.func81 jK rfl #[.pointer (some ⟨g, 0, none⟩), .slice Ao24 y299.length co24] rfl jA ?_; (with_reducible refine (spec_l1Int.calls g s0_0 t297 t298 _ _ y299 t302 t303 t304 w0 _ ?side1 ?side2 ?side3 ?side4 ?side5 A19.out).mono ?_); (case side1 => exact IsS111.iS0 HI0.out); (case side2 => exact wS1 HB.out (IsS111.ge HI0.out)); (case side3 => exact cU ((Kd.R_reads' HO301.out).2.2)); (case side4 => exact (Kd.R_reads' HO301.out).2.1); (case side5 => exact far_slice (IsS111.own_ne HI0.out HO301.out (by decide))); rintro e w25 ⟨rfl, hi, hb, hk⟩; refine ⟨_, rfl, ?_⟩; have n0_ := aS (Kd.R_mono (Kd.R_keep (IsS111.apart (show IsS111 w0 _ g s0_0 t297 t298 from by exact IsS111.iS0 HI0.out) (rU HO_4.out) (by decide)) hk (fun _ h => h.2)) (fun _ h => h.1)); have n1_ := aS (Kd.R_mono (Kd.R_keep (IsS111.apart (show IsS111 w0 _ g s0_0 t297 t298 from by exact IsS111.iS0 HI0.out) (rU HO295.out) (by decide)) hk (fun _ h => h.2)) (fun _ h => h.1)); have n2_ := aS (Kd.R_mono (Kd.R_keep (IsS111.apart (show IsS111 w0 _ g s0_0 t297 t298 from by exact IsS111.iS0 HI0.out) (rU HO301.out) (by decide)) hk (fun _ h => h.2)) (fun _ h => h.1)); have n3_ := aS (KeepBut.trans (kS0 HK.out) hk (.inl rfl)); have n4_ := aS (hb); have n5_ := aS (hi); clear HO_4 HO295 HO301 HK HB HI0; revert n0_ n1_ n2_ n3_ n4_ n5_; intro HO_4 HO295 HO301 HK HB HI0; clear hi hb hk) | ((with_reducible refine gate_callee (f := 78) rfl ?_); refine goesL_ (some 33) rfl rfl Tryd.func78 jK rfl #[.pointer (some ⟨g, 0, none⟩), .int .i64 12] rfl jA ?_; (with_reducible refine (spec_l1Below.calls g s0_0 t303 t304 12 t305 t306 t307 w0 _ ?side1 ?side2 A20.out).mono ?_); (case side1 => exact IsS111.iS0 HI0.out); (case side2 => exact wS1 HB.out (IsS111.ge HI0.out)); rintro e w26 ⟨rfl, hi, hb, hk⟩; refine ⟨_, rfl, ?_⟩; have n0_ := aS (Kd.R_mono (Kd.R_keep (IsS111.apart (show IsS111 w0 _ g s0_0 t303 t304 from by exact IsS111.iS0 HI0.out) (rU HO_4.out) (by decide)) hk (fun _ h => h.2)) (fun _ h => h.1)); have n1_ := aS (Kd.R_mono (Kd.R_keep (IsS111.apart (show IsS111 w0 _ g s0_0 t303 t304 from by exact IsS111.iS0 HI0.out) (rU HO295.out) (by decide)) hk (fun _ h => h.2)) (fun _ h => h.1)); have n2_ := aS (Kd.R_mono (Kd.R_keep (IsS111.apart (show IsS111 w0 _ g s0_0 t303 t304 from by exact IsS111.iS0 HI0.out) (rU HO301.out) (by decide)) hk (fun _ h => h.2)) (fun _ h => h.1)); have n3_ := aS (KeepBut.trans (kS0 HK.out) hk (.inl rfl)); have n4_ := aS (hb); have n5_ := aS (hi); clear HO_4 HO295 HO301 HK HB HI0; revert n0_ n1_ n2_ n3_ n4_ n5_; intro HO_4 HO295 HO301 HK HB HI0; clear hi hb hk) | ((with_reducible refine gate_dst (N := 35) rfl ?_); refine Kd.R_lit (Kd.int .u8) _ 5 ?hg (N := 35) ?hd (xs := ([(t302) % 256, (t305) % 256] : List Int)) (inner := [.int .u8 ((t302) % 256), .int .u8 ((t305) % 256)]) (ok := fun _ => True) (okp := fun _ => True) ?hr ?hp (fun _ hk => hk) trivial (Below.refl _ _) (Nat.le_refl _) (by simp) ?_; (case hd => rfl); (case hg => rfl); (case hr => first | (go_simp; done) | (go_simp; rfl)); (case hp => exact (Reps.one (show Kd.M (Kd.int .u8) _ _ _ ((t302) % 256) [.int .u8 ((t302) % 256)] from rfl) (Reps.one (show Kd.M (Kd.int .u8) _ _ _ ((t305) % 256) [.int .u8 ((t305) % 256)] from rfl) (Reps.none _ _)))); intro v309 w27 ho28 hb hg_ hnew_; clear hg_ hnew_; (first | rw [← Ny308.out] at ho28 | (simp only [Int.reduceToNat] at ho28; rw [← Ny308.out] at ho28)); have n0_ := aS (Kd.R_elder' (rU HO_4.out) (Kd.R_base ho28) hb); have n1_ := aS (Kd.R_elder' (rU HO295.out) (Kd.R_base ho28) hb); have n2_ := aS (Kd.R_below (rU HO301.out) hb); have n3_ := aS (Kd.R_lower (Kd.R_new' (Kd.R_new' ho28 (Kd.R_lt (rU HO_4.out))) (Kd.R_lt (rU HO295.out))) (keep_size (w := w) (g := g) (row := none) (kS0 HK.out))); have n4_ := aS (IsS111.below (IsS111.iS0 HI0.out) hb); have n5_ := aS (KeepBut.trans (kS0 HK.out) (KeepBut.of_below hb g none) (.inl rfl)); have n6_ := aS (below_step (by exact wS1 HB.out (IsS111.ge HI0.out)) hb); clear HO_4 HO295 HO301 HI0 HK HB; revert n0_ n1_ n2_ n3_ n4_ n5_ n6_; intro HO_4 HO295 HO301 HO310 HI0 HK HB; clear hb ho28; obtain ⟨Ao30, co30, eo30⟩ := Kd.R_slice HO310.out; subst eo30) | ((with_reducible refine gate_builtin (b := .append) (xs := #[.tmp 27, .tmp 35]) rfl ?_); at_builtin; refine Kd.R_append_rows (Kd.int .u8) w.heap.size rfl (.tmp 27) (.tmp 35) 22 5 (.int .u8 0) 1 rfl Tryd.underlying22 info5 rfl (by decide) (by omega) v294 t293 y308 _ _ _ (fun k_ => some k_ ≠ (.slice Ao14 x4_1.length co14 : Value).ownBlock ∧ some k_ ≠ (.slice Ao30 y308.length co30 : Value).ownBlock) (fun _ => False) rfl rfl ?aO ?aR (fun _ _ h => h) (fun _ h => h.elim) ?aF (Below.refl _ _) ?aS ?aL ?_; (case aR => exact cU ((Kd.R_reads' HO310.out).2.2)); (case aF => exact (fun k_ hk => ⟨Kd.fresh' (Kd.R_lt (rU HO_4.out)) k_ hk, Kd.fresh' (Kd.R_lt (rU HO310.out)) k_ hk⟩)); (case aO => exact (by (with_reducible repeat (first | apply Kd.R_alloc | apply Kd.R_drewN | apply Kd.R_drew)); exact Kd.R_mono HO295.out (fun _ hk => ⟨hk.1.2, hk.2⟩))); (case aS => exact (keep_size (w := w) (g := g) (row := none) (kS0 HK.out))); (case aL => have := LMc21.out; omega); intro v312 w29 ho hb hg hat; rw [← Ny311.out] at ho; have n0_ := aS (Kd.R_after (ok := (fun k_ => some k_ ≠ (.slice Ao30 y308.length co30 : Value).ownBlock)) (by (with_reducible repeat (first | apply Kd.R_alloc | apply Kd.R_drewN | apply Kd.R_drew)); exact Kd.R_mono HO_4.out (fun _ hk => ⟨hk.2, hk.1.2⟩)) hg hat); have n1_ := aS (IsS111.grown (IsS111.iS0 HI0.out) hg (IsS111.own_ne HI0.out HO295.out (by decide))); have n2_ := aS (Kd.R_over' (rU HO301.out) (Kd.R_typed (rU HO295.out)) (by decide) hg); have n3_ := aS (Kd.R_after (ok := (fun k_ => some k_ ≠ (.slice Ao14 x4_1.length co14 : Value).ownBlock)) (by (with_reducible repeat (first | apply Kd.R_alloc | apply Kd.R_drewN | apply Kd.R_drew)); exact Kd.R_mono HO310.out (fun _ hk => ⟨hk.1.2, hk.2⟩)) hg hat); have n4_ := aS (below_weaken (by exact wS1 HB.out (IsS111.ge HI0.out)) HL.out hb); have n5_ := aS (KeepBut.trans (kS0 HK.out) (KeepBut.of_grown hg g) (Kd.R_base2 HO295.out)); have n6_ := aS (ho); clear HO_4 HI0 HO301 HO310 HB HK HO295; revert n0_ n1_ n2_ n3_ n4_ n5_ n6_; intro HO_4 HI0 HO301 HO310 HB HK HO313; clear ho hb hg hat))
      go_roundg k1
      case measure => have := HK1.out; omega
      case rel => exact ⟨(y311), ((x4_1.length : Int)), (wrap64 (x6_1 - 1)), (t306), (t307), jB, jB, H', ⟨by have := HK1.out; omega⟩, ⟨Kd.R_mono (rU HO313.out) (fun _ hk => trivial)⟩, ⟨by exact IsS111.iS0 HI0.out⟩, ⟨by exact kS0 HK.out⟩, ⟨by exact wS1 HB.out (IsS111.ge HI0.out)⟩⟩
     ·rw [if_neg c21] at H
      exact absurd H (by simp)
    ·replace c18 := Bool.eq_false_iff.mpr c18
     subst c18
     have H1 : (spec_l4Bytes.l0 k1 t293 (x4_1.length : Int) (wrap64 (x6_1 - 1)) s0_0 t297 t298) = some (r1, r2, r3, r4) := by rw [if_neg (show ¬ (false = true) by decide)] at H; exact H
     clear H
     have H := H1
     clear H1
     have H' := aS H
     clear H
     go_wp2
     go_roundg k1
     case measure => have := HK1.out; omega
     case rel => exact ⟨(t293), ((x4_1.length : Int)), (wrap64 (x6_1 - 1)), (t297), (t298), jB, jB, H', ⟨by have := HK1.out; omega⟩, ⟨Kd.R_mono (rU HO295.out) (fun _ hk => trivial)⟩, ⟨by exact IsS111.iS0 HI0.out⟩, ⟨by exact kS0 HK.out⟩, ⟨by exact wS1 HB.out (IsS111.ge HI0.out)⟩⟩
   ·rw [if_neg c9] at H
    have c9b0 : decide (0 ≤ x6_1) = false := decide_eq_false c9
    clear c9
    replace H := Option.bind_eq_some_iff.mp H
    obtain ⟨⟨t314, t315, t316⟩, A31, H⟩ := H
    try dsimp only at H
    replace A31 := aS A31
    by_cases c32 : t314 = true
    ·subst c32
     have H1 : ((spec_l1Bent.f s0_0 t315 t316 x4_1).bind fun bt317 => (some (bt317.1, x5_1, bt317.2.1, bt317.2.2))) = some (r1, r2, r3, r4) := by rw [if_pos rfl] at H; exact H
     clear H
     have H := H1
     clear H1
     replace H := Option.bind_eq_some_iff.mp H
     obtain ⟨⟨t317, t320, t321⟩, A33, H⟩ := H
     try dsimp only at H
     replace A33 := aS A33
     simp only [Option.some.injEq, Prod.mk.injEq] at H
     obtain ⟨rfl, rfl, rfl, rfl⟩ := H
     go_wp2_with (first | ((with_reducible refine gate_callee (f := 76) rfl ?_); refine goesL_ (some 38) rfl rfl Tryd.func76 jK rfl #[.pointer (some ⟨g, 0, none⟩), .int .i64 4] rfl jA ?_; (with_reducible refine (spec_l1Once.calls g s0_0 x1001_1 x1002_1 4 true t315 t316 w0 _ ?side1 ?side2 A31.out).mono ?_); (case side1 => exact IsS111.iS0 HI0.out); (case side2 => exact wS1 HB.out (IsS111.ge HI0.out)); rintro e w34 ⟨rfl, hi, hb, hk⟩; refine ⟨_, rfl, ?_⟩; have n0_ := aS (Kd.R_mono (Kd.R_keep (IsS111.apart (show IsS111 w0 _ g s0_0 x1001_1 x1002_1 from by exact IsS111.iS0 HI0.out) (rU HO_4.out) (by decide)) hk (fun _ h => h.2)) (fun _ h => h.1)); have n1_ := aS (KeepBut.trans (kS0 HK.out) hk (.inl rfl)); have n2_ := aS (hb); have n3_ := aS (hi); clear HO_4 HK HB HI0; revert n0_ n1_ n2_ n3_; intro HO_4 HK HB HI0; clear hi hb hk; obtain ⟨Ao35, co35, eo35⟩ := Kd.R_slice HO_4.out; subst eo35) | ((with_reducible refine gate_callee (f := 80) rfl ?_); refine goesL_ (some 41) rfl rfl Tryd.func80 jK rfl #[.pointer (some ⟨g, 0, none⟩), .slice Ao35 x4_1.length co35] rfl jA ?_; (with_reducible refine (spec_l1Bent.calls g s0_0 t315 t316 _ _ x4_1 t317 t320 t321 w0 _ ?side1 ?side2 ?side3 ?side4 ?side5 A33.out).mono ?_); (case side1 => exact IsS111.iS0 HI0.out); (case side2 => exact wS1 HB.out (IsS111.ge HI0.out)); (case side3 => exact cU ((Kd.R_reads' HO_4.out).2.2)); (case side4 => exact (Kd.R_reads' HO_4.out).2.1); (case side5 => exact far_slice (IsS111.own_ne HI0.out HO_4.out (by decide))); rintro e w36 ⟨v318, rfl, ho0, hi, hb, hk⟩; refine ⟨_, rfl, ?_⟩; have n0_ := aS (Kd.R_mono (Kd.R_told (Kd.R_oldK (IsS111.apart (show IsS111 w0 _ g s0_0 t315 t316 from by exact IsS111.iS0 HI0.out) (rU HO_4.out) (by decide)) hk) (Kd.R_base ho0)) (fun _ h_ => h_.1)); have n1_ := aS (Kd.R_lower (Kd.R_new' ho0 (Kd.R_lt (rU HO_4.out))) (keep_size (w := w) (g := g) (row := none) (kS0 HK.out))); have n2_ := aS (KeepBut.trans (kS0 HK.out) hk (.inl rfl)); have n3_ := aS (hb); have n4_ := aS (hi); clear HO_4 HK HB HI0; revert n0_ n1_ n2_ n3_ n4_; intro HO_4 HO319 HK HB HI0; clear hi hb hk; (try clear ho0)))
     go_ret2
     exact ⟨_, jE, Kd.R_mono (rU HO319.out) (fun _ hk => trivial), by exact IsS111.iS0 HI0.out, by exact wS1 HB.out (IsS111.ge HI0.out), by exact kS0 HK.out⟩
    ·replace c32 := Bool.eq_false_iff.mpr c32
     subst c32
     have H1 : (some (x4_1, x5_1, t315, t316)) = some (r1, r2, r3, r4) := by rw [if_neg (show ¬ (false = true) by decide)] at H; exact H
     clear H
     have H := H1
     clear H1
     simp only [Option.some.injEq, Prod.mk.injEq] at H
     obtain ⟨rfl, rfl, rfl, rfl⟩ := H
     go_wp2_with (first | ((with_reducible refine gate_callee (f := 76) rfl ?_); refine goesL_ (some 38) rfl rfl Tryd.func76 jK rfl #[.pointer (some ⟨g, 0, none⟩), .int .i64 4] rfl jA ?_; (with_reducible refine (spec_l1Once.calls g s0_0 x1001_1 x1002_1 4 false t315 t316 w0 _ ?side1 ?side2 A31.out).mono ?_); (case side1 => exact IsS111.iS0 HI0.out); (case side2 => exact wS1 HB.out (IsS111.ge HI0.out)); rintro e w37 ⟨rfl, hi, hb, hk⟩; refine ⟨_, rfl, ?_⟩; have n0_ := aS (Kd.R_mono (Kd.R_keep (IsS111.apart (show IsS111 w0 _ g s0_0 x1001_1 x1002_1 from by exact IsS111.iS0 HI0.out) (rU HO_4.out) (by decide)) hk (fun _ h => h.2)) (fun _ h => h.1)); have n1_ := aS (KeepBut.trans (kS0 HK.out) hk (.inl rfl)); have n2_ := aS (hb); have n3_ := aS (hi); clear HO_4 HK HB HI0; revert n0_ n1_ n2_ n3_; intro HO_4 HK HB HI0; clear hi hb hk))
     go_ret2
     exact ⟨_, jE, by (with_reducible repeat (first | apply Kd.R_alloc | apply Kd.R_drewN | apply Kd.R_drew)); exact HO_4.out, by exact IsS111.iS0 HI0.out, by exact wS1 HB.out (IsS111.ge HI0.out), by exact kS0 HK.out⟩

/-! ### spec_l5Type: function 130 -/
def spec_l5Type.f (s0_0 : List Int) (s0_1 : Int) (s0_2 : Int) : Option (Int × Int × Int) := (spec_l1Int.f s0_0 s0_1 s0_2 (([1, 1, 1, 2, 2, 5, 6, 16] : List Int))).bind fun bt325 => (some (bt325.1, bt325.2.1, bt325.2.2))
set_option maxHeartbeats 8000000 in
set_option maxRecDepth 100000 in
theorem spec_l5Type.calls (g : Nat) (s0_0 : List Int) (s0_1 : Int) (s0_2 : Int) (r1 : Int) (r2 : Int) (r3 : Int) (w0 w : World) (hI : IsS111 w0 w g s0_0 s0_1 s0_2) (hB : Below w0.heap.size w0 w) (h : spec_l5Type.f s0_0 s0_1 s0_2 = some (r1, r2, r3)) :
  Calls Tryd.prog 130 #[.pointer (some ⟨g, 0, none⟩)] w fun e w' => e = .returned (.int .i64 r1) ∧ IsS111 w0 w' g s0_0 r2 r3 ∧ Below w0.heap.size w0 w' ∧ KeepBut w w' g none := by
 have HI0 := aS hI
 have HK := aS (KeepBut.refl w g none)
 have HL := aS hB.size
 clear hI
 have HW0 := aS hB.size
 have HB := aS hB
 clear hB
 have H : ((spec_l1Int.f s0_0 s0_1 s0_2 (([1, 1, 1, 2, 2, 5, 6, 16] : List Int))).bind fun bt325 => (some (bt325.1, bt325.2.1, bt325.2.2))) = some (r1, r2, r3) := h
 clear h
 obtain ⟨y322, hy_⟩ : ∃ y_ : List Int, y_ = (([1, 1, 1, 2, 2, 5, 6, 16] : List Int)) := ⟨_, rfl⟩
 rw [← hy_] at H
 have Ny322 := aS hy_
 clear hy_
 replace H := Option.bind_eq_some_iff.mp H
 obtain ⟨⟨t325, t326, t327⟩, A2, H⟩ := H
 try dsimp only at H
 replace A2 := aS A2
 simp only [Option.some.injEq, Prod.mk.injEq] at H
 obtain ⟨rfl, rfl, rfl⟩ := H
 go_enter Tryd.func130, Tryd.ntmps130
 go_wp2_with (first | ((with_reducible refine gate_dst (N := 4) rfl ?_); refine Kd.R_lit (Kd.int .i64) _ 3 ?hg (N := 4) ?hd (xs := ([1, 1, 1, 2, 2, 5, 6, 16] : List Int)) (inner := [.int .i64 1, .int .i64 1, .int .i64 1, .int .i64 2, .int .i64 2, .int .i64 5, .int .i64 6, .int .i64 16]) (ok := fun _ => True) (okp := fun _ => True) ?hr ?hp (fun _ hk => hk) trivial (Below.refl _ _) (Nat.le_refl _) (by simp) ?_; (case hd => rfl); (case hg => rfl); (case hr => first | (go_simp; done) | (go_simp; rfl)); (case hp => exact (Reps.one (show Kd.M (Kd.int .i64) _ _ _ 1 [.int .i64 1] from rfl) (Reps.one (show Kd.M (Kd.int .i64) _ _ _ 1 [.int .i64 1] from rfl) (Reps.one (show Kd.M (Kd.int .i64) _ _ _ 1 [.int .i64 1] from rfl) (Reps.one (show Kd.M (Kd.int .i64) _ _ _ 2 [.int .i64 2] from rfl) (Reps.one (show Kd.M (Kd.int .i64) _ _ _ 2 [.int .i64 2] from rfl) (Reps.one (show Kd.M (Kd.int .i64) _ _ _ 5 [.int .i64 5] from rfl) (Reps.one (show Kd.M (Kd.int .i64) _ _ _ 6 [.int .i64 6] from rfl) (Reps.one (show Kd.M (Kd.int .i64) _ _ _ 16 [.int .i64 16] from rfl) (Reps.none _ _)))))))))); intro v323 w3 ho4 hb hg_ hnew_; clear hg_ hnew_; (first | rw [← Ny322.out] at ho4 | (simp only [Int.reduceToNat] at ho4; rw [← Ny322.out] at ho4)); have n0_ := aS (Kd.R_lower ho4 (keep_size (w := w) (g := g) (row := none) (kS0 HK.out))); have n1_ := aS (IsS111.below (IsS111.iS0 HI0.out) hb); have n2_ := aS (KeepBut.trans (kS0 HK.out) (KeepBut.of_below hb g none) (.inl rfl)); have n3_ := aS (below_step (by exact wS1 HB.out (IsS111.ge HI0.out)) hb); clear HI0 HK HB; revert n0_ n1_ n2_ n3_; intro HO324 HI0 HK HB; clear hb ho4; obtain ⟨Ao5, co5, eo5⟩ := Kd.R_slice HO324.out; subst eo5) | ((with_reducible refine gate_callee (f := 81) rfl ?_); refine goesL_ (some 5) rfl rfl Tryd.func81 jK rfl #[.pointer (some ⟨g, 0, none⟩), .slice Ao5 y322.length co5] rfl jA ?_; (with_reducible refine (spec_l1Int.calls g s0_0 s0_1 s0_2 _ _ y322 t325 t326 t327 w0 _ ?side1 ?side2 ?side3 ?side4 ?side5 A2.out).mono ?_); (case side1 => exact IsS111.iS0 HI0.out); (case side2 => exact wS1 HB.out (IsS111.ge HI0.out)); (case side3 => exact cU ((Kd.R_reads' HO324.out).2.2)); (case side4 => exact (Kd.R_reads' HO324.out).2.1); (case side5 => exact far_slice (IsS111.own_ne HI0.out HO324.out (by decide))); rintro e w6 ⟨rfl, hi, hb, hk⟩; refine ⟨_, rfl, ?_⟩; have n0_ := aS (Kd.R_mono (Kd.R_keep (IsS111.apart (show IsS111 w0 _ g s0_0 s0_1 s0_2 from by exact IsS111.iS0 HI0.out) (rU HO324.out) (by decide)) hk (fun _ h => h.2)) (fun _ h => h.1)); have n1_ := aS (KeepBut.trans (kS0 HK.out) hk (.inl rfl)); have n2_ := aS (hb); have n3_ := aS (hi); clear HO324 HK HB HI0; revert n0_ n1_ n2_ n3_; intro HO324 HK HB HI0; clear hi hb hk))
 go_ret
 exact ⟨jE, by exact IsS111.iS0 HI0.out, by exact wS1 HB.out (IsS111.ge HI0.out), by exact kS0 HK.out⟩

/-! ### spec_l5Draw: function 79 -/
def spec_l5Draw.j0 : Nat → Int → Bool → List Int → Int → Int → ByteArray → Int → Int → Int → ByteArray → ByteArray → Option (ByteArray × Int × Int × Int × ByteArray × ByteArray × Int × Int)
 | 0, _, _, _, _, _, _, _, _, _, _, _ => none
 | k + 1, x13, x20, x1000, x1001, x1002, x342000, x342001, x342002, x342003, x342004, x342005 => if x20 = true then ((spec_l3Name.f x1000 x1001 x1002).bind fun bt345 => (some (x342000, x342001, x342002, x342003, bt345.1, x342005, bt345.2.1, bt345.2.2))) else (if x13 = 6 then ((spec_l3Name.f x1000 x1001 x1002).bind fun bt348 => ((spec_l1Int.f x1000 bt348.2.1 bt348.2.2 (([0, 5, 60] : List Int))).bind fun bt354 => (some (x342000, x342001, x342002, bt354.1, bt348.1, x342005, bt354.2.1, bt354.2.2)))) else (if x13 = 16 then ((spec_l1Str.f x1000 x1001 x1002 (([(⟨#[]⟩ : ByteArray), (⟨#[104, 105]⟩ : ByteArray), (⟨#[116, 119, 101, 108, 118, 101, 98, 121, 116, 101, 115, 33]⟩ : ByteArray)] : List ByteArray))).bind fun bt360 => (some (x342000, x342001, x342002, x342003, x342004, bt360.1, bt360.2.1, bt360.2.2))) else (some (x342000, x342001, x342002, x342003, x342004, x342005, x1001, x1002))))
def spec_l5Draw.f (k : Nat) (s0_0 : List Int) (s0_1 : Int) (s0_2 : Int) : Option (ByteArray × Int × Int × Int × ByteArray × ByteArray × Int × Int) := (spec_l3Name.f s0_0 s0_1 s0_2).bind fun bt329 => ((spec_l5Type.f s0_0 bt329.2.1 bt329.2.2).bind fun bt332 => ((spec_l1Int.f s0_0 bt332.2.1 bt332.2.2 (([0, 1, 5, 60, 300, 100000] : List Int))).bind fun bt338 => (if bt332.1 = 1 then ((spec_l1Below.f s0_0 bt338.2.1 bt338.2.2 9).bind fun bt342 => (some (bt329.1, bt332.1, bt338.1, wrap64 (1 + bt342.1), (⟨#[]⟩ : ByteArray), (⟨#[]⟩ : ByteArray), bt342.2.1, bt342.2.2))) else (if bt332.1 = 2 then (spec_l5Draw.j0 k bt332.1 (bt332.1 == 2) s0_0 bt338.2.1 bt338.2.2 bt329.1 bt332.1 bt338.1 0 (⟨#[]⟩ : ByteArray) (⟨#[]⟩ : ByteArray)) else (spec_l5Draw.j0 k bt332.1 (bt332.1 == 5) s0_0 bt338.2.1 bt338.2.2 bt329.1 bt332.1 bt338.1 0 (⟨#[]⟩ : ByteArray) (⟨#[]⟩ : ByteArray))))))
theorem spec_l5Draw.mono_l : ∀ k, (∀ y0 y1 y2 y3 y4 y5 y6 y7 y8 y9 y10, LeO (spec_l5Draw.j0 k y0 y1 y2 y3 y4 y5 y6 y7 y8 y9 y10) (spec_l5Draw.j0 (k + 1) y0 y1 y2 y3 y4 y5 y6 y7 y8 y9 y10))
 | 0 => fun _ _ _ _ _ _ _ _ _ _ _ r h => by simp [spec_l5Draw.j0] at h
 | k + 1 => by
  have ih0 := spec_l5Draw.mono_l k
  ·intro y0 y1 y2 y3 y4 y5 y6 y7 y8 y9 y10
   unfold spec_l5Draw.j0
   repeat' first
   | (with_reducible first | exact ih0 _ _ _ _ _ _ _ _ _ _ _ | exact LeO.refl _ | exact LeO.none _ | refine LeO.ite ?_ ?_ | refine LeO.bind ?_ (fun _ => ?_))
   | exact ih0 _ _ _ _ _ _ _ _ _ _ _
   | exact LeO.none _
   | refine LeO.ite ?_ ?_
   | refine LeO.bind ?_ (fun _ => ?_)
theorem spec_l5Draw.mono : ∀ a0 a1 a2 k, LeO (spec_l5Draw.f k a0 a1 a2) (spec_l5Draw.f (k + 1) a0 a1 a2) := by
 intro a0 a1 a2 k
 have ih0 := spec_l5Draw.mono_l k
 unfold spec_l5Draw.f
 repeat' first
   | (with_reducible first | exact ih0 _ _ _ _ _ _ _ _ _ _ _ | exact LeO.refl _ | exact LeO.none _ | refine LeO.ite ?_ ?_ | refine LeO.bind ?_ (fun _ => ?_))
   | exact ih0 _ _ _ _ _ _ _ _ _ _ _
   | exact LeO.none _
   | refine LeO.ite ?_ ?_
   | refine LeO.bind ?_ (fun _ => ?_)
set_option maxHeartbeats 8000000 in
set_option maxRecDepth 100000 in
theorem spec_l5Draw.calls (k : Nat) (g : Nat) (s0_0 : List Int) (s0_1 : Int) (s0_2 : Int) (r1 : ByteArray) (r2 : Int) (r3 : Int) (r4 : Int) (r5 : ByteArray) (r6 : ByteArray) (r7 : Int) (r8 : Int) (w0 w : World) (hI : IsS111 w0 w g s0_0 s0_1 s0_2) (hB : Below w0.heap.size w0 w) (h : spec_l5Draw.f k s0_0 s0_1 s0_2 = some (r1, r2, r3, r4, r5, r6, r7, r8)) :
  Calls Tryd.prog 79 #[.pointer (some ⟨g, 0, none⟩)] w fun e w' => e = .returned (.agg #[.string r1, .int .i64 r2, .int .i64 r3, .int .i64 r4, .string r5, .string r6]) ∧ IsS111 w0 w' g s0_0 r7 r8 ∧ Below w0.heap.size w0 w' ∧ KeepBut w w' g none := by
 have hu25 := Tryd.underlying25
 have HI0 := aS hI
 have HK := aS (KeepBut.refl w g none)
 have HL := aS hB.size
 clear hI
 have HW0 := aS hB.size
 have HB := aS hB
 clear hB
 have H : ((spec_l3Name.f s0_0 s0_1 s0_2).bind fun bt329 => ((spec_l5Type.f s0_0 bt329.2.1 bt329.2.2).bind fun bt332 => ((spec_l1Int.f s0_0 bt332.2.1 bt332.2.2 (([0, 1, 5, 60, 300, 100000] : List Int))).bind fun bt338 => (if bt332.1 = 1 then ((spec_l1Below.f s0_0 bt338.2.1 bt338.2.2 9).bind fun bt342 => (some (bt329.1, bt332.1, bt338.1, wrap64 (1 + bt342.1), (⟨#[]⟩ : ByteArray), (⟨#[]⟩ : ByteArray), bt342.2.1, bt342.2.2))) else (if bt332.1 = 2 then (spec_l5Draw.j0 k bt332.1 (bt332.1 == 2) s0_0 bt338.2.1 bt338.2.2 bt329.1 bt332.1 bt338.1 0 (⟨#[]⟩ : ByteArray) (⟨#[]⟩ : ByteArray)) else (spec_l5Draw.j0 k bt332.1 (bt332.1 == 5) s0_0 bt338.2.1 bt338.2.2 bt329.1 bt332.1 bt338.1 0 (⟨#[]⟩ : ByteArray) (⟨#[]⟩ : ByteArray))))))) = some (r1, r2, r3, r4, r5, r6, r7, r8) := h
 clear h
 replace H := Option.bind_eq_some_iff.mp H
 obtain ⟨⟨t329, t330, t331⟩, A2, H⟩ := H
 try dsimp only at H
 replace A2 := aS A2
 replace H := Option.bind_eq_some_iff.mp H
 obtain ⟨⟨t332, t333, t334⟩, A3, H⟩ := H
 try dsimp only at H
 replace A3 := aS A3
 obtain ⟨y335, hy_⟩ : ∃ y_ : List Int, y_ = (([0, 1, 5, 60, 300, 100000] : List Int)) := ⟨_, rfl⟩
 rw [← hy_] at H
 have Ny335 := aS hy_
 clear hy_
 replace H := Option.bind_eq_some_iff.mp H
 obtain ⟨⟨t338, t339, t340⟩, A4, H⟩ := H
 try dsimp only at H
 replace A4 := aS A4
 have HC5 := aS H
 clear H
 go_enter Tryd.func79, Tryd.ntmps79
 go_upto_if 14 with (first | ((with_reducible refine gate_dst (N := 2) rfl ?_); refine box_event ?hg (N := 2) ?hd (cs := #[.string (⟨#[]⟩ : ByteArray), .int .i64 0, .int .i64 0, .int .i64 0, .string (⟨#[]⟩ : ByteArray), .string (⟨#[]⟩ : ByteArray)]) (t := 25) ?hr ?_; (case hd => rfl); (case hg => rfl); (case hr => first | (go_simp; done) | (go_simp; rfl)); intro gb328 hg w6 hbox hb; have n0_ := aS (IsS111.below (IsS111.iS0 HI0.out) hb); have n1_ := aS (KeepBut.trans (kS0 HK.out) (KeepBut.of_below hb g none) (.inl rfl)); have n2_ := aS (below_step (by exact wS1 HB.out (IsS111.ge HI0.out)) hb); have n3_ := aS (hbox); have n4_ := aS ((by rw [hg]; exact (keep_size (w := w) (g := g) (row := none) (kS0 HK.out)) : w.heap.size ≤ gb328)); have n5_ := aS ((Nat.le_trans HW0.out (by rw [hg]; exact (keep_size (w := w) (g := g) (row := none) (kS0 HK.out)) : w.heap.size ≤ gb328) : w0.heap.size ≤ gb328)); have n6_ := aS ((by rw [hg]; exact Nat.ne_of_lt (IsS111.lt (show IsS111 w0 _ g s0_0 s0_1 s0_2 from by exact IsS111.iS0 HI0.out)) : g ≠ gb328)); have n7_ := aS ((by rw [hg]; exact Nat.ne_of_gt (IsS111.lt (show IsS111 w0 _ g s0_0 s0_1 s0_2 from by exact IsS111.iS0 HI0.out)) : gb328 ≠ g)); clear HI0 HK HB; revert n0_ n1_ n2_ n3_ n4_ n5_ n6_ n7_; intro HI0 HK HB BK328 GW328 GE328 NB0_328 NB328_0; clear hb hbox hg) | ((with_reducible refine gate_callee (f := 85) rfl ?_); refine goesL_ (some 5) rfl rfl Tryd.func85 jK rfl #[.pointer (some ⟨g, 0, none⟩)] rfl jA ?_; (with_reducible refine (spec_l3Name.calls g s0_0 s0_1 s0_2 t329 t330 t331 w0 _ ?side1 ?side2 A2.out).mono ?_); (case side1 => exact IsS111.iS1 HI0.out NB0_328.out); (case side2 => exact wS2 HB.out (IsS111.ge HI0.out) GE328.out); rintro e w7 ⟨rfl, hi, hb, hk⟩; refine ⟨_, rfl, ?_⟩; have n0_ := aS (KeepBut.blk hk (g' := gb328) (o := .cells #[.string (⟨#[]⟩ : ByteArray), .int .i64 0, .int .i64 0, .int .i64 0, .string (⟨#[]⟩ : ByteArray), .string (⟨#[]⟩ : ByteArray)] 25 (0, 0)) (bU BK328.out) NB328_0.out (by simp)); have n1_ := aS (KeepBut.trans (kS1 HK.out GW328.out) hk (.inl rfl)); have n2_ := aS (hb); have n3_ := aS (hi); clear BK328 HK HB HI0; revert n0_ n1_ n2_ n3_; intro BK328 HK HB HI0; clear hi hb hk) | ((with_reducible refine gate_callee (f := 130) rfl ?_); refine goesL_ (some 7) rfl rfl Tryd.func130 jK rfl #[.pointer (some ⟨g, 0, none⟩)] rfl jA ?_; (with_reducible refine (spec_l5Type.calls g s0_0 t330 t331 t332 t333 t334 w0 _ ?side1 ?side2 A3.out).mono ?_); (case side1 => exact IsS111.iS1 HI0.out NB0_328.out); (case side2 => exact wS2 HB.out (IsS111.ge HI0.out) GE328.out); rintro e w8 ⟨rfl, hi, hb, hk⟩; refine ⟨_, rfl, ?_⟩; have n0_ := aS (KeepBut.blk hk (g' := gb328) (o := .cells #[.string (⟨#[]⟩ : ByteArray), .int .i64 0, .int .i64 0, .int .i64 0, .string (⟨#[]⟩ : ByteArray), .string (⟨#[]⟩ : ByteArray)] 25 (0, 0)) (bU BK328.out) NB328_0.out (by simp)); have n1_ := aS (KeepBut.trans (kS1 HK.out GW328.out) hk (.inl rfl)); have n2_ := aS (hb); have n3_ := aS (hi); clear BK328 HK HB HI0; revert n0_ n1_ n2_ n3_; intro BK328 HK HB HI0; clear hi hb hk) | ((with_reducible refine gate_dst (N := 9) rfl ?_); refine Kd.R_lit (Kd.int .i64) _ 3 ?hg (N := 9) ?hd (xs := ([0, 1, 5, 60, 300, 100000] : List Int)) (inner := [.int .i64 0, .int .i64 1, .int .i64 5, .int .i64 60, .int .i64 300, .int .i64 100000]) (ok := fun _ => True) (okp := fun _ => True) ?hr ?hp (fun _ hk => hk) trivial (Below.refl _ _) (Nat.le_refl _) (by simp) ?_; (case hd => rfl); (case hg => rfl); (case hr => first | (go_simp; done) | (go_simp; rfl)); (case hp => exact (Reps.one (show Kd.M (Kd.int .i64) _ _ _ 0 [.int .i64 0] from rfl) (Reps.one (show Kd.M (Kd.int .i64) _ _ _ 1 [.int .i64 1] from rfl) (Reps.one (show Kd.M (Kd.int .i64) _ _ _ 5 [.int .i64 5] from rfl) (Reps.one (show Kd.M (Kd.int .i64) _ _ _ 60 [.int .i64 60] from rfl) (Reps.one (show Kd.M (Kd.int .i64) _ _ _ 300 [.int .i64 300] from rfl) (Reps.one (show Kd.M (Kd.int .i64) _ _ _ 100000 [.int .i64 100000] from rfl) (Reps.none _ _)))))))); intro v336 w9 ho10 hb hg_ hnew_; clear hg_ hnew_; (first | rw [← Ny335.out] at ho10 | (simp only [Int.reduceToNat] at ho10; rw [← Ny335.out] at ho10)); have n0_ := aS (Kd.R_lower ho10 (keep_size (w := w) (g := g) (row := none) (kS1 HK.out GW328.out))); have n1_ := aS (IsS111.below (IsS111.iS1 HI0.out NB0_328.out) hb); have n2_ := aS (blk_below (bU BK328.out) hb); have n3_ := aS (KeepBut.trans (kS1 HK.out GW328.out) (KeepBut.of_below hb g none) (.inl rfl)); have n4_ := aS (below_step (by exact wS2 HB.out (IsS111.ge HI0.out) GE328.out) hb); clear HI0 BK328 HK HB; revert n0_ n1_ n2_ n3_ n4_; intro HO337 HI0 BK328 HK HB; clear hb ho10; obtain ⟨Ao11, co11, eo11⟩ := Kd.R_slice HO337.out; subst eo11) | ((with_reducible refine gate_callee (f := 81) rfl ?_); refine goesL_ (some 10) rfl rfl Tryd.func81 jK rfl #[.pointer (some ⟨g, 0, none⟩), .slice Ao11 y335.length co11] rfl jA ?_; (with_reducible refine (spec_l1Int.calls g s0_0 t333 t334 _ _ y335 t338 t339 t340 w0 _ ?side1 ?side2 ?side3 ?side4 ?side5 A4.out).mono ?_); (case side1 => exact IsS111.iS1 HI0.out NB0_328.out); (case side2 => exact wS2 HB.out (IsS111.ge HI0.out) GE328.out); (case side3 => exact cU ((Kd.R_reads' HO337.out).2.2)); (case side4 => exact (Kd.R_reads' HO337.out).2.1); (case side5 => exact far_slice (IsS111.own_ne HI0.out HO337.out (by decide))); rintro e w12 ⟨rfl, hi, hb, hk⟩; refine ⟨_, rfl, ?_⟩; have n0_ := aS (KeepBut.blk hk (g' := gb328) (o := .cells #[.string (⟨#[]⟩ : ByteArray), .int .i64 0, .int .i64 0, .int .i64 0, .string (⟨#[]⟩ : ByteArray), .string (⟨#[]⟩ : ByteArray)] 25 (0, 0)) (bU BK328.out) NB328_0.out (by simp)); have n1_ := aS (Kd.R_mono (Kd.R_keep (IsS111.apart (show IsS111 w0 _ g s0_0 t333 t334 from by exact IsS111.iS1 HI0.out NB0_328.out) (rU HO337.out) (by decide)) hk (fun _ h => h.2)) (fun _ h => h.1)); have n2_ := aS (KeepBut.trans (kS1 HK.out GW328.out) hk (.inl rfl)); have n3_ := aS (hb); have n4_ := aS (hi); clear BK328 HO337 HK HB HI0; revert n0_ n1_ n2_ n3_ n4_; intro BK328 HO337 HK HB HI0; clear hi hb hk) | ((with_reducible refine gate_dst (N := 3) rfl ?_); refine box_event ?hg (N := 3) ?hd (cs := #[.string (⟨#[]⟩ : ByteArray), .int .i64 0, .int .i64 0, .int .i64 0, .string (⟨#[]⟩ : ByteArray), .string (⟨#[]⟩ : ByteArray)]) (t := 25) ?hr ?_; (case hd => rfl); (case hg => rfl); (case hr => first | (go_simp; done) | (go_simp; rfl)); intro gb341 hg w13 hbox hb; have n0_ := aS (Kd.R_below (rU HO337.out) hb); have n1_ := aS (IsS111.below (IsS111.iS1 HI0.out NB0_328.out) hb); have n2_ := aS (blk_below (bU BK328.out) hb); have n3_ := aS (KeepBut.trans (kS1 HK.out GW328.out) (KeepBut.of_below hb g none) (.inl rfl)); have n4_ := aS (below_step (by exact wS2 HB.out (IsS111.ge HI0.out) GE328.out) hb); have n5_ := aS (hbox); have n6_ := aS ((by rw [hg]; exact (keep_size (w := w) (g := g) (row := none) (kS1 HK.out GW328.out)) : w.heap.size ≤ gb341)); have n7_ := aS ((Nat.le_trans HW0.out (by rw [hg]; exact (keep_size (w := w) (g := g) (row := none) (kS1 HK.out GW328.out)) : w.heap.size ≤ gb341) : w0.heap.size ≤ gb341)); have n8_ := aS ((by rw [hg]; exact Nat.ne_of_lt (blk_lt (bU BK328.out)) : gb328 ≠ gb341)); have n9_ := aS ((by rw [hg]; exact Nat.ne_of_gt (blk_lt (bU BK328.out)) : gb341 ≠ gb328)); have n10_ := aS ((by rw [hg]; exact Nat.ne_of_lt (IsS111.lt (show IsS111 w0 _ g s0_0 t339 t340 from by exact IsS111.iS1 HI0.out NB0_328.out)) : g ≠ gb341)); have n11_ := aS ((by rw [hg]; exact Nat.ne_of_gt (IsS111.lt (show IsS111 w0 _ g s0_0 t339 t340 from by exact IsS111.iS1 HI0.out NB0_328.out)) : gb341 ≠ g)); clear HO337 HI0 BK328 HK HB; revert n0_ n1_ n2_ n3_ n4_ n5_ n6_ n7_ n8_ n9_ n10_ n11_; intro HO337 HI0 BK328 HK HB BK341 GW341 GE341 NB328_341 NB341_328 NB0_341 NB341_0; clear hb hbox hg; have hnb14 := NB341_328.out; have hnc14 := NB328_341.out; have hnb15 := NB341_0.out; have hnc15 := NB0_341.out; have hcz16 := cells6f BK341.out))
 (try simp only [Act.put, List.setIfInBounds_toArray, List.set_cons_zero, List.set_cons_succ])
 have H := HC5.out
 clear HC5
 by_cases c17 : t332 = 1
 ·rw [if_pos c17] at H
  have c17b0 : (t332 == 1) = true := beq_iff_eq.mpr c17
  have c17b1 : (t332 != 1) = false := bne_eq_false_iff_eq.mpr c17
  clear c17
  (first | rw [c17b0] | (simp only [i64_w, i32_w]; rw [c17b0]) | skip)
  replace H := Option.bind_eq_some_iff.mp H
  obtain ⟨⟨t342, t343, t344⟩, A18, H⟩ := H
  try dsimp only at H
  replace A18 := aS A18
  simp only [Option.some.injEq, Prod.mk.injEq] at H
  obtain ⟨rfl, rfl, rfl, rfl, rfl, rfl, rfl, rfl⟩ := H
  go_wp2_with (first | ((with_reducible refine gate_callee (f := 78) rfl ?_); refine goesL_ (some 17) rfl rfl Tryd.func78 jK rfl #[.pointer (some ⟨g, 0, none⟩), .int .i64 9] rfl jA ?_; (with_reducible refine (spec_l1Below.calls g s0_0 t339 t340 9 t342 t343 t344 w0 _ ?side1 ?side2 A18.out).mono ?_); (case side1 => exact IsS111.iS2 HI0.out NB0_328.out NB0_341.out); (case side2 => exact wS3 HB.out (IsS111.ge HI0.out) GE328.out GE341.out); rintro e w19 ⟨rfl, hi, hb, hk⟩; refine ⟨_, rfl, ?_⟩; have n0_ := aS (KeepBut.blk hk (g' := gb328) (o := .cells #[.string (⟨#[]⟩ : ByteArray), .int .i64 0, .int .i64 0, .int .i64 0, .string (⟨#[]⟩ : ByteArray), .string (⟨#[]⟩ : ByteArray)] 25 (0, 0)) (by (iterate 6 ((with_reducible repeat (first | refine blk_drewN ?_ _ | refine blk_drew ?_ | refine blk_alloc ?_ _)); refine blk_far ?_ NB328_341.out _)); (with_reducible repeat (first | refine blk_drewN ?_ _ | refine blk_drew ?_ | refine blk_alloc ?_ _)); exact BK328.out) NB328_0.out (by simp)); have n1_ := aS (Kd.R_mono (Kd.R_keep (IsS111.apart (show IsS111 w0 _ g s0_0 t339 t340 from by exact IsS111.iS2 HI0.out NB0_328.out NB0_341.out) (by (with_reducible repeat (first | apply Kd.R_alloc | apply Kd.R_drewN | apply Kd.R_drew)); exact (Kd.R_mono (Kd.R_far (p := ⟨gb341, 5, none⟩) (Kd.R_far (p := ⟨gb341, 4, none⟩) (Kd.R_far (p := ⟨gb341, 3, none⟩) (Kd.R_far (p := ⟨gb341, 2, none⟩) (Kd.R_far (p := ⟨gb341, 1, none⟩) (Kd.R_far (p := ⟨gb341, 0, none⟩) (Kd.R_types HO337.out BK341.out (by decide)) (fun _ hk => hk.2) (.string t329)) (fun _ hk => hk.2) (.int .i64 t332)) (fun _ hk => hk.2) (.int .i64 t338)) (fun _ hk => hk.2) (.int .i64 0)) (fun _ hk => hk.2) (.string (⟨#[]⟩ : ByteArray))) (fun _ hk => hk.2) (.string (⟨#[]⟩ : ByteArray))) (fun _ h_ => h_.1))) (by decide)) hk (fun _ h => h.2)) (fun _ h => h.1)); have n2_ := aS (KeepBut.blk hk (g' := gb341) (o := .cells #[.string t329, .int .i64 t332, .int .i64 t338, .int .i64 0, .string (⟨#[]⟩ : ByteArray), .string (⟨#[]⟩ : ByteArray)] 25 (0, 0)) (by (with_reducible repeat (first | refine blk_drewN ?_ _ | refine blk_drew ?_ | refine blk_alloc ?_ _)); refine blk_put_6 (.string (⟨#[]⟩ : ByteArray)) (.int .i64 0) (.int .i64 0) (.int .i64 0) (.string (⟨#[]⟩ : ByteArray)) (.string (⟨#[]⟩ : ByteArray)) ?_; (with_reducible repeat (first | refine blk_drewN ?_ _ | refine blk_drew ?_ | refine blk_alloc ?_ _)); exact BK341.out) NB341_0.out (by simp)); have n3_ := aS (KeepBut.trans (kS2 HK.out GW328.out GW341.out) hk (.inl rfl)); have n4_ := aS (hb); have n5_ := aS (hi); clear BK328 HO337 BK341 HK HB HI0; revert n0_ n1_ n2_ n3_ n4_ n5_; intro BK328 HO337 BK341 HK HB HI0; clear hi hb hk; have hnb20 := NB341_328.out; have hnc20 := NB328_341.out; have hnb21 := NB341_0.out; have hnc21 := NB0_341.out; have hcz22 := cells6f BK341.out; have hnb23 := NB328_0.out; have hnc23 := NB0_328.out; have hcz24 := cells6f BK328.out))
  refine bodyPost_ret (results_cell_row rfl _ _ gb328 25 #[.string t329, .int .i64 t332, .int .i64 t338, .int .i64 (wrap64 (1 + t342)), .string (⟨#[]⟩ : ByteArray), .string (⟨#[]⟩ : ByteArray)] (0, 0) _ rfl (by (with_reducible repeat (first | refine blk_drewN ?_ _ | refine blk_drew ?_ | refine blk_alloc ?_ _)); refine blk_put_6 (.string (⟨#[]⟩ : ByteArray)) (.int .i64 0) (.int .i64 0) (.int .i64 0) (.string (⟨#[]⟩ : ByteArray)) (.string (⟨#[]⟩ : ByteArray)) ?_; (with_reducible repeat (first | refine blk_drewN ?_ _ | refine blk_drew ?_ | refine blk_alloc ?_ _)); refine blk_far ?_ NB328_341.out _; (with_reducible repeat (first | refine blk_drewN ?_ _ | refine blk_drew ?_ | refine blk_alloc ?_ _)); exact BK328.out) Tryd.underlying25 rfl jK) rfl ?_
  exact ⟨jE, by exact IsS111.iS2 HI0.out NB0_328.out NB0_341.out, by exact wS3 HB.out (IsS111.ge HI0.out) GE328.out GE341.out, by exact kS2 HK.out GW328.out GW341.out⟩
 ·rw [if_neg c17] at H
  have c17b0 : (t332 == 1) = false := beq_eq_false_iff_ne.mpr c17
  have c17b1 : (t332 != 1) = true := bne_iff_ne.mpr c17
  (first | rw [c17b0] | (simp only [i64_w, i32_w]; rw [c17b0]) | skip)
  have HC25 := aS H
  clear H
  go_upto_if 20 with (fail)
  go_cut [20] (fun v20 wc => ∃ (kq : Nat) (x20_24 : Bool), v20 = .bool x20_24 ∧ Aside0 (spec_l5Draw.j0 kq t332 x20_24 s0_0 t339 t340 t329 t332 t338 0 (⟨#[]⟩ : ByteArray) (⟨#[]⟩ : ByteArray) = some (r1, r2, r3, r4, r5, r6, r7, r8)) ∧ Aside0 (kq ≤ k) ∧ Aside0 (wc.heap[gb328]? = some (.cells #[.string (⟨#[]⟩ : ByteArray), .int .i64 0, .int .i64 0, .int .i64 0, .string (⟨#[]⟩ : ByteArray), .string (⟨#[]⟩ : ByteArray)] 25 (0, 0))) ∧ Aside0 (wc.heap[gb341]? = some (.cells #[.string t329, .int .i64 t332, .int .i64 t338, .int .i64 0, .string (⟨#[]⟩ : ByteArray), .string (⟨#[]⟩ : ByteArray)] 25 (0, 0))) ∧ Aside0 (IsS111 w0 wc g s0_0 t339 t340) ∧ Aside0 (KeepBut w wc g none) ∧ Aside0 (Below w0.heap.size w0 wc))
  case first =>
   have H := HC25.out
   clear HC25
   by_cases c26 : t332 = 2
   ·rw [if_pos c26] at H
    have c26b0 : (t332 == 2) = true := beq_iff_eq.mpr c26
    have c26b1 : (t332 != 2) = false := bne_eq_false_iff_eq.mpr c26
    clear c26
    (first | rw [c26b0] | (simp only [i64_w, i32_w]; rw [c26b0]) | skip)
    have H' := aS H
    clear H
    go_wp2
    go_meet
    case rel => exact ⟨_, ((t332 == 2)), jB, H', ⟨by first | omega | exact Nat.le_refl _⟩, ⟨by (iterate 6 ((with_reducible repeat (first | refine blk_drewN ?_ _ | refine blk_drew ?_ | refine blk_alloc ?_ _)); refine blk_far ?_ NB328_341.out _)); (with_reducible repeat (first | refine blk_drewN ?_ _ | refine blk_drew ?_ | refine blk_alloc ?_ _)); exact BK328.out⟩, ⟨by (with_reducible repeat (first | refine blk_drewN ?_ _ | refine blk_drew ?_ | refine blk_alloc ?_ _)); refine blk_put_6 (.string (⟨#[]⟩ : ByteArray)) (.int .i64 0) (.int .i64 0) (.int .i64 0) (.string (⟨#[]⟩ : ByteArray)) (.string (⟨#[]⟩ : ByteArray)) ?_; (with_reducible repeat (first | refine blk_drewN ?_ _ | refine blk_drew ?_ | refine blk_alloc ?_ _)); exact BK341.out⟩, ⟨by exact IsS111.iS2 HI0.out NB0_328.out NB0_341.out⟩, ⟨by exact kS2 HK.out GW328.out GW341.out⟩, ⟨by exact wS3 HB.out (IsS111.ge HI0.out) GE328.out GE341.out⟩⟩
   ·rw [if_neg c26] at H
    have c26b0 : (t332 == 2) = false := beq_eq_false_iff_ne.mpr c26
    have c26b1 : (t332 != 2) = true := bne_iff_ne.mpr c26
    (first | rw [c26b0] | (simp only [i64_w, i32_w]; rw [c26b0]) | skip)
    have H' := aS H
    clear H
    go_wp2
    go_meet
    case rel => exact ⟨_, ((t332 == 5)), jB, H', ⟨by first | omega | exact Nat.le_refl _⟩, ⟨by (iterate 6 ((with_reducible repeat (first | refine blk_drewN ?_ _ | refine blk_drew ?_ | refine blk_alloc ?_ _)); refine blk_far ?_ NB328_341.out _)); (with_reducible repeat (first | refine blk_drewN ?_ _ | refine blk_drew ?_ | refine blk_alloc ?_ _)); exact BK328.out⟩, ⟨by (with_reducible repeat (first | refine blk_drewN ?_ _ | refine blk_drew ?_ | refine blk_alloc ?_ _)); refine blk_put_6 (.string (⟨#[]⟩ : ByteArray)) (.int .i64 0) (.int .i64 0) (.int .i64 0) (.string (⟨#[]⟩ : ByteArray)) (.string (⟨#[]⟩ : ByteArray)) ?_; (with_reducible repeat (first | refine blk_drewN ?_ _ | refine blk_drew ?_ | refine blk_alloc ?_ _)); exact BK341.out⟩, ⟨by exact IsS111.iS2 HI0.out NB0_328.out NB0_341.out⟩, ⟨by exact kS2 HK.out GW328.out GW341.out⟩, ⟨by exact wS3 HB.out (IsS111.ge HI0.out) GE328.out GE341.out⟩⟩
  case rest =>
   clear HC25
   try clear c1
   try clear c2
   try clear p2
   try clear p6
   try clear c7
   try clear c8
   try clear c13
   try clear c14
   try clear c15
   try clear c17
   try clear c17b0
   try clear c17b1
   try clear c20
   try clear c21
   try clear c23
   try clear c26
   try clear c26b0
   try clear c26b1
   try clear hcz16
   try clear hcz22
   try clear hcz24
   obtain ⟨kq, x20_24, rfl, HA, HJ24, BK328, BK341, HI0, HK, HB⟩ := hcut
   cases kq with
   | zero => exact absurd HA.out (by simp [spec_l5Draw.j0])
   | succ kj24 =>
    have H := HA.out
    clear HA
    simp only [spec_l5Draw.j0] at H
    by_cases c27 : x20_24 = true
    ·subst c27
     have H1 : ((spec_l3Name.f s0_0 t339 t340).bind fun bt345 => (some (t329, t332, t338, 0, bt345.1, (⟨#[]⟩ : ByteArray), bt345.2.1, bt345.2.2))) = some (r1, r2, r3, r4, r5, r6, r7, r8) := by rw [if_pos rfl] at H; exact H
     clear H
     have H := H1
     clear H1
     replace H := Option.bind_eq_some_iff.mp H
     obtain ⟨⟨t345, t346, t347⟩, A28, H⟩ := H
     try dsimp only at H
     replace A28 := aS A28
     simp only [Option.some.injEq, Prod.mk.injEq] at H
     obtain ⟨rfl, rfl, rfl, rfl, rfl, rfl, rfl, rfl⟩ := H
     go_wp2_with (first | ((with_reducible refine gate_callee (f := 85) rfl ?_); refine goesL_ (some 24) rfl rfl Tryd.func85 jK rfl #[.pointer (some ⟨g, 0, none⟩)] rfl jA ?_; (with_reducible refine (spec_l3Name.calls g s0_0 t339 t340 t345 t346 t347 w0 _ ?side1 ?side2 A28.out).mono ?_); (case side1 => exact IsS111.iS2 HI0.out NB0_328.out NB0_341.out); (case side2 => exact wS3 HB.out (IsS111.ge HI0.out) GE328.out GE341.out); rintro e w29 ⟨rfl, hi, hb, hk⟩; refine ⟨_, rfl, ?_⟩; have n0_ := aS (KeepBut.blk hk (g' := gb328) (o := .cells #[.string (⟨#[]⟩ : ByteArray), .int .i64 0, .int .i64 0, .int .i64 0, .string (⟨#[]⟩ : ByteArray), .string (⟨#[]⟩ : ByteArray)] 25 (0, 0)) (bU BK328.out) NB328_0.out (by simp)); have n1_ := aS (KeepBut.blk hk (g' := gb341) (o := .cells #[.string t329, .int .i64 t332, .int .i64 t338, .int .i64 0, .string (⟨#[]⟩ : ByteArray), .string (⟨#[]⟩ : ByteArray)] 25 (0, 0)) (bU BK341.out) NB341_0.out (by simp)); have n2_ := aS (KeepBut.trans (kS2 HK.out GW328.out GW341.out) hk (.inl rfl)); have n3_ := aS (hb); have n4_ := aS (hi); clear BK328 BK341 HK HB HI0; revert n0_ n1_ n2_ n3_ n4_; intro BK328 BK341 HK HB HI0; clear hi hb hk; have hnb30 := NB341_328.out; have hnc30 := NB328_341.out; have hnb31 := NB341_0.out; have hnc31 := NB0_341.out; have hcz32 := cells6f BK341.out; have hnb33 := NB328_0.out; have hnc33 := NB0_328.out; have hcz34 := cells6f BK328.out))
     refine bodyPost_ret (results_cell_row rfl _ _ gb328 25 #[.string t329, .int .i64 t332, .int .i64 t338, .int .i64 0, .string t345, .string (⟨#[]⟩ : ByteArray)] (0, 0) _ rfl (by (with_reducible repeat (first | refine blk_drewN ?_ _ | refine blk_drew ?_ | refine blk_alloc ?_ _)); refine blk_put_6 (.string (⟨#[]⟩ : ByteArray)) (.int .i64 0) (.int .i64 0) (.int .i64 0) (.string (⟨#[]⟩ : ByteArray)) (.string (⟨#[]⟩ : ByteArray)) ?_; (with_reducible repeat (first | refine blk_drewN ?_ _ | refine blk_drew ?_ | refine blk_alloc ?_ _)); refine blk_far ?_ NB328_341.out _; (with_reducible repeat (first | refine blk_drewN ?_ _ | refine blk_drew ?_ | refine blk_alloc ?_ _)); exact BK328.out) Tryd.underlying25 rfl jK) rfl ?_
     exact ⟨jE, by exact IsS111.iS2 HI0.out NB0_328.out NB0_341.out, by exact wS3 HB.out (IsS111.ge HI0.out) GE328.out GE341.out, by exact kS2 HK.out GW328.out GW341.out⟩
    ·replace c27 := Bool.eq_false_iff.mpr c27
     subst c27
     have H1 : (if t332 = 6 then ((spec_l3Name.f s0_0 t339 t340).bind fun bt348 => ((spec_l1Int.f s0_0 bt348.2.1 bt348.2.2 (([0, 5, 60] : List Int))).bind fun bt354 => (some (t329, t332, t338, bt354.1, bt348.1, (⟨#[]⟩ : ByteArray), bt354.2.1, bt354.2.2)))) else (if t332 = 16 then ((spec_l1Str.f s0_0 t339 t340 (([(⟨#[]⟩ : ByteArray), (⟨#[104, 105]⟩ : ByteArray), (⟨#[116, 119, 101, 108, 118, 101, 98, 121, 116, 101, 115, 33]⟩ : ByteArray)] : List ByteArray))).bind fun bt360 => (some (t329, t332, t338, 0, (⟨#[]⟩ : ByteArray), bt360.1, bt360.2.1, bt360.2.2))) else (some (t329, t332, t338, 0, (⟨#[]⟩ : ByteArray), (⟨#[]⟩ : ByteArray), t339, t340)))) = some (r1, r2, r3, r4, r5, r6, r7, r8) := by rw [if_neg (show ¬ (false = true) by decide)] at H; exact H
     clear H
     have H := H1
     clear H1
     by_cases c35 : t332 = 6
     ·rw [if_pos c35] at H
      have c35b0 : (t332 == 6) = true := beq_iff_eq.mpr c35
      have c35b1 : (t332 != 6) = false := bne_eq_false_iff_eq.mpr c35
      clear c35
      replace H := Option.bind_eq_some_iff.mp H
      obtain ⟨⟨t348, t349, t350⟩, A36, H⟩ := H
      try dsimp only at H
      replace A36 := aS A36
      obtain ⟨y351, hy_⟩ : ∃ y_ : List Int, y_ = (([0, 5, 60] : List Int)) := ⟨_, rfl⟩
      rw [← hy_] at H
      have Ny351 := aS hy_
      clear hy_
      replace H := Option.bind_eq_some_iff.mp H
      obtain ⟨⟨t354, t355, t356⟩, A37, H⟩ := H
      try dsimp only at H
      replace A37 := aS A37
      simp only [Option.some.injEq, Prod.mk.injEq] at H
      obtain ⟨rfl, rfl, rfl, rfl, rfl, rfl, rfl, rfl⟩ := H
      go_wp2_with (first | ((with_reducible refine gate_callee (f := 85) rfl ?_); refine goesL_ (some 29) rfl rfl Tryd.func85 jK rfl #[.pointer (some ⟨g, 0, none⟩)] rfl jA ?_; (with_reducible refine (spec_l3Name.calls g s0_0 t339 t340 t348 t349 t350 w0 _ ?side1 ?side2 A36.out).mono ?_); (case side1 => exact IsS111.iS2 HI0.out NB0_328.out NB0_341.out); (case side2 => exact wS3 HB.out (IsS111.ge HI0.out) GE328.out GE341.out); rintro e w38 ⟨rfl, hi, hb, hk⟩; refine ⟨_, rfl, ?_⟩; have n0_ := aS (KeepBut.blk hk (g' := gb328) (o := .cells #[.string (⟨#[]⟩ : ByteArray), .int .i64 0, .int .i64 0, .int .i64 0, .string (⟨#[]⟩ : ByteArray), .string (⟨#[]⟩ : ByteArray)] 25 (0, 0)) (bU BK328.out) NB328_0.out (by simp)); have n1_ := aS (KeepBut.blk hk (g' := gb341) (o := .cells #[.string t329, .int .i64 t332, .int .i64 t338, .int .i64 0, .string (⟨#[]⟩ : ByteArray), .string (⟨#[]⟩ : ByteArray)] 25 (0, 0)) (bU BK341.out) NB341_0.out (by simp)); have n2_ := aS (KeepBut.trans (kS2 HK.out GW328.out GW341.out) hk (.inl rfl)); have n3_ := aS (hb); have n4_ := aS (hi); clear BK328 BK341 HK HB HI0; revert n0_ n1_ n2_ n3_ n4_; intro BK328 BK341 HK HB HI0; clear hi hb hk; have hnb39 := NB341_328.out; have hnc39 := NB328_341.out; have hnb40 := NB341_0.out; have hnc40 := NB0_341.out; have hcz41 := cells6f BK341.out) | ((with_reducible refine gate_dst (N := 32) rfl ?_); refine Kd.R_lit (Kd.int .i64) _ 3 ?hg (N := 32) ?hd (xs := ([0, 5, 60] : List Int)) (inner := [.int .i64 0, .int .i64 5, .int .i64 60]) (ok := fun _ => True) (okp := fun _ => True) ?hr ?hp (fun _ hk => hk) trivial (Below.refl _ _) (Nat.le_refl _) (by simp) ?_; (case hd => rfl); (case hg => rfl); (case hr => first | (go_simp; done) | (go_simp; rfl)); (case hp => exact (Reps.one (show Kd.M (Kd.int .i64) _ _ _ 0 [.int .i64 0] from rfl) (Reps.one (show Kd.M (Kd.int .i64) _ _ _ 5 [.int .i64 5] from rfl) (Reps.one (show Kd.M (Kd.int .i64) _ _ _ 60 [.int .i64 60] from rfl) (Reps.none _ _))))); intro v352 w42 ho43 hb hg_ hnew_; clear hg_ hnew_; (first | rw [← Ny351.out] at ho43 | (simp only [Int.reduceToNat] at ho43; rw [← Ny351.out] at ho43)); have n0_ := aS (Kd.R_lower ho43 (keep_size (w := w) (g := g) (row := none) (kS2 HK.out GW328.out GW341.out))); have n1_ := aS (blk_below (g := gb328) (o := .cells #[.string (⟨#[]⟩ : ByteArray), .int .i64 0, .int .i64 0, .int .i64 0, .string (⟨#[]⟩ : ByteArray), .string (⟨#[]⟩ : ByteArray)] 25 (0, 0)) (by (with_reducible repeat (first | refine blk_drewN ?_ _ | refine blk_drew ?_ | refine blk_alloc ?_ _)); refine blk_far ?_ NB328_341.out _; (with_reducible repeat (first | refine blk_drewN ?_ _ | refine blk_drew ?_ | refine blk_alloc ?_ _)); exact BK328.out) hb); have n2_ := aS (blk_below (g := gb341) (o := .cells #[.string t329, .int .i64 t332, .int .i64 t338, .int .i64 0, .string t348, .string (⟨#[]⟩ : ByteArray)] 25 (0, 0)) (by (with_reducible repeat (first | refine blk_drewN ?_ _ | refine blk_drew ?_ | refine blk_alloc ?_ _)); refine blk_put (cs := #[.string t329, .int .i64 t332, .int .i64 t338, .int .i64 0, .string (⟨#[]⟩ : ByteArray), .string (⟨#[]⟩ : ByteArray)]) ?_ 4 _ rfl; (with_reducible repeat (first | refine blk_drewN ?_ _ | refine blk_drew ?_ | refine blk_alloc ?_ _)); exact BK341.out) hb); have n3_ := aS (IsS111.below (show IsS111 w0 (w38.setCell ⟨gb341, 4, none⟩ (.string t348)) g s0_0 t349 t350 from by exact IsS111.iS2 HI0.out NB0_328.out NB0_341.out) hb); have n4_ := aS (KeepBut.trans (kS2 HK.out GW328.out GW341.out) (KeepBut.of_below hb g none) (.inl rfl)); have n5_ := aS (below_step (by exact wS3 HB.out (IsS111.ge HI0.out) GE328.out GE341.out) hb); clear BK328 BK341 HI0 HK HB; revert n0_ n1_ n2_ n3_ n4_ n5_; intro HO353 BK328 BK341 HI0 HK HB; clear hb ho43; obtain ⟨Ao44, co44, eo44⟩ := Kd.R_slice HO353.out; subst eo44) | ((with_reducible refine gate_callee (f := 81) rfl ?_); refine goesL_ (some 33) rfl rfl Tryd.func81 jK rfl #[.pointer (some ⟨g, 0, none⟩), .slice Ao44 y351.length co44] rfl jA ?_; (with_reducible refine (spec_l1Int.calls g s0_0 t349 t350 _ _ y351 t354 t355 t356 w0 _ ?side1 ?side2 ?side3 ?side4 ?side5 A37.out).mono ?_); (case side1 => exact IsS111.iS2 HI0.out NB0_328.out NB0_341.out); (case side2 => exact wS3 HB.out (IsS111.ge HI0.out) GE328.out GE341.out); (case side3 => exact cU ((Kd.R_reads' HO353.out).2.2)); (case side4 => exact (Kd.R_reads' HO353.out).2.1); (case side5 => exact far_slice (IsS111.own_ne HI0.out HO353.out (by decide))); rintro e w45 ⟨rfl, hi, hb, hk⟩; refine ⟨_, rfl, ?_⟩; have n0_ := aS (KeepBut.blk hk (g' := gb328) (o := .cells #[.string (⟨#[]⟩ : ByteArray), .int .i64 0, .int .i64 0, .int .i64 0, .string (⟨#[]⟩ : ByteArray), .string (⟨#[]⟩ : ByteArray)] 25 (0, 0)) (bU BK328.out) NB328_0.out (by simp)); have n1_ := aS (KeepBut.blk hk (g' := gb341) (o := .cells #[.string t329, .int .i64 t332, .int .i64 t338, .int .i64 0, .string t348, .string (⟨#[]⟩ : ByteArray)] 25 (0, 0)) (bU BK341.out) NB341_0.out (by simp)); have n2_ := aS (Kd.R_mono (Kd.R_keep (IsS111.apart (show IsS111 w0 _ g s0_0 t349 t350 from by exact IsS111.iS2 HI0.out NB0_328.out NB0_341.out) (rU HO353.out) (by decide)) hk (fun _ h => h.2)) (fun _ h => h.1)); have n3_ := aS (KeepBut.trans (kS2 HK.out GW328.out GW341.out) hk (.inl rfl)); have n4_ := aS (hb); have n5_ := aS (hi); clear BK328 BK341 HO353 HK HB HI0; revert n0_ n1_ n2_ n3_ n4_ n5_; intro BK328 BK341 HO353 HK HB HI0; clear hi hb hk; have hcz46 := cells6f BK341.out; have hnb47 := NB328_0.out; have hnc47 := NB0_328.out; have hcz48 := cells6f BK328.out))
      refine bodyPost_ret (results_cell_row rfl _ _ gb328 25 #[.string t329, .int .i64 t332, .int .i64 t338, .int .i64 t354, .string t348, .string (⟨#[]⟩ : ByteArray)] (0, 0) _ rfl (by (with_reducible repeat (first | refine blk_drewN ?_ _ | refine blk_drew ?_ | refine blk_alloc ?_ _)); refine blk_put_6 (.string (⟨#[]⟩ : ByteArray)) (.int .i64 0) (.int .i64 0) (.int .i64 0) (.string (⟨#[]⟩ : ByteArray)) (.string (⟨#[]⟩ : ByteArray)) ?_; (with_reducible repeat (first | refine blk_drewN ?_ _ | refine blk_drew ?_ | refine blk_alloc ?_ _)); refine blk_far ?_ NB328_341.out _; (with_reducible repeat (first | refine blk_drewN ?_ _ | refine blk_drew ?_ | refine blk_alloc ?_ _)); exact BK328.out) Tryd.underlying25 rfl jK) rfl ?_
      exact ⟨jE, by exact IsS111.iS2 HI0.out NB0_328.out NB0_341.out, by exact wS3 HB.out (IsS111.ge HI0.out) GE328.out GE341.out, by exact kS2 HK.out GW328.out GW341.out⟩
     ·rw [if_neg c35] at H
      have c35b0 : (t332 == 6) = false := beq_eq_false_iff_ne.mpr c35
      have c35b1 : (t332 != 6) = true := bne_iff_ne.mpr c35
      by_cases c49 : t332 = 16
      ·rw [if_pos c49] at H
       have c49b0 : (t332 == 16) = true := beq_iff_eq.mpr c49
       have c49b1 : (t332 != 16) = false := bne_eq_false_iff_eq.mpr c49
       clear c49
       obtain ⟨y357, hy_⟩ : ∃ y_ : List ByteArray, y_ = (([(⟨#[]⟩ : ByteArray), (⟨#[104, 105]⟩ : ByteArray), (⟨#[116, 119, 101, 108, 118, 101, 98, 121, 116, 101, 115, 33]⟩ : ByteArray)] : List ByteArray)) := ⟨_, rfl⟩
       replace H : ((spec_l1Str.f s0_0 t339 t340 y357).bind fun bt360 => (some (t329, t332, t338, 0, (⟨#[]⟩ : ByteArray), bt360.1, bt360.2.1, bt360.2.2))) = some (r1, r2, r3, r4, r5, r6, r7, r8) := jD
       have Ny357 := aS hy_
       clear hy_
       replace H := Option.bind_eq_some_iff.mp H
       obtain ⟨⟨t360, t361, t362⟩, A50, H⟩ := H
       try dsimp only at H
       replace A50 := aS A50
       simp only [Option.some.injEq, Prod.mk.injEq] at H
       obtain ⟨rfl, rfl, rfl, rfl, rfl, rfl, rfl, rfl⟩ := H
       go_wp2_with (first | ((with_reducible refine gate_dst (N := 38) rfl ?_); refine Kd.R_lit Kd.string _ 9 ?hg (N := 38) ?hd (xs := ([(⟨#[]⟩ : ByteArray), (⟨#[104, 105]⟩ : ByteArray), (⟨#[116, 119, 101, 108, 118, 101, 98, 121, 116, 101, 115, 33]⟩ : ByteArray)] : List ByteArray)) (inner := [.string (⟨#[]⟩ : ByteArray), .string (⟨#[104, 105]⟩ : ByteArray), .string (⟨#[116, 119, 101, 108, 118, 101, 98, 121, 116, 101, 115, 33]⟩ : ByteArray)]) (ok := fun _ => True) (okp := fun _ => True) ?hr ?hp (fun _ hk => hk) trivial (Below.refl _ _) (Nat.le_refl _) (by simp) ?_; (case hd => rfl); (case hg => rfl); (case hr => first | (go_simp; done) | (go_simp; rfl)); (case hp => exact (Reps.one (show Kd.M Kd.string _ _ _ (⟨#[]⟩ : ByteArray) [.string (⟨#[]⟩ : ByteArray)] from rfl) (Reps.one (show Kd.M Kd.string _ _ _ (⟨#[104, 105]⟩ : ByteArray) [.string (⟨#[104, 105]⟩ : ByteArray)] from rfl) (Reps.one (show Kd.M Kd.string _ _ _ (⟨#[116, 119, 101, 108, 118, 101, 98, 121, 116, 101, 115, 33]⟩ : ByteArray) [.string (⟨#[116, 119, 101, 108, 118, 101, 98, 121, 116, 101, 115, 33]⟩ : ByteArray)] from rfl) (Reps.none _ _))))); intro v358 w51 ho52 hb hg_ hnew_; clear hg_ hnew_; (first | rw [← Ny357.out] at ho52 | (simp only [Int.reduceToNat] at ho52; rw [← Ny357.out] at ho52)); have n0_ := aS (Kd.R_lower ho52 (keep_size (w := w) (g := g) (row := none) (kS2 HK.out GW328.out GW341.out))); have n1_ := aS (blk_below (bU BK328.out) hb); have n2_ := aS (blk_below (bU BK341.out) hb); have n3_ := aS (IsS111.below (IsS111.iS2 HI0.out NB0_328.out NB0_341.out) hb); have n4_ := aS (KeepBut.trans (kS2 HK.out GW328.out GW341.out) (KeepBut.of_below hb g none) (.inl rfl)); have n5_ := aS (below_step (by exact wS3 HB.out (IsS111.ge HI0.out) GE328.out GE341.out) hb); clear BK328 BK341 HI0 HK HB; revert n0_ n1_ n2_ n3_ n4_ n5_; intro HO359 BK328 BK341 HI0 HK HB; clear hb ho52; obtain ⟨Ao53, co53, eo53⟩ := Kd.R_slice HO359.out; subst eo53) | ((with_reducible refine gate_callee (f := 113) rfl ?_); refine goesL_ (some 39) rfl rfl Tryd.func113 jK rfl #[.pointer (some ⟨g, 0, none⟩), .slice Ao53 y357.length co53] rfl jA ?_; (with_reducible refine (spec_l1Str.calls g s0_0 t339 t340 _ _ y357 t360 t361 t362 w0 _ ?side1 ?side2 ?side3 ?side4 ?side5 A50.out).mono ?_); (case side1 => exact IsS111.iS2 HI0.out NB0_328.out NB0_341.out); (case side2 => exact wS3 HB.out (IsS111.ge HI0.out) GE328.out GE341.out); (case side3 => exact cU ((Kd.R_reads' HO359.out).2.2)); (case side4 => exact (Kd.R_reads' HO359.out).2.1); (case side5 => exact far_slice (IsS111.own_ne HI0.out HO359.out (by decide))); rintro e w54 ⟨rfl, hi, hb, hk⟩; refine ⟨_, rfl, ?_⟩; have n0_ := aS (KeepBut.blk hk (g' := gb328) (o := .cells #[.string (⟨#[]⟩ : ByteArray), .int .i64 0, .int .i64 0, .int .i64 0, .string (⟨#[]⟩ : ByteArray), .string (⟨#[]⟩ : ByteArray)] 25 (0, 0)) (bU BK328.out) NB328_0.out (by simp)); have n1_ := aS (KeepBut.blk hk (g' := gb341) (o := .cells #[.string t329, .int .i64 t332, .int .i64 t338, .int .i64 0, .string (⟨#[]⟩ : ByteArray), .string (⟨#[]⟩ : ByteArray)] 25 (0, 0)) (bU BK341.out) NB341_0.out (by simp)); have n2_ := aS (Kd.R_mono (Kd.R_keep (IsS111.apart (show IsS111 w0 _ g s0_0 t339 t340 from by exact IsS111.iS2 HI0.out NB0_328.out NB0_341.out) (rU HO359.out) (by decide)) hk (fun _ h => h.2)) (fun _ h => h.1)); have n3_ := aS (KeepBut.trans (kS2 HK.out GW328.out GW341.out) hk (.inl rfl)); have n4_ := aS (hb); have n5_ := aS (hi); clear BK328 BK341 HO359 HK HB HI0; revert n0_ n1_ n2_ n3_ n4_ n5_; intro BK328 BK341 HO359 HK HB HI0; clear hi hb hk; have hnb55 := NB341_328.out; have hnc55 := NB328_341.out; have hnb56 := NB341_0.out; have hnc56 := NB0_341.out; have hcz57 := cells6f BK341.out; have hnb58 := NB328_0.out; have hnc58 := NB0_328.out; have hcz59 := cells6f BK328.out))
       refine bodyPost_ret (results_cell_row rfl _ _ gb328 25 #[.string t329, .int .i64 t332, .int .i64 t338, .int .i64 0, .string (⟨#[]⟩ : ByteArray), .string t360] (0, 0) _ rfl (by (with_reducible repeat (first | refine blk_drewN ?_ _ | refine blk_drew ?_ | refine blk_alloc ?_ _)); refine blk_put_6 (.string (⟨#[]⟩ : ByteArray)) (.int .i64 0) (.int .i64 0) (.int .i64 0) (.string (⟨#[]⟩ : ByteArray)) (.string (⟨#[]⟩ : ByteArray)) ?_; (with_reducible repeat (first | refine blk_drewN ?_ _ | refine blk_drew ?_ | refine blk_alloc ?_ _)); refine blk_far ?_ NB328_341.out _; (with_reducible repeat (first | refine blk_drewN ?_ _ | refine blk_drew ?_ | refine blk_alloc ?_ _)); exact BK328.out) Tryd.underlying25 rfl jK) rfl ?_
       exact ⟨jE, by exact IsS111.iS2 HI0.out NB0_328.out NB0_341.out, by exact wS3 HB.out (IsS111.ge HI0.out) GE328.out GE341.out, by exact kS2 HK.out GW328.out GW341.out⟩
      ·rw [if_neg c49] at H
       have c49b0 : (t332 == 16) = false := beq_eq_false_iff_ne.mpr c49
       have c49b1 : (t332 != 16) = true := bne_iff_ne.mpr c49
       simp only [Option.some.injEq, Prod.mk.injEq] at H
       obtain ⟨rfl, rfl, rfl, rfl, rfl, rfl, rfl, rfl⟩ := H
       have hnb60 := NB341_328.out
       have hnc60 := NB328_341.out
       have hnb61 := NB341_0.out
       have hnc61 := NB0_341.out
       have hcz62 := cells6f BK341.out
       have hnb63 := NB328_0.out
       have hnc63 := NB0_328.out
       have hcz64 := cells6f BK328.out
       go_wp2
       refine bodyPost_ret (results_cell_row rfl _ _ gb328 25 #[.string t329, .int .i64 t332, .int .i64 t338, .int .i64 0, .string (⟨#[]⟩ : ByteArray), .string (⟨#[]⟩ : ByteArray)] (0, 0) _ rfl (by (with_reducible repeat (first | refine blk_drewN ?_ _ | refine blk_drew ?_ | refine blk_alloc ?_ _)); refine blk_put_6 (.string (⟨#[]⟩ : ByteArray)) (.int .i64 0) (.int .i64 0) (.int .i64 0) (.string (⟨#[]⟩ : ByteArray)) (.string (⟨#[]⟩ : ByteArray)) ?_; (with_reducible repeat (first | refine blk_drewN ?_ _ | refine blk_drew ?_ | refine blk_alloc ?_ _)); exact BK328.out) Tryd.underlying25 rfl jK) rfl ?_
       exact ⟨jE, by exact IsS111.iS2 HI0.out NB0_328.out NB0_341.out, by exact wS3 HB.out (IsS111.ge HI0.out) GE328.out GE341.out, by exact kS2 HK.out GW328.out GW341.out⟩

end Go.Proofs.YtdigilidomimdaaDoor.Pr
