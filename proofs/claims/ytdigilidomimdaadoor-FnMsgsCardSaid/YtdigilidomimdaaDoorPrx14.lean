-- Written for this claim by a program of this session (wip/tool/pr.py, over the kit's printer).
-- half
import Derived.Test.YtdigilidomimdaaDoorPrx0
namespace Go.Proofs.YtdigilidomimdaaDoor.Pr
open Go.RowKit Go.Proofs.YtdigilidomimdaaDoorW.PrintWords Go.Proofs.YtdigilidomimdaaDoorW.PrintLast Go.Proofs.YtdigilidomimdaaDoorW.PrintMore
attribute [local go_sem] max2_int min2_int max_two min_two max_three min_three max_four min_four   -- for this text's walks alone
set_option linter.unusedVariables false
set_option linter.unusedSimpArgs false

/-! ### slices_Grow_impl_Record: function 135 -/
def slices_Grow_impl_Record.f (a1 : Int) : Option (List S25) := if 0 ≤ a1 ∧ a1 < 1954687338268 then some ([] : List S25) else none
set_option maxHeartbeats 1000000 in
theorem slices_Grow_impl_Record.calls (a1 : Int) (r : List S25) (w : World) (h : slices_Grow_impl_Record.f a1 = some r) :
  Calls Tryd.prog 135 #[.slice none 0 0, .int .i64 a1] w fun e w' => ∃ v0_ : Value, e = .returned (v0_) ∧ Kd.R k25 25 w' w.heap.size (fun _ => True) v0_ r ∧ Below w.heap.size w w' := by
 have hq : 0 ≤ a1 ∧ a1 < 1954687338268 := by
  by_cases q : 0 ≤ a1 ∧ a1 < 1954687338268
  ·exact q
  ·rw [slices_Grow_impl_Record.f, if_neg q] at h
   cases h
 rw [slices_Grow_impl_Record.f, if_pos hq] at h
 obtain rfl := Option.some.inj h
 obtain ⟨hb0, hb1⟩ := hq
 have HB := Aside0.mk (Below.refl w.heap.size w)
 have c0 : decide (a1 < 0) = false := decide_eq_false (by omega)
 have hw1 : IntKind.i64.wrap a1 = a1 := by rw [IntKind.wrap_i64]; omega
 have hw : wrap64 a1 = a1 := by rw [← i64_w]; exact hw1
 by_cases c4 : 0 < a1
 ·have c4b := decide_eq_true c4
  have LM := Aside0.mk (show ([] : List S25).length + a1.toNat < 1954687338268 by simp only [List.length_nil]; omega)
  obtain ⟨y292, hy⟩ : ∃ y_ : List S25, y_ = (([] : List S25) ++ List.replicate (a1 : Int).toNat z25) := ⟨_, rfl⟩
  have Ny := Aside0.mk hy
  clear hy
  go_enter Tryd.func135, Tryd.ntmps135
  go_wp2_with (first | (at_builtin; refine Kd.R_append_zeros k25 (w0 := w) w.heap.size rfl (.tmp 20) (.tmp 21) 36 3 25 (.agg #[(.string ⟨#[]⟩), (.int .i64 0), (.int .i64 0), (.int .i64 0), (.string ⟨#[]⟩), (.string ⟨#[]⟩)]) 72 rfl Tryd.underlying36 Tryd.underlying3 info25 rfl (by decide) (by omega) (.slice none 0 0) ([] : List S25) z25 (a1 : Int) (fun _ => True) rfl rfl (k25_mkM _ _ _ z25) ?aF ?aO hb0 ?aB ?aS ?aL ?_; (case aB => exact HB.out); (case aF => exact (fun _ _ => trivial)); (case aO => exact ((Kd.R_nil _ _ _ _ (fun _ => True)))); (case aS => exact (below_size HB.out)); (case aL => have := LM.out; omega); intro v293 w10 ho hb hg hat; rw [← Ny.out] at ho; replace HB := Aside0.mk hb; have HO := Aside0.mk ho; clear ho hb hg hat; obtain ⟨Ao11, co11, eo11⟩ := Kd.R_slice HO.out; subst eo11; have q12 : (0 : Int) ≤ (y292.length : Int) := Int.natCast_nonneg _; obtain ⟨i012, hi012, _, hsz12, _⟩ := info_parts info25; have hcut12 := cut_to (P := Tryd.prog) 36 25 .i64 Tryd.underlying36 hi012 Ao11 y292.length co11 (0 : Int) (Int.le_refl _) q12 (Kd.R_reads' HO.out).2.1; have hr12 := Kd.R_take (m := (0 : Int).toNat) HO.out (Nat.zero_le _); clear hi012 hsz12 HO; simp only [Int.toNat_zero, List.take_zero] at hr12 hcut12; have HO2 := Aside0.mk hr12; clear hr12; replace q12 := eq_true q12))
  go_ret
  exact ⟨_, rfl, by exact rU HO2.out, by exact wU HB.out⟩
 ·have c4b := decide_eq_false c4
  go_enter Tryd.func135, Tryd.ntmps135
  go_wp2
  go_ret
  exact ⟨_, rfl, Kd.R_nil _ _ _ _ _, by exact wU HB.out⟩


/-! ### slices_Concat_impl_Record: function 100 -/
mutual
def slices_Concat_impl_Record.l0 : Nat → List (List (S25)) → Int → List (List (S25)) → Int → Int → Option ((List (S25)))
 | 0, _, _, _, _, _ => none
 | k + 1, x0, x3, x9, x10, x11 => if x11 < x10 then (if 0 ≤ x11 then (if x11 < (x9.length : Int) then (if (wrap64 (x3 + ((rd_L4 x9 x11).length : Int))) < 0 then (none) else (slices_Concat_impl_Record.l0 k x0 (wrap64 (x3 + ((rd_L4 x9 x11).length : Int))) x9 x10 (wrap64 (x11 + 1)))) else (none)) else (none)) else ((slices_Grow_impl_Record.f x3).bind fun t675 => (slices_Concat_impl_Record.l1 k t675 x0 (x0.length : Int) 0))
def slices_Concat_impl_Record.l1 : Nat → List (S25) → List (List (S25)) → Int → Int → Option ((List (S25)))
 | 0, _, _, _, _ => none
 | k + 1, x6, x25, x26, x27 => if x27 < x26 then (if 0 ≤ x27 then (if x27 < (x25.length : Int) then (if x6.length + (rd_L4 x25 x27).length < 1954687338268 then (slices_Concat_impl_Record.l1 k (x6 ++ (rd_L4 x25 x27)) x25 x26 (wrap64 (x27 + 1))) else (none)) else (none)) else (none)) else (some x6)
end
def slices_Concat_impl_Record.f (k : Nat) (l0 : List (List (S25))) : Option ((List (S25))) := slices_Concat_impl_Record.l0 k l0 0 l0 (l0.length : Int) 0
theorem slices_Concat_impl_Record.mono_l : ∀ k, (∀ y0 y1 y2 y3 y4, LeO (slices_Concat_impl_Record.l0 k y0 y1 y2 y3 y4) (slices_Concat_impl_Record.l0 (k + 1) y0 y1 y2 y3 y4)) ∧ (∀ y0 y1 y2 y3, LeO (slices_Concat_impl_Record.l1 k y0 y1 y2 y3) (slices_Concat_impl_Record.l1 (k + 1) y0 y1 y2 y3))
 | 0 => ⟨fun _ _ _ _ _ r h => by simp [slices_Concat_impl_Record.l0] at h, fun _ _ _ _ r h => by simp [slices_Concat_impl_Record.l1] at h⟩
 | k + 1 => by
  obtain ⟨ih0, ih1⟩ := slices_Concat_impl_Record.mono_l k
  refine ⟨?_, ?_⟩
  ·intro y0 y1 y2 y3 y4
   unfold slices_Concat_impl_Record.l0
   repeat' first
   | (with_reducible first | exact ih0 _ _ _ _ _ | exact ih1 _ _ _ _ | exact LeO.refl _ | exact LeO.none _ | refine LeO.ite ?_ ?_ | refine LeO.bind ?_ (fun _ => ?_))
   | refine LeO.ite ?_ ?_
   | refine LeO.bind ?_ (fun _ => ?_)
  ·intro y0 y1 y2 y3
   unfold slices_Concat_impl_Record.l1
   repeat' first
   | (with_reducible first | exact ih0 _ _ _ _ _ | exact ih1 _ _ _ _ | exact LeO.refl _ | exact LeO.none _ | refine LeO.ite ?_ ?_ | refine LeO.bind ?_ (fun _ => ?_))
   | refine LeO.ite ?_ ?_
   | refine LeO.bind ?_ (fun _ => ?_)
theorem slices_Concat_impl_Record.mono : ∀ a0 k, LeO (slices_Concat_impl_Record.f k a0) (slices_Concat_impl_Record.f (k + 1) a0) := by
 intro a0 k
 obtain ⟨ih0, ih1⟩ := slices_Concat_impl_Record.mono_l k
 unfold slices_Concat_impl_Record.f
 repeat' first
   | (with_reducible first | exact ih0 _ _ _ _ _ | exact ih1 _ _ _ _ | exact LeO.refl _ | exact LeO.none _ | refine LeO.ite ?_ ?_ | refine LeO.bind ?_ (fun _ => ?_))
   | refine LeO.ite ?_ ?_
   | refine LeO.bind ?_ (fun _ => ?_)
set_option maxHeartbeats 8000000 in
set_option maxRecDepth 100000 in
theorem slices_Concat_impl_Record.calls (k : Nat) (A0 : Option Addr) (c0 : Nat) (l0 : List (List (S25))) (r : List (S25)) (w : World) (hr0 : Kd.C (Kd.slice 25 k25) w A0 l0.length l0) (hc0 : l0.length ≤ c0) (h : slices_Concat_impl_Record.f k l0 = some r) :
  Calls Tryd.prog 100 #[.slice A0 l0.length c0] w fun e w' => ∃ v0_ : Value, e = .returned (v0_) ∧ Kd.R k25 25 w' w.heap.size (fun _ => True) v0_ r ∧ Below w.heap.size w w' := by
 have HR0 := aS hr0
 have HC0 := aS hc0
 clear hr0 hc0
 have HB := aS (Below.refl w.heap.size w)
 have H := h
 unfold slices_Concat_impl_Record.f at H
 clear h
 have H' := aS H
 clear H
 go_enter Tryd.func100, Tryd.ntmps100
 go_wp2
 go_loopg [3, 11] k (fun kq v3 v11 w' => ∃ (x3_1 : Int) (x11_1 : Int), v3 = .int .i64 x3_1 ∧ v11 = .int .i64 x11_1 ∧ Aside0 (slices_Concat_impl_Record.l0 kq l0 x3_1 l0 (l0.length : Int) x11_1 = some r) ∧ Aside0 (kq ≤ k) ∧ Aside0 (Below w.heap.size w w'))
 case atStart => exact ⟨(0), (0), jB, jB, H', ⟨Nat.le_refl _⟩, ⟨by exact wU HB.out⟩⟩
 case round =>
  clear H'
  try clear c1
  obtain ⟨x3_1, x11_1, rfl, rfl, HA, HK1, HB⟩ := hrel
  cases gk with
  | zero => exact absurd HA.out (by simp [slices_Concat_impl_Record.l0])
  | succ k1 =>
   have H := HA.out
   clear HA
   simp only [slices_Concat_impl_Record.l0] at H
   by_cases c2 : x11_1 < (l0.length : Int)
   ·rw [if_pos c2] at H
    have c2b0 := decide_eq_true c2
    clear c2
    by_cases c3 : 0 ≤ x11_1
    ·rw [if_pos c3] at H
     have c3b0 := decide_eq_true c3
     clear c3
     by_cases c4 : x11_1 < (l0.length : Int)
     ·rw [if_pos c4] at H
      have c4b0 := decide_eq_true c4
      clear c4
      by_cases c5 : (wrap64 (x3_1 + ((rd_L4 l0 x11_1).length : Int))) < 0
      ·rw [if_pos c5] at H
       exact absurd H (by simp)
      ·rw [if_neg c5] at H
       have c5b0 := decide_eq_false c5
       clear c5
       have H' := aS H
       clear H
       have p674 : 0 ≤ (x11_1 : Int) := of_decide_eq_true jC
       have q674 : x11_1 < (l0.length : Int) := of_decide_eq_true jC
       obtain ⟨ad674, A674_0, c674_0, e674, hx674_0, hl674_0, hi674_0⟩ := at_L4 HR0.out x11_1 p674 q674
       cases e674
       try replace hx674_0 := hC HB.out hx674_0
       have HR674_0 := aS hi674_0
       have HC674_0 := aS hl674_0
       clear hi674_0 hl674_0
       replace p674 := eq_true p674
       replace q674 := eq_true q674
       go_wp2
       go_roundg k1
       case measure => have := HK1.out; omega
       case rel => exact ⟨(wrap64 (x3_1 + ((rd_L4 l0 x11_1).length : Int))), (wrap64 (x11_1 + 1)), jB, jB, H', ⟨by have := HK1.out; omega⟩, ⟨by exact wU HB.out⟩⟩
     ·rw [if_neg c4] at H
      exact absurd H (by simp)
    ·rw [if_neg c3] at H
     exact absurd H (by simp)
   ·rw [if_neg c2] at H
    have c2b0 := decide_eq_false c2
    clear c2
    obtain ⟨t675, A6, H⟩ := bM H
    try dsimp only at H
    have H' := aS H
    clear H
    go_wp2_with (first | ((with_reducible refine gate_callee (f := 135) rfl ?_); refine gL (some 24) Tryd.func135 #[.slice none 0 0, .int .i64 x3_1] ?_; (with_reducible refine (slices_Grow_impl_Record.calls  x3_1 t675 _ A6.out).mono ?_); rintro e w7 ⟨v676, rfl, ho0, hb⟩; refine ⟨_, rfl, ?_⟩; have HO677 := aS (Kd.R_lower ho0 (below_size (wU HB.out))); replace HB := aS (below_step (wU HB.out) hb); clear hb; (try clear ho0)))
    go_loopg [6, 27] k1 (fun kq v6 v27 w' => ∃ (x6_2 : List (S25)) (x27_2 : Int), v27 = .int .i64 x27_2 ∧ Aside0 (slices_Concat_impl_Record.l1 kq x6_2 l0 (l0.length : Int) x27_2 = some r) ∧ Aside0 (kq ≤ k1) ∧ Aside0 (Kd.R k25 25 w' w.heap.size (fun _ => True) v6 x6_2) ∧ Aside0 (Below w.heap.size w w'))
    case atStart => exact ⟨(t675), (0), jB, H', ⟨Nat.le_refl _⟩, ⟨by exact rU HO677.out⟩, ⟨by exact wU HB.out⟩⟩
    case round =>
     clear H'
     try clear c1
     try clear c2
     try clear c2b0
     try clear p2
     try clear c3
     try clear c3b0
     try clear c4
     try clear c4b0
     try clear c5
     try clear c5b0
     try clear c6
     try clear p6
     try clear q6
     try clear hx6
     try clear hx674_0
     try clear p674
     try clear q674
     obtain ⟨x6_2, x27_2, rfl, HA, HK2, HO_6, HB⟩ := hrel
     cases gk with
     | zero => exact absurd HA.out (by simp [slices_Concat_impl_Record.l1])
     | succ k2 =>
      have H := HA.out
      clear HA
      simp only [slices_Concat_impl_Record.l1] at H
      by_cases c8 : x27_2 < (l0.length : Int)
      ·rw [if_pos c8] at H
       have c8b0 := decide_eq_true c8
       clear c8
       by_cases c9 : 0 ≤ x27_2
       ·rw [if_pos c9] at H
        have c9b0 := decide_eq_true c9
        clear c9
        by_cases c10 : x27_2 < (l0.length : Int)
        ·rw [if_pos c10] at H
         have c10b0 := decide_eq_true c10
         clear c10
         by_cases c11 : x6_2.length + (rd_L4 l0 x27_2).length < 1954687338268
         ·rw [if_pos c11] at H
          have LMc11 := aS c11
          clear c11
          obtain ⟨y679, hy_⟩ : ∃ y_ : List (S25), y_ = (x6_2 ++ (rd_L4 l0 x27_2)) := ⟨_, rfl⟩
          replace H : (slices_Concat_impl_Record.l1 k2 y679 l0 (l0.length : Int) (wrap64 (x27_2 + 1))) = some r := jD
          have Ny679 := aS hy_
          clear hy_
          have H' := aS H
          clear H
          have p678 : 0 ≤ (x27_2 : Int) := of_decide_eq_true jC
          have q678 : x27_2 < (l0.length : Int) := of_decide_eq_true jC
          obtain ⟨ad678, A678_0, c678_0, e678, hx678_0, hl678_0, hi678_0⟩ := at_L4 HR0.out x27_2 p678 q678
          cases e678
          try replace hx678_0 := hC HB.out hx678_0
          have HR678_0 := aS hi678_0
          have HC678_0 := aS hl678_0
          clear hi678_0 hl678_0
          replace p678 := eq_true p678
          replace q678 := eq_true q678
          go_wp2_with (first | ((with_reducible refine gate_builtin (b := .append) (xs := #[.tmp 31, .tmp 32]) rfl ?_); at_builtin; refine Kd.R_append_rows k25 (w0 := w) w.heap.size rfl (.tmp 31) (.tmp 32) 36 25 (.agg #[(.string ⟨#[]⟩), (.int .i64 0), (.int .i64 0), (.int .i64 0), (.string ⟨#[]⟩), (.string ⟨#[]⟩)]) 72 rfl Tryd.underlying36 info25 rfl (by decide) (by omega) u6 x6_2 (rd_L4 l0 x27_2) _ _ _ (fun _ => True) (fun _ => False) rfl rfl ?aO ?aR (fun _ _ h => h) (fun _ h => h.elim) ?aF ?aB ?aS ?aL ?_; (case aR => exact cU ((Kd.C_below HR678_0.out HB.out))); (case aB => exact (wU HB.out)); (case aF => exact (fun _ _ => trivial)); (case aO => exact (rU HO_6.out)); (case aS => exact (below_size (wU HB.out))); (case aL => have := LMc11.out; omega); intro v680 w12 ho hb hg hat; rw [← Ny679.out] at ho; replace HB := aS (hb); have HO681 := aS (ho); clear HO_6; clear ho hb hg hat))
          go_roundg k2
          case measure => have := HK1.out; have := HK2.out; omega
          case rel => exact ⟨(y679), (wrap64 (x27_2 + 1)), jB, H', ⟨by have := HK1.out; have := HK2.out; omega⟩, ⟨by exact rU HO681.out⟩, ⟨by exact wU HB.out⟩⟩
         ·rw [if_neg c11] at H
          exact absurd H (by simp)
        ·rw [if_neg c10] at H
         exact absurd H (by simp)
       ·rw [if_neg c9] at H
        exact absurd H (by simp)
      ·rw [if_neg c8] at H
       have c8b0 := decide_eq_false c8
       clear c8
       obtain rfl := Option.some.inj H
       go_wp2
       go_ret
       exact ⟨_, jE, by exact rU HO_6.out, by exact wU HB.out⟩

end Go.Proofs.YtdigilidomimdaaDoor.Pr
