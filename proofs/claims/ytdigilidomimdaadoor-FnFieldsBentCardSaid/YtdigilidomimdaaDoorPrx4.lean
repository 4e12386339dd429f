-- Written for this claim by a program of this session (wip/tool/pr.py, over the kit's printer).
-- half
import Derived.Test.YtdigilidomimdaaDoorPrx0
import Derived.Test.YtdigilidomimdaaDoorPrx2
import Derived.Test.YtdigilidomimdaaDoorPrx3
namespace Go.Proofs.YtdigilidomimdaaDoor.Pr
open Go.RowKit Go.Proofs.YtdigilidomimdaaDoorW.PrintWords Go.Proofs.YtdigilidomimdaaDoorW.PrintLast Go.Proofs.YtdigilidomimdaaDoorW.PrintMore
attribute [local go_sem] max2_int min2_int max_two min_two max_three min_three max_four min_four   -- for this text's walks alone
set_option linter.unusedVariables false
set_option linter.unusedSimpArgs false

/-! ### impl_read: function 127 -/
mutual
def impl_read.l0 : Nat → List Int → List ByteArray → Int → Int → Int → Int → Option (ByteArray × Int × Int × Int)
 | 0, _, _, _, _, _, _ => none
 | k + 1, x0, x8, x9, x10, x11, x12 => if x12 < 0 then (impl_read.j1 k x0 x8 x9 x10 x11 x12 true) else (impl_read.j1 k x0 x8 x9 x10 x11 x12 (decide (x12 ≥ (x0.length : Int))))
def impl_read.j1 : Nat → List Int → List ByteArray → Int → Int → Int → Int → Bool → Option (ByteArray × Int × Int × Int)
 | 0, _, _, _, _, _, _, _ => none
 | k + 1, x0, x8, x9, x10, x11, x12, x28 => if x28 = true then (some ((⟨#[]⟩ : ByteArray), 0, 1, x11)) else (if 0 ≤ x12 then (if x12 < (x0.length : Int) then (if (wrap64 (rd x0 x12)) = 0 then (if x9 < 0 then ((impl_JoinLabels.f x8).bind fun t134 => (some (t134, wrap64 (x12 + 1), 0, x11))) else ((impl_JoinLabels.f x8).bind fun t135 => (some (t135, x9, 0, x11)))) else (if (wrap64 (rd x0 x12)) ≥ 192 then (if (wrap64 (x12 + 1)) ≥ (x0.length : Int) then (some ((⟨#[]⟩ : ByteArray), 0, 1, x11)) else (if 0 ≤ (wrap64 (x12 + 1)) then (if (wrap64 (x12 + 1)) < (x0.length : Int) then (if (wrap64 ((wrap64 (256 * (wrap64 ((wrap64 (rd x0 x12)) - 192)))) + (wrap64 (rd x0 (wrap64 (x12 + 1)))))) ≥ x10 then (some ((⟨#[]⟩ : ByteArray), 0, 3, x11)) else (if x9 < 0 then (impl_read.l0 k x0 x8 (wrap64 (x12 + 2)) (wrap64 ((wrap64 (256 * (wrap64 ((wrap64 (rd x0 x12)) - 192)))) + (wrap64 (rd x0 (wrap64 (x12 + 1)))))) (wrap64 (x11 + 1)) (wrap64 ((wrap64 (256 * (wrap64 ((wrap64 (rd x0 x12)) - 192)))) + (wrap64 (rd x0 (wrap64 (x12 + 1))))))) else (impl_read.l0 k x0 x8 x9 (wrap64 ((wrap64 (256 * (wrap64 ((wrap64 (rd x0 x12)) - 192)))) + (wrap64 (rd x0 (wrap64 (x12 + 1)))))) (wrap64 (x11 + 1)) (wrap64 ((wrap64 (256 * (wrap64 ((wrap64 (rd x0 x12)) - 192)))) + (wrap64 (rd x0 (wrap64 (x12 + 1))))))))) else (none)) else (none))) else (if (wrap64 (rd x0 x12)) > 12 then (some ((⟨#[]⟩ : ByteArray), 0, 2, x11)) else (if (wrap64 (rd x0 x12)) ≥ (wrap64 ((x0.length : Int) - x12)) then (some ((⟨#[]⟩ : ByteArray), 0, 1, x11)) else ((impl_GetLabel.f k x0 x12).bind fun bt137 => (if bt137.2.2 = true then (if x8.length < 8796093022208 then ((some (x8 ++ [bt137.1] : List ByteArray)).bind fun y140 => ((impl_JoinLabels.f y140).bind fun t143 => ((impl_NameOk.f k t143).bind fun t144 => (if t144 = true then (impl_read.l0 k x0 y140 x9 x10 x11 bt137.2.1) else (some ((⟨#[]⟩ : ByteArray), 0, 4, x11)))))) else (none)) else (some ((⟨#[]⟩ : ByteArray), 0, 2, x11)))))))) else (none)) else (none))
end
def impl_read.f (k : Nat) (l0 : List Int) (a1 : Int) : Option (ByteArray × Int × Int × Int) := impl_read.l0 k l0 (([] : List ByteArray)) (-1) a1 0 a1
theorem impl_read.mono_l : ∀ k, (∀ y0 y1 y2 y3 y4 y5, LeO (impl_read.l0 k y0 y1 y2 y3 y4 y5) (impl_read.l0 (k + 1) y0 y1 y2 y3 y4 y5)) ∧ (∀ y0 y1 y2 y3 y4 y5 y6, LeO (impl_read.j1 k y0 y1 y2 y3 y4 y5 y6) (impl_read.j1 (k + 1) y0 y1 y2 y3 y4 y5 y6))
 | 0 => ⟨fun _ _ _ _ _ _ r h => by simp [impl_read.l0] at h, fun _ _ _ _ _ _ _ r h => by simp [impl_read.j1] at h⟩
 | k + 1 => by
  obtain ⟨ih0, ih1⟩ := impl_read.mono_l k
  refine ⟨?_, ?_⟩
  ·intro y0 y1 y2 y3 y4 y5
   unfold impl_read.l0
   repeat' first
   | (with_reducible first | exact ih0 _ _ _ _ _ _ | exact ih1 _ _ _ _ _ _ _ | exact impl_GetLabel.mono _ _ _ | exact impl_NameOk.mono _ _ | exact LeO.refl _ | exact LeO.none _ | refine LeO.ite ?_ ?_ | refine LeO.bind ?_ (fun _ => ?_))
   | exact ih0 _ _ _ _ _ _
   | exact ih1 _ _ _ _ _ _ _
   | exact impl_GetLabel.mono _ _ _
   | exact impl_NameOk.mono _ _
   | exact LeO.none _
   | refine LeO.ite ?_ ?_
   | refine LeO.bind ?_ (fun _ => ?_)
  ·intro y0 y1 y2 y3 y4 y5 y6
   unfold impl_read.j1
   repeat' first
   | (with_reducible first | exact ih0 _ _ _ _ _ _ | exact ih1 _ _ _ _ _ _ _ | exact impl_GetLabel.mono _ _ _ | exact impl_NameOk.mono _ _ | exact LeO.refl _ | exact LeO.none _ | refine LeO.ite ?_ ?_ | refine LeO.bind ?_ (fun _ => ?_))
   | exact ih0 _ _ _ _ _ _
   | exact ih1 _ _ _ _ _ _ _
   | exact impl_GetLabel.mono _ _ _
   | exact impl_NameOk.mono _ _
   | exact LeO.none _
   | refine LeO.ite ?_ ?_
   | refine LeO.bind ?_ (fun _ => ?_)
theorem impl_read.mono : ∀ a0 a1 k, LeO (impl_read.f k a0 a1) (impl_read.f (k + 1) a0 a1) := by
 intro a0 a1 k
 obtain ⟨ih0, ih1⟩ := impl_read.mono_l k
 unfold impl_read.f
 repeat' first
   | (with_reducible first | exact ih0 _ _ _ _ _ _ | exact ih1 _ _ _ _ _ _ _ | exact impl_GetLabel.mono _ _ _ | exact impl_NameOk.mono _ _ | exact LeO.refl _ | exact LeO.none _ | refine LeO.ite ?_ ?_ | refine LeO.bind ?_ (fun _ => ?_))
   | exact ih0 _ _ _ _ _ _
   | exact ih1 _ _ _ _ _ _ _
   | exact impl_GetLabel.mono _ _ _
   | exact impl_NameOk.mono _ _
   | exact LeO.none _
   | refine LeO.ite ?_ ?_
   | refine LeO.bind ?_ (fun _ => ?_)
set_option maxHeartbeats 8000000 in
set_option maxRecDepth 100000 in
theorem impl_read.calls (k : Nat) (A0 : Option Addr) (c0 : Nat) (l0 : List Int) (a1 : Int) (r1 : ByteArray) (r2 : Int) (r3 : Int) (r4 : Int) (w : World) (hr0 : Kd.C (Kd.int .u8) w A0 l0.length l0) (hc0 : l0.length ≤ c0) (h : impl_read.f k l0 a1 = some (r1, r2, r3, r4)) :
  Calls Tryd.prog 127 #[.slice A0 l0.length c0, .int .i64 a1] w fun e w' => e = .returned (.tuple #[.string r1, .int .i64 r2, .int .i64 r3, .int .i64 r4]) ∧ Below w.heap.size w w' := by
 have HR0 := aS hr0
 have HC0 := aS hc0
 clear hr0 hc0
 have HB := aS (Below.refl w.heap.size w)
 have H : (impl_read.l0 k l0 (([] : List ByteArray)) (-1) a1 0 a1) = some (r1, r2, r3, r4) := h
 clear h
 obtain ⟨y130, hy_⟩ : ∃ y_ : List ByteArray, y_ = (([] : List ByteArray)) := ⟨_, rfl⟩
 replace H : (impl_read.l0 k l0 y130 (-1) a1 0 a1) = some (r1, r2, r3, r4) := jD
 have Ny130 := aS hy_
 clear hy_
 have H' := aS H
 clear H
 go_enter Tryd.func127, Tryd.ntmps127
 go_wp2_with (first | ((with_reducible refine gate_dst (N := 18) rfl ?_); (try (refine gate_guard (by rfl) ?_; dsimp only)); refine Kd.R_lit Kd.string _ 9 ?hg (N := 18) ?hd (xs := ([] : List ByteArray)) (inner := []) (ok := fun _ => True) (okp := fun _ => True) ?hr ?hp (fun _ hk => hk) trivial (Below.refl _ _) (Nat.le_refl _) (by simp) ?_; (case hd => rfl); (case hg => rfl); (case hr => first | (go_simp; done) | (go_simp; rfl)); (case hp => exact (Reps.none _ _)); intro v131 w3 ho4 hb hg_ hnew_; clear hg_ hnew_; (first | rw [← Ny130.out] at ho4 | (simp only [Int.reduceToNat] at ho4; rw [← Ny130.out] at ho4)); have HO132 := aS (Kd.R_lower ho4 (below_size (wU HB.out))); replace HB := aS (below_step (wU HB.out) hb); clear hb ho4))
 go_loopg [8, 9, 10, 11, 12] k (fun kq v8 v9 v10 v11 v12 w' => ∃ (x8_1 : List ByteArray) (x9_1 : Int) (x10_1 : Int) (x11_1 : Int) (x12_1 : Int), v9 = .int .i64 x9_1 ∧ v10 = .int .i64 x10_1 ∧ v11 = .int .i64 x11_1 ∧ v12 = .int .i64 x12_1 ∧ Aside0 (impl_read.l0 kq l0 x8_1 x9_1 x10_1 x11_1 x12_1 = some (r1, r2, r3, r4)) ∧ Aside0 (kq ≤ k) ∧ Aside0 (Kd.R Kd.string 9 w' w.heap.size (fun _ => True) v8 x8_1) ∧ Aside0 (Below w.heap.size w w'))
 case atStart => exact ⟨(y130), ((-1)), (a1), (0), (a1), jB, jB, jB, jB, H', ⟨Nat.le_refl _⟩, ⟨by exact rU HO132.out⟩, ⟨by exact wU HB.out⟩⟩
 case round =>
  clear H'
  try clear c1
  try clear p2
  obtain ⟨x8_1, x9_1, x10_1, x11_1, x12_1, rfl, rfl, rfl, rfl, HA, HK1, HO_8, HB⟩ := hrel
  cases gk with
  | zero => exact absurd HA.out (by simp [impl_read.l0])
  | succ k1 =>
   have H := HA.out
   clear HA
   simp only [impl_read.l0] at H
   have HC5 := aS H
   clear H
   go_upto_region 6 with (fail)
   go_cut [28] (fun v28 wc => ∃ (kq : Nat) (x28_4 : Bool), v28 = .bool x28_4 ∧ Aside0 (impl_read.j1 kq l0 x8_1 x9_1 x10_1 x11_1 x12_1 x28_4 = some (r1, r2, r3, r4)) ∧ Aside0 (kq ≤ k1) ∧ Aside0 (Kd.R Kd.string 9 wc w.heap.size (fun _ => True) u8 x8_1) ∧ Aside0 (Below w.heap.size w wc))
   case first =>
    have H := HC5.out
    clear HC5
    by_cases c6 : x12_1 < 0
    ·rw [if_pos c6] at H
     have c6b0 := decide_eq_true c6
     clear c6
     (first | rw [c6b0] | (simp only [i64_w, i32_w]; rw [c6b0]) | skip)
     have H' := aS H
     clear H
     go_wp2
     go_meet
     case rel => exact ⟨_, (true), jB, H', ⟨by have := HK1.out; first | omega | exact Nat.le_refl _⟩, ⟨by exact rU HO_8.out⟩, ⟨by exact wU HB.out⟩⟩
    ·rw [if_neg c6] at H
     have c6b0 := decide_eq_false c6
     clear c6
     (first | rw [c6b0] | (simp only [i64_w, i32_w]; rw [c6b0]) | skip)
     have H' := aS H
     clear H
     go_wp2
     go_meet
     case rel => exact ⟨_, (decide (x12_1 ≥ (l0.length : Int))), jB, H', ⟨by have := HK1.out; first | omega | exact Nat.le_refl _⟩, ⟨by exact rU HO_8.out⟩, ⟨by exact wU HB.out⟩⟩
   case rest =>
    clear HC5
    try clear c1
    try clear p2
    try clear c6
    try clear c6b0
    try clear p2
    obtain ⟨kq, x28_4, rfl, HA, HJ4, HO_8, HB⟩ := hcut
    cases kq with
    | zero => exact absurd HA.out (by simp [impl_read.j1])
    | succ kj4 =>
     have H := HA.out
     clear HA
     simp only [impl_read.j1] at H
     by_cases c7 : x28_4 = true
     ·subst c7
      rw [if_pos rfl] at H
      simp only [Option.some.injEq, Prod.mk.injEq] at H
      obtain ⟨rfl, rfl, rfl, rfl⟩ := H
      go_wp2
      refine bodyPost_ret (results_list (rs := [.tmp 4, .tmp 5, .tmp 6, .tmp 7]) rfl (by simp) (.tmp (.tmp (.tmp (.tmp .nil))))) rfl ?_
      exact ⟨jE, by exact wU HB.out⟩
     ·replace c7 := Bool.eq_false_iff.mpr c7
      subst c7
      rw [if_neg Bool.false_ne_true] at H
      by_cases c8 : 0 ≤ x12_1
      ·rw [if_pos c8] at H
       have c8b0 := decide_eq_true c8
       clear c8
       by_cases c9 : x12_1 < (l0.length : Int)
       ·rw [if_pos c9] at H
        have c9b0 := decide_eq_true c9
        clear c9
        by_cases c10 : (wrap64 (rd l0 x12_1)) = 0
        ·rw [if_pos c10] at H
         have c10b0 := beq_iff_eq.mpr c10
         have c10b1 := bne_eq_false_iff_eq.mpr c10
         clear c10
         by_cases c11 : x9_1 < 0
         ·rw [if_pos c11] at H
          have c11b0 := decide_eq_true c11
          clear c11
          obtain ⟨t134, A12, H⟩ := bM H
          try dsimp only at H
          simp only [Option.some.injEq, Prod.mk.injEq] at H
          obtain ⟨rfl, rfl, rfl, rfl⟩ := H
          have p133 : 0 ≤ (x12_1 : Int) := of_decide_eq_true jC
          have q133 : x12_1 < (l0.length : Int) := of_decide_eq_true jC
          obtain ⟨ad133, e133, hx133_0⟩ := Kd.at_int HR0.out x12_1 p133 q133
          cases e133
          try replace hx133_0 := (HB.out.cell (World.block_lt_of_cell? w _ hx133_0)).trans hx133_0
          replace p133 := eq_true p133
          replace q133 := eq_true q133
          obtain ⟨Ao13, co13, eo13⟩ := Kd.R_slice HO_8.out
          subst eo13
          go_wp2_with (first | ((with_reducible refine gate_callee (f := 146) rfl ?_); refine goesL_ (some 43) rfl rfl Tryd.func146 jK rfl #[.slice Ao13 x8_1.length co13] rfl jA ?_; (with_reducible refine (impl_JoinLabels.calls _ _ x8_1 t134 _ ?side1 ?side2 A12.out).mono ?_); (case side1 => exact cU ((Kd.R_reads' HO_8.out).2.2)); (case side2 => exact (Kd.R_reads' HO_8.out).2.1); rintro e w14 ⟨rfl, hb⟩; refine ⟨_, rfl, ?_⟩; replace HO_8 := aS (Kd.R_below (rU HO_8.out) hb); replace HB := aS (below_step (wU HB.out) hb); clear hb))
          refine bodyPost_ret (results_list (rs := [.tmp 4, .tmp 5, .tmp 6, .tmp 7]) rfl (by simp) (.tmp (.tmp (.tmp (.tmp .nil))))) rfl ?_
          exact ⟨jE, by exact wU HB.out⟩
         ·rw [if_neg c11] at H
          have c11b0 := decide_eq_false c11
          clear c11
          obtain ⟨t135, A15, H⟩ := bM H
          try dsimp only at H
          simp only [Option.some.injEq, Prod.mk.injEq] at H
          obtain ⟨rfl, rfl, rfl, rfl⟩ := H
          have p133 : 0 ≤ (x12_1 : Int) := of_decide_eq_true jC
          have q133 : x12_1 < (l0.length : Int) := of_decide_eq_true jC
          obtain ⟨ad133, e133, hx133_0⟩ := Kd.at_int HR0.out x12_1 p133 q133
          cases e133
          try replace hx133_0 := (HB.out.cell (World.block_lt_of_cell? w _ hx133_0)).trans hx133_0
          replace p133 := eq_true p133
          replace q133 := eq_true q133
          obtain ⟨Ao16, co16, eo16⟩ := Kd.R_slice HO_8.out
          subst eo16
          go_wp2_with (first | ((with_reducible refine gate_callee (f := 146) rfl ?_); refine goesL_ (some 43) rfl rfl Tryd.func146 jK rfl #[.slice Ao16 x8_1.length co16] rfl jA ?_; (with_reducible refine (impl_JoinLabels.calls _ _ x8_1 t135 _ ?side1 ?side2 A15.out).mono ?_); (case side1 => exact cU ((Kd.R_reads' HO_8.out).2.2)); (case side2 => exact (Kd.R_reads' HO_8.out).2.1); rintro e w17 ⟨rfl, hb⟩; refine ⟨_, rfl, ?_⟩; replace HO_8 := aS (Kd.R_below (rU HO_8.out) hb); replace HB := aS (below_step (wU HB.out) hb); clear hb))
          refine bodyPost_ret (results_list (rs := [.tmp 4, .tmp 5, .tmp 6, .tmp 7]) rfl (by simp) (.tmp (.tmp (.tmp (.tmp .nil))))) rfl ?_
          exact ⟨jE, by exact wU HB.out⟩
        ·rw [if_neg c10] at H
         have c10b0 := beq_eq_false_iff_ne.mpr c10
         have c10b1 := bne_iff_ne.mpr c10
         by_cases c18 : (wrap64 (rd l0 x12_1)) ≥ 192
         ·rw [if_pos c18] at H
          have c18b0 := decide_eq_true c18
          clear c18
          by_cases c19 : (wrap64 (x12_1 + 1)) ≥ (l0.length : Int)
          ·rw [if_pos c19] at H
           have c19b0 := decide_eq_true c19
           clear c19
           simp only [Option.some.injEq, Prod.mk.injEq] at H
           obtain ⟨rfl, rfl, rfl, rfl⟩ := H
           have p133 : 0 ≤ (x12_1 : Int) := of_decide_eq_true jC
           have q133 : x12_1 < (l0.length : Int) := of_decide_eq_true jC
           obtain ⟨ad133, e133, hx133_0⟩ := Kd.at_int HR0.out x12_1 p133 q133
           cases e133
           try replace hx133_0 := (HB.out.cell (World.block_lt_of_cell? w _ hx133_0)).trans hx133_0
           replace p133 := eq_true p133
           replace q133 := eq_true q133
           go_wp2
           refine bodyPost_ret (results_list (rs := [.tmp 4, .tmp 5, .tmp 6, .tmp 7]) rfl (by simp) (.tmp (.tmp (.tmp (.tmp .nil))))) rfl ?_
           exact ⟨jE, by exact wU HB.out⟩
          ·rw [if_neg c19] at H
           have c19b0 := decide_eq_false c19
           clear c19
           obtain ⟨ji20, hji20⟩ : ∃ j_ : Int, (wrap64 (x12_1 + 1)) = j_ := ⟨_, rfl⟩
           replace H : (if 0 ≤ (ji20) then (if (ji20) < (l0.length : Int) then (if (wrap64 ((wrap64 (256 * (wrap64 ((wrap64 (rd l0 x12_1)) - 192)))) + (wrap64 (rd l0 (ji20))))) ≥ x10_1 then (some ((⟨#[]⟩ : ByteArray), 0, 3, x11_1)) else (if x9_1 < 0 then (impl_read.l0 kj4 l0 x8_1 (wrap64 (x12_1 + 2)) (wrap64 ((wrap64 (256 * (wrap64 ((wrap64 (rd l0 x12_1)) - 192)))) + (wrap64 (rd l0 (ji20))))) (wrap64 (x11_1 + 1)) (wrap64 ((wrap64 (256 * (wrap64 ((wrap64 (rd l0 x12_1)) - 192)))) + (wrap64 (rd l0 (ji20)))))) else (impl_read.l0 kj4 l0 x8_1 x9_1 (wrap64 ((wrap64 (256 * (wrap64 ((wrap64 (rd l0 x12_1)) - 192)))) + (wrap64 (rd l0 (ji20))))) (wrap64 (x11_1 + 1)) (wrap64 ((wrap64 (256 * (wrap64 ((wrap64 (rd l0 x12_1)) - 192)))) + (wrap64 (rd l0 (ji20)))))))) else (none)) else (none)) = some (r1, r2, r3, r4) := by first | (rw [hji20] at H; exact H) | (simp only [hji20] at H ⊢; exact H)
           (try rw [hji20] at c19b0)
           have hji20w : (IntKind.i64.wrap (x12_1 + 1)) = ji20 := (i64_w _).trans hji20
           by_cases c21 : 0 ≤ (ji20)
           ·rw [if_pos c21] at H
            have c21b0 := decide_eq_true c21
            clear c21
            by_cases c22 : (ji20) < (l0.length : Int)
            ·rw [if_pos c22] at H
             have c22b0 := decide_eq_true c22
             clear c22
             by_cases c23 : (wrap64 ((wrap64 (256 * (wrap64 ((wrap64 (rd l0 x12_1)) - 192)))) + (wrap64 (rd l0 (ji20))))) ≥ x10_1
             ·rw [if_pos c23] at H
              have c23b0 := decide_eq_true c23
              clear c23
              simp only [Option.some.injEq, Prod.mk.injEq] at H
              obtain ⟨rfl, rfl, rfl, rfl⟩ := H
              have p133 : 0 ≤ (x12_1 : Int) := of_decide_eq_true jC
              have q133 : x12_1 < (l0.length : Int) := of_decide_eq_true jC
              obtain ⟨ad133, e133, hx133_0⟩ := Kd.at_int HR0.out x12_1 p133 q133
              cases e133
              try replace hx133_0 := (HB.out.cell (World.block_lt_of_cell? w _ hx133_0)).trans hx133_0
              replace p133 := eq_true p133
              replace q133 := eq_true q133
              have p136 : 0 ≤ ((ji20) : Int) := of_decide_eq_true jC
              have q136 : (ji20) < (l0.length : Int) := of_decide_eq_true jC
              obtain ⟨ad136, e136, hx136_0⟩ := Kd.at_int HR0.out (ji20) p136 q136
              obtain rfl : ad133 = ad136 := (by injection e136)
              try replace hx136_0 := (HB.out.cell (World.block_lt_of_cell? w _ hx136_0)).trans hx136_0
              replace p136 := eq_true p136
              replace q136 := eq_true q136
              go_wp2
              refine bodyPost_ret (results_list (rs := [.tmp 4, .tmp 5, .tmp 6, .tmp 7]) rfl (by simp) (.tmp (.tmp (.tmp (.tmp .nil))))) rfl ?_
              exact ⟨by first | rfl | (simp [errW_none, errW_some] <;> rfl) | (simp only [← hji20]; first | rfl | (simp [errW_none, errW_some] <;> rfl)) | (simp [*, errW_none, errW_some] <;> rfl), by exact wU HB.out⟩
             ·rw [if_neg c23] at H
              have c23b0 := decide_eq_false c23
              clear c23
              by_cases c24 : x9_1 < 0
              ·rw [if_pos c24] at H
               have c24b0 := decide_eq_true c24
               clear c24
               have H' := aS H
               clear H
               have p133 : 0 ≤ (x12_1 : Int) := of_decide_eq_true jC
               have q133 : x12_1 < (l0.length : Int) := of_decide_eq_true jC
               obtain ⟨ad133, e133, hx133_0⟩ := Kd.at_int HR0.out x12_1 p133 q133
               cases e133
               try replace hx133_0 := (HB.out.cell (World.block_lt_of_cell? w _ hx133_0)).trans hx133_0
               replace p133 := eq_true p133
               replace q133 := eq_true q133
               have p136 : 0 ≤ ((ji20) : Int) := of_decide_eq_true jC
               have q136 : (ji20) < (l0.length : Int) := of_decide_eq_true jC
               obtain ⟨ad136, e136, hx136_0⟩ := Kd.at_int HR0.out (ji20) p136 q136
               obtain rfl : ad133 = ad136 := (by injection e136)
               try replace hx136_0 := (HB.out.cell (World.block_lt_of_cell? w _ hx136_0)).trans hx136_0
               replace p136 := eq_true p136
               replace q136 := eq_true q136
               go_wp2
               go_roundg kj4
               case measure => have := HK1.out; have := HJ4.out; omega
               case rel => exact ⟨(x8_1), (wrap64 (x12_1 + 2)), (wrap64 ((wrap64 (256 * (wrap64 ((wrap64 (rd l0 x12_1)) - 192)))) + (wrap64 (rd l0 (ji20))))), (wrap64 (x11_1 + 1)), (wrap64 ((wrap64 (256 * (wrap64 ((wrap64 (rd l0 x12_1)) - 192)))) + (wrap64 (rd l0 (ji20))))), jB, (by first | rfl | (simp; done) | (simp only [← hji20] <;> (first | rfl | simp)) | (simp [*]; done)), jB, (by first | rfl | (simp; done) | (simp only [← hji20] <;> (first | rfl | simp)) | (simp [*]; done)), H', ⟨by have := HK1.out; have := HJ4.out; omega⟩, ⟨by exact rU HO_8.out⟩, ⟨by exact wU HB.out⟩⟩
              ·rw [if_neg c24] at H
               have c24b0 := decide_eq_false c24
               clear c24
               have H' := aS H
               clear H
               have p133 : 0 ≤ (x12_1 : Int) := of_decide_eq_true jC
               have q133 : x12_1 < (l0.length : Int) := of_decide_eq_true jC
               obtain ⟨ad133, e133, hx133_0⟩ := Kd.at_int HR0.out x12_1 p133 q133
               cases e133
               try replace hx133_0 := (HB.out.cell (World.block_lt_of_cell? w _ hx133_0)).trans hx133_0
               replace p133 := eq_true p133
               replace q133 := eq_true q133
               have p136 : 0 ≤ ((ji20) : Int) := of_decide_eq_true jC
               have q136 : (ji20) < (l0.length : Int) := of_decide_eq_true jC
               obtain ⟨ad136, e136, hx136_0⟩ := Kd.at_int HR0.out (ji20) p136 q136
               obtain rfl : ad133 = ad136 := (by injection e136)
               try replace hx136_0 := (HB.out.cell (World.block_lt_of_cell? w _ hx136_0)).trans hx136_0
               replace p136 := eq_true p136
               replace q136 := eq_true q136
               go_wp2
               go_roundg kj4
               case measure => have := HK1.out; have := HJ4.out; omega
               case rel => exact ⟨(x8_1), (x9_1), (wrap64 ((wrap64 (256 * (wrap64 ((wrap64 (rd l0 x12_1)) - 192)))) + (wrap64 (rd l0 (ji20))))), (wrap64 (x11_1 + 1)), (wrap64 ((wrap64 (256 * (wrap64 ((wrap64 (rd l0 x12_1)) - 192)))) + (wrap64 (rd l0 (ji20))))), jB, (by first | rfl | (simp; done) | (simp only [← hji20] <;> (first | rfl | simp)) | (simp [*]; done)), jB, (by first | rfl | (simp; done) | (simp only [← hji20] <;> (first | rfl | simp)) | (simp [*]; done)), H', ⟨by have := HK1.out; have := HJ4.out; omega⟩, ⟨by exact rU HO_8.out⟩, ⟨by exact wU HB.out⟩⟩
            ·rw [if_neg c22] at H
             exact absurd H (by simp)
           ·rw [if_neg c21] at H
            exact absurd H (by simp)
         ·rw [if_neg c18] at H
          have c18b0 := decide_eq_false c18
          clear c18
          by_cases c25 : (wrap64 (rd l0 x12_1)) > 12
          ·rw [if_pos c25] at H
           have c25b0 := decide_eq_true c25
           clear c25
           simp only [Option.some.injEq, Prod.mk.injEq] at H
           obtain ⟨rfl, rfl, rfl, rfl⟩ := H
           have p133 : 0 ≤ (x12_1 : Int) := of_decide_eq_true jC
           have q133 : x12_1 < (l0.length : Int) := of_decide_eq_true jC
           obtain ⟨ad133, e133, hx133_0⟩ := Kd.at_int HR0.out x12_1 p133 q133
           cases e133
           try replace hx133_0 := (HB.out.cell (World.block_lt_of_cell? w _ hx133_0)).trans hx133_0
           replace p133 := eq_true p133
           replace q133 := eq_true q133
           go_wp2
           refine bodyPost_ret (results_list (rs := [.tmp 4, .tmp 5, .tmp 6, .tmp 7]) rfl (by simp) (.tmp (.tmp (.tmp (.tmp .nil))))) rfl ?_
           exact ⟨jE, by exact wU HB.out⟩
          ·rw [if_neg c25] at H
           have c25b0 := decide_eq_false c25
           clear c25
           by_cases c26 : (wrap64 (rd l0 x12_1)) ≥ (wrap64 ((l0.length : Int) - x12_1))
           ·rw [if_pos c26] at H
            have c26b0 := decide_eq_true c26
            clear c26
            simp only [Option.some.injEq, Prod.mk.injEq] at H
            obtain ⟨rfl, rfl, rfl, rfl⟩ := H
            have p133 : 0 ≤ (x12_1 : Int) := of_decide_eq_true jC
            have q133 : x12_1 < (l0.length : Int) := of_decide_eq_true jC
            obtain ⟨ad133, e133, hx133_0⟩ := Kd.at_int HR0.out x12_1 p133 q133
            cases e133
            try replace hx133_0 := (HB.out.cell (World.block_lt_of_cell? w _ hx133_0)).trans hx133_0
            replace p133 := eq_true p133
            replace q133 := eq_true q133
            go_wp2
            refine bodyPost_ret (results_list (rs := [.tmp 4, .tmp 5, .tmp 6, .tmp 7]) rfl (by simp) (.tmp (.tmp (.tmp (.tmp .nil))))) rfl ?_
            exact ⟨jE, by exact wU HB.out⟩
           ·rw [if_neg c26] at H
            have c26b0 := decide_eq_false c26
            clear c26
            obtain ⟨⟨t137, t138, t139⟩, A27, H⟩ := bM H
            try dsimp only at H
            by_cases c28 : t139 = true
            ·subst c28
             rw [if_pos rfl] at H
             by_cases c29 : x8_1.length < 8796093022208
             ·rw [if_pos c29] at H
              have LMc29 := aS c29
              clear c29
              obtain ⟨y140, hy_⟩ : ∃ y_ : List ByteArray, y_ = (x8_1 ++ [t137]) := ⟨_, rfl⟩
              replace H : ((impl_JoinLabels.f y140).bind fun t143 => ((impl_NameOk.f kj4 t143).bind fun t144 => (if t144 = true then (impl_read.l0 kj4 l0 y140 x9_1 x10_1 x11_1 t138) else (some ((⟨#[]⟩ : ByteArray), 0, 4, x11_1))))) = some (r1, r2, r3, r4) := jD
              have Ny140 := aS hy_
              clear hy_
              obtain ⟨t143, A30, H⟩ := bM H
              try dsimp only at H
              obtain ⟨t144, A31, H⟩ := bM H
              try dsimp only at H
              have HC32 := aS H
              clear H
              have p133 : 0 ≤ (x12_1 : Int) := of_decide_eq_true jC
              have q133 : x12_1 < (l0.length : Int) := of_decide_eq_true jC
              obtain ⟨ad133, e133, hx133_0⟩ := Kd.at_int HR0.out x12_1 p133 q133
              cases e133
              try replace hx133_0 := (HB.out.cell (World.block_lt_of_cell? w _ hx133_0)).trans hx133_0
              replace p133 := eq_true p133
              replace q133 := eq_true q133
              go_upto_if 106 with (first | ((with_reducible refine gate_callee (f := 149) rfl ?_); refine goesL_ (some 92) rfl rfl Tryd.func149 jK rfl #[.slice (some ad133) l0.length c0, .int .i64 x12_1] rfl jA ?_; (with_reducible refine (impl_GetLabel.calls kj4 _ _ l0 x12_1 t137 t138 true _ ?side1 ?side2 A27.out).mono ?_); (case side1 => exact cU ((Kd.C_below HR0.out HB.out))); (case side2 => exact HC0.out); rintro e w33 ⟨rfl, hb⟩; refine ⟨_, rfl, ?_⟩; replace HO_8 := aS (Kd.R_below (rU HO_8.out) hb); replace HB := aS (below_step (wU HB.out) hb); clear hb) | ((with_reducible refine gate_builtin (b := .append) (xs := #[.tmp 99, .tmp 101]) rfl ?_); (try (refine gate_guard (by rfl) ?_; dsimp only)); at_builtin; refine Kd.R_append Kd.string (w0 := w) w.heap.size rfl (.tmp 99) (.tmp 101) 108 9 (.string ⟨#[]⟩) 16 rfl Tryd.underlying108 info9 rfl (by decide) (by omega) u8 x8_1 t137 [.string t137] (fun _ => True) (fun _ => False) rfl rfl ?aP (fun _ hk => hk.elim) ?aF ?aO ?aB ?aS ?aL ?_; (case aP => exact rfl); (case aB => exact (wU HB.out)); (case aF => exact (fun _ _ => trivial)); (case aO => exact (rU HO_8.out)); (case aS => exact (below_size (wU HB.out))); (case aL => have := LMc29.out; omega); intro v141 w34 ho hb hg hat; rw [← Ny140.out] at ho; replace HB := aS (hb); have HO142 := aS (ho); clear HO_8; clear ho hb hg hat; obtain ⟨Ao35, co35, eo35⟩ := Kd.R_slice HO142.out; subst eo35) | ((with_reducible refine gate_callee (f := 146) rfl ?_); refine goesL_ (some 104) rfl rfl Tryd.func146 jK rfl #[.slice Ao35 y140.length co35] rfl jA ?_; (with_reducible refine (impl_JoinLabels.calls _ _ y140 t143 _ ?side1 ?side2 A30.out).mono ?_); (case side1 => exact cU ((Kd.R_reads' HO142.out).2.2)); (case side2 => exact (Kd.R_reads' HO142.out).2.1); rintro e w36 ⟨rfl, hb⟩; refine ⟨_, rfl, ?_⟩; replace HO142 := aS (Kd.R_below (rU HO142.out) hb); replace HB := aS (below_step (wU HB.out) hb); clear hb) | ((with_reducible refine gate_callee (f := 67) rfl ?_); refine goesL_ (some 105) rfl rfl Tryd.func67 jK rfl #[.string t143] rfl jA ?_; (with_reducible refine (impl_NameOk.calls kj4 t143 t144 _ A31.out).mono ?_); rintro e w37 ⟨rfl, hb⟩; refine ⟨_, rfl, ?_⟩; replace HO142 := aS (Kd.R_below (rU HO142.out) hb); replace HB := aS (below_step (wU HB.out) hb); clear hb))
              (try simp only [Act.put, List.setIfInBounds_toArray, List.set_cons_zero, List.set_cons_succ])
              have H := HC32.out
              clear HC32
              by_cases c38 : t144 = true
              ·subst c38
               rw [if_pos rfl] at H
               have H' := aS H
               clear H
               go_wp2
               go_roundg kj4
               case measure => have := HK1.out; have := HJ4.out; omega
               case rel => exact ⟨(y140), (x9_1), (x10_1), (x11_1), (t138), jB, jB, jB, jB, H', ⟨by have := HK1.out; have := HJ4.out; omega⟩, ⟨by exact rU HO142.out⟩, ⟨by exact wU HB.out⟩⟩
              ·replace c38 := Bool.eq_false_iff.mpr c38
               subst c38
               rw [if_neg Bool.false_ne_true] at H
               simp only [Option.some.injEq, Prod.mk.injEq] at H
               obtain ⟨rfl, rfl, rfl, rfl⟩ := H
               go_wp2
               refine bodyPost_ret (results_list (rs := [.tmp 4, .tmp 5, .tmp 6, .tmp 7]) rfl (by simp) (.tmp (.tmp (.tmp (.tmp .nil))))) rfl ?_
               exact ⟨jE, by exact wU HB.out⟩
             ·rw [if_neg c29] at H
              exact absurd H (by simp)
            ·replace c28 := Bool.eq_false_iff.mpr c28
             subst c28
             rw [if_neg Bool.false_ne_true] at H
             simp only [Option.some.injEq, Prod.mk.injEq] at H
             obtain ⟨rfl, rfl, rfl, rfl⟩ := H
             have p133 : 0 ≤ (x12_1 : Int) := of_decide_eq_true jC
             have q133 : x12_1 < (l0.length : Int) := of_decide_eq_true jC
             obtain ⟨ad133, e133, hx133_0⟩ := Kd.at_int HR0.out x12_1 p133 q133
             cases e133
             try replace hx133_0 := (HB.out.cell (World.block_lt_of_cell? w _ hx133_0)).trans hx133_0
             replace p133 := eq_true p133
             replace q133 := eq_true q133
             go_wp2_with (first | ((with_reducible refine gate_callee (f := 149) rfl ?_); refine goesL_ (some 92) rfl rfl Tryd.func149 jK rfl #[.slice (some ad133) l0.length c0, .int .i64 x12_1] rfl jA ?_; (with_reducible refine (impl_GetLabel.calls kj4 _ _ l0 x12_1 t137 t138 false _ ?side1 ?side2 A27.out).mono ?_); (case side1 => exact cU ((Kd.C_below HR0.out HB.out))); (case side2 => exact HC0.out); rintro e w39 ⟨rfl, hb⟩; refine ⟨_, rfl, ?_⟩; replace HO_8 := aS (Kd.R_below (rU HO_8.out) hb); replace HB := aS (below_step (wU HB.out) hb); clear hb))
             refine bodyPost_ret (results_list (rs := [.tmp 4, .tmp 5, .tmp 6, .tmp 7]) rfl (by simp) (.tmp (.tmp (.tmp (.tmp .nil))))) rfl ?_
             exact ⟨jE, by exact wU HB.out⟩
       ·rw [if_neg c9] at H
        exact absurd H (by simp)
      ·rw [if_neg c8] at H
       exact absurd H (by simp)

/-! ### impl_GetName: function 71 -/
def impl_GetName.f (k : Nat) (l0 : List Int) (a1 : Int) : Option (ByteArray × Int × Int) := (impl_read.f k l0 a1).bind fun bt145 => (some (bt145.1, bt145.2.1, bt145.2.2.1))
theorem impl_GetName.mono : ∀ a0 a1 k, LeO (impl_GetName.f k a0 a1) (impl_GetName.f (k + 1) a0 a1) := by
 intro a0 a1 k
 unfold impl_GetName.f
 repeat' first
   | (with_reducible first | exact impl_read.mono _ _ _ | exact LeO.refl _ | exact LeO.none _ | refine LeO.ite ?_ ?_ | refine LeO.bind ?_ (fun _ => ?_))
   | exact impl_read.mono _ _ _
   | exact LeO.none _
   | refine LeO.ite ?_ ?_
   | refine LeO.bind ?_ (fun _ => ?_)
set_option maxHeartbeats 8000000 in
set_option maxRecDepth 100000 in
theorem impl_GetName.calls (k : Nat) (A0 : Option Addr) (c0 : Nat) (l0 : List Int) (a1 : Int) (r1 : ByteArray) (r2 : Int) (r3 : Int) (w : World) (hr0 : Kd.C (Kd.int .u8) w A0 l0.length l0) (hc0 : l0.length ≤ c0) (h : impl_GetName.f k l0 a1 = some (r1, r2, r3)) :
  Calls Tryd.prog 71 #[.slice A0 l0.length c0, .int .i64 a1] w fun e w' => e = .returned (.tuple #[.string r1, .int .i64 r2, .int .i64 r3]) ∧ Below w.heap.size w w' := by
 have HR0 := aS hr0
 have HC0 := aS hc0
 clear hr0 hc0
 have HB := aS (Below.refl w.heap.size w)
 have H : ((impl_read.f k l0 a1).bind fun bt145 => (some (bt145.1, bt145.2.1, bt145.2.2.1))) = some (r1, r2, r3) := h
 clear h
 obtain ⟨⟨t145, t146, t147, t148⟩, A3, H⟩ := bM H
 try dsimp only at H
 simp only [Option.some.injEq, Prod.mk.injEq] at H
 obtain ⟨rfl, rfl, rfl⟩ := H
 go_enter Tryd.func71, Tryd.ntmps71
 go_wp2_with (first | ((with_reducible refine gate_callee (f := 127) rfl ?_); refine goesL_ (some 14) rfl rfl Tryd.func127 jK rfl #[.slice A0 l0.length c0, .int .i64 a1] rfl jA ?_; (with_reducible refine (impl_read.calls k _ _ l0 a1 t145 t146 t147 t148 _ ?side1 ?side2 A3.out).mono ?_); (case side1 => exact cU (HR0.out)); (case side2 => exact HC0.out); rintro e w4 ⟨rfl, hb⟩; refine ⟨_, rfl, ?_⟩; replace HB := aS (below_step (wU HB.out) hb); clear hb))
 go_ret3
 exact ⟨jE, by exact wU HB.out⟩

/-! ### impl_getBytes: function 128 -/
mutual
def impl_getBytes.j0 : Nat → List Int → Int → Int → Int → Bool → Option (Int × Bool)
 | 0, _, _, _, _, _ => none
 | k + 1, x0, x1, x2, x3, x22 => if x22 = true then (some (0, false)) else (if 0 ≤ x1 then (if x1 ≤ (wrap64 (x1 + x2)) then (if (wrap64 (x1 + x2)) ≤ (x0.length : Int) then ((some ((x0.take ((wrap64 (x1 + x2)) : Int).toNat).drop (x1 : Int).toNat : List Int)).bind fun y149 => (impl_getBytes.l0 k x3 0 y149 (y149.length : Int) 0)) else (none)) else (none)) else (none))
def impl_getBytes.l0 : Nat → Int → Int → List Int → Int → Int → Option (Int × Bool)
 | 0, _, _, _, _, _ => none
 | k + 1, x3, x10, x28, x29, x30 => if x30 < x29 then (if 0 ≤ x30 then (if x30 < (x28.length : Int) then (impl_getBytes.l0 k x3 (wrap64 ((wrap64 (256 * x10)) + (wrap64 (rd x28 x30)))) x28 x29 (wrap64 (x30 + 1))) else (none)) else (none)) else (if x10 > x3 then (some (0, false)) else (some (x10, true)))
end
def impl_getBytes.f (k : Nat) (l0 : List Int) (a1 : Int) (a2 : Int) (a3 : Int) : Option (Int × Bool) := if a1 < 0 then (impl_getBytes.j0 k l0 a1 a2 a3 true) else (impl_getBytes.j0 k l0 a1 a2 a3 (decide (a1 > (wrap64 ((l0.length : Int) - a2)))))
theorem impl_getBytes.mono_l : ∀ k, (∀ y0 y1 y2 y3 y4, LeO (impl_getBytes.j0 k y0 y1 y2 y3 y4) (impl_getBytes.j0 (k + 1) y0 y1 y2 y3 y4)) ∧ (∀ y0 y1 y2 y3 y4, LeO (impl_getBytes.l0 k y0 y1 y2 y3 y4) (impl_getBytes.l0 (k + 1) y0 y1 y2 y3 y4))
 | 0 => ⟨fun _ _ _ _ _ r h => by simp [impl_getBytes.j0] at h, fun _ _ _ _ _ r h => by simp [impl_getBytes.l0] at h⟩
 | k + 1 => by
  obtain ⟨ih0, ih1⟩ := impl_getBytes.mono_l k
  refine ⟨?_, ?_⟩
  ·intro y0 y1 y2 y3 y4
   unfold impl_getBytes.j0
   repeat' first
   | (with_reducible first | exact ih0 _ _ _ _ _ | exact ih1 _ _ _ _ _ | exact LeO.refl _ | exact LeO.none _ | refine LeO.ite ?_ ?_ | refine LeO.bind ?_ (fun _ => ?_))
   | exact ih0 _ _ _ _ _
   | exact ih1 _ _ _ _ _
   | exact LeO.none _
   | refine LeO.ite ?_ ?_
   | refine LeO.bind ?_ (fun _ => ?_)
  ·intro y0 y1 y2 y3 y4
   unfold impl_getBytes.l0
   repeat' first
   | (with_reducible first | exact ih0 _ _ _ _ _ | exact ih1 _ _ _ _ _ | exact LeO.refl _ | exact LeO.none _ | refine LeO.ite ?_ ?_ | refine LeO.bind ?_ (fun _ => ?_))
   | exact ih0 _ _ _ _ _
   | exact ih1 _ _ _ _ _
   | exact LeO.none _
   | refine LeO.ite ?_ ?_
   | refine LeO.bind ?_ (fun _ => ?_)
theorem impl_getBytes.mono : ∀ a0 a1 a2 a3 k, LeO (impl_getBytes.f k a0 a1 a2 a3) (impl_getBytes.f (k + 1) a0 a1 a2 a3) := by
 intro a0 a1 a2 a3 k
 obtain ⟨ih0, ih1⟩ := impl_getBytes.mono_l k
 unfold impl_getBytes.f
 repeat' first
   | (with_reducible first | exact ih0 _ _ _ _ _ | exact ih1 _ _ _ _ _ | exact LeO.refl _ | exact LeO.none _ | refine LeO.ite ?_ ?_ | refine LeO.bind ?_ (fun _ => ?_))
   | exact ih0 _ _ _ _ _
   | exact ih1 _ _ _ _ _
   | exact LeO.none _
   | refine LeO.ite ?_ ?_
   | refine LeO.bind ?_ (fun _ => ?_)
set_option maxHeartbeats 8000000 in
set_option maxRecDepth 100000 in
theorem impl_getBytes.calls (k : Nat) (A0 : Option Addr) (c0 : Nat) (l0 : List Int) (a1 : Int) (a2 : Int) (a3 : Int) (r1 : Int) (r2 : Bool) (w : World) (hr0 : Kd.C (Kd.int .u8) w A0 l0.length l0) (hc0 : l0.length ≤ c0) (h : impl_getBytes.f k l0 a1 a2 a3 = some (r1, r2)) :
  Calls Tryd.prog 128 #[.slice A0 l0.length c0, .int .i64 a1, .int .i64 a2, .int .i64 a3] w fun e w' => e = .returned (.tuple #[.int .i64 r1, .bool r2]) ∧ Drawn0 w w' := by
 have HR0 := aS hr0
 have HC0 := aS hc0
 clear hr0 hc0
 have H : (if a1 < 0 then (impl_getBytes.j0 k l0 a1 a2 a3 true) else (impl_getBytes.j0 k l0 a1 a2 a3 (decide (a1 > (wrap64 ((l0.length : Int) - a2)))))) = some (r1, r2) := h
 clear h
 have HC5 := aS H
 clear H
 go_enter Tryd.func128, Tryd.ntmps128
 go_upto_region 1 with (fail)
 go_cut [22] (fun v22 wc => ∃ (kq : Nat) (x22_4 : Bool), v22 = .bool x22_4 ∧ Aside0 (impl_getBytes.j0 kq l0 a1 a2 a3 x22_4 = some (r1, r2)) ∧ Aside0 (kq ≤ k) ∧ Drawn0 w wc)
 case first =>
  have H := HC5.out
  clear HC5
  by_cases c6 : a1 < 0
  ·rw [if_pos c6] at H
   have c6b0 := decide_eq_true c6
   clear c6
   (first | rw [c6b0] | (simp only [i64_w, i32_w]; rw [c6b0]) | skip)
   have H' := aS H
   clear H
   go_wp2
   go_meet
   case rel => exact ⟨_, (true), jB, H', ⟨by first | omega | exact Nat.le_refl _⟩, by repeat (first | exact Drawn0.refl _ | apply Drawn0.step)⟩
  ·rw [if_neg c6] at H
   have c6b0 := decide_eq_false c6
   clear c6
   (first | rw [c6b0] | (simp only [i64_w, i32_w]; rw [c6b0]) | skip)
   have H' := aS H
   clear H
   go_wp2
   go_meet
   case rel => exact ⟨_, (decide (a1 > (wrap64 ((l0.length : Int) - a2)))), jB, H', ⟨by first | omega | exact Nat.le_refl _⟩, by repeat (first | exact Drawn0.refl _ | apply Drawn0.step)⟩
 case rest =>
  clear HC5
  try clear c1
  try clear p2
  try clear c6
  try clear c6b0
  try clear p6
  obtain ⟨kq, x22_4, rfl, HA, HJ4, ⟨mc4, rfl⟩⟩ := hcut
  cases kq with
  | zero => exact absurd HA.out (by simp [impl_getBytes.j0])
  | succ kj4 =>
   have H := HA.out
   clear HA
   simp only [impl_getBytes.j0] at H
   by_cases c7 : x22_4 = true
   ·subst c7
    rw [if_pos rfl] at H
    simp only [Option.some.injEq, Prod.mk.injEq] at H
    obtain ⟨rfl, rfl⟩ := H
    go_wp2
    go_ret2
    exact ⟨by first | rfl | (simp; done) | (simp [*]; done) | (simp [X.bne_nil, X.beq_nil]; done) | (simp [*, X.bne_nil, X.beq_nil]; done) | (simp [X.bne_nil, X.beq_nil]; done), by repeat (first | exact Drawn0.refl _ | apply Drawn0.step)⟩
   ·replace c7 := Bool.eq_false_iff.mpr c7
    subst c7
    rw [if_neg Bool.false_ne_true] at H
    by_cases c8 : 0 ≤ a1
    ·rw [if_pos c8] at H
     have c8b0 := eq_true c8
     have c8b1 := decide_eq_true c8
     clear c8
     by_cases c9 : a1 ≤ (wrap64 (a1 + a2))
     ·rw [if_pos c9] at H
      have c9b0 := eq_true c9
      have c9b1 := decide_eq_true c9
      by_cases c10 : (wrap64 (a1 + a2)) ≤ (l0.length : Int)
      ·rw [if_pos c10] at H
       have c10b0 := eq_true c10
       have c10b1 := decide_eq_true c10
       obtain ⟨y149, hy_⟩ : ∃ y_ : List Int, y_ = ((l0.take ((wrap64 (a1 + a2)) : Int).toNat).drop (a1 : Int).toNat) := ⟨_, rfl⟩
       replace H : (impl_getBytes.l0 kj4 a3 0 y149 (y149.length : Int) 0) = some (r1, r2) := jD
       have Ny149 := aS hy_
       clear hy_
       have H' := aS H
       clear H
       have q11 : ((wrap64 (a1 + a2)) : Int) ≤ ((l0.length : Int) : Int) := of_decide_eq_true jC
       obtain ⟨i011, hi011, _, hsz11, _⟩ := info_parts info5
       have hroom11 : l0.length ≤ c0 := HC0.out
       have hC11 : Kd.C (Kd.int .u8) _ A0 l0.length l0 := HR0.out
       have ql11 : (a1 : Int) ≤ ((wrap64 (a1 + a2)) : Int) := of_decide_eq_true jC
       have q011 : (0 : Int) ≤ (a1 : Int) := of_decide_eq_true jC
       have hcut11 := cut_mid (P := Tryd.prog) 22 5 .i64 .i64 Tryd.underlying22 hi011 1 hsz11 A0 l0.length c0 a1 (wrap64 (a1 + a2)) q011 ql11 q11 hroom11
       have hr11 := Kd.C_mid (lo := (a1 : Int).toNat) (hi := ((wrap64 (a1 + a2)) : Int).toNat) (c := c0) hC11 (by omega) (by omega) hroom11
       obtain ⟨A11, hA11⟩ : ∃ A1, A1 = (if c0 = (a1 : Int).toNat then A0 else (A0 : Option Addr).map (·.add ((a1 : Int).toNat * 1))) := ⟨_, rfl⟩
       obtain ⟨c11, hc11⟩ : ∃ c1, c1 = c0 - (a1 : Int).toNat := ⟨_, rfl⟩
       have hy11 : y149.length = ((wrap64 (a1 + a2)) : Int).toNat - (a1 : Int).toNat := (by rw [Ny149.out, List.length_drop, List.length_take] <;> omega)
       rw [show ((l0).take ((wrap64 (a1 + a2)) : Int).toNat).drop (a1 : Int).toNat = y149 from Ny149.out.symm] at hr11
       replace hr11 : Kd.C (Kd.int .u8) _ A11 y149.length y149 := (by rw [hA11]; exact hr11)
       rw [← hy11, ← hA11, ← hc11] at hcut11
       have HR152 := aS hr11
       have HC152 := aS (show y149.length ≤ c11 from by rw [hy11, hc11]; exact Nat.sub_le_sub_right (Nat.le_trans (by omega) hroom11) _)
       clear hr11 hC11 hroom11 hi011 hsz11 hc11
       have KY11 := aS hy11
       have KA11 := aS hA11
       clear hy11 hA11
       replace q11 := eq_true q11
       go_wp2
       go_loopg [10, 30] kj4 (fun kq v10 v30 w' => ∃ (x10_2 : Int) (x30_2 : Int), v10 = .int .i64 x10_2 ∧ v30 = .int .i64 x30_2 ∧ Aside0 (impl_getBytes.l0 kq a3 x10_2 y149 (y149.length : Int) x30_2 = some (r1, r2)) ∧ Aside0 (kq ≤ kj4) ∧ Drawn0 w w')
       case atStart => exact ⟨(0), (0), jB, jB, H', ⟨Nat.le_refl _⟩, by repeat (first | exact Drawn0.refl _ | apply Drawn0.step)⟩
       case round =>
        clear H'
        try clear c1
        try clear q1
        try clear p2
        try clear c4
        try clear c6
        try clear c6b0
        try clear p6
        try clear c7
        try clear c8
        try clear c8b0
        try clear c8b1
        try clear c9
        try clear c9b0
        try clear c9b1
        try clear c10
        try clear c10b0
        try clear c10b1
        try clear c11
        try clear q11
        try clear p2
        try clear p6
        try clear q011
        try clear q11
        obtain ⟨x10_2, x30_2, rfl, rfl, HA, HK2, ⟨m2, rfl⟩⟩ := hrel
        cases gk with
        | zero => exact absurd HA.out (by simp [impl_getBytes.l0])
        | succ k2 =>
         have H := HA.out
         clear HA
         simp only [impl_getBytes.l0] at H
         by_cases c12 : x30_2 < (y149.length : Int)
         ·rw [if_pos c12] at H
          have c12b0 := decide_eq_true c12
          clear c12
          by_cases c13 : 0 ≤ x30_2
          ·rw [if_pos c13] at H
           have c13b0 := decide_eq_true c13
           clear c13
           by_cases c14 : x30_2 < (y149.length : Int)
           ·rw [if_pos c14] at H
            have c14b0 := decide_eq_true c14
            clear c14
            have H' := aS H
            clear H
            have p153 : 0 ≤ (x30_2 : Int) := of_decide_eq_true jC
            have q153 : x30_2 < (y149.length : Int) := of_decide_eq_true jC
            obtain ⟨ad153, e153, hx153_0⟩ := Kd.at_int HR152.out x30_2 p153 q153
            cases e153
            replace p153 := eq_true p153
            replace q153 := eq_true q153
            go_wp2
            go_roundg k2
            case measure => have := HJ4.out; have := HK2.out; omega
            case rel => exact ⟨(wrap64 ((wrap64 (256 * x10_2)) + (wrap64 (rd y149 x30_2)))), (wrap64 (x30_2 + 1)), jB, jB, H', ⟨by have := HJ4.out; have := HK2.out; omega⟩, by repeat (first | exact Drawn0.refl _ | apply Drawn0.step)⟩
           ·rw [if_neg c14] at H
            exact absurd H (by simp)
          ·rw [if_neg c13] at H
           exact absurd H (by simp)
         ·rw [if_neg c12] at H
          have c12b0 := decide_eq_false c12
          clear c12
          by_cases c15 : x10_2 > a3
          ·rw [if_pos c15] at H
           have c15b0 := decide_eq_true c15
           clear c15
           simp only [Option.some.injEq, Prod.mk.injEq] at H
           obtain ⟨rfl, rfl⟩ := H
           go_wp2
           go_ret2
           exact ⟨by first | rfl | (simp; done) | (simp [*]; done) | (simp [X.bne_nil, X.beq_nil]; done) | (simp [*, X.bne_nil, X.beq_nil]; done) | (simp [X.bne_nil, X.beq_nil]; done), by repeat (first | exact Drawn0.refl _ | apply Drawn0.step)⟩
          ·rw [if_neg c15] at H
           have c15b0 := decide_eq_false c15
           clear c15
           simp only [Option.some.injEq, Prod.mk.injEq] at H
           obtain ⟨rfl, rfl⟩ := H
           go_wp2
           go_ret2
           exact ⟨by first | rfl | (simp; done) | (simp [*]; done) | (simp [X.bne_nil, X.beq_nil]; done) | (simp [*, X.bne_nil, X.beq_nil]; done) | (simp [X.bne_nil, X.beq_nil]; done), by repeat (first | exact Drawn0.refl _ | apply Drawn0.step)⟩
      ·rw [if_neg c10] at H
       exact absurd H (by simp)
     ·rw [if_neg c9] at H
      exact absurd H (by simp)
    ·rw [if_neg c8] at H
     exact absurd H (by simp)

/-! ### impl_Get4: function 73 -/
def impl_Get4.f (k : Nat) (l0 : List Int) (a1 : Int) : Option (Int × Bool) := (impl_getBytes.f k l0 a1 4 2147483647).bind fun bt154 => (some (bt154.1, bt154.2))
theorem impl_Get4.mono : ∀ a0 a1 k, LeO (impl_Get4.f k a0 a1) (impl_Get4.f (k + 1) a0 a1) := by
 intro a0 a1 k
 unfold impl_Get4.f
 repeat' first
   | (with_reducible first | exact impl_getBytes.mono _ _ _ _ _ | exact LeO.refl _ | exact LeO.none _ | refine LeO.ite ?_ ?_ | refine LeO.bind ?_ (fun _ => ?_))
   | exact impl_getBytes.mono _ _ _ _ _
   | exact LeO.none _
   | refine LeO.ite ?_ ?_
   | refine LeO.bind ?_ (fun _ => ?_)
set_option maxHeartbeats 8000000 in
set_option maxRecDepth 100000 in
theorem impl_Get4.calls (k : Nat) (A0 : Option Addr) (c0 : Nat) (l0 : List Int) (a1 : Int) (r1 : Int) (r2 : Bool) (w : World) (hr0 : Kd.C (Kd.int .u8) w A0 l0.length l0) (hc0 : l0.length ≤ c0) (h : impl_Get4.f k l0 a1 = some (r1, r2)) :
  Calls Tryd.prog 73 #[.slice A0 l0.length c0, .int .i64 a1] w fun e w' => e = .returned (.tuple #[.int .i64 r1, .bool r2]) ∧ Drawn0 w w' := by
 have HR0 := aS hr0
 have HC0 := aS hc0
 clear hr0 hc0
 have H : ((impl_getBytes.f k l0 a1 4 2147483647).bind fun bt154 => (some (bt154.1, bt154.2))) = some (r1, r2) := h
 clear h
 obtain ⟨⟨t154, t155⟩, A3, H⟩ := bM H
 try dsimp only at H
 simp only [Option.some.injEq, Prod.mk.injEq] at H
 obtain ⟨rfl, rfl⟩ := H
 go_enter Tryd.func73, Tryd.ntmps73
 go_wp2_with (first | ((with_reducible refine gate_callee (f := 128) rfl ?_); refine goesL_ (some 8) rfl rfl Tryd.func128 jK rfl #[.slice A0 l0.length c0, .int .i64 a1, .int .i64 4, .int .i64 2147483647] rfl jA ?_; (with_reducible refine (impl_getBytes.calls k _ _ l0 a1 4 2147483647 t154 t155 _ ?side1 ?side2 A3.out).mono ?_); (case side1 => exact cU (HR0.out)); (case side2 => exact HC0.out); rintro e w' ⟨rfl, ⟨nd, rfl⟩⟩; refine ⟨_, rfl, ?_⟩))
 go_ret2
 exact ⟨by first | rfl | (simp; done) | (simp [*]; done) | (simp [X.bne_nil, X.beq_nil]; done) | (simp [*, X.bne_nil, X.beq_nil]; done) | (simp [X.bne_nil, X.beq_nil]; done), by repeat (first | exact Drawn0.refl _ | apply Drawn0.step)⟩

/-! ### impl_TypeText: function 99 -/
def impl_TypeText.f (a0 : Int) : Option (ByteArray) := if a0 = 1 then (some (⟨#[97, 100, 100, 114]⟩ : ByteArray)) else (if a0 = 2 then (some (⟨#[115, 101, 114, 118, 101, 114]⟩ : ByteArray)) else (if a0 = 5 then (some (⟨#[97, 108, 105, 97, 115]⟩ : ByteArray)) else (if a0 = 6 then (some (⟨#[115, 116, 97, 114, 116]⟩ : ByteArray)) else (if a0 = 16 then (some (⟨#[116, 101, 120, 116]⟩ : ByteArray)) else (some (⟨#[]⟩ : ByteArray))))))
set_option maxHeartbeats 8000000 in
set_option maxRecDepth 100000 in
theorem impl_TypeText.calls (a0 : Int) (r : ByteArray) (w : World) (h : impl_TypeText.f a0 = some r) :
  Calls Tryd.prog 99 #[.int .i64 a0] w fun e w' => e = .returned (.string r) ∧ Drawn0 w w' := by
 have H : (if a0 = 1 then (some (⟨#[97, 100, 100, 114]⟩ : ByteArray)) else (if a0 = 2 then (some (⟨#[115, 101, 114, 118, 101, 114]⟩ : ByteArray)) else (if a0 = 5 then (some (⟨#[97, 108, 105, 97, 115]⟩ : ByteArray)) else (if a0 = 6 then (some (⟨#[115, 116, 97, 114, 116]⟩ : ByteArray)) else (if a0 = 16 then (some (⟨#[116, 101, 120, 116]⟩ : ByteArray)) else (some (⟨#[]⟩ : ByteArray))))))) = some r := h
 clear h
 by_cases c2 : a0 = 1
 ·rw [if_pos c2] at H
  have c2b0 := beq_iff_eq.mpr c2
  have c2b1 := bne_eq_false_iff_eq.mpr c2
  clear c2
  obtain rfl := Option.some.inj H
  go_enter Tryd.func99, Tryd.ntmps99
  go_wp2
  go_ret
  exact ⟨by first | rfl | (simp; done) | (simp [*]; done) | (simp [X.bne_nil, X.beq_nil]; done) | (simp [*, X.bne_nil, X.beq_nil]; done) | (simp [X.bne_nil, X.beq_nil]; done), by repeat (first | exact Drawn0.refl _ | apply Drawn0.step)⟩
 ·rw [if_neg c2] at H
  have c2b0 := beq_eq_false_iff_ne.mpr c2
  have c2b1 := bne_iff_ne.mpr c2
  by_cases c3 : a0 = 2
  ·rw [if_pos c3] at H
   have c3b0 := beq_iff_eq.mpr c3
   have c3b1 := bne_eq_false_iff_eq.mpr c3
   clear c3
   obtain rfl := Option.some.inj H
   go_enter Tryd.func99, Tryd.ntmps99
   go_wp2
   go_ret
   exact ⟨by first | rfl | (simp; done) | (simp [*]; done) | (simp [X.bne_nil, X.beq_nil]; done) | (simp [*, X.bne_nil, X.beq_nil]; done) | (simp [X.bne_nil, X.beq_nil]; done), by repeat (first | exact Drawn0.refl _ | apply Drawn0.step)⟩
  ·rw [if_neg c3] at H
   have c3b0 := beq_eq_false_iff_ne.mpr c3
   have c3b1 := bne_iff_ne.mpr c3
   by_cases c4 : a0 = 5
   ·rw [if_pos c4] at H
    have c4b0 := beq_iff_eq.mpr c4
    have c4b1 := bne_eq_false_iff_eq.mpr c4
    clear c4
    obtain rfl := Option.some.inj H
    go_enter Tryd.func99, Tryd.ntmps99
    go_wp2
    go_ret
    exact ⟨by first | rfl | (simp; done) | (simp [*]; done) | (simp [X.bne_nil, X.beq_nil]; done) | (simp [*, X.bne_nil, X.beq_nil]; done) | (simp [X.bne_nil, X.beq_nil]; done), by repeat (first | exact Drawn0.refl _ | apply Drawn0.step)⟩
   ·rw [if_neg c4] at H
    have c4b0 := beq_eq_false_iff_ne.mpr c4
    have c4b1 := bne_iff_ne.mpr c4
    by_cases c5 : a0 = 6
    ·rw [if_pos c5] at H
     have c5b0 := beq_iff_eq.mpr c5
     have c5b1 := bne_eq_false_iff_eq.mpr c5
     clear c5
     obtain rfl := Option.some.inj H
     go_enter Tryd.func99, Tryd.ntmps99
     go_wp2
     go_ret
     exact ⟨by first | rfl | (simp; done) | (simp [*]; done) | (simp [X.bne_nil, X.beq_nil]; done) | (simp [*, X.bne_nil, X.beq_nil]; done) | (simp [X.bne_nil, X.beq_nil]; done), by repeat (first | exact Drawn0.refl _ | apply Drawn0.step)⟩
    ·rw [if_neg c5] at H
     have c5b0 := beq_eq_false_iff_ne.mpr c5
     have c5b1 := bne_iff_ne.mpr c5
     by_cases c6 : a0 = 16
     ·rw [if_pos c6] at H
      have c6b0 := beq_iff_eq.mpr c6
      have c6b1 := bne_eq_false_iff_eq.mpr c6
      clear c6
      obtain rfl := Option.some.inj H
      go_enter Tryd.func99, Tryd.ntmps99
      go_wp2
      go_ret
      exact ⟨by first | rfl | (simp; done) | (simp [*]; done) | (simp [X.bne_nil, X.beq_nil]; done) | (simp [*, X.bne_nil, X.beq_nil]; done) | (simp [X.bne_nil, X.beq_nil]; done), by repeat (first | exact Drawn0.refl _ | apply Drawn0.step)⟩
     ·rw [if_neg c6] at H
      have c6b0 := beq_eq_false_iff_ne.mpr c6
      have c6b1 := bne_iff_ne.mpr c6
      obtain rfl := Option.some.inj H
      go_enter Tryd.func99, Tryd.ntmps99
      go_wp2
      go_ret
      exact ⟨by first | rfl | (simp; done) | (simp [*]; done) | (simp [X.bne_nil, X.beq_nil]; done) | (simp [*, X.bne_nil, X.beq_nil]; done) | (simp [X.bne_nil, X.beq_nil]; done), by repeat (first | exact Drawn0.refl _ | apply Drawn0.step)⟩

/-! ### impl_TypeOk: function 74 -/
def impl_TypeOk.f (a0 : Int) : Option (Bool) := (impl_TypeText.f a0).bind fun t156 => (some (t156.toList != ([] : List UInt8)))
set_option maxHeartbeats 8000000 in
set_option maxRecDepth 100000 in
theorem impl_TypeOk.calls (a0 : Int) (r : Bool) (w : World) (h : impl_TypeOk.f a0 = some r) :
  Calls Tryd.prog 74 #[.int .i64 a0] w fun e w' => e = .returned (.bool r) ∧ Drawn0 w w' := by
 have H : ((impl_TypeText.f a0).bind fun t156 => (some (t156.toList != ([] : List UInt8)))) = some r := h
 clear h
 obtain ⟨t156, A2, H⟩ := bM H
 try dsimp only at H
 obtain rfl := Option.some.inj H
 go_enter Tryd.func74, Tryd.ntmps74
 go_wp2_with (first | ((with_reducible refine gate_callee (f := 99) rfl ?_); refine goesL_ (some 4) rfl rfl Tryd.func99 jK rfl #[.int .i64 a0] rfl jA ?_; (with_reducible refine (impl_TypeText.calls a0 t156 _ A2.out).mono ?_); rintro e w' ⟨rfl, ⟨nd, rfl⟩⟩; refine ⟨_, rfl, ?_⟩))
 go_ret
 exact ⟨by first | rfl | (simp; done) | (simp [*]; done) | (simp [X.bne_nil, X.beq_nil]; done) | (simp [*, X.bne_nil, X.beq_nil]; done) | (simp [X.bne_nil, X.beq_nil]; done), by repeat (first | exact Drawn0.refl _ | apply Drawn0.step)⟩

end Go.Proofs.YtdigilidomimdaaDoor.Pr
