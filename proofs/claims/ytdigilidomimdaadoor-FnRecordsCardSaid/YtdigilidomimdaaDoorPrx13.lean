-- Written for this claim by a program of this session (wip/tool/pr.py, over the kit's printer).
-- half
import Derived.Test.YtdigilidomimdaaDoorPrx0
import Derived.Test.YtdigilidomimdaaDoorPrx12
namespace Go.Proofs.YtdigilidomimdaaDoor.Pr
open Go.RowKit Go.Proofs.YtdigilidomimdaaDoorW.PrintWords Go.Proofs.YtdigilidomimdaaDoorW.PrintLast Go.Proofs.YtdigilidomimdaaDoorW.PrintMore
attribute [local go_sem] max2_int min2_int max_two min_two max_three min_three max_four min_four   -- for this text's walks alone
set_option linter.unusedVariables false
set_option linter.unusedSimpArgs false

/-! ### spec_SortRecords: function 51 -/
mutual
def spec_SortRecords.l0 : Nat → List (S25) → List (S25) → Int → Option ((List (S25)))
 | 0, _, _, _ => none
 | k + 1, x0, x3, x4 => if x4 < (x0.length : Int) then (spec_SortRecords.l1 k x0 x3 x4 (x3.length : Int)) else (some x3)
def spec_SortRecords.l1 : Nat → List (S25) → List (S25) → Int → Int → Option ((List (S25)))
 | 0, _, _, _, _ => none
 | k + 1, x0, x3, x4, x5 => if x5 > 0 then (if 0 ≤ x4 then (if x4 < (x0.length : Int) then (if 0 ≤ (wrap64 (x5 - 1)) then (if (wrap64 (x5 - 1)) < (x3.length : Int) then ((spec_LessRecord.f k ((rd_T25 x0 x4).f0) ((rd_T25 x0 x4).f1) ((rd_T25 x0 x4).f2) ((rd_T25 x0 x4).f3) ((rd_T25 x0 x4).f4) ((rd_T25 x0 x4).f5) ((rd_T25 x3 (wrap64 (x5 - 1))).f0) ((rd_T25 x3 (wrap64 (x5 - 1))).f1) ((rd_T25 x3 (wrap64 (x5 - 1))).f2) ((rd_T25 x3 (wrap64 (x5 - 1))).f3) ((rd_T25 x3 (wrap64 (x5 - 1))).f4) ((rd_T25 x3 (wrap64 (x5 - 1))).f5)).bind fun t464 => (if t464 = true then (spec_SortRecords.l1 k x0 x3 x4 (wrap64 (x5 - 1))) else ((some (([] : List (S25)) : List (S25))).bind fun y465 => (if 0 ≤ x5 then (if x5 ≤ (x3.length : Int) then ((some (x3.take (x5 : Int).toNat : List (S25))).bind fun y468 => (if y465.length + y468.length < 1954687338268 then ((some (y465 ++ y468 : List (S25))).bind fun y472 => ((some (([(⟨(rd_T25 x0 x4).f0, (rd_T25 x0 x4).f1, (rd_T25 x0 x4).f2, (rd_T25 x0 x4).f3, (rd_T25 x0 x4).f4, (rd_T25 x0 x4).f5⟩ : S25)] : List (S25)) : List (S25))).bind fun y476 => (if y472.length + y476.length < 1954687338268 then ((some (y472 ++ y476 : List (S25))).bind fun y479 => ((some (x3.drop (x5 : Int).toNat : List (S25))).bind fun y482 => (if y479.length + y482.length < 1954687338268 then (spec_SortRecords.l0 k x0 (y479 ++ y482) (wrap64 (x4 + 1))) else (none)))) else (none)))) else (none))) else (none)) else (none))))) else (none)) else (none)) else (none)) else (none)) else ((some (([] : List (S25)) : List (S25))).bind fun y489 => (if 0 ≤ x5 then (if x5 ≤ (x3.length : Int) then ((some (x3.take (x5 : Int).toNat : List (S25))).bind fun y492 => (if y489.length + y492.length < 1954687338268 then ((some (y489 ++ y492 : List (S25))).bind fun y496 => (if 0 ≤ x4 then (if x4 < (x0.length : Int) then ((some (([(⟨(rd_T25 x0 x4).f0, (rd_T25 x0 x4).f1, (rd_T25 x0 x4).f2, (rd_T25 x0 x4).f3, (rd_T25 x0 x4).f4, (rd_T25 x0 x4).f5⟩ : S25)] : List (S25)) : List (S25))).bind fun y500 => (if y496.length + y500.length < 1954687338268 then ((some (y496 ++ y500 : List (S25))).bind fun y503 => ((some (x3.drop (x5 : Int).toNat : List (S25))).bind fun y506 => (if y503.length + y506.length < 1954687338268 then (spec_SortRecords.l0 k x0 (y503 ++ y506) (wrap64 (x4 + 1))) else (none)))) else (none))) else (none)) else (none))) else (none))) else (none)) else (none)))
end
def spec_SortRecords.f (k : Nat) (l0 : List (S25)) : Option ((List (S25))) := spec_SortRecords.l0 k l0 (([] : List (S25))) 0
theorem spec_SortRecords.mono_l : ∀ k, (∀ y0 y1 y2, LeO (spec_SortRecords.l0 k y0 y1 y2) (spec_SortRecords.l0 (k + 1) y0 y1 y2)) ∧ (∀ y0 y1 y2 y3, LeO (spec_SortRecords.l1 k y0 y1 y2 y3) (spec_SortRecords.l1 (k + 1) y0 y1 y2 y3))
 | 0 => ⟨fun _ _ _ r h => by simp [spec_SortRecords.l0] at h, fun _ _ _ _ r h => by simp [spec_SortRecords.l1] at h⟩
 | k + 1 => by
  obtain ⟨ih0, ih1⟩ := spec_SortRecords.mono_l k
  refine ⟨?_, ?_⟩
  ·intro y0 y1 y2
   unfold spec_SortRecords.l0
   repeat' first
   | (with_reducible first | exact ih0 _ _ _ | exact ih1 _ _ _ _ | exact spec_LessRecord.mono _ _ _ _ _ _ _ _ _ _ _ _ _ | exact LeO.refl _ | exact LeO.none _ | refine LeO.ite ?_ ?_ | refine LeO.bind ?_ (fun _ => ?_))
   | refine LeO.ite ?_ ?_
   | refine LeO.bind ?_ (fun _ => ?_)
  ·intro y0 y1 y2 y3
   unfold spec_SortRecords.l1
   repeat' first
   | (with_reducible first | exact ih0 _ _ _ | exact ih1 _ _ _ _ | exact spec_LessRecord.mono _ _ _ _ _ _ _ _ _ _ _ _ _ | exact LeO.refl _ | exact LeO.none _ | refine LeO.ite ?_ ?_ | refine LeO.bind ?_ (fun _ => ?_))
   | refine LeO.ite ?_ ?_
   | refine LeO.bind ?_ (fun _ => ?_)
theorem spec_SortRecords.mono : ∀ a0 k, LeO (spec_SortRecords.f k a0) (spec_SortRecords.f (k + 1) a0) := by
 intro a0 k
 obtain ⟨ih0, ih1⟩ := spec_SortRecords.mono_l k
 unfold spec_SortRecords.f
 repeat' first
   | (with_reducible first | exact ih0 _ _ _ | exact ih1 _ _ _ _ | exact spec_LessRecord.mono _ _ _ _ _ _ _ _ _ _ _ _ _ | exact LeO.refl _ | exact LeO.none _ | refine LeO.ite ?_ ?_ | refine LeO.bind ?_ (fun _ => ?_))
   | refine LeO.ite ?_ ?_
   | refine LeO.bind ?_ (fun _ => ?_)
def spec_SortRecords.T6 : Bool × List (List Nat × List Nat) := (true, [([], []), ([0], [0]), ([1], [1]), ([2], [2]), ([2], [2]), ([3, 4, 2], [2, 3, 4]), ([5, 2], [2, 5]), ([2], [2]), ([2], [2]), ([8, 2], [2, 8]), ([7, 9, 2], [2, 7, 9]), ([10, 2], [2, 10]), ([6, 11, 2, 2], [2, 6, 11]), ([2, 12], [2, 12])])
def spec_SortRecords.B6 : List Nat := [0, 1, 3, 7, 7, 31, 63, 7, 7, 263, 903, 1927, 4095, 8191]
theorem spec_SortRecords.tab6 : rtab .any (opsOf Tryd.f51 6) = spec_SortRecords.T6 := by kernel_rfl
theorem spec_SortRecords.bits6 : waitsOk spec_SortRecords.T6.2 spec_SortRecords.B6 = true := by kernel_rfl
def spec_SortRecords.T8 : Bool × List (List Nat × List Nat) := (true, [([], []), ([], []), ([], []), ([1, 2], [1, 2]), ([0, 3], [0, 3]), ([], []), ([], []), ([5, 6], [5, 6]), ([7], [7]), ([8], [8]), ([4, 9, 4], [4, 9]), ([], []), ([], []), ([11, 12], [11, 12]), ([10, 13, 10], [10, 13]), ([14, 14, 0, 1, 2, 3, 4, 5, 6, 7, 8, 9, 10, 11, 12, 13, 14], [1, 11, 14])])
def spec_SortRecords.B8 : List Nat := [0, 0, 0, 6, 15, 0, 0, 96, 224, 480, 1023, 0, 0, 6144, 16383, 32767]
theorem spec_SortRecords.tab8 : rtab .any (opsOf Tryd.f51 8) = spec_SortRecords.T8 := by kernel_rfl
theorem spec_SortRecords.bits8 : waitsOk spec_SortRecords.T8.2 spec_SortRecords.B8 = true := by kernel_rfl
set_option maxHeartbeats 8000000 in
set_option maxRecDepth 100000 in
theorem spec_SortRecords.calls (k : Nat) (A0 : Option Addr) (c0 : Nat) (l0 : List (S25)) (r : List (S25)) (w : World) (hr0 : Kd.C k25 w A0 l0.length l0) (hc0 : l0.length ≤ c0) (h : spec_SortRecords.f k l0 = some r) :
  Calls Tryd.prog 51 #[.slice A0 l0.length c0] w fun e w' => ∃ v0_ : Value, e = .returned (v0_) ∧ Kd.R k25 25 w' w.heap.size (fun _ => True) v0_ r ∧ Below w.heap.size w w' := by
 have hu25 := Tryd.underlying25
 have HR0 := aS hr0
 have HC0 := aS hc0
 clear hr0 hc0
 have HB := aS (Below.refl w.heap.size w)
 have H : (spec_SortRecords.l0 k l0 (([] : List (S25))) 0) = some r := h
 clear h
 obtain ⟨y459, hy_⟩ : ∃ y_ : List (S25), y_ = (([] : List (S25))) := ⟨_, rfl⟩
 replace H : (spec_SortRecords.l0 k l0 y459 0) = some r := jD
 have Ny459 := aS hy_
 clear hy_
 have H' := aS H
 clear H
 go_enter Tryd.func51, Tryd.ntmps51
 go_wp2_with (first | ((with_reducible refine gate_dst (N := 6) rfl ?_); refine Kd.R_lit k25 _ 25 ?hg (N := 6) ?hd (xs := ([] : List (S25))) (inner := []) (ok := fun _ => True) (okp := fun _ => True) ?hr ?hp (fun _ hk => hk) trivial (Below.refl _ _) (Nat.le_refl _) (by simp) ?_; (case hd => rfl); (case hg => rfl); (case hr => first | (go_simp; done) | (go_simp; rfl)); (case hp => exact (Reps.none _ _)); intro v460 w2 ho3 hb hg_ hnew_; clear hg_ hnew_; (first | rw [← Ny459.out] at ho3 | (simp only [Int.reduceToNat] at ho3; rw [← Ny459.out] at ho3)); have HO461 := aS (Kd.R_lower ho3 (below_size (wU HB.out))); replace HB := aS (below_step (wU HB.out) hb); clear hb ho3))
 go_loopg [3, 4] k (fun kq v3 v4 w' => ∃ (x3_1 : List (S25)) (x4_1 : Int), v4 = .int .i64 x4_1 ∧ Aside0 (spec_SortRecords.l0 kq l0 x3_1 x4_1 = some r) ∧ Aside0 (kq ≤ k) ∧ Aside0 (Kd.R k25 25 w' w.heap.size (fun _ => True) v3 x3_1) ∧ Aside0 (Below w.heap.size w w'))
 case atStart => exact ⟨(y459), (0), jB, H', ⟨Nat.le_refl _⟩, ⟨by exact rU HO461.out⟩, ⟨by exact wU HB.out⟩⟩
 case round =>
  clear H'
  try clear p2
  obtain ⟨x3_1, x4_1, rfl, HA, HK1, HO_3, HB⟩ := hrel
  cases gk with
  | zero => exact absurd HA.out (by simp [spec_SortRecords.l0])
  | succ k1 =>
   have H := HA.out
   clear HA
   simp only [spec_SortRecords.l0] at H
   by_cases c4 : x4_1 < (l0.length : Int)
   ·rw [if_pos c4] at H
    have c4b0 := decide_eq_true c4
    clear c4
    have H' := aS H
    clear H
    obtain ⟨Ao5, co5, eo5⟩ := Kd.R_slice HO_3.out
    subst eo5
    go_wp2
    go_loopg [5] k1 (fun kq v5 w' => ∃ (x5_2 : Int), v5 = .int .i64 x5_2 ∧ Aside0 (spec_SortRecords.l1 kq l0 x3_1 x4_1 x5_2 = some r) ∧ Aside0 (kq ≤ k1) ∧ Aside0 (Kd.R k25 25 w' w.heap.size (fun _ => True) (.slice Ao5 x3_1.length co5) x3_1) ∧ Aside0 (Below w.heap.size w w'))
    case atStart => exact ⟨((x3_1.length : Int)), jB, H', ⟨Nat.le_refl _⟩, ⟨by exact rU HO_3.out⟩, ⟨by exact wU HB.out⟩⟩
    case round =>
     clear H'
     try clear p2
     try clear c4
     try clear c4b0
     try clear c5
     try clear p2
     obtain ⟨x5_2, rfl, HA, HK2, HO_3, HB⟩ := hrel
     cases gk with
     | zero => exact absurd HA.out (by simp [spec_SortRecords.l1])
     | succ k2 =>
      have H := HA.out
      clear HA
      simp only [spec_SortRecords.l1] at H
      by_cases c6 : x5_2 > 0
      ·rw [if_pos c6] at H
       have c6b0 := decide_eq_true c6
       clear c6
       by_cases c7 : 0 ≤ x4_1
       ·rw [if_pos c7] at H
        have c7b0 := decide_eq_true c7
        clear c7
        by_cases c8 : x4_1 < (l0.length : Int)
        ·rw [if_pos c8] at H
         have c8b0 := decide_eq_true c8
         clear c8
         obtain ⟨ji9, hji9⟩ : ∃ j_ : Int, (wrap64 (x5_2 - 1)) = j_ := ⟨_, rfl⟩
         replace H : (if 0 ≤ (ji9) then (if (ji9) < (x3_1.length : Int) then ((spec_LessRecord.f k2 ((rd_T25 l0 x4_1).f0) ((rd_T25 l0 x4_1).f1) ((rd_T25 l0 x4_1).f2) ((rd_T25 l0 x4_1).f3) ((rd_T25 l0 x4_1).f4) ((rd_T25 l0 x4_1).f5) ((rd_T25 x3_1 (ji9)).f0) ((rd_T25 x3_1 (ji9)).f1) ((rd_T25 x3_1 (ji9)).f2) ((rd_T25 x3_1 (ji9)).f3) ((rd_T25 x3_1 (ji9)).f4) ((rd_T25 x3_1 (ji9)).f5)).bind fun t464 => (if t464 = true then (spec_SortRecords.l1 k2 l0 x3_1 x4_1 ji9) else ((some (([] : List (S25)) : List (S25))).bind fun y465 => (if 0 ≤ x5_2 then (if x5_2 ≤ (x3_1.length : Int) then ((some (x3_1.take (x5_2 : Int).toNat : List (S25))).bind fun y468 => (if y465.length + y468.length < 1954687338268 then ((some (y465 ++ y468 : List (S25))).bind fun y472 => ((some (([(⟨(rd_T25 l0 x4_1).f0, (rd_T25 l0 x4_1).f1, (rd_T25 l0 x4_1).f2, (rd_T25 l0 x4_1).f3, (rd_T25 l0 x4_1).f4, (rd_T25 l0 x4_1).f5⟩ : S25)] : List (S25)) : List (S25))).bind fun y476 => (if y472.length + y476.length < 1954687338268 then ((some (y472 ++ y476 : List (S25))).bind fun y479 => ((some (x3_1.drop (x5_2 : Int).toNat : List (S25))).bind fun y482 => (if y479.length + y482.length < 1954687338268 then (spec_SortRecords.l0 k2 l0 (y479 ++ y482) (wrap64 (x4_1 + 1))) else (none)))) else (none)))) else (none))) else (none)) else (none))))) else (none)) else (none)) = some r := by first | (rw [hji9] at H; exact H) | (simp only [hji9] at H ⊢; exact H)
         have hji9w : (IntKind.i64.wrap (x5_2 - 1)) = ji9 := (i64_w _).trans hji9
         by_cases c10 : 0 ≤ (ji9)
         ·rw [if_pos c10] at H
          have c10b0 := decide_eq_true c10
          clear c10
          by_cases c11 : (ji9) < (x3_1.length : Int)
          ·rw [if_pos c11] at H
           have c11b0 := decide_eq_true c11
           clear c11
           obtain ⟨t464, A12, H⟩ := bM H
           try dsimp only at H
           by_cases c13 : t464 = true
           ·subst c13
            rw [if_pos rfl] at H
            have H' := aS H
            clear H
            try go_wp2
            replace HO_3 := aS (Kd.R_drew HO_3.out)
            replace HB := aS (below_drew1 HB.out)
            have p462 : 0 ≤ (x4_1 : Int) := of_decide_eq_true jC
            have q462 : x4_1 < (l0.length : Int) := of_decide_eq_true jC
            obtain ⟨ad462, e462, hx462_0, hx462_1, hx462_2, hx462_3, hx462_4, hx462_5⟩ := at_T25 HR0.out x4_1 p462 q462
            have hw462_5 := hx462_5
            have hw462_4 := hx462_4
            have hw462_3 := hx462_3
            have hw462_2 := hx462_2
            have hw462_1 := hx462_1
            have hw462_0 := hx462_0
            cases e462
            try replace hx462_0 := hC HB.out hx462_0
            try replace hx462_1 := hC HB.out hx462_1
            try replace hx462_2 := hC HB.out hx462_2
            try replace hx462_3 := hC HB.out hx462_3
            try replace hx462_4 := hC HB.out hx462_4
            try replace hx462_5 := hC HB.out hx462_5
            replace p462 := eq_true p462
            replace q462 := eq_true q462
            have p463 : 0 ≤ ((ji9) : Int) := of_decide_eq_true jC
            have q463 : (ji9) < (x3_1.length : Int) := of_decide_eq_true jC
            obtain ⟨ad463, e463, hx463_0, hx463_1, hx463_2, hx463_3, hx463_4, hx463_5⟩ := at_T25 (Kd.R_reads' HO_3.out).2.2 (ji9) p463 q463
            cases e463
            replace p463 := eq_true p463
            replace q463 := eq_true q463
            refine start_ (n := 14) (S := fun w' => w'.cell? (ad462.add ((x4_1).toNat * 6)) = some (.string ((rd_T25 l0 x4_1).f0)) ∧ w'.cell? ⟨(ad462.add ((x4_1).toNat * 6)).block, (ad462.add ((x4_1).toNat * 6)).off + 1, none⟩ = some (.int .i64 ((rd_T25 l0 x4_1).f1)) ∧ w'.cell? ⟨(ad462.add ((x4_1).toNat * 6)).block, (ad462.add ((x4_1).toNat * 6)).off + 2, none⟩ = some (.int .i64 ((rd_T25 l0 x4_1).f2)) ∧ w'.cell? ⟨(ad462.add ((x4_1).toNat * 6)).block, (ad462.add ((x4_1).toNat * 6)).off + 3, none⟩ = some (.int .i64 ((rd_T25 l0 x4_1).f3)) ∧ w'.cell? ⟨(ad462.add ((x4_1).toNat * 6)).block, (ad462.add ((x4_1).toNat * 6)).off + 4, none⟩ = some (.string ((rd_T25 l0 x4_1).f4)) ∧ w'.cell? ⟨(ad462.add ((x4_1).toNat * 6)).block, (ad462.add ((x4_1).toNat * 6)).off + 5, none⟩ = some (.string ((rd_T25 l0 x4_1).f5)) ∧ w'.cell? (ad463.add (((ji9)).toNat * 6)) = some (.string ((rd_T25 x3_1 (ji9)).f0)) ∧ w'.cell? ⟨(ad463.add (((ji9)).toNat * 6)).block, (ad463.add (((ji9)).toNat * 6)).off + 1, none⟩ = some (.int .i64 ((rd_T25 x3_1 (ji9)).f1)) ∧ w'.cell? ⟨(ad463.add (((ji9)).toNat * 6)).block, (ad463.add (((ji9)).toNat * 6)).off + 2, none⟩ = some (.int .i64 ((rd_T25 x3_1 (ji9)).f2)) ∧ w'.cell? ⟨(ad463.add (((ji9)).toNat * 6)).block, (ad463.add (((ji9)).toNat * 6)).off + 3, none⟩ = some (.int .i64 ((rd_T25 x3_1 (ji9)).f3)) ∧ w'.cell? ⟨(ad463.add (((ji9)).toNat * 6)).block, (ad463.add (((ji9)).toNat * 6)).off + 4, none⟩ = some (.string ((rd_T25 x3_1 (ji9)).f4)) ∧ w'.cell? ⟨(ad463.add (((ji9)).toNat * 6)).block, (ad463.add (((ji9)).toNat * 6)).off + 5, none⟩ = some (.string ((rd_T25 x3_1 (ji9)).f5))) (ds := []) #[false, false, false, false, false, false, false, false, false, false, false, false, false, false] jK rfl rfl ⟨((HB.out.cell (World.block_lt_of_cell? w _ hw462_0)).trans hw462_0), ((HB.out.cell (World.block_lt_of_cell? w _ hw462_1)).trans hw462_1), ((HB.out.cell (World.block_lt_of_cell? w _ hw462_2)).trans hw462_2), ((HB.out.cell (World.block_lt_of_cell? w _ hw462_3)).trans hw462_3), ((HB.out.cell (World.block_lt_of_cell? w _ hw462_4)).trans hw462_4), ((HB.out.cell (World.block_lt_of_cell? w _ hw462_5)).trans hw462_5), hx463_0, hx463_1, hx463_2, hx463_3, hx463_4, hx463_5⟩ (fun hHeld => ?_); refine with_tabW spec_SortRecords.tab6 spec_SortRecords.bits6 (fun HT_ HW_ => ?_)
            generalize wr.drew = w14 at HO_3 HB hx462_0 hx462_1 hx462_2 hx462_3 hx462_4 hx462_5 hx463_0 hx463_1 hx463_2 hx463_3 hx463_4 hx463_5 hHeld ⊢
            refine pA HT_ 0 (some 15) (tf 1 13) ?_
            refine pA HT_ 1 (some 16) (tf 2 12) ?_
            refine pA HT_ 2 (some 17) (tf 3 11) ?_
            refine pA HT_ 3 (some 18) (tf 4 10) ?_
            refine pA HT_ 4 (some 19) (tf 5 9) ?_
            refine pA HT_ 5 (some 20) (tf 6 8) ?_
            refine pA HT_ 7 (some 22) #[true, true, true, true, true, true, false, true, false, false, false, false, false, false] ?_
            refine pA HT_ 8 (some 23) #[true, true, true, true, true, true, false, true, true, false, false, false, false, false] ?_
            refine pA HT_ 9 (some 24) #[true, true, true, true, true, true, false, true, true, true, false, false, false, false] ?_
            refine pA HT_ 10 (some 25) #[true, true, true, true, true, true, false, true, true, true, true, false, false, false] ?_
            refine tA HT_ HW_ hHeld 6 (some 21) (tf 11 3) ?_
            refine tA HT_ HW_ hHeld 11 (some 26) (tf 12 2) ?_
            refine one_ (i := 12) (N := some 27) (tf 13 1) rfl rfl (one_of HT_.out jK) (by decide) (fun K hK => ?_)
            refine goes_ Tryd.func50 jK rfl #[.agg #[.string ((rd_T25 l0 x4_1).f0), .int .i64 ((rd_T25 l0 x4_1).f1), .int .i64 ((rd_T25 l0 x4_1).f2), .int .i64 ((rd_T25 l0 x4_1).f3), .string ((rd_T25 l0 x4_1).f4), .string ((rd_T25 l0 x4_1).f5)], .agg #[.string ((rd_T25 x3_1 (ji9)).f0), .int .i64 ((rd_T25 x3_1 (ji9)).f1), .int .i64 ((rd_T25 x3_1 (ji9)).f2), .int .i64 ((rd_T25 x3_1 (ji9)).f3), .string ((rd_T25 x3_1 (ji9)).f4), .string ((rd_T25 x3_1 (ji9)).f5)]] (by rfl) rfl rfl (by (try simp only [List.map_toArray, List.map_cons, List.map_nil]); first | done | (simp only [hji9]; rfl) | rfl | (simp only [List.length_drop, List.length_take]; rfl)) ?_
            with_reducible refine (spec_LessRecord.calls k2 ((rd_T25 l0 x4_1).f0) ((rd_T25 l0 x4_1).f1) ((rd_T25 l0 x4_1).f2) ((rd_T25 l0 x4_1).f3) ((rd_T25 l0 x4_1).f4) ((rd_T25 l0 x4_1).f5) ((rd_T25 x3_1 (ji9)).f0) ((rd_T25 x3_1 (ji9)).f1) ((rd_T25 x3_1 (ji9)).f2) ((rd_T25 x3_1 (ji9)).f3) ((rd_T25 x3_1 (ji9)).f4) ((rd_T25 x3_1 (ji9)).f5) true _ A12.out).mono ?_
            rintro e w15 ⟨rfl, hb⟩
            have HS6_ := (hb.cell (World.block_lt_of_cell? _ _ (hHeld.2.2.2.2.2.2.1))).trans (hHeld.2.2.2.2.2.2.1)
            have HS7_ := (hb.cell (World.block_lt_of_cell? _ _ (hHeld.2.2.2.2.2.2.2.1))).trans (hHeld.2.2.2.2.2.2.2.1)
            have HS8_ := (hb.cell (World.block_lt_of_cell? _ _ (hHeld.2.2.2.2.2.2.2.2.1))).trans (hHeld.2.2.2.2.2.2.2.2.1)
            have HS9_ := (hb.cell (World.block_lt_of_cell? _ _ (hHeld.2.2.2.2.2.2.2.2.2.1))).trans (hHeld.2.2.2.2.2.2.2.2.2.1)
            have HS10_ := (hb.cell (World.block_lt_of_cell? _ _ (hHeld.2.2.2.2.2.2.2.2.2.2.1))).trans (hHeld.2.2.2.2.2.2.2.2.2.2.1)
            have HS11_ := (hb.cell (World.block_lt_of_cell? _ _ (hHeld.2.2.2.2.2.2.2.2.2.2.2))).trans (hHeld.2.2.2.2.2.2.2.2.2.2.2)
            refine ⟨_, rfl, ?_⟩
            replace HO_3 := rB HO_3 hb
            replace HB := aS (below_step (wU HB.out) hb)
            (try clear hb)
            (try clear hb2)
            (try clear hk)
            (try clear hi)
            refine hK.out _ _ ⟨((HB.out.cell (World.block_lt_of_cell? w _ hw462_0)).trans hw462_0), ((HB.out.cell (World.block_lt_of_cell? w _ hw462_1)).trans hw462_1), ((HB.out.cell (World.block_lt_of_cell? w _ hw462_2)).trans hw462_2), ((HB.out.cell (World.block_lt_of_cell? w _ hw462_3)).trans hw462_3), ((HB.out.cell (World.block_lt_of_cell? w _ hw462_4)).trans hw462_4), ((HB.out.cell (World.block_lt_of_cell? w _ hw462_5)).trans hw462_5), HS6_, HS7_, HS8_, HS9_, HS10_, HS11_⟩ (fun hHeld => ?_)
            clear hK K
            refine nA (some 27) ?_
            refine pA HT_ 13 (some 28) (tf 14 0) ?_
            refine done_ (done_of HT_.out jK) ?_
            try go_wp2
            go_roundg k2
            case measure => have := HK1.out; have := HK2.out; omega
            case rel => exact ⟨(ji9), (by first | rfl | (simp; done) | (simp only [← hji9] <;> (first | rfl | simp)) | (simp [*]; done)), H', ⟨by have := HK1.out; have := HK2.out; omega⟩, ⟨by exact rU HO_3.out⟩, ⟨by exact wU HB.out⟩⟩
           ·replace c13 := Bool.eq_false_iff.mpr c13
            subst c13
            rw [if_neg Bool.false_ne_true] at H
            obtain ⟨y465, hy_⟩ : ∃ y_ : List (S25), y_ = (([] : List (S25))) := ⟨_, rfl⟩
            replace H : (if 0 ≤ x5_2 then (if x5_2 ≤ (x3_1.length : Int) then ((some (x3_1.take (x5_2 : Int).toNat : List (S25))).bind fun y468 => (if y465.length + y468.length < 1954687338268 then ((some (y465 ++ y468 : List (S25))).bind fun y472 => ((some (([(⟨(rd_T25 l0 x4_1).f0, (rd_T25 l0 x4_1).f1, (rd_T25 l0 x4_1).f2, (rd_T25 l0 x4_1).f3, (rd_T25 l0 x4_1).f4, (rd_T25 l0 x4_1).f5⟩ : S25)] : List (S25)) : List (S25))).bind fun y476 => (if y472.length + y476.length < 1954687338268 then ((some (y472 ++ y476 : List (S25))).bind fun y479 => ((some (x3_1.drop (x5_2 : Int).toNat : List (S25))).bind fun y482 => (if y479.length + y482.length < 1954687338268 then (spec_SortRecords.l0 k2 l0 (y479 ++ y482) (wrap64 (x4_1 + 1))) else (none)))) else (none)))) else (none))) else (none)) else (none)) = some r := jD
            have Ny465 := aS hy_
            clear hy_
            by_cases c16 : 0 ≤ x5_2
            ·rw [if_pos c16] at H
             have c16b0 := eq_true c16
             have c16b1 := decide_eq_true c16
             clear c16
             by_cases c17 : x5_2 ≤ (x3_1.length : Int)
             ·rw [if_pos c17] at H
              have c17b0 := eq_true c17
              have c17b1 := decide_eq_true c17
              clear c17
              obtain ⟨y468, hy_⟩ : ∃ y_ : List (S25), y_ = (x3_1.take (x5_2 : Int).toNat) := ⟨_, rfl⟩
              replace H : (if y465.length + y468.length < 1954687338268 then ((some (y465 ++ y468 : List (S25))).bind fun y472 => ((some (([(⟨(rd_T25 l0 x4_1).f0, (rd_T25 l0 x4_1).f1, (rd_T25 l0 x4_1).f2, (rd_T25 l0 x4_1).f3, (rd_T25 l0 x4_1).f4, (rd_T25 l0 x4_1).f5⟩ : S25)] : List (S25)) : List (S25))).bind fun y476 => (if y472.length + y476.length < 1954687338268 then ((some (y472 ++ y476 : List (S25))).bind fun y479 => ((some (x3_1.drop (x5_2 : Int).toNat : List (S25))).bind fun y482 => (if y479.length + y482.length < 1954687338268 then (spec_SortRecords.l0 k2 l0 (y479 ++ y482) (wrap64 (x4_1 + 1))) else (none)))) else (none)))) else (none)) = some r := jD
              have Ny468 := aS hy_
              clear hy_
              by_cases c18 : y465.length + y468.length < 1954687338268
              ·rw [if_pos c18] at H
               have LMc18 := aS c18
               clear c18
               obtain ⟨y472, hy_⟩ : ∃ y_ : List (S25), y_ = (y465 ++ y468) := ⟨_, rfl⟩
               replace H : ((some (([(⟨(rd_T25 l0 x4_1).f0, (rd_T25 l0 x4_1).f1, (rd_T25 l0 x4_1).f2, (rd_T25 l0 x4_1).f3, (rd_T25 l0 x4_1).f4, (rd_T25 l0 x4_1).f5⟩ : S25)] : List (S25)) : List (S25))).bind fun y476 => (if y472.length + y476.length < 1954687338268 then ((some (y472 ++ y476 : List (S25))).bind fun y479 => ((some (x3_1.drop (x5_2 : Int).toNat : List (S25))).bind fun y482 => (if y479.length + y482.length < 1954687338268 then (spec_SortRecords.l0 k2 l0 (y479 ++ y482) (wrap64 (x4_1 + 1))) else (none)))) else (none))) = some r := jD
               have Ny472 := aS hy_
               clear hy_
               obtain ⟨y476, hy_⟩ : ∃ y_ : List (S25), y_ = (([(⟨(rd_T25 l0 x4_1).f0, (rd_T25 l0 x4_1).f1, (rd_T25 l0 x4_1).f2, (rd_T25 l0 x4_1).f3, (rd_T25 l0 x4_1).f4, (rd_T25 l0 x4_1).f5⟩ : S25)] : List (S25))) := ⟨_, rfl⟩
               replace H : (if y472.length + y476.length < 1954687338268 then ((some (y472 ++ y476 : List (S25))).bind fun y479 => ((some (x3_1.drop (x5_2 : Int).toNat : List (S25))).bind fun y482 => (if y479.length + y482.length < 1954687338268 then (spec_SortRecords.l0 k2 l0 (y479 ++ y482) (wrap64 (x4_1 + 1))) else (none)))) else (none)) = some r := jD
               have Ny476 := aS hy_
               clear hy_
               by_cases c19 : y472.length + y476.length < 1954687338268
               ·rw [if_pos c19] at H
                have LMc19 := aS c19
                clear c19
                obtain ⟨y479, hy_⟩ : ∃ y_ : List (S25), y_ = (y472 ++ y476) := ⟨_, rfl⟩
                replace H : ((some (x3_1.drop (x5_2 : Int).toNat : List (S25))).bind fun y482 => (if y479.length + y482.length < 1954687338268 then (spec_SortRecords.l0 k2 l0 (y479 ++ y482) (wrap64 (x4_1 + 1))) else (none))) = some r := jD
                have Ny479 := aS hy_
                clear hy_
                have c20b0 := eq_true (of_decide_eq_true jC : 0 ≤ x5_2)
                have c21b0 := eq_true (of_decide_eq_true jC : x5_2 ≤ (x3_1.length : Int))
                obtain ⟨y482, hy_⟩ : ∃ y_ : List (S25), y_ = (x3_1.drop (x5_2 : Int).toNat) := ⟨_, rfl⟩
                replace H : (if y479.length + y482.length < 1954687338268 then (spec_SortRecords.l0 k2 l0 (y479 ++ y482) (wrap64 (x4_1 + 1))) else (none)) = some r := jD
                have Ny482 := aS hy_
                clear hy_
                by_cases c22 : y479.length + y482.length < 1954687338268
                ·rw [if_pos c22] at H
                 have LMc22 := aS c22
                 clear c22
                 obtain ⟨y486, hy_⟩ : ∃ y_ : List (S25), y_ = (y479 ++ y482) := ⟨_, rfl⟩
                 replace H : (spec_SortRecords.l0 k2 l0 y486 (wrap64 (x4_1 + 1))) = some r := jD
                 have Ny486 := aS hy_
                 clear hy_
                 have H' := aS H
                 clear H
                 try go_wp2
                 replace HO_3 := aS (Kd.R_drew HO_3.out)
                 replace HB := aS (below_drew1 HB.out)
                 have p462 : 0 ≤ (x4_1 : Int) := of_decide_eq_true jC
                 have q462 : x4_1 < (l0.length : Int) := of_decide_eq_true jC
                 obtain ⟨ad462, e462, hx462_0, hx462_1, hx462_2, hx462_3, hx462_4, hx462_5⟩ := at_T25 HR0.out x4_1 p462 q462
                 have hw462_5 := hx462_5
                 have hw462_4 := hx462_4
                 have hw462_3 := hx462_3
                 have hw462_2 := hx462_2
                 have hw462_1 := hx462_1
                 have hw462_0 := hx462_0
                 cases e462
                 try replace hx462_0 := hC HB.out hx462_0
                 try replace hx462_1 := hC HB.out hx462_1
                 try replace hx462_2 := hC HB.out hx462_2
                 try replace hx462_3 := hC HB.out hx462_3
                 try replace hx462_4 := hC HB.out hx462_4
                 try replace hx462_5 := hC HB.out hx462_5
                 replace p462 := eq_true p462
                 replace q462 := eq_true q462
                 have p463 : 0 ≤ ((ji9) : Int) := of_decide_eq_true jC
                 have q463 : (ji9) < (x3_1.length : Int) := of_decide_eq_true jC
                 obtain ⟨ad463, e463, hx463_0, hx463_1, hx463_2, hx463_3, hx463_4, hx463_5⟩ := at_T25 (Kd.R_reads' HO_3.out).2.2 (ji9) p463 q463
                 cases e463
                 replace p463 := eq_true p463
                 replace q463 := eq_true q463
                 refine start_ (n := 14) (S := fun w' => w'.cell? (ad462.add ((x4_1).toNat * 6)) = some (.string ((rd_T25 l0 x4_1).f0)) ∧ w'.cell? ⟨(ad462.add ((x4_1).toNat * 6)).block, (ad462.add ((x4_1).toNat * 6)).off + 1, none⟩ = some (.int .i64 ((rd_T25 l0 x4_1).f1)) ∧ w'.cell? ⟨(ad462.add ((x4_1).toNat * 6)).block, (ad462.add ((x4_1).toNat * 6)).off + 2, none⟩ = some (.int .i64 ((rd_T25 l0 x4_1).f2)) ∧ w'.cell? ⟨(ad462.add ((x4_1).toNat * 6)).block, (ad462.add ((x4_1).toNat * 6)).off + 3, none⟩ = some (.int .i64 ((rd_T25 l0 x4_1).f3)) ∧ w'.cell? ⟨(ad462.add ((x4_1).toNat * 6)).block, (ad462.add ((x4_1).toNat * 6)).off + 4, none⟩ = some (.string ((rd_T25 l0 x4_1).f4)) ∧ w'.cell? ⟨(ad462.add ((x4_1).toNat * 6)).block, (ad462.add ((x4_1).toNat * 6)).off + 5, none⟩ = some (.string ((rd_T25 l0 x4_1).f5)) ∧ w'.cell? (ad463.add (((ji9)).toNat * 6)) = some (.string ((rd_T25 x3_1 (ji9)).f0)) ∧ w'.cell? ⟨(ad463.add (((ji9)).toNat * 6)).block, (ad463.add (((ji9)).toNat * 6)).off + 1, none⟩ = some (.int .i64 ((rd_T25 x3_1 (ji9)).f1)) ∧ w'.cell? ⟨(ad463.add (((ji9)).toNat * 6)).block, (ad463.add (((ji9)).toNat * 6)).off + 2, none⟩ = some (.int .i64 ((rd_T25 x3_1 (ji9)).f2)) ∧ w'.cell? ⟨(ad463.add (((ji9)).toNat * 6)).block, (ad463.add (((ji9)).toNat * 6)).off + 3, none⟩ = some (.int .i64 ((rd_T25 x3_1 (ji9)).f3)) ∧ w'.cell? ⟨(ad463.add (((ji9)).toNat * 6)).block, (ad463.add (((ji9)).toNat * 6)).off + 4, none⟩ = some (.string ((rd_T25 x3_1 (ji9)).f4)) ∧ w'.cell? ⟨(ad463.add (((ji9)).toNat * 6)).block, (ad463.add (((ji9)).toNat * 6)).off + 5, none⟩ = some (.string ((rd_T25 x3_1 (ji9)).f5))) (ds := []) #[false, false, false, false, false, false, false, false, false, false, false, false, false, false] jK rfl rfl ⟨((HB.out.cell (World.block_lt_of_cell? w _ hw462_0)).trans hw462_0), ((HB.out.cell (World.block_lt_of_cell? w _ hw462_1)).trans hw462_1), ((HB.out.cell (World.block_lt_of_cell? w _ hw462_2)).trans hw462_2), ((HB.out.cell (World.block_lt_of_cell? w _ hw462_3)).trans hw462_3), ((HB.out.cell (World.block_lt_of_cell? w _ hw462_4)).trans hw462_4), ((HB.out.cell (World.block_lt_of_cell? w _ hw462_5)).trans hw462_5), hx463_0, hx463_1, hx463_2, hx463_3, hx463_4, hx463_5⟩ (fun hHeld => ?_); refine with_tabW spec_SortRecords.tab6 spec_SortRecords.bits6 (fun HT_ HW_ => ?_)
                 generalize wr.drew = w23 at HO_3 HB hx462_0 hx462_1 hx462_2 hx462_3 hx462_4 hx462_5 hx463_0 hx463_1 hx463_2 hx463_3 hx463_4 hx463_5 hHeld ⊢
                 refine pA HT_ 0 (some 15) (tf 1 13) ?_
                 refine pA HT_ 1 (some 16) (tf 2 12) ?_
                 refine pA HT_ 2 (some 17) (tf 3 11) ?_
                 refine pA HT_ 3 (some 18) (tf 4 10) ?_
                 refine pA HT_ 4 (some 19) (tf 5 9) ?_
                 refine pA HT_ 5 (some 20) (tf 6 8) ?_
                 refine pA HT_ 7 (some 22) #[true, true, true, true, true, true, false, true, false, false, false, false, false, false] ?_
                 refine pA HT_ 8 (some 23) #[true, true, true, true, true, true, false, true, true, false, false, false, false, false] ?_
                 refine pA HT_ 9 (some 24) #[true, true, true, true, true, true, false, true, true, true, false, false, false, false] ?_
                 refine pA HT_ 10 (some 25) #[true, true, true, true, true, true, false, true, true, true, true, false, false, false] ?_
                 refine tA HT_ HW_ hHeld 6 (some 21) (tf 11 3) ?_
                 refine tA HT_ HW_ hHeld 11 (some 26) (tf 12 2) ?_
                 refine one_ (i := 12) (N := some 27) (tf 13 1) rfl rfl (one_of HT_.out jK) (by decide) (fun K hK => ?_)
                 refine goes_ Tryd.func50 jK rfl #[.agg #[.string ((rd_T25 l0 x4_1).f0), .int .i64 ((rd_T25 l0 x4_1).f1), .int .i64 ((rd_T25 l0 x4_1).f2), .int .i64 ((rd_T25 l0 x4_1).f3), .string ((rd_T25 l0 x4_1).f4), .string ((rd_T25 l0 x4_1).f5)], .agg #[.string ((rd_T25 x3_1 (ji9)).f0), .int .i64 ((rd_T25 x3_1 (ji9)).f1), .int .i64 ((rd_T25 x3_1 (ji9)).f2), .int .i64 ((rd_T25 x3_1 (ji9)).f3), .string ((rd_T25 x3_1 (ji9)).f4), .string ((rd_T25 x3_1 (ji9)).f5)]] (by rfl) rfl rfl (by (try simp only [List.map_toArray, List.map_cons, List.map_nil]); first | done | (simp only [hji9]; rfl) | rfl | (simp only [List.length_drop, List.length_take]; rfl)) ?_
                 with_reducible refine (spec_LessRecord.calls k2 ((rd_T25 l0 x4_1).f0) ((rd_T25 l0 x4_1).f1) ((rd_T25 l0 x4_1).f2) ((rd_T25 l0 x4_1).f3) ((rd_T25 l0 x4_1).f4) ((rd_T25 l0 x4_1).f5) ((rd_T25 x3_1 (ji9)).f0) ((rd_T25 x3_1 (ji9)).f1) ((rd_T25 x3_1 (ji9)).f2) ((rd_T25 x3_1 (ji9)).f3) ((rd_T25 x3_1 (ji9)).f4) ((rd_T25 x3_1 (ji9)).f5) false _ A12.out).mono ?_
                 rintro e w24 ⟨rfl, hb⟩
                 have HS6_ := (hb.cell (World.block_lt_of_cell? _ _ (hHeld.2.2.2.2.2.2.1))).trans (hHeld.2.2.2.2.2.2.1)
                 have HS7_ := (hb.cell (World.block_lt_of_cell? _ _ (hHeld.2.2.2.2.2.2.2.1))).trans (hHeld.2.2.2.2.2.2.2.1)
                 have HS8_ := (hb.cell (World.block_lt_of_cell? _ _ (hHeld.2.2.2.2.2.2.2.2.1))).trans (hHeld.2.2.2.2.2.2.2.2.1)
                 have HS9_ := (hb.cell (World.block_lt_of_cell? _ _ (hHeld.2.2.2.2.2.2.2.2.2.1))).trans (hHeld.2.2.2.2.2.2.2.2.2.1)
                 have HS10_ := (hb.cell (World.block_lt_of_cell? _ _ (hHeld.2.2.2.2.2.2.2.2.2.2.1))).trans (hHeld.2.2.2.2.2.2.2.2.2.2.1)
                 have HS11_ := (hb.cell (World.block_lt_of_cell? _ _ (hHeld.2.2.2.2.2.2.2.2.2.2.2))).trans (hHeld.2.2.2.2.2.2.2.2.2.2.2)
                 refine ⟨_, rfl, ?_⟩
                 replace HO_3 := rB HO_3 hb
                 replace HB := aS (below_step (wU HB.out) hb)
                 (try clear hb)
                 (try clear hb2)
                 (try clear hk)
                 (try clear hi)
                 refine hK.out _ _ ⟨((HB.out.cell (World.block_lt_of_cell? w _ hw462_0)).trans hw462_0), ((HB.out.cell (World.block_lt_of_cell? w _ hw462_1)).trans hw462_1), ((HB.out.cell (World.block_lt_of_cell? w _ hw462_2)).trans hw462_2), ((HB.out.cell (World.block_lt_of_cell? w _ hw462_3)).trans hw462_3), ((HB.out.cell (World.block_lt_of_cell? w _ hw462_4)).trans hw462_4), ((HB.out.cell (World.block_lt_of_cell? w _ hw462_5)).trans hw462_5), HS6_, HS7_, HS8_, HS9_, HS10_, HS11_⟩ (fun hHeld => ?_)
                 clear hK K
                 refine nA (some 27) ?_
                 refine pA HT_ 13 (some 28) (tf 14 0) ?_
                 refine done_ (done_of HT_.out jK) ?_
                 try go_wp2
                 replace HO_3 := aS (Kd.R_drew HO_3.out)
                 replace HB := aS (below_drew1 HB.out)
                 have q26 : (x5_2 : Int) ≤ ((x3_1.length : Int) : Int) := of_decide_eq_true jC
                 obtain ⟨i026, hi026, _, hsz26, _⟩ := info_parts info25
                 have hroom26 : x3_1.length ≤ co5 := (Kd.R_reads' HO_3.out).2.1
                 have hC26 : Kd.C k25 _ (some ad463) x3_1.length x3_1 := (Kd.R_reads' HO_3.out).2.2
                 have hcut26 := cut_to (P := Tryd.prog) 36 25 .i64 Tryd.underlying36 hi026 (some ad463) x3_1.length co5 x5_2 (of_decide_eq_true jC) q26 hroom26
                 have hr26 := Kd.C_take (m := (x5_2 : Int).toNat) hC26 (by omega)
                 have hy26 : y468.length = (x5_2 : Int).toNat := (by rw [Ny468.out, List.length_take]; omega)
                 rw [← Ny468.out] at hr26
                 rw [← hy26] at hcut26
                 have HR471 := aS hr26
                 have HC471 := aS (show y468.length ≤ co5 from by omega)
                 clear hr26 hC26 hroom26 hi026 hsz26
                 have KY26 := aS hy26
                 clear hy26
                 have KL26 := aS (show (x5_2 : Int).toNat ≤ x3_1.length from by omega)
                 replace q26 := eq_true q26
                 have p475 : 0 ≤ (x4_1 : Int) := of_decide_eq_true jC
                 have q475 : x4_1 < (l0.length : Int) := of_decide_eq_true jC
                 obtain ⟨ad475, e475, hx475_0, hx475_1, hx475_2, hx475_3, hx475_4, hx475_5⟩ := at_T25 HR0.out x4_1 p475 q475
                 have hw475_5 := hx475_5
                 have hw475_4 := hx475_4
                 have hw475_3 := hx475_3
                 have hw475_2 := hx475_2
                 have hw475_1 := hx475_1
                 have hw475_0 := hx475_0
                 obtain rfl : ad462 = ad475 := (by injection e475)
                 try replace hx475_0 := hC HB.out hx475_0
                 try replace hx475_1 := hC HB.out hx475_1
                 try replace hx475_2 := hC HB.out hx475_2
                 try replace hx475_3 := hC HB.out hx475_3
                 try replace hx475_4 := hC HB.out hx475_4
                 try replace hx475_5 := hC HB.out hx475_5
                 replace p475 := eq_true p475
                 replace q475 := eq_true q475
                 have q27 : (x5_2 : Int) ≤ ((x3_1.length : Int) : Int) := of_decide_eq_true jC
                 obtain ⟨i027, hi027, _, hsz27, _⟩ := info_parts info25
                 have hroom27 : x3_1.length ≤ co5 := (Kd.R_reads' HO_3.out).2.1
                 have hC27 : Kd.C k25 _ (some ad463) x3_1.length x3_1 := (Kd.R_reads' HO_3.out).2.2
                 have q027 : (0 : Int) ≤ (x5_2 : Int) := of_decide_eq_true jC
                 have hcut27 := cut_from (P := Tryd.prog) 36 25 .i64 Tryd.underlying36 hi027 6 hsz27 (some ad463) x3_1.length co5 x5_2 q027 q27
                 have hr27 := Kd.C_drop (m := (x5_2 : Int).toNat) (c := co5) hC27 (by omega) hroom27
                 obtain ⟨A27, hA27⟩ : ∃ A1, A1 = (if co5 = (x5_2 : Int).toNat then (some ad463) else ((some ad463) : Option Addr).map (·.add ((x5_2 : Int).toNat * 6))) := ⟨_, rfl⟩
                 obtain ⟨c27, hc27⟩ : ∃ c1, c1 = co5 - (x5_2 : Int).toNat := ⟨_, rfl⟩
                 have hy27 : y482.length = x3_1.length - (x5_2 : Int).toNat := (by rw [Ny482.out, List.length_drop] <;> omega)
                 rw [show (x3_1).drop (x5_2 : Int).toNat = y482 from Ny482.out.symm] at hr27
                 replace hr27 : Kd.C k25 _ A27 y482.length y482 := (by rw [hA27]; exact hr27)
                 rw [← hy27, ← hA27, ← hc27] at hcut27
                 have HR485 := aS hr27
                 have HC485 := aS (show y482.length ≤ c27 from by rw [hy27, hc27]; exact Nat.sub_le_sub_right hroom27 _)
                 clear hr27 hC27 hroom27 hi027 hsz27 hc27
                 have KY27 := aS hy27
                 have KA27 := aS hA27
                 clear hy27 hA27
                 have KL27 := aS (show (x5_2 : Int).toNat ≤ x3_1.length from by omega)
                 replace q27 := eq_true q27
                 refine start_ (n := 16) (S := fun w' => w'.cell? (ad462.add ((x4_1).toNat * 6)) = some (.string ((rd_T25 l0 x4_1).f0)) ∧ w'.cell? ⟨(ad462.add ((x4_1).toNat * 6)).block, (ad462.add ((x4_1).toNat * 6)).off + 1, none⟩ = some (.int .i64 ((rd_T25 l0 x4_1).f1)) ∧ w'.cell? ⟨(ad462.add ((x4_1).toNat * 6)).block, (ad462.add ((x4_1).toNat * 6)).off + 2, none⟩ = some (.int .i64 ((rd_T25 l0 x4_1).f2)) ∧ w'.cell? ⟨(ad462.add ((x4_1).toNat * 6)).block, (ad462.add ((x4_1).toNat * 6)).off + 3, none⟩ = some (.int .i64 ((rd_T25 l0 x4_1).f3)) ∧ w'.cell? ⟨(ad462.add ((x4_1).toNat * 6)).block, (ad462.add ((x4_1).toNat * 6)).off + 4, none⟩ = some (.string ((rd_T25 l0 x4_1).f4)) ∧ w'.cell? ⟨(ad462.add ((x4_1).toNat * 6)).block, (ad462.add ((x4_1).toNat * 6)).off + 5, none⟩ = some (.string ((rd_T25 l0 x4_1).f5))) (ds := []) #[false, false, false, false, false, false, false, false, false, false, false, false, false, false, false, false] jK rfl rfl ⟨((HB.out.cell (World.block_lt_of_cell? w _ hw475_0)).trans hw475_0), ((HB.out.cell (World.block_lt_of_cell? w _ hw475_1)).trans hw475_1), ((HB.out.cell (World.block_lt_of_cell? w _ hw475_2)).trans hw475_2), ((HB.out.cell (World.block_lt_of_cell? w _ hw475_3)).trans hw475_3), ((HB.out.cell (World.block_lt_of_cell? w _ hw475_4)).trans hw475_4), ((HB.out.cell (World.block_lt_of_cell? w _ hw475_5)).trans hw475_5)⟩ (fun hHeld => ?_); refine with_tabW spec_SortRecords.tab8 spec_SortRecords.bits8 (fun HT_ HW_ => ?_)
                 generalize w24.drew = w25 at HO_3 HB HR471 HR485 hx475_0 hx475_1 hx475_2 hx475_3 hx475_4 hx475_5 hHeld ⊢
                 refine pA HT_ 1 (some 32) #[false, true, false, false, false, false, false, false, false, false, false, false, false, false, false, false] ?_
                 refine pA HT_ 2 (some 33) #[false, true, true, false, false, false, false, false, false, false, false, false, false, false, false, false] ?_
                 refine pA HT_ 3 (some 34) #[false, true, true, true, false, false, false, false, false, false, false, false, false, false, false, false] ?_
                 refine pA HT_ 5 (some 36) #[false, true, true, true, false, true, false, false, false, false, false, false, false, false, false, false] ?_
                 refine pA HT_ 6 (some 37) #[false, true, true, true, false, true, true, false, false, false, false, false, false, false, false, false] ?_
                 refine pA HT_ 7 (some 38) #[false, true, true, true, false, true, true, true, false, false, false, false, false, false, false, false] ?_
                 refine pA HT_ 11 (some 42) #[false, true, true, true, false, true, true, true, false, false, false, true, false, false, false, false] ?_
                 refine pA HT_ 12 (some 43) #[false, true, true, true, false, true, true, true, false, false, false, true, true, false, false, false] ?_
                 refine pA HT_ 13 (some 44) #[false, true, true, true, false, true, true, true, false, false, false, true, true, true, false, false] ?_
                 refine tA HT_ HW_ hHeld 8 (some 39) #[false, true, true, true, false, true, true, true, true, false, false, true, true, true, false, false] ?_
                 refine join_ (σ := Value × Value × Value) 3 #[true, true, true, true, true, true, true, true, true, true, false, true, true, true, false, false] (fun s_ => [(31, s_.1), (35, s_.2.1), (40, s_.2.2)]) (fun s_ w' => (w'.cell? (ad462.add ((x4_1).toNat * 6)) = some (.string ((rd_T25 l0 x4_1).f0)) ∧ w'.cell? ⟨(ad462.add ((x4_1).toNat * 6)).block, (ad462.add ((x4_1).toNat * 6)).off + 1, none⟩ = some (.int .i64 ((rd_T25 l0 x4_1).f1)) ∧ w'.cell? ⟨(ad462.add ((x4_1).toNat * 6)).block, (ad462.add ((x4_1).toNat * 6)).off + 2, none⟩ = some (.int .i64 ((rd_T25 l0 x4_1).f2)) ∧ w'.cell? ⟨(ad462.add ((x4_1).toNat * 6)).block, (ad462.add ((x4_1).toNat * 6)).off + 3, none⟩ = some (.int .i64 ((rd_T25 l0 x4_1).f3)) ∧ w'.cell? ⟨(ad462.add ((x4_1).toNat * 6)).block, (ad462.add ((x4_1).toNat * 6)).off + 4, none⟩ = some (.string ((rd_T25 l0 x4_1).f4)) ∧ w'.cell? ⟨(ad462.add ((x4_1).toNat * 6)).block, (ad462.add ((x4_1).toNat * 6)).off + 5, none⟩ = some (.string ((rd_T25 l0 x4_1).f5))) ∧ (Kd.R k25 25 w' w.heap.size (fun k_ => some k_ ≠ (s_.2.2 : Value).ownBlock ∧ some k_ ≠ (.slice (some ad463) x3_1.length co5 : Value).ownBlock) s_.2.1 y472) ∧ (Kd.R k25 25 w' w.heap.size (fun k_ => some k_ ≠ (s_.2.1 : Value).ownBlock ∧ some k_ ≠ (.slice (some ad463) x3_1.length co5 : Value).ownBlock) s_.2.2 y476) ∧ (Kd.R k25 25 w' w.heap.size (fun k_ => some k_ ≠ (s_.2.1 : Value).ownBlock ∧ some k_ ≠ (s_.2.2 : Value).ownBlock) (.slice (some ad463) x3_1.length co5) x3_1) ∧ (Below w.heap.size w w')) ?_ ?_
                 rotate_left
                 ·intro hCont
                  refine two_ (i := 0) (j := 9) (Ni := some 31) (Nj := some 40) #[true, true, true, true, false, true, true, true, true, false, false, true, true, true, false, false] #[false, true, true, true, false, true, true, true, true, true, false, true, true, true, false, false] rfl rfl rfl rfl (two_of HT_.out jK) (by decide) (by decide) (fun K hK => ?_) (fun K hK => ?_)
                  ·skip
                   refine Kd.R_lit_step k25 _ 25 ?hg (N := 31) ?hd (xs := ([] : List (S25))) (inner := []) (ok := fun _ => True) (okp := fun _ => True) ?hr ?hp (fun _ hk => hk) trivial (Below.refl _ _) (Nat.le_refl _) (by simp) ?_; (case hd => rfl); (case hg => rfl); (case hr => first | (go_simp; done) | (go_simp; rfl)); (case hp => exact (Reps.none _ _))
                   intro v466 w28 ho29 hb hg_ hnew_
                   clear hg_ hnew_
                   (first | rw [← Ny465.out] at ho29 | (simp only [Int.reduceToNat] at ho29; rw [← Ny465.out] at ho29))
                   have HO467 := aS (Kd.R_lower (Kd.R_new' ho29 (Kd.R_lt (rU HO_3.out))) (below_size (wU HB.out)))
                   replace HO_3 := aS (Kd.R_elder' (rU HO_3.out) (Kd.R_base ho29) hb)
                   replace HR471 := aS (Kd.C_below (by repeat (first | (with_reducible exact HR471.out) | (with_reducible refine Kd.C_alloc ?_ _) | (with_reducible refine Kd.C_drewN ?_ _) | (with_reducible refine Kd.C_drew ?_) | exact HR471.out)) hb)
                   replace HR485 := aS (Kd.C_below (by repeat (first | (with_reducible exact HR485.out) | (with_reducible refine Kd.C_alloc ?_ _) | (with_reducible refine Kd.C_drewN ?_ _) | (with_reducible refine Kd.C_drew ?_) | exact HR485.out)) hb)
                   replace HB := aS (below_step (wU HB.out) hb)
                   clear hb ho29
                   refine hK.out _ _ ⟨((HB.out.cell (World.block_lt_of_cell? w _ hw475_0)).trans hw475_0), ((HB.out.cell (World.block_lt_of_cell? w _ hw475_1)).trans hw475_1), ((HB.out.cell (World.block_lt_of_cell? w _ hw475_2)).trans hw475_2), ((HB.out.cell (World.block_lt_of_cell? w _ hw475_3)).trans hw475_3), ((HB.out.cell (World.block_lt_of_cell? w _ hw475_4)).trans hw475_4), ((HB.out.cell (World.block_lt_of_cell? w _ hw475_5)).trans hw475_5)⟩ (fun hHeld => ?_)
                   clear hK K
                   refine nA (some 31) ?_
                   refine two_ (i := 4) (j := 9) (Ni := some 35) (Nj := some 40) #[true, true, true, true, true, true, true, true, true, false, false, true, true, true, false, false] #[true, true, true, true, false, true, true, true, true, true, false, true, true, true, false, false] rfl rfl rfl rfl (two_of HT_.out jK) (by decide) (by decide) (fun K hK => ?_) (fun K hK => ?_)
                   ·skip
                    refine Kd.R_append_rows_step k25 (w0 := w) w.heap.size (by rfl) (.tmp 31) (.tmp 34) 36 25 (.agg #[(.string ⟨#[]⟩), (.int .i64 0), (.int .i64 0), (.int .i64 0), (.string ⟨#[]⟩), (.string ⟨#[]⟩)]) 72 rfl Tryd.underlying36 info25 rfl (by decide) (by omega) v466 y465 y468 _ _ _ (fun k_ => some k_ ≠ (.slice (some ad463) x3_1.length co5 : Value).ownBlock) (fun _ => False) rfl rfl ?aO ?aR (fun _ _ h => h) (fun _ h => h.elim) ?aF ?aB ?aS ?aL ?_
                    (case aR => repeat (first | exact (by repeat (first | (with_reducible exact HR471.out) | (with_reducible refine Kd.C_alloc ?_ _) | (with_reducible refine Kd.C_drewN ?_ _) | (with_reducible refine Kd.C_drew ?_) | exact HR471.out)) | (with_reducible refine Kd.C_alloc ?_ _) | (with_reducible refine Kd.C_drewN ?_ _) | (with_reducible refine Kd.C_drew ?_)))
                    (case aB => exact (wU HB.out))
                    (case aF => exact (fun k_ hk => Kd.fresh' (Kd.R_lt (rU HO_3.out)) k_ hk))
                    (case aO => exact (by (with_reducible repeat (first | apply Kd.R_alloc | apply Kd.R_drewN | apply Kd.R_drew)); exact Kd.R_mono HO467.out (fun _ hk => hk.2)))
                    (case aS => exact (below_size (wU HB.out)))
                    (case aL => have := LMc18.out; omega)
                    intro v473 w30 ho hb hg hat
                    rw [← Ny472.out] at ho
                    replace HB := aS (hb)
                    replace HR471 := aS ((show Kd.C k25 w30 (some ad463) y468.length y468 from by rw [Ny468.out]; exact Kd.C_take (m := (x5_2 : Int).toNat) ((Kd.R_reads' (Kd.R_after (ok := (fun _ => True)) (rU HO_3.out) hg hat)).2.2) KL26.out))
                    replace HR485 := aS ((show Kd.C k25 w30 A27 y482.length y482 from by rw [Ny482.out, KA27.out]; exact Kd.C_drop (m := (x5_2 : Int).toNat) (c := co5) ((Kd.R_reads' (Kd.R_after (ok := (fun _ => True)) (rU HO_3.out) hg hat)).2.2) KL27.out ((Kd.R_reads' (Kd.R_after (ok := (fun _ => True)) (rU HO_3.out) hg hat)).2.1)))
                    replace HO_3 := aS (Kd.R_after (ok := (fun _ => True)) (rU HO_3.out) hg hat)
                    have HO474 := aS (ho)
                    clear HO467
                    clear ho hb hg hat
                    refine hK.out _ _ ⟨((HB.out.cell (World.block_lt_of_cell? w _ hw475_0)).trans hw475_0), ((HB.out.cell (World.block_lt_of_cell? w _ hw475_1)).trans hw475_1), ((HB.out.cell (World.block_lt_of_cell? w _ hw475_2)).trans hw475_2), ((HB.out.cell (World.block_lt_of_cell? w _ hw475_3)).trans hw475_3), ((HB.out.cell (World.block_lt_of_cell? w _ hw475_4)).trans hw475_4), ((HB.out.cell (World.block_lt_of_cell? w _ hw475_5)).trans hw475_5)⟩ (fun hHeld => ?_)
                    clear hK K
                    refine nA (some 35) ?_
                    refine one_ (i := 9) (N := some 40) #[true, true, true, true, true, true, true, true, true, true, false, true, true, true, false, false] rfl rfl (one_of HT_.out jK) (by decide) (fun K hK => ?_)
                    refine Kd.R_lit_step k25 _ 25 ?hg (N := 40) ?hd (xs := ([(⟨(rd_T25 l0 x4_1).f0, (rd_T25 l0 x4_1).f1, (rd_T25 l0 x4_1).f2, (rd_T25 l0 x4_1).f3, (rd_T25 l0 x4_1).f4, (rd_T25 l0 x4_1).f5⟩ : S25)] : List (S25))) (inner := [.string ((rd_T25 l0 x4_1).f0), .int .i64 ((rd_T25 l0 x4_1).f1), .int .i64 ((rd_T25 l0 x4_1).f2), .int .i64 ((rd_T25 l0 x4_1).f3), .string ((rd_T25 l0 x4_1).f4), .string ((rd_T25 l0 x4_1).f5)]) (ok := fun _ => True) (okp := fun _ => True) ?hr ?hp (fun _ hk => hk) trivial (Below.refl _ _) (Nat.le_refl _) (by simp) ?_; (case hd => rfl); (case hg => rfl); (case hr => first | (go_simp; done) | (go_simp; rfl)); (case hp => exact (Reps.c6 (show Kd.M k25 _ _ _ (⟨(rd_T25 l0 x4_1).f0, (rd_T25 l0 x4_1).f1, (rd_T25 l0 x4_1).f2, (rd_T25 l0 x4_1).f3, (rd_T25 l0 x4_1).f4, (rd_T25 l0 x4_1).f5⟩ : S25) [.string ((rd_T25 l0 x4_1).f0), .int .i64 ((rd_T25 l0 x4_1).f1), .int .i64 ((rd_T25 l0 x4_1).f2), .int .i64 ((rd_T25 l0 x4_1).f3), .string ((rd_T25 l0 x4_1).f4), .string ((rd_T25 l0 x4_1).f5)] from (k25_mkM _ _ _ (⟨(rd_T25 l0 x4_1).f0, (rd_T25 l0 x4_1).f1, (rd_T25 l0 x4_1).f2, (rd_T25 l0 x4_1).f3, (rd_T25 l0 x4_1).f4, (rd_T25 l0 x4_1).f5⟩ : S25) )) (Reps.none _ _)))
                    intro v477 w31 ho32 hb hg_ hnew_
                    clear hg_ hnew_
                    (first | rw [← Ny476.out] at ho32 | (simp only [Int.reduceToNat] at ho32; rw [← Ny476.out] at ho32))
                    have HO478 := aS (Kd.R_lower (Kd.R_new' (Kd.R_new' ho32 (Kd.R_lt (rU HO_3.out))) (Kd.R_lt (rU HO474.out))) (below_size (wU HB.out)))
                    replace HO_3 := aS (Kd.R_elder' (rU HO_3.out) (Kd.R_base ho32) hb)
                    replace HO474 := aS (Kd.R_elder' (rU HO474.out) (Kd.R_base ho32) hb)
                    replace HR471 := aS (Kd.C_below (by repeat (first | (with_reducible exact HR471.out) | (with_reducible refine Kd.C_alloc ?_ _) | (with_reducible refine Kd.C_drewN ?_ _) | (with_reducible refine Kd.C_drew ?_) | exact HR471.out)) hb)
                    replace HR485 := aS (Kd.C_below (by repeat (first | (with_reducible exact HR485.out) | (with_reducible refine Kd.C_alloc ?_ _) | (with_reducible refine Kd.C_drewN ?_ _) | (with_reducible refine Kd.C_drew ?_) | exact HR485.out)) hb)
                    replace HB := aS (below_step (wU HB.out) hb)
                    clear hb ho32
                    refine hK.out _ _ ⟨((HB.out.cell (World.block_lt_of_cell? w _ hw475_0)).trans hw475_0), ((HB.out.cell (World.block_lt_of_cell? w _ hw475_1)).trans hw475_1), ((HB.out.cell (World.block_lt_of_cell? w _ hw475_2)).trans hw475_2), ((HB.out.cell (World.block_lt_of_cell? w _ hw475_3)).trans hw475_3), ((HB.out.cell (World.block_lt_of_cell? w _ hw475_4)).trans hw475_4), ((HB.out.cell (World.block_lt_of_cell? w _ hw475_5)).trans hw475_5)⟩ (fun hHeld => ?_)
                    clear hK K
                    refine nA (some 40) ?_
                    exact norm_ (by simp only [putAll, Act.put, List.setIfInBounds_toArray, List.set_cons_zero, List.set_cons_succ]) (hCont (v466, v473, v477) _ ⟨hHeld, (by (with_reducible repeat (first | apply Kd.R_alloc | apply Kd.R_drewN | apply Kd.R_drew)); exact Kd.R_mono HO474.out (fun _ hk => ⟨hk.2, hk.1⟩)), (by (with_reducible repeat (first | apply Kd.R_alloc | apply Kd.R_drewN | apply Kd.R_drew)); exact Kd.R_mono HO478.out (fun _ hk => ⟨hk.2, hk.1.2⟩)), (by (with_reducible repeat (first | apply Kd.R_alloc | apply Kd.R_drewN | apply Kd.R_drew)); exact Kd.R_mono HO_3.out (fun _ hk => ⟨hk.1.2, hk.2⟩)), (wU HB.out)⟩)
                   ·skip
                    refine Kd.R_lit_step k25 _ 25 ?hg (N := 40) ?hd (xs := ([(⟨(rd_T25 l0 x4_1).f0, (rd_T25 l0 x4_1).f1, (rd_T25 l0 x4_1).f2, (rd_T25 l0 x4_1).f3, (rd_T25 l0 x4_1).f4, (rd_T25 l0 x4_1).f5⟩ : S25)] : List (S25))) (inner := [.string ((rd_T25 l0 x4_1).f0), .int .i64 ((rd_T25 l0 x4_1).f1), .int .i64 ((rd_T25 l0 x4_1).f2), .int .i64 ((rd_T25 l0 x4_1).f3), .string ((rd_T25 l0 x4_1).f4), .string ((rd_T25 l0 x4_1).f5)]) (ok := fun _ => True) (okp := fun _ => True) ?hr ?hp (fun _ hk => hk) trivial (Below.refl _ _) (Nat.le_refl _) (by simp) ?_; (case hd => rfl); (case hg => rfl); (case hr => first | (go_simp; done) | (go_simp; rfl)); (case hp => exact (Reps.c6 (show Kd.M k25 _ _ _ (⟨(rd_T25 l0 x4_1).f0, (rd_T25 l0 x4_1).f1, (rd_T25 l0 x4_1).f2, (rd_T25 l0 x4_1).f3, (rd_T25 l0 x4_1).f4, (rd_T25 l0 x4_1).f5⟩ : S25) [.string ((rd_T25 l0 x4_1).f0), .int .i64 ((rd_T25 l0 x4_1).f1), .int .i64 ((rd_T25 l0 x4_1).f2), .int .i64 ((rd_T25 l0 x4_1).f3), .string ((rd_T25 l0 x4_1).f4), .string ((rd_T25 l0 x4_1).f5)] from (k25_mkM _ _ _ (⟨(rd_T25 l0 x4_1).f0, (rd_T25 l0 x4_1).f1, (rd_T25 l0 x4_1).f2, (rd_T25 l0 x4_1).f3, (rd_T25 l0 x4_1).f4, (rd_T25 l0 x4_1).f5⟩ : S25) )) (Reps.none _ _)))
                    intro v477 w30 ho31 hb hg_ hnew_
                    clear hg_ hnew_
                    (first | rw [← Ny476.out] at ho31 | (simp only [Int.reduceToNat] at ho31; rw [← Ny476.out] at ho31))
                    have HO478 := aS (Kd.R_lower (Kd.R_new' (Kd.R_new' ho31 (Kd.R_lt (rU HO_3.out))) (Kd.R_lt (rU HO467.out))) (below_size (wU HB.out)))
                    replace HO_3 := aS (Kd.R_elder' (rU HO_3.out) (Kd.R_base ho31) hb)
                    replace HO467 := aS (Kd.R_elder' (rU HO467.out) (Kd.R_base ho31) hb)
                    replace HR471 := aS (Kd.C_below (by repeat (first | (with_reducible exact HR471.out) | (with_reducible refine Kd.C_alloc ?_ _) | (with_reducible refine Kd.C_drewN ?_ _) | (with_reducible refine Kd.C_drew ?_) | exact HR471.out)) hb)
                    replace HR485 := aS (Kd.C_below (by repeat (first | (with_reducible exact HR485.out) | (with_reducible refine Kd.C_alloc ?_ _) | (with_reducible refine Kd.C_drewN ?_ _) | (with_reducible refine Kd.C_drew ?_) | exact HR485.out)) hb)
                    replace HB := aS (below_step (wU HB.out) hb)
                    clear hb ho31
                    refine hK.out _ _ ⟨((HB.out.cell (World.block_lt_of_cell? w _ hw475_0)).trans hw475_0), ((HB.out.cell (World.block_lt_of_cell? w _ hw475_1)).trans hw475_1), ((HB.out.cell (World.block_lt_of_cell? w _ hw475_2)).trans hw475_2), ((HB.out.cell (World.block_lt_of_cell? w _ hw475_3)).trans hw475_3), ((HB.out.cell (World.block_lt_of_cell? w _ hw475_4)).trans hw475_4), ((HB.out.cell (World.block_lt_of_cell? w _ hw475_5)).trans hw475_5)⟩ (fun hHeld => ?_)
                    clear hK K
                    refine nA (some 40) ?_
                    refine one_ (i := 4) (N := some 35) #[true, true, true, true, true, true, true, true, true, true, false, true, true, true, false, false] rfl rfl (one_of HT_.out jK) (by decide) (fun K hK => ?_)
                    refine Kd.R_append_rows_step k25 (w0 := w) w.heap.size (by rfl) (.tmp 31) (.tmp 34) 36 25 (.agg #[(.string ⟨#[]⟩), (.int .i64 0), (.int .i64 0), (.int .i64 0), (.string ⟨#[]⟩), (.string ⟨#[]⟩)]) 72 rfl Tryd.underlying36 info25 rfl (by decide) (by omega) v466 y465 y468 _ _ _ (fun k_ => some k_ ≠ (.slice (some ad463) x3_1.length co5 : Value).ownBlock ∧ some k_ ≠ (v477 : Value).ownBlock) (fun _ => False) rfl rfl ?aO ?aR (fun _ _ h => h) (fun _ h => h.elim) ?aF ?aB ?aS ?aL ?_
                    (case aR => repeat (first | exact (by repeat (first | (with_reducible exact HR471.out) | (with_reducible refine Kd.C_alloc ?_ _) | (with_reducible refine Kd.C_drewN ?_ _) | (with_reducible refine Kd.C_drew ?_) | exact HR471.out)) | (with_reducible refine Kd.C_alloc ?_ _) | (with_reducible refine Kd.C_drewN ?_ _) | (with_reducible refine Kd.C_drew ?_)))
                    (case aB => exact (wU HB.out))
                    (case aF => exact (fun k_ hk => ⟨Kd.fresh' (Kd.R_lt (rU HO_3.out)) k_ hk, Kd.fresh' (Kd.R_lt (rU HO478.out)) k_ hk⟩))
                    (case aO => exact (by (with_reducible repeat (first | apply Kd.R_alloc | apply Kd.R_drewN | apply Kd.R_drew)); exact Kd.R_mono HO467.out (fun _ hk => ⟨hk.1.2, hk.2⟩)))
                    (case aS => exact (below_size (wU HB.out)))
                    (case aL => have := LMc18.out; omega)
                    intro v473 w32 ho hb hg hat
                    rw [← Ny472.out] at ho
                    replace HO478 := aS (Kd.R_after (ok := (fun k_ => some k_ ≠ (.slice (some ad463) x3_1.length co5 : Value).ownBlock)) (by (with_reducible repeat (first | apply Kd.R_alloc | apply Kd.R_drewN | apply Kd.R_drew)); exact Kd.R_mono HO478.out (fun _ hk => ⟨hk.1.2, hk.2⟩)) hg hat)
                    replace HB := aS (hb)
                    replace HR471 := aS ((show Kd.C k25 w32 (some ad463) y468.length y468 from by rw [Ny468.out]; exact Kd.C_take (m := (x5_2 : Int).toNat) ((Kd.R_reads' (Kd.R_after (ok := (fun k_ => some k_ ≠ (v477 : Value).ownBlock)) (by (with_reducible repeat (first | apply Kd.R_alloc | apply Kd.R_drewN | apply Kd.R_drew)); exact Kd.R_mono HO_3.out (fun _ hk => ⟨hk.2, hk.1.2⟩)) hg hat)).2.2) KL26.out))
                    replace HR485 := aS ((show Kd.C k25 w32 A27 y482.length y482 from by rw [Ny482.out, KA27.out]; exact Kd.C_drop (m := (x5_2 : Int).toNat) (c := co5) ((Kd.R_reads' (Kd.R_after (ok := (fun k_ => some k_ ≠ (v477 : Value).ownBlock)) (by (with_reducible repeat (first | apply Kd.R_alloc | apply Kd.R_drewN | apply Kd.R_drew)); exact Kd.R_mono HO_3.out (fun _ hk => ⟨hk.2, hk.1.2⟩)) hg hat)).2.2) KL27.out ((Kd.R_reads' (Kd.R_after (ok := (fun k_ => some k_ ≠ (v477 : Value).ownBlock)) (by (with_reducible repeat (first | apply Kd.R_alloc | apply Kd.R_drewN | apply Kd.R_drew)); exact Kd.R_mono HO_3.out (fun _ hk => ⟨hk.2, hk.1.2⟩)) hg hat)).2.1)))
                    replace HO_3 := aS (Kd.R_after (ok := (fun k_ => some k_ ≠ (v477 : Value).ownBlock)) (by (with_reducible repeat (first | apply Kd.R_alloc | apply Kd.R_drewN | apply Kd.R_drew)); exact Kd.R_mono HO_3.out (fun _ hk => ⟨hk.2, hk.1.2⟩)) hg hat)
                    have HO474 := aS (ho)
                    clear HO467
                    clear ho hb hg hat
                    refine hK.out _ _ ⟨((HB.out.cell (World.block_lt_of_cell? w _ hw475_0)).trans hw475_0), ((HB.out.cell (World.block_lt_of_cell? w _ hw475_1)).trans hw475_1), ((HB.out.cell (World.block_lt_of_cell? w _ hw475_2)).trans hw475_2), ((HB.out.cell (World.block_lt_of_cell? w _ hw475_3)).trans hw475_3), ((HB.out.cell (World.block_lt_of_cell? w _ hw475_4)).trans hw475_4), ((HB.out.cell (World.block_lt_of_cell? w _ hw475_5)).trans hw475_5)⟩ (fun hHeld => ?_)
                    clear hK K
                    refine nA (some 35) ?_
                    exact norm_ (by simp only [putAll, Act.put, List.setIfInBounds_toArray, List.set_cons_zero, List.set_cons_succ]) (hCont (v466, v473, v477) _ ⟨hHeld, (by (with_reducible repeat (first | apply Kd.R_alloc | apply Kd.R_drewN | apply Kd.R_drew)); exact Kd.R_mono HO474.out (fun _ hk => ⟨hk.2, hk.1⟩)), (by (with_reducible repeat (first | apply Kd.R_alloc | apply Kd.R_drewN | apply Kd.R_drew)); exact Kd.R_mono HO478.out (fun _ hk => ⟨hk.2, hk.1⟩)), (by (with_reducible repeat (first | apply Kd.R_alloc | apply Kd.R_drewN | apply Kd.R_drew)); exact Kd.R_mono HO_3.out (fun _ hk => ⟨hk.2, hk.1⟩)), (wU HB.out)⟩)
                  ·skip
                   refine Kd.R_lit_step k25 _ 25 ?hg (N := 40) ?hd (xs := ([(⟨(rd_T25 l0 x4_1).f0, (rd_T25 l0 x4_1).f1, (rd_T25 l0 x4_1).f2, (rd_T25 l0 x4_1).f3, (rd_T25 l0 x4_1).f4, (rd_T25 l0 x4_1).f5⟩ : S25)] : List (S25))) (inner := [.string ((rd_T25 l0 x4_1).f0), .int .i64 ((rd_T25 l0 x4_1).f1), .int .i64 ((rd_T25 l0 x4_1).f2), .int .i64 ((rd_T25 l0 x4_1).f3), .string ((rd_T25 l0 x4_1).f4), .string ((rd_T25 l0 x4_1).f5)]) (ok := fun _ => True) (okp := fun _ => True) ?hr ?hp (fun _ hk => hk) trivial (Below.refl _ _) (Nat.le_refl _) (by simp) ?_; (case hd => rfl); (case hg => rfl); (case hr => first | (go_simp; done) | (go_simp; rfl)); (case hp => exact (Reps.c6 (show Kd.M k25 _ _ _ (⟨(rd_T25 l0 x4_1).f0, (rd_T25 l0 x4_1).f1, (rd_T25 l0 x4_1).f2, (rd_T25 l0 x4_1).f3, (rd_T25 l0 x4_1).f4, (rd_T25 l0 x4_1).f5⟩ : S25) [.string ((rd_T25 l0 x4_1).f0), .int .i64 ((rd_T25 l0 x4_1).f1), .int .i64 ((rd_T25 l0 x4_1).f2), .int .i64 ((rd_T25 l0 x4_1).f3), .string ((rd_T25 l0 x4_1).f4), .string ((rd_T25 l0 x4_1).f5)] from (k25_mkM _ _ _ (⟨(rd_T25 l0 x4_1).f0, (rd_T25 l0 x4_1).f1, (rd_T25 l0 x4_1).f2, (rd_T25 l0 x4_1).f3, (rd_T25 l0 x4_1).f4, (rd_T25 l0 x4_1).f5⟩ : S25) )) (Reps.none _ _)))
                   intro v477 w28 ho29 hb hg_ hnew_
                   clear hg_ hnew_
                   (first | rw [← Ny476.out] at ho29 | (simp only [Int.reduceToNat] at ho29; rw [← Ny476.out] at ho29))
                   have HO478 := aS (Kd.R_lower (Kd.R_new' ho29 (Kd.R_lt (rU HO_3.out))) (below_size (wU HB.out)))
                   replace HO_3 := aS (Kd.R_elder' (rU HO_3.out) (Kd.R_base ho29) hb)
                   replace HR471 := aS (Kd.C_below (by repeat (first | (with_reducible exact HR471.out) | (with_reducible refine Kd.C_alloc ?_ _) | (with_reducible refine Kd.C_drewN ?_ _) | (with_reducible refine Kd.C_drew ?_) | exact HR471.out)) hb)
                   replace HR485 := aS (Kd.C_below (by repeat (first | (with_reducible exact HR485.out) | (with_reducible refine Kd.C_alloc ?_ _) | (with_reducible refine Kd.C_drewN ?_ _) | (with_reducible refine Kd.C_drew ?_) | exact HR485.out)) hb)
                   replace HB := aS (below_step (wU HB.out) hb)
                   clear hb ho29
                   refine hK.out _ _ ⟨((HB.out.cell (World.block_lt_of_cell? w _ hw475_0)).trans hw475_0), ((HB.out.cell (World.block_lt_of_cell? w _ hw475_1)).trans hw475_1), ((HB.out.cell (World.block_lt_of_cell? w _ hw475_2)).trans hw475_2), ((HB.out.cell (World.block_lt_of_cell? w _ hw475_3)).trans hw475_3), ((HB.out.cell (World.block_lt_of_cell? w _ hw475_4)).trans hw475_4), ((HB.out.cell (World.block_lt_of_cell? w _ hw475_5)).trans hw475_5)⟩ (fun hHeld => ?_)
                   clear hK K
                   refine nA (some 40) ?_
                   refine one_ (i := 0) (N := some 31) #[true, true, true, true, false, true, true, true, true, true, false, true, true, true, false, false] rfl rfl (one_of HT_.out jK) (by decide) (fun K hK => ?_)
                   refine Kd.R_lit_step k25 _ 25 ?hg (N := 31) ?hd (xs := ([] : List (S25))) (inner := []) (ok := fun _ => True) (okp := fun _ => True) ?hr ?hp (fun _ hk => hk) trivial (Below.refl _ _) (Nat.le_refl _) (by simp) ?_; (case hd => rfl); (case hg => rfl); (case hr => first | (go_simp; done) | (go_simp; rfl)); (case hp => exact (Reps.none _ _))
                   intro v466 w30 ho31 hb hg_ hnew_
                   clear hg_ hnew_
                   (first | rw [← Ny465.out] at ho31 | (simp only [Int.reduceToNat] at ho31; rw [← Ny465.out] at ho31))
                   have HO467 := aS (Kd.R_lower (Kd.R_new' (Kd.R_new' ho31 (Kd.R_lt (rU HO_3.out))) (Kd.R_lt (rU HO478.out))) (below_size (wU HB.out)))
                   replace HO_3 := aS (Kd.R_elder' (rU HO_3.out) (Kd.R_base ho31) hb)
                   replace HO478 := aS (Kd.R_elder' (rU HO478.out) (Kd.R_base ho31) hb)
                   replace HR471 := aS (Kd.C_below (by repeat (first | (with_reducible exact HR471.out) | (with_reducible refine Kd.C_alloc ?_ _) | (with_reducible refine Kd.C_drewN ?_ _) | (with_reducible refine Kd.C_drew ?_) | exact HR471.out)) hb)
                   replace HR485 := aS (Kd.C_below (by repeat (first | (with_reducible exact HR485.out) | (with_reducible refine Kd.C_alloc ?_ _) | (with_reducible refine Kd.C_drewN ?_ _) | (with_reducible refine Kd.C_drew ?_) | exact HR485.out)) hb)
                   replace HB := aS (below_step (wU HB.out) hb)
                   clear hb ho31
                   refine hK.out _ _ ⟨((HB.out.cell (World.block_lt_of_cell? w _ hw475_0)).trans hw475_0), ((HB.out.cell (World.block_lt_of_cell? w _ hw475_1)).trans hw475_1), ((HB.out.cell (World.block_lt_of_cell? w _ hw475_2)).trans hw475_2), ((HB.out.cell (World.block_lt_of_cell? w _ hw475_3)).trans hw475_3), ((HB.out.cell (World.block_lt_of_cell? w _ hw475_4)).trans hw475_4), ((HB.out.cell (World.block_lt_of_cell? w _ hw475_5)).trans hw475_5)⟩ (fun hHeld => ?_)
                   clear hK K
                   refine nA (some 31) ?_
                   refine one_ (i := 4) (N := some 35) #[true, true, true, true, true, true, true, true, true, true, false, true, true, true, false, false] rfl rfl (one_of HT_.out jK) (by decide) (fun K hK => ?_)
                   refine Kd.R_append_rows_step k25 (w0 := w) w.heap.size (by rfl) (.tmp 31) (.tmp 34) 36 25 (.agg #[(.string ⟨#[]⟩), (.int .i64 0), (.int .i64 0), (.int .i64 0), (.string ⟨#[]⟩), (.string ⟨#[]⟩)]) 72 rfl Tryd.underlying36 info25 rfl (by decide) (by omega) v466 y465 y468 _ _ _ (fun k_ => some k_ ≠ (.slice (some ad463) x3_1.length co5 : Value).ownBlock ∧ some k_ ≠ (v477 : Value).ownBlock) (fun _ => False) rfl rfl ?aO ?aR (fun _ _ h => h) (fun _ h => h.elim) ?aF ?aB ?aS ?aL ?_
                   (case aR => repeat (first | exact (by repeat (first | (with_reducible exact HR471.out) | (with_reducible refine Kd.C_alloc ?_ _) | (with_reducible refine Kd.C_drewN ?_ _) | (with_reducible refine Kd.C_drew ?_) | exact HR471.out)) | (with_reducible refine Kd.C_alloc ?_ _) | (with_reducible refine Kd.C_drewN ?_ _) | (with_reducible refine Kd.C_drew ?_)))
                   (case aB => exact (wU HB.out))
                   (case aF => exact (fun k_ hk => ⟨Kd.fresh' (Kd.R_lt (rU HO_3.out)) k_ hk, Kd.fresh' (Kd.R_lt (rU HO478.out)) k_ hk⟩))
                   (case aO => exact (by (with_reducible repeat (first | apply Kd.R_alloc | apply Kd.R_drewN | apply Kd.R_drew)); exact Kd.R_mono HO467.out (fun _ hk => ⟨hk.1.2, hk.2⟩)))
                   (case aS => exact (below_size (wU HB.out)))
                   (case aL => have := LMc18.out; omega)
                   intro v473 w32 ho hb hg hat
                   rw [← Ny472.out] at ho
                   replace HO478 := aS (Kd.R_after (ok := (fun k_ => some k_ ≠ (.slice (some ad463) x3_1.length co5 : Value).ownBlock)) (by (with_reducible repeat (first | apply Kd.R_alloc | apply Kd.R_drewN | apply Kd.R_drew)); exact Kd.R_mono HO478.out (fun _ hk => ⟨hk.1.2, hk.2⟩)) hg hat)
                   replace HB := aS (hb)
                   replace HR471 := aS ((show Kd.C k25 w32 (some ad463) y468.length y468 from by rw [Ny468.out]; exact Kd.C_take (m := (x5_2 : Int).toNat) ((Kd.R_reads' (Kd.R_after (ok := (fun k_ => some k_ ≠ (v477 : Value).ownBlock)) (by (with_reducible repeat (first | apply Kd.R_alloc | apply Kd.R_drewN | apply Kd.R_drew)); exact Kd.R_mono HO_3.out (fun _ hk => ⟨hk.1.2, hk.2⟩)) hg hat)).2.2) KL26.out))
                   replace HR485 := aS ((show Kd.C k25 w32 A27 y482.length y482 from by rw [Ny482.out, KA27.out]; exact Kd.C_drop (m := (x5_2 : Int).toNat) (c := co5) ((Kd.R_reads' (Kd.R_after (ok := (fun k_ => some k_ ≠ (v477 : Value).ownBlock)) (by (with_reducible repeat (first | apply Kd.R_alloc | apply Kd.R_drewN | apply Kd.R_drew)); exact Kd.R_mono HO_3.out (fun _ hk => ⟨hk.1.2, hk.2⟩)) hg hat)).2.2) KL27.out ((Kd.R_reads' (Kd.R_after (ok := (fun k_ => some k_ ≠ (v477 : Value).ownBlock)) (by (with_reducible repeat (first | apply Kd.R_alloc | apply Kd.R_drewN | apply Kd.R_drew)); exact Kd.R_mono HO_3.out (fun _ hk => ⟨hk.1.2, hk.2⟩)) hg hat)).2.1)))
                   replace HO_3 := aS (Kd.R_after (ok := (fun k_ => some k_ ≠ (v477 : Value).ownBlock)) (by (with_reducible repeat (first | apply Kd.R_alloc | apply Kd.R_drewN | apply Kd.R_drew)); exact Kd.R_mono HO_3.out (fun _ hk => ⟨hk.1.2, hk.2⟩)) hg hat)
                   have HO474 := aS (ho)
                   clear HO467
                   clear ho hb hg hat
                   refine hK.out _ _ ⟨((HB.out.cell (World.block_lt_of_cell? w _ hw475_0)).trans hw475_0), ((HB.out.cell (World.block_lt_of_cell? w _ hw475_1)).trans hw475_1), ((HB.out.cell (World.block_lt_of_cell? w _ hw475_2)).trans hw475_2), ((HB.out.cell (World.block_lt_of_cell? w _ hw475_3)).trans hw475_3), ((HB.out.cell (World.block_lt_of_cell? w _ hw475_4)).trans hw475_4), ((HB.out.cell (World.block_lt_of_cell? w _ hw475_5)).trans hw475_5)⟩ (fun hHeld => ?_)
                   clear hK K
                   refine nA (some 35) ?_
                   exact norm_ (by simp only [putAll, Act.put, List.setIfInBounds_toArray, List.set_cons_zero, List.set_cons_succ]) (hCont (v466, v473, v477) _ ⟨hHeld, (by (with_reducible repeat (first | apply Kd.R_alloc | apply Kd.R_drewN | apply Kd.R_drew)); exact Kd.R_mono HO474.out (fun _ hk => ⟨hk.2, hk.1⟩)), (by (with_reducible repeat (first | apply Kd.R_alloc | apply Kd.R_drewN | apply Kd.R_drew)); exact Kd.R_mono HO478.out (fun _ hk => ⟨hk.2, hk.1⟩)), (by (with_reducible repeat (first | apply Kd.R_alloc | apply Kd.R_drewN | apply Kd.R_drew)); exact Kd.R_mono HO_3.out (fun _ hk => ⟨hk.2, hk.1⟩)), (wU HB.out)⟩)
                 rintro ⟨v466, v473, v477⟩ w33 ⟨hS_, h0_, h1_, h2_, h3_⟩
                 have n0_ : Aside0 (Kd.R k25 25 w33 w.heap.size (fun k_ => some k_ ≠ (v477 : Value).ownBlock ∧ some k_ ≠ (.slice (some ad463) x3_1.length co5 : Value).ownBlock) v473 y472) := ⟨h0_⟩
                 have n1_ : Aside0 (Kd.R k25 25 w33 w.heap.size (fun k_ => some k_ ≠ (v473 : Value).ownBlock ∧ some k_ ≠ (.slice (some ad463) x3_1.length co5 : Value).ownBlock) v477 y476) := ⟨h1_⟩
                 have n2_ : Aside0 (Kd.R k25 25 w33 w.heap.size (fun k_ => some k_ ≠ (v473 : Value).ownBlock ∧ some k_ ≠ (v477 : Value).ownBlock) (.slice (some ad463) x3_1.length co5) x3_1) := ⟨h2_⟩
                 have n3_ : Aside0 (Below w.heap.size w w33) := ⟨h3_⟩
                 clear HO_3
                 clear HB
                 clear h0_ h1_ h2_ h3_
                 have HO474 := n0_
                 have HO478 := n1_
                 have HO_3 := n2_
                 have HB := n3_
                 clear n0_ n1_ n2_ n3_
                 have hHeld : w33.cell? (ad462.add ((x4_1).toNat * 6)) = some (.string ((rd_T25 l0 x4_1).f0)) ∧ w33.cell? ⟨(ad462.add ((x4_1).toNat * 6)).block, (ad462.add ((x4_1).toNat * 6)).off + 1, none⟩ = some (.int .i64 ((rd_T25 l0 x4_1).f1)) ∧ w33.cell? ⟨(ad462.add ((x4_1).toNat * 6)).block, (ad462.add ((x4_1).toNat * 6)).off + 2, none⟩ = some (.int .i64 ((rd_T25 l0 x4_1).f2)) ∧ w33.cell? ⟨(ad462.add ((x4_1).toNat * 6)).block, (ad462.add ((x4_1).toNat * 6)).off + 3, none⟩ = some (.int .i64 ((rd_T25 l0 x4_1).f3)) ∧ w33.cell? ⟨(ad462.add ((x4_1).toNat * 6)).block, (ad462.add ((x4_1).toNat * 6)).off + 4, none⟩ = some (.string ((rd_T25 l0 x4_1).f4)) ∧ w33.cell? ⟨(ad462.add ((x4_1).toNat * 6)).block, (ad462.add ((x4_1).toNat * 6)).off + 5, none⟩ = some (.string ((rd_T25 l0 x4_1).f5)) := hS_
                 (try clear HR471)
                 have HR471 := aS (show Kd.C k25 w33 (some ad463) y468.length y468 from by rw [Ny468.out]; exact Kd.C_take (m := (x5_2 : Int).toNat) ((Kd.R_reads' HO_3.out).2.2) KL26.out)
                 (try clear HR485)
                 have HR485 := aS (show Kd.C k25 w33 A27 y482.length y482 from by rw [Ny482.out, KA27.out]; exact Kd.C_drop (m := (x5_2 : Int).toNat) (c := co5) ((Kd.R_reads' HO_3.out).2.2) KL27.out ((Kd.R_reads' HO_3.out).2.1))
                 obtain ⟨Ao35, co35, eo35⟩ := Kd.R_slice HO478.out
                 (first | subst eo35 | (injection eo35 with f1_ f2_ f3_; have f4_ := f1_.symm; have f5_ := f3_.symm; clear f1_ f2_ f3_; subst f4_; subst f5_))
                 refine norm_ (a' := ?_) ?_ ?_
                 rotate_left
                 ·simp only [putAll, Act.put, List.setIfInBounds_toArray, List.set_cons_zero, List.set_cons_succ]
                  rfl
                 refine one_ (i := 10) (N := some 41) (tf 14 2) rfl rfl (one_of HT_.out jK) (by decide) (fun K hK => ?_)
                 refine Kd.R_append_rows_step k25 (w0 := w) w.heap.size (by rfl) (.tmp 35) (.tmp 40) 36 25 (.agg #[(.string ⟨#[]⟩), (.int .i64 0), (.int .i64 0), (.int .i64 0), (.string ⟨#[]⟩), (.string ⟨#[]⟩)]) 72 rfl Tryd.underlying36 info25 rfl (by decide) (by omega) v473 y472 y476 _ _ _ (fun k_ => some k_ ≠ (.slice (some ad463) x3_1.length co5 : Value).ownBlock ∧ some k_ ≠ (.slice Ao35 y476.length co35 : Value).ownBlock) (fun _ => False) rfl rfl ?aO ?aR (fun _ _ h => h) (fun _ h => h.elim) ?aF ?aB ?aS ?aL ?_
                 (case aR => exact cU ((Kd.R_reads' HO478.out).2.2))
                 (case aB => exact (wU HB.out))
                 (case aF => exact (fun k_ hk => ⟨Kd.fresh' (Kd.R_lt (rU HO_3.out)) k_ hk, Kd.fresh' (Kd.R_lt (rU HO478.out)) k_ hk⟩))
                 (case aO => exact (by (with_reducible repeat (first | apply Kd.R_alloc | apply Kd.R_drewN | apply Kd.R_drew)); exact Kd.R_mono HO474.out (fun _ hk => ⟨hk.2, hk.1⟩)))
                 (case aS => exact (below_size (wU HB.out)))
                 (case aL => have := LMc19.out; omega)
                 intro v480 w34 ho hb hg hat
                 rw [← Ny479.out] at ho
                 replace HO478 := aS (Kd.R_after (ok := (fun k_ => some k_ ≠ (.slice (some ad463) x3_1.length co5 : Value).ownBlock)) (by (with_reducible repeat (first | apply Kd.R_alloc | apply Kd.R_drewN | apply Kd.R_drew)); exact Kd.R_mono HO478.out (fun _ hk => ⟨hk.2, hk.1⟩)) hg hat)
                 replace HB := aS (hb)
                 replace HR471 := aS ((show Kd.C k25 w34 (some ad463) y468.length y468 from by rw [Ny468.out]; exact Kd.C_take (m := (x5_2 : Int).toNat) ((Kd.R_reads' (Kd.R_after (ok := (fun k_ => some k_ ≠ (.slice Ao35 y476.length co35 : Value).ownBlock)) (by (with_reducible repeat (first | apply Kd.R_alloc | apply Kd.R_drewN | apply Kd.R_drew)); exact Kd.R_mono HO_3.out (fun _ hk => ⟨hk.2, hk.1⟩)) hg hat)).2.2) KL26.out))
                 replace HR485 := aS ((show Kd.C k25 w34 A27 y482.length y482 from by rw [Ny482.out, KA27.out]; exact Kd.C_drop (m := (x5_2 : Int).toNat) (c := co5) ((Kd.R_reads' (Kd.R_after (ok := (fun k_ => some k_ ≠ (.slice Ao35 y476.length co35 : Value).ownBlock)) (by (with_reducible repeat (first | apply Kd.R_alloc | apply Kd.R_drewN | apply Kd.R_drew)); exact Kd.R_mono HO_3.out (fun _ hk => ⟨hk.2, hk.1⟩)) hg hat)).2.2) KL27.out ((Kd.R_reads' (Kd.R_after (ok := (fun k_ => some k_ ≠ (.slice Ao35 y476.length co35 : Value).ownBlock)) (by (with_reducible repeat (first | apply Kd.R_alloc | apply Kd.R_drewN | apply Kd.R_drew)); exact Kd.R_mono HO_3.out (fun _ hk => ⟨hk.2, hk.1⟩)) hg hat)).2.1)))
                 replace HO_3 := aS (Kd.R_after (ok := (fun k_ => some k_ ≠ (.slice Ao35 y476.length co35 : Value).ownBlock)) (by (with_reducible repeat (first | apply Kd.R_alloc | apply Kd.R_drewN | apply Kd.R_drew)); exact Kd.R_mono HO_3.out (fun _ hk => ⟨hk.2, hk.1⟩)) hg hat)
                 have HO481 := aS (ho)
                 clear HO474
                 clear ho hb hg hat
                 refine hK.out _ _ ⟨((HB.out.cell (World.block_lt_of_cell? w _ hw475_0)).trans hw475_0), ((HB.out.cell (World.block_lt_of_cell? w _ hw475_1)).trans hw475_1), ((HB.out.cell (World.block_lt_of_cell? w _ hw475_2)).trans hw475_2), ((HB.out.cell (World.block_lt_of_cell? w _ hw475_3)).trans hw475_3), ((HB.out.cell (World.block_lt_of_cell? w _ hw475_4)).trans hw475_4), ((HB.out.cell (World.block_lt_of_cell? w _ hw475_5)).trans hw475_5)⟩ (fun hHeld => ?_)
                 clear hK K
                 refine nA (some 41) ?_
                 refine one_ (i := 14) (N := some 45) (tf 15 1) rfl rfl (one_of HT_.out jK) (by decide) (fun K hK => ?_)
                 refine Kd.R_append_rows_step k25 (w0 := w) w.heap.size (by rfl) (.tmp 41) (.tmp 44) 36 25 (.agg #[(.string ⟨#[]⟩), (.int .i64 0), (.int .i64 0), (.int .i64 0), (.string ⟨#[]⟩), (.string ⟨#[]⟩)]) 72 rfl Tryd.underlying36 info25 rfl (by decide) (by omega) v480 y479 y482 _ _ _ (fun k_ => some k_ ≠ (.slice (some ad463) x3_1.length co5 : Value).ownBlock ∧ some k_ ≠ (.slice Ao35 y476.length co35 : Value).ownBlock) (fun _ => False) rfl rfl ?aO ?aR (fun _ _ h => h) (fun _ h => h.elim) ?aF ?aB ?aS ?aL ?_
                 (case aR => repeat (first | exact (by repeat (first | (with_reducible exact HR485.out) | (with_reducible refine Kd.C_alloc ?_ _) | (with_reducible refine Kd.C_drewN ?_ _) | (with_reducible refine Kd.C_drew ?_) | exact HR485.out)) | (with_reducible refine Kd.C_alloc ?_ _) | (with_reducible refine Kd.C_drewN ?_ _) | (with_reducible refine Kd.C_drew ?_)))
                 (case aB => exact (wU HB.out))
                 (case aF => exact (fun k_ hk => ⟨Kd.fresh' (Kd.R_lt (rU HO_3.out)) k_ hk, Kd.fresh' (Kd.R_lt (rU HO478.out)) k_ hk⟩))
                 (case aO => exact (rU HO481.out))
                 (case aS => exact (below_size (wU HB.out)))
                 (case aL => have := LMc22.out; omega)
                 intro v487 w36 ho hb hg hat
                 rw [← Ny486.out] at ho
                 replace HO478 := aS (Kd.R_after (ok := (fun k_ => some k_ ≠ (.slice (some ad463) x3_1.length co5 : Value).ownBlock)) (rU HO478.out) hg hat)
                 replace HB := aS (hb)
                 replace HR471 := aS ((show Kd.C k25 w36 (some ad463) y468.length y468 from by rw [Ny468.out]; exact Kd.C_take (m := (x5_2 : Int).toNat) ((Kd.R_reads' (Kd.R_after (ok := (fun k_ => some k_ ≠ (.slice Ao35 y476.length co35 : Value).ownBlock)) (rU HO_3.out) hg hat)).2.2) KL26.out))
                 replace HR485 := aS ((show Kd.C k25 w36 A27 y482.length y482 from by rw [Ny482.out, KA27.out]; exact Kd.C_drop (m := (x5_2 : Int).toNat) (c := co5) ((Kd.R_reads' (Kd.R_after (ok := (fun k_ => some k_ ≠ (.slice Ao35 y476.length co35 : Value).ownBlock)) (rU HO_3.out) hg hat)).2.2) KL27.out ((Kd.R_reads' (Kd.R_after (ok := (fun k_ => some k_ ≠ (.slice Ao35 y476.length co35 : Value).ownBlock)) (rU HO_3.out) hg hat)).2.1)))
                 replace HO_3 := aS (Kd.R_after (ok := (fun k_ => some k_ ≠ (.slice Ao35 y476.length co35 : Value).ownBlock)) (rU HO_3.out) hg hat)
                 have HO488 := aS (ho)
                 clear HO481
                 clear ho hb hg hat
                 refine hK.out _ _ ⟨((HB.out.cell (World.block_lt_of_cell? w _ hw475_0)).trans hw475_0), ((HB.out.cell (World.block_lt_of_cell? w _ hw475_1)).trans hw475_1), ((HB.out.cell (World.block_lt_of_cell? w _ hw475_2)).trans hw475_2), ((HB.out.cell (World.block_lt_of_cell? w _ hw475_3)).trans hw475_3), ((HB.out.cell (World.block_lt_of_cell? w _ hw475_4)).trans hw475_4), ((HB.out.cell (World.block_lt_of_cell? w _ hw475_5)).trans hw475_5)⟩ (fun hHeld => ?_)
                 clear hK K
                 refine nA (some 45) ?_
                 refine pA HT_ 15 (some 3) (tf 16 0) ?_
                 refine done_ (done_of HT_.out jK) ?_
                 try go_wp2
                 go_roundg k2
                 case measure => have := HK1.out; have := HK2.out; omega
                 case rel => exact ⟨(y486), (wrap64 (x4_1 + 1)), jB, H', ⟨by have := HK1.out; have := HK2.out; omega⟩, ⟨Kd.R_mono (rU HO488.out) (fun _ hk => trivial)⟩, ⟨by exact wU HB.out⟩⟩
                ·rw [if_neg c22] at H
                 exact absurd H (by simp)
               ·rw [if_neg c19] at H
                exact absurd H (by simp)
              ·rw [if_neg c18] at H
               exact absurd H (by simp)
             ·rw [if_neg c17] at H
              exact absurd H (by simp)
            ·rw [if_neg c16] at H
             exact absurd H (by simp)
          ·rw [if_neg c11] at H
           exact absurd H (by simp)
         ·rw [if_neg c10] at H
          exact absurd H (by simp)
        ·rw [if_neg c8] at H
         exact absurd H (by simp)
       ·rw [if_neg c7] at H
        exact absurd H (by simp)
      ·rw [if_neg c6] at H
       have c6b0 := decide_eq_false c6
       clear c6
       obtain ⟨y489, hy_⟩ : ∃ y_ : List (S25), y_ = (([] : List (S25))) := ⟨_, rfl⟩
       replace H : (if 0 ≤ x5_2 then (if x5_2 ≤ (x3_1.length : Int) then ((some (x3_1.take (x5_2 : Int).toNat : List (S25))).bind fun y492 => (if y489.length + y492.length < 1954687338268 then ((some (y489 ++ y492 : List (S25))).bind fun y496 => (if 0 ≤ x4_1 then (if x4_1 < (l0.length : Int) then ((some (([(⟨(rd_T25 l0 x4_1).f0, (rd_T25 l0 x4_1).f1, (rd_T25 l0 x4_1).f2, (rd_T25 l0 x4_1).f3, (rd_T25 l0 x4_1).f4, (rd_T25 l0 x4_1).f5⟩ : S25)] : List (S25)) : List (S25))).bind fun y500 => (if y496.length + y500.length < 1954687338268 then ((some (y496 ++ y500 : List (S25))).bind fun y503 => ((some (x3_1.drop (x5_2 : Int).toNat : List (S25))).bind fun y506 => (if y503.length + y506.length < 1954687338268 then (spec_SortRecords.l0 k2 l0 (y503 ++ y506) (wrap64 (x4_1 + 1))) else (none)))) else (none))) else (none)) else (none))) else (none))) else (none)) else (none)) = some r := jD
       have Ny489 := aS hy_
       clear hy_
       by_cases c37 : 0 ≤ x5_2
       ·rw [if_pos c37] at H
        have c37b0 := eq_true c37
        have c37b1 := decide_eq_true c37
        clear c37
        by_cases c38 : x5_2 ≤ (x3_1.length : Int)
        ·rw [if_pos c38] at H
         have c38b0 := eq_true c38
         have c38b1 := decide_eq_true c38
         clear c38
         obtain ⟨y492, hy_⟩ : ∃ y_ : List (S25), y_ = (x3_1.take (x5_2 : Int).toNat) := ⟨_, rfl⟩
         replace H : (if y489.length + y492.length < 1954687338268 then ((some (y489 ++ y492 : List (S25))).bind fun y496 => (if 0 ≤ x4_1 then (if x4_1 < (l0.length : Int) then ((some (([(⟨(rd_T25 l0 x4_1).f0, (rd_T25 l0 x4_1).f1, (rd_T25 l0 x4_1).f2, (rd_T25 l0 x4_1).f3, (rd_T25 l0 x4_1).f4, (rd_T25 l0 x4_1).f5⟩ : S25)] : List (S25)) : List (S25))).bind fun y500 => (if y496.length + y500.length < 1954687338268 then ((some (y496 ++ y500 : List (S25))).bind fun y503 => ((some (x3_1.drop (x5_2 : Int).toNat : List (S25))).bind fun y506 => (if y503.length + y506.length < 1954687338268 then (spec_SortRecords.l0 k2 l0 (y503 ++ y506) (wrap64 (x4_1 + 1))) else (none)))) else (none))) else (none)) else (none))) else (none)) = some r := jD
         have Ny492 := aS hy_
         clear hy_
         by_cases c39 : y489.length + y492.length < 1954687338268
         ·rw [if_pos c39] at H
          have LMc39 := aS c39
          clear c39
          obtain ⟨y496, hy_⟩ : ∃ y_ : List (S25), y_ = (y489 ++ y492) := ⟨_, rfl⟩
          replace H : (if 0 ≤ x4_1 then (if x4_1 < (l0.length : Int) then ((some (([(⟨(rd_T25 l0 x4_1).f0, (rd_T25 l0 x4_1).f1, (rd_T25 l0 x4_1).f2, (rd_T25 l0 x4_1).f3, (rd_T25 l0 x4_1).f4, (rd_T25 l0 x4_1).f5⟩ : S25)] : List (S25)) : List (S25))).bind fun y500 => (if y496.length + y500.length < 1954687338268 then ((some (y496 ++ y500 : List (S25))).bind fun y503 => ((some (x3_1.drop (x5_2 : Int).toNat : List (S25))).bind fun y506 => (if y503.length + y506.length < 1954687338268 then (spec_SortRecords.l0 k2 l0 (y503 ++ y506) (wrap64 (x4_1 + 1))) else (none)))) else (none))) else (none)) else (none)) = some r := jD
          have Ny496 := aS hy_
          clear hy_
          by_cases c40 : 0 ≤ x4_1
          ·rw [if_pos c40] at H
           have c40b0 := decide_eq_true c40
           clear c40
           by_cases c41 : x4_1 < (l0.length : Int)
           ·rw [if_pos c41] at H
            have c41b0 := decide_eq_true c41
            clear c41
            obtain ⟨y500, hy_⟩ : ∃ y_ : List (S25), y_ = (([(⟨(rd_T25 l0 x4_1).f0, (rd_T25 l0 x4_1).f1, (rd_T25 l0 x4_1).f2, (rd_T25 l0 x4_1).f3, (rd_T25 l0 x4_1).f4, (rd_T25 l0 x4_1).f5⟩ : S25)] : List (S25))) := ⟨_, rfl⟩
            replace H : (if y496.length + y500.length < 1954687338268 then ((some (y496 ++ y500 : List (S25))).bind fun y503 => ((some (x3_1.drop (x5_2 : Int).toNat : List (S25))).bind fun y506 => (if y503.length + y506.length < 1954687338268 then (spec_SortRecords.l0 k2 l0 (y503 ++ y506) (wrap64 (x4_1 + 1))) else (none)))) else (none)) = some r := jD
            have Ny500 := aS hy_
            clear hy_
            by_cases c42 : y496.length + y500.length < 1954687338268
            ·rw [if_pos c42] at H
             have LMc42 := aS c42
             clear c42
             obtain ⟨y503, hy_⟩ : ∃ y_ : List (S25), y_ = (y496 ++ y500) := ⟨_, rfl⟩
             replace H : ((some (x3_1.drop (x5_2 : Int).toNat : List (S25))).bind fun y506 => (if y503.length + y506.length < 1954687338268 then (spec_SortRecords.l0 k2 l0 (y503 ++ y506) (wrap64 (x4_1 + 1))) else (none))) = some r := jD
             have Ny503 := aS hy_
             clear hy_
             have c43b0 := eq_true (of_decide_eq_true jC : 0 ≤ x5_2)
             have c44b0 := eq_true (of_decide_eq_true jC : x5_2 ≤ (x3_1.length : Int))
             obtain ⟨y506, hy_⟩ : ∃ y_ : List (S25), y_ = (x3_1.drop (x5_2 : Int).toNat) := ⟨_, rfl⟩
             replace H : (if y503.length + y506.length < 1954687338268 then (spec_SortRecords.l0 k2 l0 (y503 ++ y506) (wrap64 (x4_1 + 1))) else (none)) = some r := jD
             have Ny506 := aS hy_
             clear hy_
             by_cases c45 : y503.length + y506.length < 1954687338268
             ·rw [if_pos c45] at H
              have LMc45 := aS c45
              clear c45
              obtain ⟨y510, hy_⟩ : ∃ y_ : List (S25), y_ = (y503 ++ y506) := ⟨_, rfl⟩
              replace H : (spec_SortRecords.l0 k2 l0 y510 (wrap64 (x4_1 + 1))) = some r := jD
              have Ny510 := aS hy_
              clear hy_
              have H' := aS H
              clear H
              try go_wp2
              replace HO_3 := aS (Kd.R_drew HO_3.out)
              replace HB := aS (below_drew1 HB.out)
              refine start_ (n := 14) (S := fun w' => True) (ds := []) #[false, false, false, false, false, false, false, false, false, false, false, false, false, false] jK rfl rfl trivial (fun hHeld => ?_); refine with_tabW spec_SortRecords.tab6 spec_SortRecords.bits6 (fun HT_ HW_ => ?_)
              generalize wr.drew = w46 at HO_3 HB hHeld ⊢
              refine pA HT_ 0 (some 15) (tf 1 13) ?_
              refine pA HT_ 1 (some 16) (tf 2 12) ?_
              refine pA HT_ 2 (some 17) (tf 3 11) ?_
              refine pU HT_ 3 (some 18) (tf 4 10) ?_
              refine pU HT_ 4 (some 19) (tf 5 9) ?_
              refine pU HT_ 5 (some 20) (tf 6 8) ?_
              refine pU HT_ 6 (some 21) (tf 7 7) ?_
              refine pU HT_ 7 (some 22) (tf 8 6) ?_
              refine pU HT_ 8 (some 23) (tf 9 5) ?_
              refine pU HT_ 9 (some 24) (tf 10 4) ?_
              refine pU HT_ 10 (some 25) (tf 11 3) ?_
              refine pU HT_ 11 (some 26) (tf 12 2) ?_
              refine pU HT_ 12 (some 27) (tf 13 1) ?_
              refine pA HT_ 13 (some 28) (tf 14 0) ?_
              refine done_ (done_of HT_.out jK) ?_
              try go_wp2
              replace HO_3 := aS (Kd.R_drew HO_3.out)
              replace HB := aS (below_drew1 HB.out)
              have q48 : (x5_2 : Int) ≤ ((x3_1.length : Int) : Int) := of_decide_eq_true jC
              obtain ⟨i048, hi048, _, hsz48, _⟩ := info_parts info25
              have hroom48 : x3_1.length ≤ co5 := (Kd.R_reads' HO_3.out).2.1
              have hC48 : Kd.C k25 _ Ao5 x3_1.length x3_1 := (Kd.R_reads' HO_3.out).2.2
              have hcut48 := cut_to (P := Tryd.prog) 36 25 .i64 Tryd.underlying36 hi048 Ao5 x3_1.length co5 x5_2 (of_decide_eq_true jC) q48 hroom48
              have hr48 := Kd.C_take (m := (x5_2 : Int).toNat) hC48 (by omega)
              have hy48 : y492.length = (x5_2 : Int).toNat := (by rw [Ny492.out, List.length_take]; omega)
              rw [← Ny492.out] at hr48
              rw [← hy48] at hcut48
              have HR495 := aS hr48
              have HC495 := aS (show y492.length ≤ co5 from by omega)
              clear hr48 hC48 hroom48 hi048 hsz48
              have KY48 := aS hy48
              clear hy48
              have KL48 := aS (show (x5_2 : Int).toNat ≤ x3_1.length from by omega)
              replace q48 := eq_true q48
              have p499 : 0 ≤ (x4_1 : Int) := of_decide_eq_true jC
              have q499 : x4_1 < (l0.length : Int) := of_decide_eq_true jC
              obtain ⟨ad499, e499, hx499_0, hx499_1, hx499_2, hx499_3, hx499_4, hx499_5⟩ := at_T25 HR0.out x4_1 p499 q499
              have hw499_5 := hx499_5
              have hw499_4 := hx499_4
              have hw499_3 := hx499_3
              have hw499_2 := hx499_2
              have hw499_1 := hx499_1
              have hw499_0 := hx499_0
              cases e499
              try replace hx499_0 := hC HB.out hx499_0
              try replace hx499_1 := hC HB.out hx499_1
              try replace hx499_2 := hC HB.out hx499_2
              try replace hx499_3 := hC HB.out hx499_3
              try replace hx499_4 := hC HB.out hx499_4
              try replace hx499_5 := hC HB.out hx499_5
              replace p499 := eq_true p499
              replace q499 := eq_true q499
              have q49 : (x5_2 : Int) ≤ ((x3_1.length : Int) : Int) := of_decide_eq_true jC
              obtain ⟨i049, hi049, _, hsz49, _⟩ := info_parts info25
              have hroom49 : x3_1.length ≤ co5 := (Kd.R_reads' HO_3.out).2.1
              have hC49 : Kd.C k25 _ Ao5 x3_1.length x3_1 := (Kd.R_reads' HO_3.out).2.2
              have q049 : (0 : Int) ≤ (x5_2 : Int) := of_decide_eq_true jC
              have hcut49 := cut_from (P := Tryd.prog) 36 25 .i64 Tryd.underlying36 hi049 6 hsz49 Ao5 x3_1.length co5 x5_2 q049 q49
              have hr49 := Kd.C_drop (m := (x5_2 : Int).toNat) (c := co5) hC49 (by omega) hroom49
              obtain ⟨A49, hA49⟩ : ∃ A1, A1 = (if co5 = (x5_2 : Int).toNat then Ao5 else (Ao5 : Option Addr).map (·.add ((x5_2 : Int).toNat * 6))) := ⟨_, rfl⟩
              obtain ⟨c49, hc49⟩ : ∃ c1, c1 = co5 - (x5_2 : Int).toNat := ⟨_, rfl⟩
              have hy49 : y506.length = x3_1.length - (x5_2 : Int).toNat := (by rw [Ny506.out, List.length_drop] <;> omega)
              rw [show (x3_1).drop (x5_2 : Int).toNat = y506 from Ny506.out.symm] at hr49
              replace hr49 : Kd.C k25 _ A49 y506.length y506 := (by rw [hA49]; exact hr49)
              rw [← hy49, ← hA49, ← hc49] at hcut49
              have HR509 := aS hr49
              have HC509 := aS (show y506.length ≤ c49 from by rw [hy49, hc49]; exact Nat.sub_le_sub_right hroom49 _)
              clear hr49 hC49 hroom49 hi049 hsz49 hc49
              have KY49 := aS hy49
              have KA49 := aS hA49
              clear hy49 hA49
              have KL49 := aS (show (x5_2 : Int).toNat ≤ x3_1.length from by omega)
              replace q49 := eq_true q49
              refine start_ (n := 16) (S := fun w' => w'.cell? (ad499.add ((x4_1).toNat * 6)) = some (.string ((rd_T25 l0 x4_1).f0)) ∧ w'.cell? ⟨(ad499.add ((x4_1).toNat * 6)).block, (ad499.add ((x4_1).toNat * 6)).off + 1, none⟩ = some (.int .i64 ((rd_T25 l0 x4_1).f1)) ∧ w'.cell? ⟨(ad499.add ((x4_1).toNat * 6)).block, (ad499.add ((x4_1).toNat * 6)).off + 2, none⟩ = some (.int .i64 ((rd_T25 l0 x4_1).f2)) ∧ w'.cell? ⟨(ad499.add ((x4_1).toNat * 6)).block, (ad499.add ((x4_1).toNat * 6)).off + 3, none⟩ = some (.int .i64 ((rd_T25 l0 x4_1).f3)) ∧ w'.cell? ⟨(ad499.add ((x4_1).toNat * 6)).block, (ad499.add ((x4_1).toNat * 6)).off + 4, none⟩ = some (.string ((rd_T25 l0 x4_1).f4)) ∧ w'.cell? ⟨(ad499.add ((x4_1).toNat * 6)).block, (ad499.add ((x4_1).toNat * 6)).off + 5, none⟩ = some (.string ((rd_T25 l0 x4_1).f5))) (ds := []) #[false, false, false, false, false, false, false, false, false, false, false, false, false, false, false, false] jK rfl rfl ⟨((HB.out.cell (World.block_lt_of_cell? w _ hw499_0)).trans hw499_0), ((HB.out.cell (World.block_lt_of_cell? w _ hw499_1)).trans hw499_1), ((HB.out.cell (World.block_lt_of_cell? w _ hw499_2)).trans hw499_2), ((HB.out.cell (World.block_lt_of_cell? w _ hw499_3)).trans hw499_3), ((HB.out.cell (World.block_lt_of_cell? w _ hw499_4)).trans hw499_4), ((HB.out.cell (World.block_lt_of_cell? w _ hw499_5)).trans hw499_5)⟩ (fun hHeld => ?_); refine with_tabW spec_SortRecords.tab8 spec_SortRecords.bits8 (fun HT_ HW_ => ?_)
              generalize w46.drew = w47 at HO_3 HB HR495 HR509 hx499_0 hx499_1 hx499_2 hx499_3 hx499_4 hx499_5 hHeld ⊢
              refine pA HT_ 1 (some 32) #[false, true, false, false, false, false, false, false, false, false, false, false, false, false, false, false] ?_
              refine pA HT_ 2 (some 33) #[false, true, true, false, false, false, false, false, false, false, false, false, false, false, false, false] ?_
              refine pA HT_ 3 (some 34) #[false, true, true, true, false, false, false, false, false, false, false, false, false, false, false, false] ?_
              refine pA HT_ 5 (some 36) #[false, true, true, true, false, true, false, false, false, false, false, false, false, false, false, false] ?_
              refine pA HT_ 6 (some 37) #[false, true, true, true, false, true, true, false, false, false, false, false, false, false, false, false] ?_
              refine pA HT_ 7 (some 38) #[false, true, true, true, false, true, true, true, false, false, false, false, false, false, false, false] ?_
              refine pA HT_ 11 (some 42) #[false, true, true, true, false, true, true, true, false, false, false, true, false, false, false, false] ?_
              refine pA HT_ 12 (some 43) #[false, true, true, true, false, true, true, true, false, false, false, true, true, false, false, false] ?_
              refine pA HT_ 13 (some 44) #[false, true, true, true, false, true, true, true, false, false, false, true, true, true, false, false] ?_
              refine tA HT_ HW_ hHeld 8 (some 39) #[false, true, true, true, false, true, true, true, true, false, false, true, true, true, false, false] ?_
              refine join_ (σ := Value × Value × Value) 3 #[true, true, true, true, true, true, true, true, true, true, false, true, true, true, false, false] (fun s_ => [(31, s_.1), (35, s_.2.1), (40, s_.2.2)]) (fun s_ w' => (w'.cell? (ad499.add ((x4_1).toNat * 6)) = some (.string ((rd_T25 l0 x4_1).f0)) ∧ w'.cell? ⟨(ad499.add ((x4_1).toNat * 6)).block, (ad499.add ((x4_1).toNat * 6)).off + 1, none⟩ = some (.int .i64 ((rd_T25 l0 x4_1).f1)) ∧ w'.cell? ⟨(ad499.add ((x4_1).toNat * 6)).block, (ad499.add ((x4_1).toNat * 6)).off + 2, none⟩ = some (.int .i64 ((rd_T25 l0 x4_1).f2)) ∧ w'.cell? ⟨(ad499.add ((x4_1).toNat * 6)).block, (ad499.add ((x4_1).toNat * 6)).off + 3, none⟩ = some (.int .i64 ((rd_T25 l0 x4_1).f3)) ∧ w'.cell? ⟨(ad499.add ((x4_1).toNat * 6)).block, (ad499.add ((x4_1).toNat * 6)).off + 4, none⟩ = some (.string ((rd_T25 l0 x4_1).f4)) ∧ w'.cell? ⟨(ad499.add ((x4_1).toNat * 6)).block, (ad499.add ((x4_1).toNat * 6)).off + 5, none⟩ = some (.string ((rd_T25 l0 x4_1).f5))) ∧ (Kd.R k25 25 w' w.heap.size (fun k_ => some k_ ≠ (s_.2.2 : Value).ownBlock ∧ some k_ ≠ (.slice Ao5 x3_1.length co5 : Value).ownBlock) s_.2.1 y496) ∧ (Kd.R k25 25 w' w.heap.size (fun k_ => some k_ ≠ (s_.2.1 : Value).ownBlock ∧ some k_ ≠ (.slice Ao5 x3_1.length co5 : Value).ownBlock) s_.2.2 y500) ∧ (Kd.R k25 25 w' w.heap.size (fun k_ => some k_ ≠ (s_.2.1 : Value).ownBlock ∧ some k_ ≠ (s_.2.2 : Value).ownBlock) (.slice Ao5 x3_1.length co5) x3_1) ∧ (Below w.heap.size w w')) ?_ ?_
              rotate_left
              ·intro hCont
               refine two_ (i := 0) (j := 9) (Ni := some 31) (Nj := some 40) #[true, true, true, true, false, true, true, true, true, false, false, true, true, true, false, false] #[false, true, true, true, false, true, true, true, true, true, false, true, true, true, false, false] rfl rfl rfl rfl (two_of HT_.out jK) (by decide) (by decide) (fun K hK => ?_) (fun K hK => ?_)
               ·skip
                refine Kd.R_lit_step k25 _ 25 ?hg (N := 31) ?hd (xs := ([] : List (S25))) (inner := []) (ok := fun _ => True) (okp := fun _ => True) ?hr ?hp (fun _ hk => hk) trivial (Below.refl _ _) (Nat.le_refl _) (by simp) ?_; (case hd => rfl); (case hg => rfl); (case hr => first | (go_simp; done) | (go_simp; rfl)); (case hp => exact (Reps.none _ _))
                intro v490 w50 ho51 hb hg_ hnew_
                clear hg_ hnew_
                (first | rw [← Ny489.out] at ho51 | (simp only [Int.reduceToNat] at ho51; rw [← Ny489.out] at ho51))
                have HO491 := aS (Kd.R_lower (Kd.R_new' ho51 (Kd.R_lt (rU HO_3.out))) (below_size (wU HB.out)))
                replace HO_3 := aS (Kd.R_elder' (rU HO_3.out) (Kd.R_base ho51) hb)
                replace HR495 := aS (Kd.C_below (by repeat (first | (with_reducible exact HR495.out) | (with_reducible refine Kd.C_alloc ?_ _) | (with_reducible refine Kd.C_drewN ?_ _) | (with_reducible refine Kd.C_drew ?_) | exact HR495.out)) hb)
                replace HR509 := aS (Kd.C_below (by repeat (first | (with_reducible exact HR509.out) | (with_reducible refine Kd.C_alloc ?_ _) | (with_reducible refine Kd.C_drewN ?_ _) | (with_reducible refine Kd.C_drew ?_) | exact HR509.out)) hb)
                replace HB := aS (below_step (wU HB.out) hb)
                clear hb ho51
                refine hK.out _ _ ⟨((HB.out.cell (World.block_lt_of_cell? w _ hw499_0)).trans hw499_0), ((HB.out.cell (World.block_lt_of_cell? w _ hw499_1)).trans hw499_1), ((HB.out.cell (World.block_lt_of_cell? w _ hw499_2)).trans hw499_2), ((HB.out.cell (World.block_lt_of_cell? w _ hw499_3)).trans hw499_3), ((HB.out.cell (World.block_lt_of_cell? w _ hw499_4)).trans hw499_4), ((HB.out.cell (World.block_lt_of_cell? w _ hw499_5)).trans hw499_5)⟩ (fun hHeld => ?_)
                clear hK K
                refine nA (some 31) ?_
                refine two_ (i := 4) (j := 9) (Ni := some 35) (Nj := some 40) #[true, true, true, true, true, true, true, true, true, false, false, true, true, true, false, false] #[true, true, true, true, false, true, true, true, true, true, false, true, true, true, false, false] rfl rfl rfl rfl (two_of HT_.out jK) (by decide) (by decide) (fun K hK => ?_) (fun K hK => ?_)
                ·skip
                 refine Kd.R_append_rows_step k25 (w0 := w) w.heap.size (by rfl) (.tmp 31) (.tmp 34) 36 25 (.agg #[(.string ⟨#[]⟩), (.int .i64 0), (.int .i64 0), (.int .i64 0), (.string ⟨#[]⟩), (.string ⟨#[]⟩)]) 72 rfl Tryd.underlying36 info25 rfl (by decide) (by omega) v490 y489 y492 _ _ _ (fun k_ => some k_ ≠ (.slice Ao5 x3_1.length co5 : Value).ownBlock) (fun _ => False) rfl rfl ?aO ?aR (fun _ _ h => h) (fun _ h => h.elim) ?aF ?aB ?aS ?aL ?_
                 (case aR => repeat (first | exact (by repeat (first | (with_reducible exact HR495.out) | (with_reducible refine Kd.C_alloc ?_ _) | (with_reducible refine Kd.C_drewN ?_ _) | (with_reducible refine Kd.C_drew ?_) | exact HR495.out)) | (with_reducible refine Kd.C_alloc ?_ _) | (with_reducible refine Kd.C_drewN ?_ _) | (with_reducible refine Kd.C_drew ?_)))
                 (case aB => exact (wU HB.out))
                 (case aF => exact (fun k_ hk => Kd.fresh' (Kd.R_lt (rU HO_3.out)) k_ hk))
                 (case aO => exact (by (with_reducible repeat (first | apply Kd.R_alloc | apply Kd.R_drewN | apply Kd.R_drew)); exact Kd.R_mono HO491.out (fun _ hk => hk.2)))
                 (case aS => exact (below_size (wU HB.out)))
                 (case aL => have := LMc39.out; omega)
                 intro v497 w52 ho hb hg hat
                 rw [← Ny496.out] at ho
                 replace HB := aS (hb)
                 replace HR495 := aS ((show Kd.C k25 w52 Ao5 y492.length y492 from by rw [Ny492.out]; exact Kd.C_take (m := (x5_2 : Int).toNat) ((Kd.R_reads' (Kd.R_after (ok := (fun _ => True)) (rU HO_3.out) hg hat)).2.2) KL48.out))
                 replace HR509 := aS ((show Kd.C k25 w52 A49 y506.length y506 from by rw [Ny506.out, KA49.out]; exact Kd.C_drop (m := (x5_2 : Int).toNat) (c := co5) ((Kd.R_reads' (Kd.R_after (ok := (fun _ => True)) (rU HO_3.out) hg hat)).2.2) KL49.out ((Kd.R_reads' (Kd.R_after (ok := (fun _ => True)) (rU HO_3.out) hg hat)).2.1)))
                 replace HO_3 := aS (Kd.R_after (ok := (fun _ => True)) (rU HO_3.out) hg hat)
                 have HO498 := aS (ho)
                 clear HO491
                 clear ho hb hg hat
                 refine hK.out _ _ ⟨((HB.out.cell (World.block_lt_of_cell? w _ hw499_0)).trans hw499_0), ((HB.out.cell (World.block_lt_of_cell? w _ hw499_1)).trans hw499_1), ((HB.out.cell (World.block_lt_of_cell? w _ hw499_2)).trans hw499_2), ((HB.out.cell (World.block_lt_of_cell? w _ hw499_3)).trans hw499_3), ((HB.out.cell (World.block_lt_of_cell? w _ hw499_4)).trans hw499_4), ((HB.out.cell (World.block_lt_of_cell? w _ hw499_5)).trans hw499_5)⟩ (fun hHeld => ?_)
                 clear hK K
                 refine nA (some 35) ?_
                 refine one_ (i := 9) (N := some 40) #[true, true, true, true, true, true, true, true, true, true, false, true, true, true, false, false] rfl rfl (one_of HT_.out jK) (by decide) (fun K hK => ?_)
                 refine Kd.R_lit_step k25 _ 25 ?hg (N := 40) ?hd (xs := ([(⟨(rd_T25 l0 x4_1).f0, (rd_T25 l0 x4_1).f1, (rd_T25 l0 x4_1).f2, (rd_T25 l0 x4_1).f3, (rd_T25 l0 x4_1).f4, (rd_T25 l0 x4_1).f5⟩ : S25)] : List (S25))) (inner := [.string ((rd_T25 l0 x4_1).f0), .int .i64 ((rd_T25 l0 x4_1).f1), .int .i64 ((rd_T25 l0 x4_1).f2), .int .i64 ((rd_T25 l0 x4_1).f3), .string ((rd_T25 l0 x4_1).f4), .string ((rd_T25 l0 x4_1).f5)]) (ok := fun _ => True) (okp := fun _ => True) ?hr ?hp (fun _ hk => hk) trivial (Below.refl _ _) (Nat.le_refl _) (by simp) ?_; (case hd => rfl); (case hg => rfl); (case hr => first | (go_simp; done) | (go_simp; rfl)); (case hp => exact (Reps.c6 (show Kd.M k25 _ _ _ (⟨(rd_T25 l0 x4_1).f0, (rd_T25 l0 x4_1).f1, (rd_T25 l0 x4_1).f2, (rd_T25 l0 x4_1).f3, (rd_T25 l0 x4_1).f4, (rd_T25 l0 x4_1).f5⟩ : S25) [.string ((rd_T25 l0 x4_1).f0), .int .i64 ((rd_T25 l0 x4_1).f1), .int .i64 ((rd_T25 l0 x4_1).f2), .int .i64 ((rd_T25 l0 x4_1).f3), .string ((rd_T25 l0 x4_1).f4), .string ((rd_T25 l0 x4_1).f5)] from (k25_mkM _ _ _ (⟨(rd_T25 l0 x4_1).f0, (rd_T25 l0 x4_1).f1, (rd_T25 l0 x4_1).f2, (rd_T25 l0 x4_1).f3, (rd_T25 l0 x4_1).f4, (rd_T25 l0 x4_1).f5⟩ : S25) )) (Reps.none _ _)))
                 intro v501 w53 ho54 hb hg_ hnew_
                 clear hg_ hnew_
                 (first | rw [← Ny500.out] at ho54 | (simp only [Int.reduceToNat] at ho54; rw [← Ny500.out] at ho54))
                 have HO502 := aS (Kd.R_lower (Kd.R_new' (Kd.R_new' ho54 (Kd.R_lt (rU HO_3.out))) (Kd.R_lt (rU HO498.out))) (below_size (wU HB.out)))
                 replace HO_3 := aS (Kd.R_elder' (rU HO_3.out) (Kd.R_base ho54) hb)
                 replace HO498 := aS (Kd.R_elder' (rU HO498.out) (Kd.R_base ho54) hb)
                 replace HR495 := aS (Kd.C_below (by repeat (first | (with_reducible exact HR495.out) | (with_reducible refine Kd.C_alloc ?_ _) | (with_reducible refine Kd.C_drewN ?_ _) | (with_reducible refine Kd.C_drew ?_) | exact HR495.out)) hb)
                 replace HR509 := aS (Kd.C_below (by repeat (first | (with_reducible exact HR509.out) | (with_reducible refine Kd.C_alloc ?_ _) | (with_reducible refine Kd.C_drewN ?_ _) | (with_reducible refine Kd.C_drew ?_) | exact HR509.out)) hb)
                 replace HB := aS (below_step (wU HB.out) hb)
                 clear hb ho54
                 refine hK.out _ _ ⟨((HB.out.cell (World.block_lt_of_cell? w _ hw499_0)).trans hw499_0), ((HB.out.cell (World.block_lt_of_cell? w _ hw499_1)).trans hw499_1), ((HB.out.cell (World.block_lt_of_cell? w _ hw499_2)).trans hw499_2), ((HB.out.cell (World.block_lt_of_cell? w _ hw499_3)).trans hw499_3), ((HB.out.cell (World.block_lt_of_cell? w _ hw499_4)).trans hw499_4), ((HB.out.cell (World.block_lt_of_cell? w _ hw499_5)).trans hw499_5)⟩ (fun hHeld => ?_)
                 clear hK K
                 refine nA (some 40) ?_
                 exact norm_ (by simp only [putAll, Act.put, List.setIfInBounds_toArray, List.set_cons_zero, List.set_cons_succ]) (hCont (v490, v497, v501) _ ⟨hHeld, (by (with_reducible repeat (first | apply Kd.R_alloc | apply Kd.R_drewN | apply Kd.R_drew)); exact Kd.R_mono HO498.out (fun _ hk => ⟨hk.2, hk.1⟩)), (by (with_reducible repeat (first | apply Kd.R_alloc | apply Kd.R_drewN | apply Kd.R_drew)); exact Kd.R_mono HO502.out (fun _ hk => ⟨hk.2, hk.1.2⟩)), (by (with_reducible repeat (first | apply Kd.R_alloc | apply Kd.R_drewN | apply Kd.R_drew)); exact Kd.R_mono HO_3.out (fun _ hk => ⟨hk.1.2, hk.2⟩)), (wU HB.out)⟩)
                ·skip
                 refine Kd.R_lit_step k25 _ 25 ?hg (N := 40) ?hd (xs := ([(⟨(rd_T25 l0 x4_1).f0, (rd_T25 l0 x4_1).f1, (rd_T25 l0 x4_1).f2, (rd_T25 l0 x4_1).f3, (rd_T25 l0 x4_1).f4, (rd_T25 l0 x4_1).f5⟩ : S25)] : List (S25))) (inner := [.string ((rd_T25 l0 x4_1).f0), .int .i64 ((rd_T25 l0 x4_1).f1), .int .i64 ((rd_T25 l0 x4_1).f2), .int .i64 ((rd_T25 l0 x4_1).f3), .string ((rd_T25 l0 x4_1).f4), .string ((rd_T25 l0 x4_1).f5)]) (ok := fun _ => True) (okp := fun _ => True) ?hr ?hp (fun _ hk => hk) trivial (Below.refl _ _) (Nat.le_refl _) (by simp) ?_; (case hd => rfl); (case hg => rfl); (case hr => first | (go_simp; done) | (go_simp; rfl)); (case hp => exact (Reps.c6 (show Kd.M k25 _ _ _ (⟨(rd_T25 l0 x4_1).f0, (rd_T25 l0 x4_1).f1, (rd_T25 l0 x4_1).f2, (rd_T25 l0 x4_1).f3, (rd_T25 l0 x4_1).f4, (rd_T25 l0 x4_1).f5⟩ : S25) [.string ((rd_T25 l0 x4_1).f0), .int .i64 ((rd_T25 l0 x4_1).f1), .int .i64 ((rd_T25 l0 x4_1).f2), .int .i64 ((rd_T25 l0 x4_1).f3), .string ((rd_T25 l0 x4_1).f4), .string ((rd_T25 l0 x4_1).f5)] from (k25_mkM _ _ _ (⟨(rd_T25 l0 x4_1).f0, (rd_T25 l0 x4_1).f1, (rd_T25 l0 x4_1).f2, (rd_T25 l0 x4_1).f3, (rd_T25 l0 x4_1).f4, (rd_T25 l0 x4_1).f5⟩ : S25) )) (Reps.none _ _)))
                 intro v501 w52 ho53 hb hg_ hnew_
                 clear hg_ hnew_
                 (first | rw [← Ny500.out] at ho53 | (simp only [Int.reduceToNat] at ho53; rw [← Ny500.out] at ho53))
                 have HO502 := aS (Kd.R_lower (Kd.R_new' (Kd.R_new' ho53 (Kd.R_lt (rU HO_3.out))) (Kd.R_lt (rU HO491.out))) (below_size (wU HB.out)))
                 replace HO_3 := aS (Kd.R_elder' (rU HO_3.out) (Kd.R_base ho53) hb)
                 replace HO491 := aS (Kd.R_elder' (rU HO491.out) (Kd.R_base ho53) hb)
                 replace HR495 := aS (Kd.C_below (by repeat (first | (with_reducible exact HR495.out) | (with_reducible refine Kd.C_alloc ?_ _) | (with_reducible refine Kd.C_drewN ?_ _) | (with_reducible refine Kd.C_drew ?_) | exact HR495.out)) hb)
                 replace HR509 := aS (Kd.C_below (by repeat (first | (with_reducible exact HR509.out) | (with_reducible refine Kd.C_alloc ?_ _) | (with_reducible refine Kd.C_drewN ?_ _) | (with_reducible refine Kd.C_drew ?_) | exact HR509.out)) hb)
                 replace HB := aS (below_step (wU HB.out) hb)
                 clear hb ho53
                 refine hK.out _ _ ⟨((HB.out.cell (World.block_lt_of_cell? w _ hw499_0)).trans hw499_0), ((HB.out.cell (World.block_lt_of_cell? w _ hw499_1)).trans hw499_1), ((HB.out.cell (World.block_lt_of_cell? w _ hw499_2)).trans hw499_2), ((HB.out.cell (World.block_lt_of_cell? w _ hw499_3)).trans hw499_3), ((HB.out.cell (World.block_lt_of_cell? w _ hw499_4)).trans hw499_4), ((HB.out.cell (World.block_lt_of_cell? w _ hw499_5)).trans hw499_5)⟩ (fun hHeld => ?_)
                 clear hK K
                 refine nA (some 40) ?_
                 refine one_ (i := 4) (N := some 35) #[true, true, true, true, true, true, true, true, true, true, false, true, true, true, false, false] rfl rfl (one_of HT_.out jK) (by decide) (fun K hK => ?_)
                 refine Kd.R_append_rows_step k25 (w0 := w) w.heap.size (by rfl) (.tmp 31) (.tmp 34) 36 25 (.agg #[(.string ⟨#[]⟩), (.int .i64 0), (.int .i64 0), (.int .i64 0), (.string ⟨#[]⟩), (.string ⟨#[]⟩)]) 72 rfl Tryd.underlying36 info25 rfl (by decide) (by omega) v490 y489 y492 _ _ _ (fun k_ => some k_ ≠ (.slice Ao5 x3_1.length co5 : Value).ownBlock ∧ some k_ ≠ (v501 : Value).ownBlock) (fun _ => False) rfl rfl ?aO ?aR (fun _ _ h => h) (fun _ h => h.elim) ?aF ?aB ?aS ?aL ?_
                 (case aR => repeat (first | exact (by repeat (first | (with_reducible exact HR495.out) | (with_reducible refine Kd.C_alloc ?_ _) | (with_reducible refine Kd.C_drewN ?_ _) | (with_reducible refine Kd.C_drew ?_) | exact HR495.out)) | (with_reducible refine Kd.C_alloc ?_ _) | (with_reducible refine Kd.C_drewN ?_ _) | (with_reducible refine Kd.C_drew ?_)))
                 (case aB => exact (wU HB.out))
                 (case aF => exact (fun k_ hk => ⟨Kd.fresh' (Kd.R_lt (rU HO_3.out)) k_ hk, Kd.fresh' (Kd.R_lt (rU HO502.out)) k_ hk⟩))
                 (case aO => exact (by (with_reducible repeat (first | apply Kd.R_alloc | apply Kd.R_drewN | apply Kd.R_drew)); exact Kd.R_mono HO491.out (fun _ hk => ⟨hk.1.2, hk.2⟩)))
                 (case aS => exact (below_size (wU HB.out)))
                 (case aL => have := LMc39.out; omega)
                 intro v497 w54 ho hb hg hat
                 rw [← Ny496.out] at ho
                 replace HO502 := aS (Kd.R_after (ok := (fun k_ => some k_ ≠ (.slice Ao5 x3_1.length co5 : Value).ownBlock)) (by (with_reducible repeat (first | apply Kd.R_alloc | apply Kd.R_drewN | apply Kd.R_drew)); exact Kd.R_mono HO502.out (fun _ hk => ⟨hk.1.2, hk.2⟩)) hg hat)
                 replace HB := aS (hb)
                 replace HR495 := aS ((show Kd.C k25 w54 Ao5 y492.length y492 from by rw [Ny492.out]; exact Kd.C_take (m := (x5_2 : Int).toNat) ((Kd.R_reads' (Kd.R_after (ok := (fun k_ => some k_ ≠ (v501 : Value).ownBlock)) (by (with_reducible repeat (first | apply Kd.R_alloc | apply Kd.R_drewN | apply Kd.R_drew)); exact Kd.R_mono HO_3.out (fun _ hk => ⟨hk.2, hk.1.2⟩)) hg hat)).2.2) KL48.out))
                 replace HR509 := aS ((show Kd.C k25 w54 A49 y506.length y506 from by rw [Ny506.out, KA49.out]; exact Kd.C_drop (m := (x5_2 : Int).toNat) (c := co5) ((Kd.R_reads' (Kd.R_after (ok := (fun k_ => some k_ ≠ (v501 : Value).ownBlock)) (by (with_reducible repeat (first | apply Kd.R_alloc | apply Kd.R_drewN | apply Kd.R_drew)); exact Kd.R_mono HO_3.out (fun _ hk => ⟨hk.2, hk.1.2⟩)) hg hat)).2.2) KL49.out ((Kd.R_reads' (Kd.R_after (ok := (fun k_ => some k_ ≠ (v501 : Value).ownBlock)) (by (with_reducible repeat (first | apply Kd.R_alloc | apply Kd.R_drewN | apply Kd.R_drew)); exact Kd.R_mono HO_3.out (fun _ hk => ⟨hk.2, hk.1.2⟩)) hg hat)).2.1)))
                 replace HO_3 := aS (Kd.R_after (ok := (fun k_ => some k_ ≠ (v501 : Value).ownBlock)) (by (with_reducible repeat (first | apply Kd.R_alloc | apply Kd.R_drewN | apply Kd.R_drew)); exact Kd.R_mono HO_3.out (fun _ hk => ⟨hk.2, hk.1.2⟩)) hg hat)
                 have HO498 := aS (ho)
                 clear HO491
                 clear ho hb hg hat
                 refine hK.out _ _ ⟨((HB.out.cell (World.block_lt_of_cell? w _ hw499_0)).trans hw499_0), ((HB.out.cell (World.block_lt_of_cell? w _ hw499_1)).trans hw499_1), ((HB.out.cell (World.block_lt_of_cell? w _ hw499_2)).trans hw499_2), ((HB.out.cell (World.block_lt_of_cell? w _ hw499_3)).trans hw499_3), ((HB.out.cell (World.block_lt_of_cell? w _ hw499_4)).trans hw499_4), ((HB.out.cell (World.block_lt_of_cell? w _ hw499_5)).trans hw499_5)⟩ (fun hHeld => ?_)
                 clear hK K
                 refine nA (some 35) ?_
                 exact norm_ (by simp only [putAll, Act.put, List.setIfInBounds_toArray, List.set_cons_zero, List.set_cons_succ]) (hCont (v490, v497, v501) _ ⟨hHeld, (by (with_reducible repeat (first | apply Kd.R_alloc | apply Kd.R_drewN | apply Kd.R_drew)); exact Kd.R_mono HO498.out (fun _ hk => ⟨hk.2, hk.1⟩)), (by (with_reducible repeat (first | apply Kd.R_alloc | apply Kd.R_drewN | apply Kd.R_drew)); exact Kd.R_mono HO502.out (fun _ hk => ⟨hk.2, hk.1⟩)), (by (with_reducible repeat (first | apply Kd.R_alloc | apply Kd.R_drewN | apply Kd.R_drew)); exact Kd.R_mono HO_3.out (fun _ hk => ⟨hk.2, hk.1⟩)), (wU HB.out)⟩)
               ·skip
                refine Kd.R_lit_step k25 _ 25 ?hg (N := 40) ?hd (xs := ([(⟨(rd_T25 l0 x4_1).f0, (rd_T25 l0 x4_1).f1, (rd_T25 l0 x4_1).f2, (rd_T25 l0 x4_1).f3, (rd_T25 l0 x4_1).f4, (rd_T25 l0 x4_1).f5⟩ : S25)] : List (S25))) (inner := [.string ((rd_T25 l0 x4_1).f0), .int .i64 ((rd_T25 l0 x4_1).f1), .int .i64 ((rd_T25 l0 x4_1).f2), .int .i64 ((rd_T25 l0 x4_1).f3), .string ((rd_T25 l0 x4_1).f4), .string ((rd_T25 l0 x4_1).f5)]) (ok := fun _ => True) (okp := fun _ => True) ?hr ?hp (fun _ hk => hk) trivial (Below.refl _ _) (Nat.le_refl _) (by simp) ?_; (case hd => rfl); (case hg => rfl); (case hr => first | (go_simp; done) | (go_simp; rfl)); (case hp => exact (Reps.c6 (show Kd.M k25 _ _ _ (⟨(rd_T25 l0 x4_1).f0, (rd_T25 l0 x4_1).f1, (rd_T25 l0 x4_1).f2, (rd_T25 l0 x4_1).f3, (rd_T25 l0 x4_1).f4, (rd_T25 l0 x4_1).f5⟩ : S25) [.string ((rd_T25 l0 x4_1).f0), .int .i64 ((rd_T25 l0 x4_1).f1), .int .i64 ((rd_T25 l0 x4_1).f2), .int .i64 ((rd_T25 l0 x4_1).f3), .string ((rd_T25 l0 x4_1).f4), .string ((rd_T25 l0 x4_1).f5)] from (k25_mkM _ _ _ (⟨(rd_T25 l0 x4_1).f0, (rd_T25 l0 x4_1).f1, (rd_T25 l0 x4_1).f2, (rd_T25 l0 x4_1).f3, (rd_T25 l0 x4_1).f4, (rd_T25 l0 x4_1).f5⟩ : S25) )) (Reps.none _ _)))
                intro v501 w50 ho51 hb hg_ hnew_
                clear hg_ hnew_
                (first | rw [← Ny500.out] at ho51 | (simp only [Int.reduceToNat] at ho51; rw [← Ny500.out] at ho51))
                have HO502 := aS (Kd.R_lower (Kd.R_new' ho51 (Kd.R_lt (rU HO_3.out))) (below_size (wU HB.out)))
                replace HO_3 := aS (Kd.R_elder' (rU HO_3.out) (Kd.R_base ho51) hb)
                replace HR495 := aS (Kd.C_below (by repeat (first | (with_reducible exact HR495.out) | (with_reducible refine Kd.C_alloc ?_ _) | (with_reducible refine Kd.C_drewN ?_ _) | (with_reducible refine Kd.C_drew ?_) | exact HR495.out)) hb)
                replace HR509 := aS (Kd.C_below (by repeat (first | (with_reducible exact HR509.out) | (with_reducible refine Kd.C_alloc ?_ _) | (with_reducible refine Kd.C_drewN ?_ _) | (with_reducible refine Kd.C_drew ?_) | exact HR509.out)) hb)
                replace HB := aS (below_step (wU HB.out) hb)
                clear hb ho51
                refine hK.out _ _ ⟨((HB.out.cell (World.block_lt_of_cell? w _ hw499_0)).trans hw499_0), ((HB.out.cell (World.block_lt_of_cell? w _ hw499_1)).trans hw499_1), ((HB.out.cell (World.block_lt_of_cell? w _ hw499_2)).trans hw499_2), ((HB.out.cell (World.block_lt_of_cell? w _ hw499_3)).trans hw499_3), ((HB.out.cell (World.block_lt_of_cell? w _ hw499_4)).trans hw499_4), ((HB.out.cell (World.block_lt_of_cell? w _ hw499_5)).trans hw499_5)⟩ (fun hHeld => ?_)
                clear hK K
                refine nA (some 40) ?_
                refine one_ (i := 0) (N := some 31) #[true, true, true, true, false, true, true, true, true, true, false, true, true, true, false, false] rfl rfl (one_of HT_.out jK) (by decide) (fun K hK => ?_)
                refine Kd.R_lit_step k25 _ 25 ?hg (N := 31) ?hd (xs := ([] : List (S25))) (inner := []) (ok := fun _ => True) (okp := fun _ => True) ?hr ?hp (fun _ hk => hk) trivial (Below.refl _ _) (Nat.le_refl _) (by simp) ?_; (case hd => rfl); (case hg => rfl); (case hr => first | (go_simp; done) | (go_simp; rfl)); (case hp => exact (Reps.none _ _))
                intro v490 w52 ho53 hb hg_ hnew_
                clear hg_ hnew_
                (first | rw [← Ny489.out] at ho53 | (simp only [Int.reduceToNat] at ho53; rw [← Ny489.out] at ho53))
                have HO491 := aS (Kd.R_lower (Kd.R_new' (Kd.R_new' ho53 (Kd.R_lt (rU HO_3.out))) (Kd.R_lt (rU HO502.out))) (below_size (wU HB.out)))
                replace HO_3 := aS (Kd.R_elder' (rU HO_3.out) (Kd.R_base ho53) hb)
                replace HO502 := aS (Kd.R_elder' (rU HO502.out) (Kd.R_base ho53) hb)
                replace HR495 := aS (Kd.C_below (by repeat (first | (with_reducible exact HR495.out) | (with_reducible refine Kd.C_alloc ?_ _) | (with_reducible refine Kd.C_drewN ?_ _) | (with_reducible refine Kd.C_drew ?_) | exact HR495.out)) hb)
                replace HR509 := aS (Kd.C_below (by repeat (first | (with_reducible exact HR509.out) | (with_reducible refine Kd.C_alloc ?_ _) | (with_reducible refine Kd.C_drewN ?_ _) | (with_reducible refine Kd.C_drew ?_) | exact HR509.out)) hb)
                replace HB := aS (below_step (wU HB.out) hb)
                clear hb ho53
                refine hK.out _ _ ⟨((HB.out.cell (World.block_lt_of_cell? w _ hw499_0)).trans hw499_0), ((HB.out.cell (World.block_lt_of_cell? w _ hw499_1)).trans hw499_1), ((HB.out.cell (World.block_lt_of_cell? w _ hw499_2)).trans hw499_2), ((HB.out.cell (World.block_lt_of_cell? w _ hw499_3)).trans hw499_3), ((HB.out.cell (World.block_lt_of_cell? w _ hw499_4)).trans hw499_4), ((HB.out.cell (World.block_lt_of_cell? w _ hw499_5)).trans hw499_5)⟩ (fun hHeld => ?_)
                clear hK K
                refine nA (some 31) ?_
                refine one_ (i := 4) (N := some 35) #[true, true, true, true, true, true, true, true, true, true, false, true, true, true, false, false] rfl rfl (one_of HT_.out jK) (by decide) (fun K hK => ?_)
                refine Kd.R_append_rows_step k25 (w0 := w) w.heap.size (by rfl) (.tmp 31) (.tmp 34) 36 25 (.agg #[(.string ⟨#[]⟩), (.int .i64 0), (.int .i64 0), (.int .i64 0), (.string ⟨#[]⟩), (.string ⟨#[]⟩)]) 72 rfl Tryd.underlying36 info25 rfl (by decide) (by omega) v490 y489 y492 _ _ _ (fun k_ => some k_ ≠ (.slice Ao5 x3_1.length co5 : Value).ownBlock ∧ some k_ ≠ (v501 : Value).ownBlock) (fun _ => False) rfl rfl ?aO ?aR (fun _ _ h => h) (fun _ h => h.elim) ?aF ?aB ?aS ?aL ?_
                (case aR => repeat (first | exact (by repeat (first | (with_reducible exact HR495.out) | (with_reducible refine Kd.C_alloc ?_ _) | (with_reducible refine Kd.C_drewN ?_ _) | (with_reducible refine Kd.C_drew ?_) | exact HR495.out)) | (with_reducible refine Kd.C_alloc ?_ _) | (with_reducible refine Kd.C_drewN ?_ _) | (with_reducible refine Kd.C_drew ?_)))
                (case aB => exact (wU HB.out))
                (case aF => exact (fun k_ hk => ⟨Kd.fresh' (Kd.R_lt (rU HO_3.out)) k_ hk, Kd.fresh' (Kd.R_lt (rU HO502.out)) k_ hk⟩))
                (case aO => exact (by (with_reducible repeat (first | apply Kd.R_alloc | apply Kd.R_drewN | apply Kd.R_drew)); exact Kd.R_mono HO491.out (fun _ hk => ⟨hk.1.2, hk.2⟩)))
                (case aS => exact (below_size (wU HB.out)))
                (case aL => have := LMc39.out; omega)
                intro v497 w54 ho hb hg hat
                rw [← Ny496.out] at ho
                replace HO502 := aS (Kd.R_after (ok := (fun k_ => some k_ ≠ (.slice Ao5 x3_1.length co5 : Value).ownBlock)) (by (with_reducible repeat (first | apply Kd.R_alloc | apply Kd.R_drewN | apply Kd.R_drew)); exact Kd.R_mono HO502.out (fun _ hk => ⟨hk.1.2, hk.2⟩)) hg hat)
                replace HB := aS (hb)
                replace HR495 := aS ((show Kd.C k25 w54 Ao5 y492.length y492 from by rw [Ny492.out]; exact Kd.C_take (m := (x5_2 : Int).toNat) ((Kd.R_reads' (Kd.R_after (ok := (fun k_ => some k_ ≠ (v501 : Value).ownBlock)) (by (with_reducible repeat (first | apply Kd.R_alloc | apply Kd.R_drewN | apply Kd.R_drew)); exact Kd.R_mono HO_3.out (fun _ hk => ⟨hk.1.2, hk.2⟩)) hg hat)).2.2) KL48.out))
                replace HR509 := aS ((show Kd.C k25 w54 A49 y506.length y506 from by rw [Ny506.out, KA49.out]; exact Kd.C_drop (m := (x5_2 : Int).toNat) (c := co5) ((Kd.R_reads' (Kd.R_after (ok := (fun k_ => some k_ ≠ (v501 : Value).ownBlock)) (by (with_reducible repeat (first | apply Kd.R_alloc | apply Kd.R_drewN | apply Kd.R_drew)); exact Kd.R_mono HO_3.out (fun _ hk => ⟨hk.1.2, hk.2⟩)) hg hat)).2.2) KL49.out ((Kd.R_reads' (Kd.R_after (ok := (fun k_ => some k_ ≠ (v501 : Value).ownBlock)) (by (with_reducible repeat (first | apply Kd.R_alloc | apply Kd.R_drewN | apply Kd.R_drew)); exact Kd.R_mono HO_3.out (fun _ hk => ⟨hk.1.2, hk.2⟩)) hg hat)).2.1)))
                replace HO_3 := aS (Kd.R_after (ok := (fun k_ => some k_ ≠ (v501 : Value).ownBlock)) (by (with_reducible repeat (first | apply Kd.R_alloc | apply Kd.R_drewN | apply Kd.R_drew)); exact Kd.R_mono HO_3.out (fun _ hk => ⟨hk.1.2, hk.2⟩)) hg hat)
                have HO498 := aS (ho)
                clear HO491
                clear ho hb hg hat
                refine hK.out _ _ ⟨((HB.out.cell (World.block_lt_of_cell? w _ hw499_0)).trans hw499_0), ((HB.out.cell (World.block_lt_of_cell? w _ hw499_1)).trans hw499_1), ((HB.out.cell (World.block_lt_of_cell? w _ hw499_2)).trans hw499_2), ((HB.out.cell (World.block_lt_of_cell? w _ hw499_3)).trans hw499_3), ((HB.out.cell (World.block_lt_of_cell? w _ hw499_4)).trans hw499_4), ((HB.out.cell (World.block_lt_of_cell? w _ hw499_5)).trans hw499_5)⟩ (fun hHeld => ?_)
                clear hK K
                refine nA (some 35) ?_
                exact norm_ (by simp only [putAll, Act.put, List.setIfInBounds_toArray, List.set_cons_zero, List.set_cons_succ]) (hCont (v490, v497, v501) _ ⟨hHeld, (by (with_reducible repeat (first | apply Kd.R_alloc | apply Kd.R_drewN | apply Kd.R_drew)); exact Kd.R_mono HO498.out (fun _ hk => ⟨hk.2, hk.1⟩)), (by (with_reducible repeat (first | apply Kd.R_alloc | apply Kd.R_drewN | apply Kd.R_drew)); exact Kd.R_mono HO502.out (fun _ hk => ⟨hk.2, hk.1⟩)), (by (with_reducible repeat (first | apply Kd.R_alloc | apply Kd.R_drewN | apply Kd.R_drew)); exact Kd.R_mono HO_3.out (fun _ hk => ⟨hk.2, hk.1⟩)), (wU HB.out)⟩)
              rintro ⟨v490, v497, v501⟩ w55 ⟨hS_, h0_, h1_, h2_, h3_⟩
              have n0_ : Aside0 (Kd.R k25 25 w55 w.heap.size (fun k_ => some k_ ≠ (v501 : Value).ownBlock ∧ some k_ ≠ (.slice Ao5 x3_1.length co5 : Value).ownBlock) v497 y496) := ⟨h0_⟩
              have n1_ : Aside0 (Kd.R k25 25 w55 w.heap.size (fun k_ => some k_ ≠ (v497 : Value).ownBlock ∧ some k_ ≠ (.slice Ao5 x3_1.length co5 : Value).ownBlock) v501 y500) := ⟨h1_⟩
              have n2_ : Aside0 (Kd.R k25 25 w55 w.heap.size (fun k_ => some k_ ≠ (v497 : Value).ownBlock ∧ some k_ ≠ (v501 : Value).ownBlock) (.slice Ao5 x3_1.length co5) x3_1) := ⟨h2_⟩
              have n3_ : Aside0 (Below w.heap.size w w55) := ⟨h3_⟩
              clear HO_3
              clear HB
              clear h0_ h1_ h2_ h3_
              have HO498 := n0_
              have HO502 := n1_
              have HO_3 := n2_
              have HB := n3_
              clear n0_ n1_ n2_ n3_
              have hHeld : w55.cell? (ad499.add ((x4_1).toNat * 6)) = some (.string ((rd_T25 l0 x4_1).f0)) ∧ w55.cell? ⟨(ad499.add ((x4_1).toNat * 6)).block, (ad499.add ((x4_1).toNat * 6)).off + 1, none⟩ = some (.int .i64 ((rd_T25 l0 x4_1).f1)) ∧ w55.cell? ⟨(ad499.add ((x4_1).toNat * 6)).block, (ad499.add ((x4_1).toNat * 6)).off + 2, none⟩ = some (.int .i64 ((rd_T25 l0 x4_1).f2)) ∧ w55.cell? ⟨(ad499.add ((x4_1).toNat * 6)).block, (ad499.add ((x4_1).toNat * 6)).off + 3, none⟩ = some (.int .i64 ((rd_T25 l0 x4_1).f3)) ∧ w55.cell? ⟨(ad499.add ((x4_1).toNat * 6)).block, (ad499.add ((x4_1).toNat * 6)).off + 4, none⟩ = some (.string ((rd_T25 l0 x4_1).f4)) ∧ w55.cell? ⟨(ad499.add ((x4_1).toNat * 6)).block, (ad499.add ((x4_1).toNat * 6)).off + 5, none⟩ = some (.string ((rd_T25 l0 x4_1).f5)) := hS_
              (try clear HR495)
              have HR495 := aS (show Kd.C k25 w55 Ao5 y492.length y492 from by rw [Ny492.out]; exact Kd.C_take (m := (x5_2 : Int).toNat) ((Kd.R_reads' HO_3.out).2.2) KL48.out)
              (try clear HR509)
              have HR509 := aS (show Kd.C k25 w55 A49 y506.length y506 from by rw [Ny506.out, KA49.out]; exact Kd.C_drop (m := (x5_2 : Int).toNat) (c := co5) ((Kd.R_reads' HO_3.out).2.2) KL49.out ((Kd.R_reads' HO_3.out).2.1))
              obtain ⟨Ao57, co57, eo57⟩ := Kd.R_slice HO502.out
              (first | subst eo57 | (injection eo57 with f1_ f2_ f3_; have f4_ := f1_.symm; have f5_ := f3_.symm; clear f1_ f2_ f3_; subst f4_; subst f5_))
              refine norm_ (a' := ?_) ?_ ?_
              rotate_left
              ·simp only [putAll, Act.put, List.setIfInBounds_toArray, List.set_cons_zero, List.set_cons_succ]
               rfl
              refine one_ (i := 10) (N := some 41) (tf 14 2) rfl rfl (one_of HT_.out jK) (by decide) (fun K hK => ?_)
              refine Kd.R_append_rows_step k25 (w0 := w) w.heap.size (by rfl) (.tmp 35) (.tmp 40) 36 25 (.agg #[(.string ⟨#[]⟩), (.int .i64 0), (.int .i64 0), (.int .i64 0), (.string ⟨#[]⟩), (.string ⟨#[]⟩)]) 72 rfl Tryd.underlying36 info25 rfl (by decide) (by omega) v497 y496 y500 _ _ _ (fun k_ => some k_ ≠ (.slice Ao5 x3_1.length co5 : Value).ownBlock ∧ some k_ ≠ (.slice Ao57 y500.length co57 : Value).ownBlock) (fun _ => False) rfl rfl ?aO ?aR (fun _ _ h => h) (fun _ h => h.elim) ?aF ?aB ?aS ?aL ?_
              (case aR => exact cU ((Kd.R_reads' HO502.out).2.2))
              (case aB => exact (wU HB.out))
              (case aF => exact (fun k_ hk => ⟨Kd.fresh' (Kd.R_lt (rU HO_3.out)) k_ hk, Kd.fresh' (Kd.R_lt (rU HO502.out)) k_ hk⟩))
              (case aO => exact (by (with_reducible repeat (first | apply Kd.R_alloc | apply Kd.R_drewN | apply Kd.R_drew)); exact Kd.R_mono HO498.out (fun _ hk => ⟨hk.2, hk.1⟩)))
              (case aS => exact (below_size (wU HB.out)))
              (case aL => have := LMc42.out; omega)
              intro v504 w56 ho hb hg hat
              rw [← Ny503.out] at ho
              replace HO502 := aS (Kd.R_after (ok := (fun k_ => some k_ ≠ (.slice Ao5 x3_1.length co5 : Value).ownBlock)) (by (with_reducible repeat (first | apply Kd.R_alloc | apply Kd.R_drewN | apply Kd.R_drew)); exact Kd.R_mono HO502.out (fun _ hk => ⟨hk.2, hk.1⟩)) hg hat)
              replace HB := aS (hb)
              replace HR495 := aS ((show Kd.C k25 w56 Ao5 y492.length y492 from by rw [Ny492.out]; exact Kd.C_take (m := (x5_2 : Int).toNat) ((Kd.R_reads' (Kd.R_after (ok := (fun k_ => some k_ ≠ (.slice Ao57 y500.length co57 : Value).ownBlock)) (by (with_reducible repeat (first | apply Kd.R_alloc | apply Kd.R_drewN | apply Kd.R_drew)); exact Kd.R_mono HO_3.out (fun _ hk => ⟨hk.2, hk.1⟩)) hg hat)).2.2) KL48.out))
              replace HR509 := aS ((show Kd.C k25 w56 A49 y506.length y506 from by rw [Ny506.out, KA49.out]; exact Kd.C_drop (m := (x5_2 : Int).toNat) (c := co5) ((Kd.R_reads' (Kd.R_after (ok := (fun k_ => some k_ ≠ (.slice Ao57 y500.length co57 : Value).ownBlock)) (by (with_reducible repeat (first | apply Kd.R_alloc | apply Kd.R_drewN | apply Kd.R_drew)); exact Kd.R_mono HO_3.out (fun _ hk => ⟨hk.2, hk.1⟩)) hg hat)).2.2) KL49.out ((Kd.R_reads' (Kd.R_after (ok := (fun k_ => some k_ ≠ (.slice Ao57 y500.length co57 : Value).ownBlock)) (by (with_reducible repeat (first | apply Kd.R_alloc | apply Kd.R_drewN | apply Kd.R_drew)); exact Kd.R_mono HO_3.out (fun _ hk => ⟨hk.2, hk.1⟩)) hg hat)).2.1)))
              replace HO_3 := aS (Kd.R_after (ok := (fun k_ => some k_ ≠ (.slice Ao57 y500.length co57 : Value).ownBlock)) (by (with_reducible repeat (first | apply Kd.R_alloc | apply Kd.R_drewN | apply Kd.R_drew)); exact Kd.R_mono HO_3.out (fun _ hk => ⟨hk.2, hk.1⟩)) hg hat)
              have HO505 := aS (ho)
              clear HO498
              clear ho hb hg hat
              refine hK.out _ _ ⟨((HB.out.cell (World.block_lt_of_cell? w _ hw499_0)).trans hw499_0), ((HB.out.cell (World.block_lt_of_cell? w _ hw499_1)).trans hw499_1), ((HB.out.cell (World.block_lt_of_cell? w _ hw499_2)).trans hw499_2), ((HB.out.cell (World.block_lt_of_cell? w _ hw499_3)).trans hw499_3), ((HB.out.cell (World.block_lt_of_cell? w _ hw499_4)).trans hw499_4), ((HB.out.cell (World.block_lt_of_cell? w _ hw499_5)).trans hw499_5)⟩ (fun hHeld => ?_)
              clear hK K
              refine nA (some 41) ?_
              refine one_ (i := 14) (N := some 45) (tf 15 1) rfl rfl (one_of HT_.out jK) (by decide) (fun K hK => ?_)
              refine Kd.R_append_rows_step k25 (w0 := w) w.heap.size (by rfl) (.tmp 41) (.tmp 44) 36 25 (.agg #[(.string ⟨#[]⟩), (.int .i64 0), (.int .i64 0), (.int .i64 0), (.string ⟨#[]⟩), (.string ⟨#[]⟩)]) 72 rfl Tryd.underlying36 info25 rfl (by decide) (by omega) v504 y503 y506 _ _ _ (fun k_ => some k_ ≠ (.slice Ao5 x3_1.length co5 : Value).ownBlock ∧ some k_ ≠ (.slice Ao57 y500.length co57 : Value).ownBlock) (fun _ => False) rfl rfl ?aO ?aR (fun _ _ h => h) (fun _ h => h.elim) ?aF ?aB ?aS ?aL ?_
              (case aR => repeat (first | exact (by repeat (first | (with_reducible exact HR509.out) | (with_reducible refine Kd.C_alloc ?_ _) | (with_reducible refine Kd.C_drewN ?_ _) | (with_reducible refine Kd.C_drew ?_) | exact HR509.out)) | (with_reducible refine Kd.C_alloc ?_ _) | (with_reducible refine Kd.C_drewN ?_ _) | (with_reducible refine Kd.C_drew ?_)))
              (case aB => exact (wU HB.out))
              (case aF => exact (fun k_ hk => ⟨Kd.fresh' (Kd.R_lt (rU HO_3.out)) k_ hk, Kd.fresh' (Kd.R_lt (rU HO502.out)) k_ hk⟩))
              (case aO => exact (rU HO505.out))
              (case aS => exact (below_size (wU HB.out)))
              (case aL => have := LMc45.out; omega)
              intro v511 w58 ho hb hg hat
              rw [← Ny510.out] at ho
              replace HO502 := aS (Kd.R_after (ok := (fun k_ => some k_ ≠ (.slice Ao5 x3_1.length co5 : Value).ownBlock)) (rU HO502.out) hg hat)
              replace HB := aS (hb)
              replace HR495 := aS ((show Kd.C k25 w58 Ao5 y492.length y492 from by rw [Ny492.out]; exact Kd.C_take (m := (x5_2 : Int).toNat) ((Kd.R_reads' (Kd.R_after (ok := (fun k_ => some k_ ≠ (.slice Ao57 y500.length co57 : Value).ownBlock)) (rU HO_3.out) hg hat)).2.2) KL48.out))
              replace HR509 := aS ((show Kd.C k25 w58 A49 y506.length y506 from by rw [Ny506.out, KA49.out]; exact Kd.C_drop (m := (x5_2 : Int).toNat) (c := co5) ((Kd.R_reads' (Kd.R_after (ok := (fun k_ => some k_ ≠ (.slice Ao57 y500.length co57 : Value).ownBlock)) (rU HO_3.out) hg hat)).2.2) KL49.out ((Kd.R_reads' (Kd.R_after (ok := (fun k_ => some k_ ≠ (.slice Ao57 y500.length co57 : Value).ownBlock)) (rU HO_3.out) hg hat)).2.1)))
              replace HO_3 := aS (Kd.R_after (ok := (fun k_ => some k_ ≠ (.slice Ao57 y500.length co57 : Value).ownBlock)) (rU HO_3.out) hg hat)
              have HO512 := aS (ho)
              clear HO505
              clear ho hb hg hat
              refine hK.out _ _ ⟨((HB.out.cell (World.block_lt_of_cell? w _ hw499_0)).trans hw499_0), ((HB.out.cell (World.block_lt_of_cell? w _ hw499_1)).trans hw499_1), ((HB.out.cell (World.block_lt_of_cell? w _ hw499_2)).trans hw499_2), ((HB.out.cell (World.block_lt_of_cell? w _ hw499_3)).trans hw499_3), ((HB.out.cell (World.block_lt_of_cell? w _ hw499_4)).trans hw499_4), ((HB.out.cell (World.block_lt_of_cell? w _ hw499_5)).trans hw499_5)⟩ (fun hHeld => ?_)
              clear hK K
              refine nA (some 45) ?_
              refine pA HT_ 15 (some 3) (tf 16 0) ?_
              refine done_ (done_of HT_.out jK) ?_
              try go_wp2
              go_roundg k2
              case measure => have := HK1.out; have := HK2.out; omega
              case rel => exact ⟨(y510), (wrap64 (x4_1 + 1)), jB, H', ⟨by have := HK1.out; have := HK2.out; omega⟩, ⟨Kd.R_mono (rU HO512.out) (fun _ hk => trivial)⟩, ⟨by exact wU HB.out⟩⟩
             ·rw [if_neg c45] at H
              exact absurd H (by simp)
            ·rw [if_neg c42] at H
             exact absurd H (by simp)
           ·rw [if_neg c41] at H
            exact absurd H (by simp)
          ·rw [if_neg c40] at H
           exact absurd H (by simp)
         ·rw [if_neg c39] at H
          exact absurd H (by simp)
        ·rw [if_neg c38] at H
         exact absurd H (by simp)
       ·rw [if_neg c37] at H
        exact absurd H (by simp)
   ·rw [if_neg c4] at H
    have c4b0 := decide_eq_false c4
    clear c4
    obtain rfl := Option.some.inj H
    go_wp2
    go_ret
    exact ⟨_, jE, by exact rU HO_3.out, by exact wU HB.out⟩

end Go.Proofs.YtdigilidomimdaaDoor.Pr
