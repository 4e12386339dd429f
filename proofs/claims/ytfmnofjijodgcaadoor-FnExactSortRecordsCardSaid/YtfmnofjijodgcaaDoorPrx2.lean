-- Written for this claim by a program of this session (wip/tool/pr.py, over the kit's printer).
-- half
import Derived.Test.YtfmnofjijodgcaaDoorPrx0
import Derived.Test.YtfmnofjijodgcaaDoorPrx1
namespace Go.Proofs.YtfmnofjijodgcaaDoor.Pr
open Go.RowKit Go.Proofs.YtfmnofjijodgcaaDoorW.PrintWords Go.Proofs.YtfmnofjijodgcaaDoorW.PrintLast Go.Proofs.YtfmnofjijodgcaaDoorW.PrintMore
attribute [local go_sem] max2_int min2_int max_two min_two max_three min_three max_four min_four   -- for this text's walks alone
set_option linter.unusedVariables false
set_option linter.unusedSimpArgs false

/-! ### spec_SortRecords: function 33 -/
mutual
def spec_SortRecords.l0 : Nat → List (S33) → List (S33) → Int → Option ((List (S33)))
 | 0, _, _, _ => none
 | k + 1, x0, x3, x4 => if x4 < (x0.length : Int) then (spec_SortRecords.l1 k x0 x3 x4 (x3.length : Int)) else (some x3)
def spec_SortRecords.l1 : Nat → List (S33) → List (S33) → Int → Int → Option ((List (S33)))
 | 0, _, _, _, _ => none
 | k + 1, x0, x3, x4, x5 => if x5 > 0 then (if 0 ≤ x4 then (if x4 < (x0.length : Int) then (if 0 ≤ (wrap64 (x5 - 1)) then (if (wrap64 (x5 - 1)) < (x3.length : Int) then ((spec_LessRecord.f k ((rd_T33 x0 x4).f0) ((rd_T33 x0 x4).f1) ((rd_T33 x0 x4).f2) ((rd_T33 x0 x4).f3) ((rd_T33 x0 x4).f4) ((rd_T33 x0 x4).f5) ((rd_T33 x3 (wrap64 (x5 - 1))).f0) ((rd_T33 x3 (wrap64 (x5 - 1))).f1) ((rd_T33 x3 (wrap64 (x5 - 1))).f2) ((rd_T33 x3 (wrap64 (x5 - 1))).f3) ((rd_T33 x3 (wrap64 (x5 - 1))).f4) ((rd_T33 x3 (wrap64 (x5 - 1))).f5)).bind fun t130 => (if t130 = true then (spec_SortRecords.l1 k x0 x3 x4 (wrap64 (x5 - 1))) else ((some (([] : List (S33)) : List (S33))).bind fun y131 => (if 0 ≤ x5 then (if x5 ≤ (x3.length : Int) then ((some (x3.take (x5 : Int).toNat : List (S33))).bind fun y134 => (if y131.length + y134.length < 1954687338268 then ((some (y131 ++ y134 : List (S33))).bind fun y138 => ((some (([(⟨(rd_T33 x0 x4).f0, (rd_T33 x0 x4).f1, (rd_T33 x0 x4).f2, (rd_T33 x0 x4).f3, (rd_T33 x0 x4).f4, (rd_T33 x0 x4).f5⟩ : S33)] : List (S33)) : List (S33))).bind fun y142 => (if y138.length + y142.length < 1954687338268 then ((some (y138 ++ y142 : List (S33))).bind fun y145 => ((some (x3.drop (x5 : Int).toNat : List (S33))).bind fun y148 => (if y145.length + y148.length < 1954687338268 then (spec_SortRecords.l0 k x0 (y145 ++ y148) (wrap64 (x4 + 1))) else (none)))) else (none)))) else (none))) else (none)) else (none))))) else (none)) else (none)) else (none)) else (none)) else ((some (([] : List (S33)) : List (S33))).bind fun y155 => (if 0 ≤ x5 then (if x5 ≤ (x3.length : Int) then ((some (x3.take (x5 : Int).toNat : List (S33))).bind fun y158 => (if y155.length + y158.length < 1954687338268 then ((some (y155 ++ y158 : List (S33))).bind fun y162 => (if 0 ≤ x4 then (if x4 < (x0.length : Int) then ((some (([(⟨(rd_T33 x0 x4).f0, (rd_T33 x0 x4).f1, (rd_T33 x0 x4).f2, (rd_T33 x0 x4).f3, (rd_T33 x0 x4).f4, (rd_T33 x0 x4).f5⟩ : S33)] : List (S33)) : List (S33))).bind fun y166 => (if y162.length + y166.length < 1954687338268 then ((some (y162 ++ y166 : List (S33))).bind fun y169 => ((some (x3.drop (x5 : Int).toNat : List (S33))).bind fun y172 => (if y169.length + y172.length < 1954687338268 then (spec_SortRecords.l0 k x0 (y169 ++ y172) (wrap64 (x4 + 1))) else (none)))) else (none))) else (none)) else (none))) else (none))) else (none)) else (none)))
end
def spec_SortRecords.f (k : Nat) (l0 : List (S33)) : Option ((List (S33))) := spec_SortRecords.l0 k l0 (([] : List (S33))) 0
theorem spec_SortRecords.mono_l : ∀ k, (∀ y0 y1 y2, LeO (spec_SortRecords.l0 k y0 y1 y2) (spec_SortRecords.l0 (k + 1) y0 y1 y2)) ∧ (∀ y0 y1 y2 y3, LeO (spec_SortRecords.l1 k y0 y1 y2 y3) (spec_SortRecords.l1 (k + 1) y0 y1 y2 y3))
 | 0 => ⟨fun _ _ _ r h => by simp [spec_SortRecords.l0] at h, fun _ _ _ _ r h => by simp [spec_SortRecords.l1] at h⟩
 | k + 1 => by
  obtain ⟨ih0, ih1⟩ := spec_SortRecords.mono_l k
  refine ⟨?_, ?_⟩
  ·intro y0 y1 y2
   unfold spec_SortRecords.l0
   repeat' first
   | (with_reducible first | exact ih0 _ _ _ | exact ih1 _ _ _ _ | exact spec_LessRecord.mono _ _ _ _ _ _ _ _ _ _ _ _ _ | exact LeO.refl _ | exact LeO.none _ | refine LeO.ite ?_ ?_ | refine LeO.bind ?_ (fun _ => ?_))
   | exact ih0 _ _ _
   | exact ih1 _ _ _ _
   | exact spec_LessRecord.mono _ _ _ _ _ _ _ _ _ _ _ _ _
   | exact LeO.none _
   | refine LeO.ite ?_ ?_
   | refine LeO.bind ?_ (fun _ => ?_)
  ·intro y0 y1 y2 y3
   unfold spec_SortRecords.l1
   repeat' first
   | (with_reducible first | exact ih0 _ _ _ | exact ih1 _ _ _ _ | exact spec_LessRecord.mono _ _ _ _ _ _ _ _ _ _ _ _ _ | exact LeO.refl _ | exact LeO.none _ | refine LeO.ite ?_ ?_ | refine LeO.bind ?_ (fun _ => ?_))
   | exact ih0 _ _ _
   | exact ih1 _ _ _ _
   | exact spec_LessRecord.mono _ _ _ _ _ _ _ _ _ _ _ _ _
   | exact LeO.none _
   | refine LeO.ite ?_ ?_
   | refine LeO.bind ?_ (fun _ => ?_)
theorem spec_SortRecords.mono : ∀ a0 k, LeO (spec_SortRecords.f k a0) (spec_SortRecords.f (k + 1) a0) := by
 intro a0 k
 obtain ⟨ih0, ih1⟩ := spec_SortRecords.mono_l k
 unfold spec_SortRecords.f
 repeat' first
   | (with_reducible first | exact ih0 _ _ _ | exact ih1 _ _ _ _ | exact spec_LessRecord.mono _ _ _ _ _ _ _ _ _ _ _ _ _ | exact LeO.refl _ | exact LeO.none _ | refine LeO.ite ?_ ?_ | refine LeO.bind ?_ (fun _ => ?_))
   | exact ih0 _ _ _
   | exact ih1 _ _ _ _
   | exact spec_LessRecord.mono _ _ _ _ _ _ _ _ _ _ _ _ _
   | exact LeO.none _
   | refine LeO.ite ?_ ?_
   | refine LeO.bind ?_ (fun _ => ?_)
def spec_SortRecords.T6 : Bool × List (List Nat × List Nat) := (true, [([], []), ([0], [0]), ([1], [1]), ([2], [2]), ([2], [2]), ([3, 4, 2], [2, 3, 4]), ([5, 2], [2, 5]), ([2], [2]), ([2], [2]), ([8, 2], [2, 8]), ([7, 9, 2], [2, 7, 9]), ([10, 2], [2, 10]), ([6, 11, 2, 2], [2, 6, 11]), ([2, 12], [2, 12])])
def spec_SortRecords.B6 : List Nat := [0, 1, 3, 7, 7, 31, 63, 7, 7, 263, 903, 1927, 4095, 8191]
theorem spec_SortRecords.tab6 : rtab .any (opsOf Tryd.f33 6) = spec_SortRecords.T6 := by kernel_rfl
theorem spec_SortRecords.bits6 : waitsOk spec_SortRecords.T6.2 spec_SortRecords.B6 = true := by kernel_rfl
def spec_SortRecords.T8 : Bool × List (List Nat × List Nat) := (true, [([], []), ([], []), ([], []), ([1, 2], [1, 2]), ([0, 3], [0, 3]), ([], []), ([], []), ([5, 6], [5, 6]), ([7], [7]), ([8], [8]), ([4, 9, 4], [4, 9]), ([], []), ([], []), ([11, 12], [11, 12]), ([10, 13, 10], [10, 13]), ([14, 14, 0, 1, 2, 3, 4, 5, 6, 7, 8, 9, 10, 11, 12, 13, 14], [1, 11, 14])])
def spec_SortRecords.B8 : List Nat := [0, 0, 0, 6, 15, 0, 0, 96, 224, 480, 1023, 0, 0, 6144, 16383, 32767]
theorem spec_SortRecords.tab8 : rtab .any (opsOf Tryd.f33 8) = spec_SortRecords.T8 := by kernel_rfl
theorem spec_SortRecords.bits8 : waitsOk spec_SortRecords.T8.2 spec_SortRecords.B8 = true := by kernel_rfl
set_option maxHeartbeats 8000000 in
set_option maxRecDepth 100000 in
theorem spec_SortRecords.calls (k : Nat) (A0 : Option Addr) (c0 : Nat) (l0 : List (S33)) (r : List (S33)) (w : World) (hr0 : Kd.C k33 w A0 l0.length l0) (hc0 : l0.length ≤ c0) (h : spec_SortRecords.f k l0 = some r) :
  Calls Tryd.prog 33 #[.slice A0 l0.length c0] w fun e w' => ∃ v0_ : Value, e = .returned (v0_) ∧ Kd.R k33 33 w' w.heap.size (fun _ => True) v0_ r ∧ Below w.heap.size w w' := by
 have hu33 := Tryd.underlying33
 have HR0 := aS hr0
 have HC0 := aS hc0
 clear hr0 hc0
 have HB := aS (Below.refl w.heap.size w)
 have H : (spec_SortRecords.l0 k l0 (([] : List (S33))) 0) = some r := h
 clear h
 obtain ⟨y125, hy_⟩ : ∃ y_ : List (S33), y_ = (([] : List (S33))) := ⟨_, rfl⟩
 replace H : (spec_SortRecords.l0 k l0 y125 0) = some r := jD
 have Ny125 := aS hy_
 clear hy_
 have H' := aS H
 clear H
 go_enter Tryd.func33, Tryd.ntmps33
 go_wp2_with (first | ((with_reducible refine gate_dst (N := 6) rfl ?_); refine Kd.R_lit k33 _ 33 ?hg (N := 6) ?hd (xs := ([] : List (S33))) (inner := []) (ok := fun _ => True) (okp := fun _ => True) ?hr ?hp (fun _ hk => hk) trivial (Below.refl _ _) (Nat.le_refl _) (by simp) ?_; (case hd => rfl); (case hg => rfl); (case hr => first | (go_simp; done) | (go_simp; rfl)); (case hp => exact (Reps.none _ _)); intro v126 w2 ho3 hb hg_ hnew_; clear hg_ hnew_; (first | rw [← Ny125.out] at ho3 | (simp only [Int.reduceToNat] at ho3; rw [← Ny125.out] at ho3)); have HO127 := aS (Kd.R_lower ho3 (below_size (wU HB.out))); replace HB := aS (below_step (wU HB.out) hb); clear hb ho3))
 go_loopg [3, 4] k (fun kq v3 v4 w' => ∃ (x3_1 : List (S33)) (x4_1 : Int), v4 = .int .i64 x4_1 ∧ Aside0 (spec_SortRecords.l0 kq l0 x3_1 x4_1 = some r) ∧ Aside0 (kq ≤ k) ∧ Aside0 (Kd.R k33 33 w' w.heap.size (fun _ => True) v3 x3_1) ∧ Aside0 (Below w.heap.size w w'))
 case atStart => exact ⟨(y125), (0), jB, H', ⟨Nat.le_refl _⟩, ⟨by exact rU HO127.out⟩, ⟨by exact wU HB.out⟩⟩
 case round =>
  clear H'
  try clear p2
  try clear c3
  obtain ⟨x3_1, x4_1, rfl, HA, HK1, HO_3, HB⟩ := hrel
  cases gk with
  | zero => exact absurd HA.out (by simp [spec_SortRecords.l0])
  | succ k1 =>
   have H := HA.out
   clear HA
   simp only [spec_SortRecords.l0] at H
   by_cases c4 : x4_1 < (l0.length : Int)
   ·rw [if_pos c4] at H
    have c4b0 := decide_eq_true c4
    clear c4
    have H' := aS H
    clear H
    obtain ⟨Ao5, co5, eo5⟩ := Kd.R_slice HO_3.out
    subst eo5
    go_wp2
    go_loopg [5] k1 (fun kq v5 w' => ∃ (x5_2 : Int), v5 = .int .i64 x5_2 ∧ Aside0 (spec_SortRecords.l1 kq l0 x3_1 x4_1 x5_2 = some r) ∧ Aside0 (kq ≤ k1) ∧ Aside0 (Kd.R k33 33 w' w.heap.size (fun _ => True) (.slice Ao5 x3_1.length co5) x3_1) ∧ Aside0 (Below w.heap.size w w'))
    case atStart => exact ⟨((x3_1.length : Int)), jB, H', ⟨Nat.le_refl _⟩, ⟨by exact rU HO_3.out⟩, ⟨by exact wU HB.out⟩⟩
    case round =>
     clear H'
     try clear p2
     try clear c3
     try clear c4
     try clear c4b0
     try clear p2
     obtain ⟨x5_2, rfl, HA, HK2, HO_3, HB⟩ := hrel
     cases gk with
     | zero => exact absurd HA.out (by simp [spec_SortRecords.l1])
     | succ k2 =>
      have H := HA.out
      clear HA
      simp only [spec_SortRecords.l1] at H
      by_cases c6 : x5_2 > 0
      ·rw [if_pos c6] at H
       have c6b0 := decide_eq_true c6
       clear c6
       by_cases c7 : 0 ≤ x4_1
       ·rw [if_pos c7] at H
        have c7b0 := decide_eq_true c7
        clear c7
        by_cases c8 : x4_1 < (l0.length : Int)
        ·rw [if_pos c8] at H
         have c8b0 := decide_eq_true c8
         clear c8
         obtain ⟨ji9, hji9⟩ : ∃ j_ : Int, (wrap64 (x5_2 - 1)) = j_ := ⟨_, rfl⟩
         replace H : (if 0 ≤ (ji9) then (if (ji9) < (x3_1.length : Int) then ((spec_LessRecord.f k2 ((rd_T33 l0 x4_1).f0) ((rd_T33 l0 x4_1).f1) ((rd_T33 l0 x4_1).f2) ((rd_T33 l0 x4_1).f3) ((rd_T33 l0 x4_1).f4) ((rd_T33 l0 x4_1).f5) ((rd_T33 x3_1 (ji9)).f0) ((rd_T33 x3_1 (ji9)).f1) ((rd_T33 x3_1 (ji9)).f2) ((rd_T33 x3_1 (ji9)).f3) ((rd_T33 x3_1 (ji9)).f4) ((rd_T33 x3_1 (ji9)).f5)).bind fun t130 => (if t130 = true then (spec_SortRecords.l1 k2 l0 x3_1 x4_1 ji9) else ((some (([] : List (S33)) : List (S33))).bind fun y131 => (if 0 ≤ x5_2 then (if x5_2 ≤ (x3_1.length : Int) then ((some (x3_1.take (x5_2 : Int).toNat : List (S33))).bind fun y134 => (if y131.length + y134.length < 1954687338268 then ((some (y131 ++ y134 : List (S33))).bind fun y138 => ((some (([(⟨(rd_T33 l0 x4_1).f0, (rd_T33 l0 x4_1).f1, (rd_T33 l0 x4_1).f2, (rd_T33 l0 x4_1).f3, (rd_T33 l0 x4_1).f4, (rd_T33 l0 x4_1).f5⟩ : S33)] : List (S33)) : List (S33))).bind fun y142 => (if y138.length + y142.length < 1954687338268 then ((some (y138 ++ y142 : List (S33))).bind fun y145 => ((some (x3_1.drop (x5_2 : Int).toNat : List (S33))).bind fun y148 => (if y145.length + y148.length < 1954687338268 then (spec_SortRecords.l0 k2 l0 (y145 ++ y148) (wrap64 (x4_1 + 1))) else (none)))) else (none)))) else (none))) else (none)) else (none))))) else (none)) else (none)) = some r := by first | (rw [hji9] at H; exact H) | (simp only [hji9] at H ⊢; exact H)
         have hji9w : (IntKind.i64.wrap (x5_2 - 1)) = ji9 := (i64_w _).trans hji9
         by_cases c10 : 0 ≤ (ji9)
         ·rw [if_pos c10] at H
          have c10b0 := decide_eq_true c10
          clear c10
          by_cases c11 : (ji9) < (x3_1.length : Int)
          ·rw [if_pos c11] at H
           have c11b0 := decide_eq_true c11
           clear c11
           obtain ⟨t130, A12, H⟩ := bM H
           try dsimp only at H
           by_cases c13 : t130 = true
           ·subst c13
            rw [if_pos rfl] at H
            have H' := aS H
            clear H
            try go_wp2
            replace HO_3 := aS (Kd.R_drew HO_3.out)
            replace HB := aS (below_drew1 HB.out)
            have p128 : 0 ≤ (x4_1 : Int) := of_decide_eq_true jC
            have q128 : x4_1 < (l0.length : Int) := of_decide_eq_true jC
            obtain ⟨ad128, e128, hx128_0, hx128_1, hx128_2, hx128_3, hx128_4, hx128_5⟩ := at_T33 HR0.out x4_1 p128 q128
            have hw128_5 := hx128_5
            have hw128_4 := hx128_4
            have hw128_3 := hx128_3
            have hw128_2 := hx128_2
            have hw128_1 := hx128_1
            have hw128_0 := hx128_0
            cases e128
            try replace hx128_0 := (HB.out.cell (World.block_lt_of_cell? w _ hx128_0)).trans hx128_0
            try replace hx128_1 := (HB.out.cell (World.block_lt_of_cell? w _ hx128_1)).trans hx128_1
            try replace hx128_2 := (HB.out.cell (World.block_lt_of_cell? w _ hx128_2)).trans hx128_2
            try replace hx128_3 := (HB.out.cell (World.block_lt_of_cell? w _ hx128_3)).trans hx128_3
            try replace hx128_4 := (HB.out.cell (World.block_lt_of_cell? w _ hx128_4)).trans hx128_4
            try replace hx128_5 := (HB.out.cell (World.block_lt_of_cell? w _ hx128_5)).trans hx128_5
            replace p128 := eq_true p128
            replace q128 := eq_true q128
            have p129 : 0 ≤ ((ji9) : Int) := of_decide_eq_true jC
            have q129 : (ji9) < (x3_1.length : Int) := of_decide_eq_true jC
            obtain ⟨ad129, e129, hx129_0, hx129_1, hx129_2, hx129_3, hx129_4, hx129_5⟩ := at_T33 (Kd.R_reads' HO_3.out).2.2 (ji9) p129 q129
            cases e129
            replace p129 := eq_true p129
            replace q129 := eq_true q129
            refine start_ (n := 14) (S := fun w' => w'.cell? (ad128.add ((x4_1).toNat * 6)) = some (.string ((rd_T33 l0 x4_1).f0)) ∧ w'.cell? ⟨(ad128.add ((x4_1).toNat * 6)).block, (ad128.add ((x4_1).toNat * 6)).off + 1, none⟩ = some (.int .i64 ((rd_T33 l0 x4_1).f1)) ∧ w'.cell? ⟨(ad128.add ((x4_1).toNat * 6)).block, (ad128.add ((x4_1).toNat * 6)).off + 2, none⟩ = some (.int .i64 ((rd_T33 l0 x4_1).f2)) ∧ w'.cell? ⟨(ad128.add ((x4_1).toNat * 6)).block, (ad128.add ((x4_1).toNat * 6)).off + 3, none⟩ = some (.int .i64 ((rd_T33 l0 x4_1).f3)) ∧ w'.cell? ⟨(ad128.add ((x4_1).toNat * 6)).block, (ad128.add ((x4_1).toNat * 6)).off + 4, none⟩ = some (.string ((rd_T33 l0 x4_1).f4)) ∧ w'.cell? ⟨(ad128.add ((x4_1).toNat * 6)).block, (ad128.add ((x4_1).toNat * 6)).off + 5, none⟩ = some (.string ((rd_T33 l0 x4_1).f5)) ∧ w'.cell? (ad129.add (((ji9)).toNat * 6)) = some (.string ((rd_T33 x3_1 (ji9)).f0)) ∧ w'.cell? ⟨(ad129.add (((ji9)).toNat * 6)).block, (ad129.add (((ji9)).toNat * 6)).off + 1, none⟩ = some (.int .i64 ((rd_T33 x3_1 (ji9)).f1)) ∧ w'.cell? ⟨(ad129.add (((ji9)).toNat * 6)).block, (ad129.add (((ji9)).toNat * 6)).off + 2, none⟩ = some (.int .i64 ((rd_T33 x3_1 (ji9)).f2)) ∧ w'.cell? ⟨(ad129.add (((ji9)).toNat * 6)).block, (ad129.add (((ji9)).toNat * 6)).off + 3, none⟩ = some (.int .i64 ((rd_T33 x3_1 (ji9)).f3)) ∧ w'.cell? ⟨(ad129.add (((ji9)).toNat * 6)).block, (ad129.add (((ji9)).toNat * 6)).off + 4, none⟩ = some (.string ((rd_T33 x3_1 (ji9)).f4)) ∧ w'.cell? ⟨(ad129.add (((ji9)).toNat * 6)).block, (ad129.add (((ji9)).toNat * 6)).off + 5, none⟩ = some (.string ((rd_T33 x3_1 (ji9)).f5))) (ds := []) #[false, false, false, false, false, false, false, false, false, false, false, false, false, false] jK rfl rfl ⟨((HB.out.cell (World.block_lt_of_cell? w _ hw128_0)).trans hw128_0), ((HB.out.cell (World.block_lt_of_cell? w _ hw128_1)).trans hw128_1), ((HB.out.cell (World.block_lt_of_cell? w _ hw128_2)).trans hw128_2), ((HB.out.cell (World.block_lt_of_cell? w _ hw128_3)).trans hw128_3), ((HB.out.cell (World.block_lt_of_cell? w _ hw128_4)).trans hw128_4), ((HB.out.cell (World.block_lt_of_cell? w _ hw128_5)).trans hw128_5), hx129_0, hx129_1, hx129_2, hx129_3, hx129_4, hx129_5⟩ (fun hHeld => ?_); refine with_tabW spec_SortRecords.tab6 spec_SortRecords.bits6 (fun HT_ HW_ => ?_)
            generalize wr.drew = w14 at HO_3 HB hx128_0 hx128_1 hx128_2 hx128_3 hx128_4 hx128_5 hx129_0 hx129_1 hx129_2 hx129_3 hx129_4 hx129_5 hHeld ⊢
            refine pure_ (i := 0) (N := some 15) (v := ?_) (a' := ?_) #[true, false, false, false, false, false, false, false, false, false, false, false, false, false] rfl rfl (any_of HT_.out jK) (fun _ _ _ h => h) (Or.inl ⟨by rfl, ?_⟩) ?_ ?_
            rotate_left
            ·intro w'
             go_simp
             with_reducible rfl
            rotate_left
            ·simp only [Act.put, List.setIfInBounds_toArray, List.set_cons_zero, List.set_cons_succ, i64_w, i32_w]
             rfl
            refine pure_ (i := 1) (N := some 16) (v := ?_) (a' := ?_) #[true, true, false, false, false, false, false, false, false, false, false, false, false, false] rfl rfl (any_of HT_.out jK) (fun _ _ _ h => h) (Or.inl ⟨by rfl, ?_⟩) ?_ ?_
            rotate_left
            ·intro w'
             go_simp
             with_reducible rfl
            rotate_left
            ·simp only [Act.put, List.setIfInBounds_toArray, List.set_cons_zero, List.set_cons_succ, i64_w, i32_w]
             rfl
            refine pure_ (i := 2) (N := some 17) (v := ?_) (a' := ?_) #[true, true, true, false, false, false, false, false, false, false, false, false, false, false] rfl rfl (any_of HT_.out jK) (fun _ _ _ h => h) (Or.inl ⟨by rfl, ?_⟩) ?_ ?_
            rotate_left
            ·intro w'
             go_simp
             with_reducible rfl
            rotate_left
            ·simp only [Act.put, List.setIfInBounds_toArray, List.set_cons_zero, List.set_cons_succ, i64_w, i32_w]
             rfl
            refine pure_ (i := 3) (N := some 18) (v := ?_) (a' := ?_) #[true, true, true, true, false, false, false, false, false, false, false, false, false, false] rfl rfl (any_of HT_.out jK) (fun _ _ _ h => h) (Or.inl ⟨by rfl, ?_⟩) ?_ ?_
            rotate_left
            ·intro w'
             go_simp
             with_reducible rfl
            rotate_left
            ·simp only [Act.put, List.setIfInBounds_toArray, List.set_cons_zero, List.set_cons_succ, i64_w, i32_w]
             rfl
            refine pure_ (i := 4) (N := some 19) (v := ?_) (a' := ?_) #[true, true, true, true, true, false, false, false, false, false, false, false, false, false] rfl rfl (any_of HT_.out jK) (fun _ _ _ h => h) (Or.inl ⟨by rfl, ?_⟩) ?_ ?_
            rotate_left
            ·intro w'
             go_simp
             with_reducible rfl
            rotate_left
            ·simp only [Act.put, List.setIfInBounds_toArray, List.set_cons_zero, List.set_cons_succ, i64_w, i32_w]
             rfl
            refine pure_ (i := 5) (N := some 20) (v := ?_) (a' := ?_) #[true, true, true, true, true, true, false, false, false, false, false, false, false, false] rfl rfl (any_of HT_.out jK) (fun _ _ _ h => h) (Or.inl ⟨by rfl, ?_⟩) ?_ ?_
            rotate_left
            ·intro w'
             go_simp
             with_reducible rfl
            rotate_left
            ·simp only [Act.put, List.setIfInBounds_toArray, List.set_cons_zero, List.set_cons_succ, i64_w, i32_w]
             rfl
            refine pure_ (i := 7) (N := some 22) (v := ?_) (a' := ?_) #[true, true, true, true, true, true, false, true, false, false, false, false, false, false] rfl rfl (any_of HT_.out jK) (fun _ _ _ h => h) (Or.inl ⟨by rfl, ?_⟩) ?_ ?_
            rotate_left
            ·intro w'
             go_simp
             with_reducible rfl
            rotate_left
            ·simp only [Act.put, List.setIfInBounds_toArray, List.set_cons_zero, List.set_cons_succ, i64_w, i32_w]
             rfl
            refine pure_ (i := 8) (N := some 23) (v := ?_) (a' := ?_) #[true, true, true, true, true, true, false, true, true, false, false, false, false, false] rfl rfl (any_of HT_.out jK) (fun _ _ _ h => h) (Or.inl ⟨by rfl, ?_⟩) ?_ ?_
            rotate_left
            ·intro w'
             go_simp
             with_reducible rfl
            rotate_left
            ·simp only [Act.put, List.setIfInBounds_toArray, List.set_cons_zero, List.set_cons_succ, i64_w, i32_w]
             rfl
            refine pure_ (i := 9) (N := some 24) (v := ?_) (a' := ?_) #[true, true, true, true, true, true, false, true, true, true, false, false, false, false] rfl rfl (any_of HT_.out jK) (fun _ _ _ h => h) (Or.inl ⟨by rfl, ?_⟩) ?_ ?_
            rotate_left
            ·intro w'
             go_simp
             with_reducible rfl
            rotate_left
            ·simp only [Act.put, List.setIfInBounds_toArray, List.set_cons_zero, List.set_cons_succ, i64_w, i32_w]
             rfl
            refine pure_ (i := 10) (N := some 25) (v := ?_) (a' := ?_) #[true, true, true, true, true, true, false, true, true, true, true, false, false, false] rfl rfl (any_of HT_.out jK) (fun _ _ _ h => h) (Or.inl ⟨by rfl, ?_⟩) ?_ ?_
            rotate_left
            ·intro w'
             go_simp
             with_reducible rfl
            rotate_left
            ·simp only [Act.put, List.setIfInBounds_toArray, List.set_cons_zero, List.set_cons_succ, i64_w, i32_w]
             rfl
            refine take_ (i := 6) (N := some 21) (v := ?_) (a' := ?_) #[true, true, true, true, true, true, true, true, true, true, true, false, false, false] rfl rfl (take_ofW HT_.out HW_.out jK) (fun _ _ _ h => h) (Or.inl ⟨by rfl, ?_⟩) hHeld ?_ ?_
            rotate_left
            ·rintro w' ⟨s0, s1, s2, s3, s4, s5, s6, s7, s8, s9, s10, s11⟩
             go_simp
             with_reducible rfl
            rotate_left
            ·simp only [Act.put, List.setIfInBounds_toArray, List.set_cons_zero, List.set_cons_succ, i64_w, i32_w]
             rfl
            refine take_ (i := 11) (N := some 26) (v := ?_) (a' := ?_) #[true, true, true, true, true, true, true, true, true, true, true, true, false, false] rfl rfl (take_ofW HT_.out HW_.out jK) (fun _ _ _ h => h) (Or.inl ⟨by rfl, ?_⟩) hHeld ?_ ?_
            rotate_left
            ·rintro w' ⟨s0, s1, s2, s3, s4, s5, s6, s7, s8, s9, s10, s11⟩
             go_simp
             with_reducible rfl
            rotate_left
            ·simp only [Act.put, List.setIfInBounds_toArray, List.set_cons_zero, List.set_cons_succ, i64_w, i32_w]
             rfl
            refine one_ (i := 12) (N := some 27) #[true, true, true, true, true, true, true, true, true, true, true, true, true, false] rfl rfl (one_of HT_.out jK) (by decide) (fun K hK => ?_)
            refine goes_ Tryd.func73 jK rfl #[.agg #[.string ((rd_T33 l0 x4_1).f0), .int .i64 ((rd_T33 l0 x4_1).f1), .int .i64 ((rd_T33 l0 x4_1).f2), .int .i64 ((rd_T33 l0 x4_1).f3), .string ((rd_T33 l0 x4_1).f4), .string ((rd_T33 l0 x4_1).f5)], .agg #[.string ((rd_T33 x3_1 (ji9)).f0), .int .i64 ((rd_T33 x3_1 (ji9)).f1), .int .i64 ((rd_T33 x3_1 (ji9)).f2), .int .i64 ((rd_T33 x3_1 (ji9)).f3), .string ((rd_T33 x3_1 (ji9)).f4), .string ((rd_T33 x3_1 (ji9)).f5)]] (by rfl) rfl rfl (by (try simp only [List.map_toArray, List.map_cons, List.map_nil]); first | done | (simp only [hji9]; rfl) | rfl | (simp only [List.length_drop, List.length_take]; rfl)) ?_
            with_reducible refine (spec_LessRecord.calls k2 ((rd_T33 l0 x4_1).f0) ((rd_T33 l0 x4_1).f1) ((rd_T33 l0 x4_1).f2) ((rd_T33 l0 x4_1).f3) ((rd_T33 l0 x4_1).f4) ((rd_T33 l0 x4_1).f5) ((rd_T33 x3_1 (ji9)).f0) ((rd_T33 x3_1 (ji9)).f1) ((rd_T33 x3_1 (ji9)).f2) ((rd_T33 x3_1 (ji9)).f3) ((rd_T33 x3_1 (ji9)).f4) ((rd_T33 x3_1 (ji9)).f5) true _ A12.out).mono ?_
            rintro e w15 ⟨rfl, hb⟩
            have HS6_ := (hb.cell (World.block_lt_of_cell? _ _ (hHeld.2.2.2.2.2.2.1))).trans (hHeld.2.2.2.2.2.2.1)
            have HS7_ := (hb.cell (World.block_lt_of_cell? _ _ (hHeld.2.2.2.2.2.2.2.1))).trans (hHeld.2.2.2.2.2.2.2.1)
            have HS8_ := (hb.cell (World.block_lt_of_cell? _ _ (hHeld.2.2.2.2.2.2.2.2.1))).trans (hHeld.2.2.2.2.2.2.2.2.1)
            have HS9_ := (hb.cell (World.block_lt_of_cell? _ _ (hHeld.2.2.2.2.2.2.2.2.2.1))).trans (hHeld.2.2.2.2.2.2.2.2.2.1)
            have HS10_ := (hb.cell (World.block_lt_of_cell? _ _ (hHeld.2.2.2.2.2.2.2.2.2.2.1))).trans (hHeld.2.2.2.2.2.2.2.2.2.2.1)
            have HS11_ := (hb.cell (World.block_lt_of_cell? _ _ (hHeld.2.2.2.2.2.2.2.2.2.2.2))).trans (hHeld.2.2.2.2.2.2.2.2.2.2.2)
            refine ⟨_, rfl, ?_⟩
            replace HO_3 := aS (Kd.R_below (rU HO_3.out) hb)
            replace HB := aS (below_step (wU HB.out) hb)
            (try clear hb)
            (try clear hb2)
            (try clear hk)
            (try clear hi)
            refine hK.out _ _ ⟨((HB.out.cell (World.block_lt_of_cell? w _ hw128_0)).trans hw128_0), ((HB.out.cell (World.block_lt_of_cell? w _ hw128_1)).trans hw128_1), ((HB.out.cell (World.block_lt_of_cell? w _ hw128_2)).trans hw128_2), ((HB.out.cell (World.block_lt_of_cell? w _ hw128_3)).trans hw128_3), ((HB.out.cell (World.block_lt_of_cell? w _ hw128_4)).trans hw128_4), ((HB.out.cell (World.block_lt_of_cell? w _ hw128_5)).trans hw128_5), HS6_, HS7_, HS8_, HS9_, HS10_, HS11_⟩ (fun hHeld => ?_)
            clear hK K
            refine norm_ (a' := ?_) ?_ ?_
            rotate_left
            ·show Act.put _ (some 27) _ = _
             simp only [Act.put, List.setIfInBounds_toArray, List.set_cons_zero, List.set_cons_succ, i64_w, i32_w]
             rfl
            refine pure_ (i := 13) (N := some 28) (v := ?_) (a' := ?_) #[true, true, true, true, true, true, true, true, true, true, true, true, true, true] rfl rfl (any_of HT_.out jK) (fun _ _ _ h => h) (Or.inl ⟨by rfl, ?_⟩) ?_ ?_
            rotate_left
            ·intro w'
             go_simp
             with_reducible rfl
            rotate_left
            ·simp only [Act.put, List.setIfInBounds_toArray, List.set_cons_zero, List.set_cons_succ, i64_w, i32_w]
             rfl
            refine done_ (done_of HT_.out jK) ?_
            try go_wp2
            go_roundg k2
            case measure => have := HK1.out; have := HK2.out; omega
            case rel => exact ⟨(ji9), (by first | rfl | (simp; done) | (simp only [← hji9] <;> (first | rfl | simp)) | (simp [*]; done)), H', ⟨by have := HK1.out; have := HK2.out; omega⟩, ⟨by exact rU HO_3.out⟩, ⟨by exact wU HB.out⟩⟩
           ·replace c13 := Bool.eq_false_iff.mpr c13
            subst c13
            rw [if_neg Bool.false_ne_true] at H
            obtain ⟨y131, hy_⟩ : ∃ y_ : List (S33), y_ = (([] : List (S33))) := ⟨_, rfl⟩
            replace H : (if 0 ≤ x5_2 then (if x5_2 ≤ (x3_1.length : Int) then ((some (x3_1.take (x5_2 : Int).toNat : List (S33))).bind fun y134 => (if y131.length + y134.length < 1954687338268 then ((some (y131 ++ y134 : List (S33))).bind fun y138 => ((some (([(⟨(rd_T33 l0 x4_1).f0, (rd_T33 l0 x4_1).f1, (rd_T33 l0 x4_1).f2, (rd_T33 l0 x4_1).f3, (rd_T33 l0 x4_1).f4, (rd_T33 l0 x4_1).f5⟩ : S33)] : List (S33)) : List (S33))).bind fun y142 => (if y138.length + y142.length < 1954687338268 then ((some (y138 ++ y142 : List (S33))).bind fun y145 => ((some (x3_1.drop (x5_2 : Int).toNat : List (S33))).bind fun y148 => (if y145.length + y148.length < 1954687338268 then (spec_SortRecords.l0 k2 l0 (y145 ++ y148) (wrap64 (x4_1 + 1))) else (none)))) else (none)))) else (none))) else (none)) else (none)) = some r := jD
            have Ny131 := aS hy_
            clear hy_
            by_cases c16 : 0 ≤ x5_2
            ·rw [if_pos c16] at H
             have c16b0 := eq_true c16
             have c16b1 := decide_eq_true c16
             clear c16
             by_cases c17 : x5_2 ≤ (x3_1.length : Int)
             ·rw [if_pos c17] at H
              have c17b0 := eq_true c17
              have c17b1 := decide_eq_true c17
              clear c17
              obtain ⟨y134, hy_⟩ : ∃ y_ : List (S33), y_ = (x3_1.take (x5_2 : Int).toNat) := ⟨_, rfl⟩
              replace H : (if y131.length + y134.length < 1954687338268 then ((some (y131 ++ y134 : List (S33))).bind fun y138 => ((some (([(⟨(rd_T33 l0 x4_1).f0, (rd_T33 l0 x4_1).f1, (rd_T33 l0 x4_1).f2, (rd_T33 l0 x4_1).f3, (rd_T33 l0 x4_1).f4, (rd_T33 l0 x4_1).f5⟩ : S33)] : List (S33)) : List (S33))).bind fun y142 => (if y138.length + y142.length < 1954687338268 then ((some (y138 ++ y142 : List (S33))).bind fun y145 => ((some (x3_1.drop (x5_2 : Int).toNat : List (S33))).bind fun y148 => (if y145.length + y148.length < 1954687338268 then (spec_SortRecords.l0 k2 l0 (y145 ++ y148) (wrap64 (x4_1 + 1))) else (none)))) else (none)))) else (none)) = some r := jD
              have Ny134 := aS hy_
              clear hy_
              by_cases c18 : y131.length + y134.length < 1954687338268
              ·rw [if_pos c18] at H
               have LMc18 := aS c18
               clear c18
               obtain ⟨y138, hy_⟩ : ∃ y_ : List (S33), y_ = (y131 ++ y134) := ⟨_, rfl⟩
               replace H : ((some (([(⟨(rd_T33 l0 x4_1).f0, (rd_T33 l0 x4_1).f1, (rd_T33 l0 x4_1).f2, (rd_T33 l0 x4_1).f3, (rd_T33 l0 x4_1).f4, (rd_T33 l0 x4_1).f5⟩ : S33)] : List (S33)) : List (S33))).bind fun y142 => (if y138.length + y142.length < 1954687338268 then ((some (y138 ++ y142 : List (S33))).bind fun y145 => ((some (x3_1.drop (x5_2 : Int).toNat : List (S33))).bind fun y148 => (if y145.length + y148.length < 1954687338268 then (spec_SortRecords.l0 k2 l0 (y145 ++ y148) (wrap64 (x4_1 + 1))) else (none)))) else (none))) = some r := jD
               have Ny138 := aS hy_
               clear hy_
               obtain ⟨y142, hy_⟩ : ∃ y_ : List (S33), y_ = (([(⟨(rd_T33 l0 x4_1).f0, (rd_T33 l0 x4_1).f1, (rd_T33 l0 x4_1).f2, (rd_T33 l0 x4_1).f3, (rd_T33 l0 x4_1).f4, (rd_T33 l0 x4_1).f5⟩ : S33)] : List (S33))) := ⟨_, rfl⟩
               replace H : (if y138.length + y142.length < 1954687338268 then ((some (y138 ++ y142 : List (S33))).bind fun y145 => ((some (x3_1.drop (x5_2 : Int).toNat : List (S33))).bind fun y148 => (if y145.length + y148.length < 1954687338268 then (spec_SortRecords.l0 k2 l0 (y145 ++ y148) (wrap64 (x4_1 + 1))) else (none)))) else (none)) = some r := jD
               have Ny142 := aS hy_
               clear hy_
               by_cases c19 : y138.length + y142.length < 1954687338268
               ·rw [if_pos c19] at H
                have LMc19 := aS c19
                clear c19
                obtain ⟨y145, hy_⟩ : ∃ y_ : List (S33), y_ = (y138 ++ y142) := ⟨_, rfl⟩
                replace H : ((some (x3_1.drop (x5_2 : Int).toNat : List (S33))).bind fun y148 => (if y145.length + y148.length < 1954687338268 then (spec_SortRecords.l0 k2 l0 (y145 ++ y148) (wrap64 (x4_1 + 1))) else (none))) = some r := jD
                have Ny145 := aS hy_
                clear hy_
                have c20b0 := eq_true (of_decide_eq_true jC : 0 ≤ x5_2)
                have c21b0 := eq_true (of_decide_eq_true jC : x5_2 ≤ (x3_1.length : Int))
                obtain ⟨y148, hy_⟩ : ∃ y_ : List (S33), y_ = (x3_1.drop (x5_2 : Int).toNat) := ⟨_, rfl⟩
                replace H : (if y145.length + y148.length < 1954687338268 then (spec_SortRecords.l0 k2 l0 (y145 ++ y148) (wrap64 (x4_1 + 1))) else (none)) = some r := jD
                have Ny148 := aS hy_
                clear hy_
                by_cases c22 : y145.length + y148.length < 1954687338268
                ·rw [if_pos c22] at H
                 have LMc22 := aS c22
                 clear c22
                 obtain ⟨y152, hy_⟩ : ∃ y_ : List (S33), y_ = (y145 ++ y148) := ⟨_, rfl⟩
                 replace H : (spec_SortRecords.l0 k2 l0 y152 (wrap64 (x4_1 + 1))) = some r := jD
                 have Ny152 := aS hy_
                 clear hy_
                 have H' := aS H
                 clear H
                 try go_wp2
                 replace HO_3 := aS (Kd.R_drew HO_3.out)
                 replace HB := aS (below_drew1 HB.out)
                 have p128 : 0 ≤ (x4_1 : Int) := of_decide_eq_true jC
                 have q128 : x4_1 < (l0.length : Int) := of_decide_eq_true jC
                 obtain ⟨ad128, e128, hx128_0, hx128_1, hx128_2, hx128_3, hx128_4, hx128_5⟩ := at_T33 HR0.out x4_1 p128 q128
                 have hw128_5 := hx128_5
                 have hw128_4 := hx128_4
                 have hw128_3 := hx128_3
                 have hw128_2 := hx128_2
                 have hw128_1 := hx128_1
                 have hw128_0 := hx128_0
                 cases e128
                 try replace hx128_0 := (HB.out.cell (World.block_lt_of_cell? w _ hx128_0)).trans hx128_0
                 try replace hx128_1 := (HB.out.cell (World.block_lt_of_cell? w _ hx128_1)).trans hx128_1
                 try replace hx128_2 := (HB.out.cell (World.block_lt_of_cell? w _ hx128_2)).trans hx128_2
                 try replace hx128_3 := (HB.out.cell (World.block_lt_of_cell? w _ hx128_3)).trans hx128_3
                 try replace hx128_4 := (HB.out.cell (World.block_lt_of_cell? w _ hx128_4)).trans hx128_4
                 try replace hx128_5 := (HB.out.cell (World.block_lt_of_cell? w _ hx128_5)).trans hx128_5
                 replace p128 := eq_true p128
                 replace q128 := eq_true q128
                 have p129 : 0 ≤ ((ji9) : Int) := of_decide_eq_true jC
                 have q129 : (ji9) < (x3_1.length : Int) := of_decide_eq_true jC
                 obtain ⟨ad129, e129, hx129_0, hx129_1, hx129_2, hx129_3, hx129_4, hx129_5⟩ := at_T33 (Kd.R_reads' HO_3.out).2.2 (ji9) p129 q129
                 cases e129
                 replace p129 := eq_true p129
                 replace q129 := eq_true q129
                 refine start_ (n := 14) (S := fun w' => w'.cell? (ad128.add ((x4_1).toNat * 6)) = some (.string ((rd_T33 l0 x4_1).f0)) ∧ w'.cell? ⟨(ad128.add ((x4_1).toNat * 6)).block, (ad128.add ((x4_1).toNat * 6)).off + 1, none⟩ = some (.int .i64 ((rd_T33 l0 x4_1).f1)) ∧ w'.cell? ⟨(ad128.add ((x4_1).toNat * 6)).block, (ad128.add ((x4_1).toNat * 6)).off + 2, none⟩ = some (.int .i64 ((rd_T33 l0 x4_1).f2)) ∧ w'.cell? ⟨(ad128.add ((x4_1).toNat * 6)).block, (ad128.add ((x4_1).toNat * 6)).off + 3, none⟩ = some (.int .i64 ((rd_T33 l0 x4_1).f3)) ∧ w'.cell? ⟨(ad128.add ((x4_1).toNat * 6)).block, (ad128.add ((x4_1).toNat * 6)).off + 4, none⟩ = some (.string ((rd_T33 l0 x4_1).f4)) ∧ w'.cell? ⟨(ad128.add ((x4_1).toNat * 6)).block, (ad128.add ((x4_1).toNat * 6)).off + 5, none⟩ = some (.string ((rd_T33 l0 x4_1).f5)) ∧ w'.cell? (ad129.add (((ji9)).toNat * 6)) = some (.string ((rd_T33 x3_1 (ji9)).f0)) ∧ w'.cell? ⟨(ad129.add (((ji9)).toNat * 6)).block, (ad129.add (((ji9)).toNat * 6)).off + 1, none⟩ = some (.int .i64 ((rd_T33 x3_1 (ji9)).f1)) ∧ w'.cell? ⟨(ad129.add (((ji9)).toNat * 6)).block, (ad129.add (((ji9)).toNat * 6)).off + 2, none⟩ = some (.int .i64 ((rd_T33 x3_1 (ji9)).f2)) ∧ w'.cell? ⟨(ad129.add (((ji9)).toNat * 6)).block, (ad129.add (((ji9)).toNat * 6)).off + 3, none⟩ = some (.int .i64 ((rd_T33 x3_1 (ji9)).f3)) ∧ w'.cell? ⟨(ad129.add (((ji9)).toNat * 6)).block, (ad129.add (((ji9)).toNat * 6)).off + 4, none⟩ = some (.string ((rd_T33 x3_1 (ji9)).f4)) ∧ w'.cell? ⟨(ad129.add (((ji9)).toNat * 6)).block, (ad129.add (((ji9)).toNat * 6)).off + 5, none⟩ = some (.string ((rd_T33 x3_1 (ji9)).f5))) (ds := []) #[false, false, false, false, false, false, false, false, false, false, false, false, false, false] jK rfl rfl ⟨((HB.out.cell (World.block_lt_of_cell? w _ hw128_0)).trans hw128_0), ((HB.out.cell (World.block_lt_of_cell? w _ hw128_1)).trans hw128_1), ((HB.out.cell (World.block_lt_of_cell? w _ hw128_2)).trans hw128_2), ((HB.out.cell (World.block_lt_of_cell? w _ hw128_3)).trans hw128_3), ((HB.out.cell (World.block_lt_of_cell? w _ hw128_4)).trans hw128_4), ((HB.out.cell (World.block_lt_of_cell? w _ hw128_5)).trans hw128_5), hx129_0, hx129_1, hx129_2, hx129_3, hx129_4, hx129_5⟩ (fun hHeld => ?_); refine with_tabW spec_SortRecords.tab6 spec_SortRecords.bits6 (fun HT_ HW_ => ?_)
                 generalize wr.drew = w23 at HO_3 HB hx128_0 hx128_1 hx128_2 hx128_3 hx128_4 hx128_5 hx129_0 hx129_1 hx129_2 hx129_3 hx129_4 hx129_5 hHeld ⊢
                 refine pure_ (i := 0) (N := some 15) (v := ?_) (a' := ?_) #[true, false, false, false, false, false, false, false, false, false, false, false, false, false] rfl rfl (any_of HT_.out jK) (fun _ _ _ h => h) (Or.inl ⟨by rfl, ?_⟩) ?_ ?_
                 rotate_left
                 ·intro w'
                  go_simp
                  with_reducible rfl
                 rotate_left
                 ·simp only [Act.put, List.setIfInBounds_toArray, List.set_cons_zero, List.set_cons_succ, i64_w, i32_w]
                  rfl
                 refine pure_ (i := 1) (N := some 16) (v := ?_) (a' := ?_) #[true, true, false, false, false, false, false, false, false, false, false, false, false, false] rfl rfl (any_of HT_.out jK) (fun _ _ _ h => h) (Or.inl ⟨by rfl, ?_⟩) ?_ ?_
                 rotate_left
                 ·intro w'
                  go_simp
                  with_reducible rfl
                 rotate_left
                 ·simp only [Act.put, List.setIfInBounds_toArray, List.set_cons_zero, List.set_cons_succ, i64_w, i32_w]
                  rfl
                 refine pure_ (i := 2) (N := some 17) (v := ?_) (a' := ?_) #[true, true, true, false, false, false, false, false, false, false, false, false, false, false] rfl rfl (any_of HT_.out jK) (fun _ _ _ h => h) (Or.inl ⟨by rfl, ?_⟩) ?_ ?_
                 rotate_left
                 ·intro w'
                  go_simp
                  with_reducible rfl
                 rotate_left
                 ·simp only [Act.put, List.setIfInBounds_toArray, List.set_cons_zero, List.set_cons_succ, i64_w, i32_w]
                  rfl
                 refine pure_ (i := 3) (N := some 18) (v := ?_) (a' := ?_) #[true, true, true, true, false, false, false, false, false, false, false, false, false, false] rfl rfl (any_of HT_.out jK) (fun _ _ _ h => h) (Or.inl ⟨by rfl, ?_⟩) ?_ ?_
                 rotate_left
                 ·intro w'
                  go_simp
                  with_reducible rfl
                 rotate_left
                 ·simp only [Act.put, List.setIfInBounds_toArray, List.set_cons_zero, List.set_cons_succ, i64_w, i32_w]
                  rfl
                 refine pure_ (i := 4) (N := some 19) (v := ?_) (a' := ?_) #[true, true, true, true, true, false, false, false, false, false, false, false, false, false] rfl rfl (any_of HT_.out jK) (fun _ _ _ h => h) (Or.inl ⟨by rfl, ?_⟩) ?_ ?_
                 rotate_left
                 ·intro w'
                  go_simp
                  with_reducible rfl
                 rotate_left
                 ·simp only [Act.put, List.setIfInBounds_toArray, List.set_cons_zero, List.set_cons_succ, i64_w, i32_w]
                  rfl
                 refine pure_ (i := 5) (N := some 20) (v := ?_) (a' := ?_) #[true, true, true, true, true, true, false, false, false, false, false, false, false, false] rfl rfl (any_of HT_.out jK) (fun _ _ _ h => h) (Or.inl ⟨by rfl, ?_⟩) ?_ ?_
                 rotate_left
                 ·intro w'
                  go_simp
                  with_reducible rfl
                 rotate_left
                 ·simp only [Act.put, List.setIfInBounds_toArray, List.set_cons_zero, List.set_cons_succ, i64_w, i32_w]
                  rfl
                 refine pure_ (i := 7) (N := some 22) (v := ?_) (a' := ?_) #[true, true, true, true, true, true, false, true, false, false, false, false, false, false] rfl rfl (any_of HT_.out jK) (fun _ _ _ h => h) (Or.inl ⟨by rfl, ?_⟩) ?_ ?_
                 rotate_left
                 ·intro w'
                  go_simp
                  with_reducible rfl
                 rotate_left
                 ·simp only [Act.put, List.setIfInBounds_toArray, List.set_cons_zero, List.set_cons_succ, i64_w, i32_w]
                  rfl
                 refine pure_ (i := 8) (N := some 23) (v := ?_) (a' := ?_) #[true, true, true, true, true, true, false, true, true, false, false, false, false, false] rfl rfl (any_of HT_.out jK) (fun _ _ _ h => h) (Or.inl ⟨by rfl, ?_⟩) ?_ ?_
                 rotate_left
                 ·intro w'
                  go_simp
                  with_reducible rfl
                 rotate_left
                 ·simp only [Act.put, List.setIfInBounds_toArray, List.set_cons_zero, List.set_cons_succ, i64_w, i32_w]
                  rfl
                 refine pure_ (i := 9) (N := some 24) (v := ?_) (a' := ?_) #[true, true, true, true, true, true, false, true, true, true, false, false, false, false] rfl rfl (any_of HT_.out jK) (fun _ _ _ h => h) (Or.inl ⟨by rfl, ?_⟩) ?_ ?_
                 rotate_left
                 ·intro w'
                  go_simp
                  with_reducible rfl
                 rotate_left
                 ·simp only [Act.put, List.setIfInBounds_toArray, List.set_cons_zero, List.set_cons_succ, i64_w, i32_w]
                  rfl
                 refine pure_ (i := 10) (N := some 25) (v := ?_) (a' := ?_) #[true, true, true, true, true, true, false, true, true, true, true, false, false, false] rfl rfl (any_of HT_.out jK) (fun _ _ _ h => h) (Or.inl ⟨by rfl, ?_⟩) ?_ ?_
                 rotate_left
                 ·intro w'
                  go_simp
                  with_reducible rfl
                 rotate_left
                 ·simp only [Act.put, List.setIfInBounds_toArray, List.set_cons_zero, List.set_cons_succ, i64_w, i32_w]
                  rfl
                 refine take_ (i := 6) (N := some 21) (v := ?_) (a' := ?_) #[true, true, true, true, true, true, true, true, true, true, true, false, false, false] rfl rfl (take_ofW HT_.out HW_.out jK) (fun _ _ _ h => h) (Or.inl ⟨by rfl, ?_⟩) hHeld ?_ ?_
                 rotate_left
                 ·rintro w' ⟨s0, s1, s2, s3, s4, s5, s6, s7, s8, s9, s10, s11⟩
                  go_simp
                  with_reducible rfl
                 rotate_left
                 ·simp only [Act.put, List.setIfInBounds_toArray, List.set_cons_zero, List.set_cons_succ, i64_w, i32_w]
                  rfl
                 refine take_ (i := 11) (N := some 26) (v := ?_) (a' := ?_) #[true, true, true, true, true, true, true, true, true, true, true, true, false, false] rfl rfl (take_ofW HT_.out HW_.out jK) (fun _ _ _ h => h) (Or.inl ⟨by rfl, ?_⟩) hHeld ?_ ?_
                 rotate_left
                 ·rintro w' ⟨s0, s1, s2, s3, s4, s5, s6, s7, s8, s9, s10, s11⟩
                  go_simp
                  with_reducible rfl
                 rotate_left
                 ·simp only [Act.put, List.setIfInBounds_toArray, List.set_cons_zero, List.set_cons_succ, i64_w, i32_w]
                  rfl
                 refine one_ (i := 12) (N := some 27) #[true, true, true, true, true, true, true, true, true, true, true, true, true, false] rfl rfl (one_of HT_.out jK) (by decide) (fun K hK => ?_)
                 refine goes_ Tryd.func73 jK rfl #[.agg #[.string ((rd_T33 l0 x4_1).f0), .int .i64 ((rd_T33 l0 x4_1).f1), .int .i64 ((rd_T33 l0 x4_1).f2), .int .i64 ((rd_T33 l0 x4_1).f3), .string ((rd_T33 l0 x4_1).f4), .string ((rd_T33 l0 x4_1).f5)], .agg #[.string ((rd_T33 x3_1 (ji9)).f0), .int .i64 ((rd_T33 x3_1 (ji9)).f1), .int .i64 ((rd_T33 x3_1 (ji9)).f2), .int .i64 ((rd_T33 x3_1 (ji9)).f3), .string ((rd_T33 x3_1 (ji9)).f4), .string ((rd_T33 x3_1 (ji9)).f5)]] (by rfl) rfl rfl (by (try simp only [List.map_toArray, List.map_cons, List.map_nil]); first | done | (simp only [hji9]; rfl) | rfl | (simp only [List.length_drop, List.length_take]; rfl)) ?_
                 with_reducible refine (spec_LessRecord.calls k2 ((rd_T33 l0 x4_1).f0) ((rd_T33 l0 x4_1).f1) ((rd_T33 l0 x4_1).f2) ((rd_T33 l0 x4_1).f3) ((rd_T33 l0 x4_1).f4) ((rd_T33 l0 x4_1).f5) ((rd_T33 x3_1 (ji9)).f0) ((rd_T33 x3_1 (ji9)).f1) ((rd_T33 x3_1 (ji9)).f2) ((rd_T33 x3_1 (ji9)).f3) ((rd_T33 x3_1 (ji9)).f4) ((rd_T33 x3_1 (ji9)).f5) false _ A12.out).mono ?_
                 rintro e w24 ⟨rfl, hb⟩
                 have HS6_ := (hb.cell (World.block_lt_of_cell? _ _ (hHeld.2.2.2.2.2.2.1))).trans (hHeld.2.2.2.2.2.2.1)
                 have HS7_ := (hb.cell (World.block_lt_of_cell? _ _ (hHeld.2.2.2.2.2.2.2.1))).trans (hHeld.2.2.2.2.2.2.2.1)
                 have HS8_ := (hb.cell (World.block_lt_of_cell? _ _ (hHeld.2.2.2.2.2.2.2.2.1))).trans (hHeld.2.2.2.2.2.2.2.2.1)
                 have HS9_ := (hb.cell (World.block_lt_of_cell? _ _ (hHeld.2.2.2.2.2.2.2.2.2.1))).trans (hHeld.2.2.2.2.2.2.2.2.2.1)
                 have HS10_ := (hb.cell (World.block_lt_of_cell? _ _ (hHeld.2.2.2.2.2.2.2.2.2.2.1))).trans (hHeld.2.2.2.2.2.2.2.2.2.2.1)
                 have HS11_ := (hb.cell (World.block_lt_of_cell? _ _ (hHeld.2.2.2.2.2.2.2.2.2.2.2))).trans (hHeld.2.2.2.2.2.2.2.2.2.2.2)
                 refine ⟨_, rfl, ?_⟩
                 replace HO_3 := aS (Kd.R_below (rU HO_3.out) hb)
                 replace HB := aS (below_step (wU HB.out) hb)
                 (try clear hb)
                 (try clear hb2)
                 (try clear hk)
                 (try clear hi)
                 refine hK.out _ _ ⟨((HB.out.cell (World.block_lt_of_cell? w _ hw128_0)).trans hw128_0), ((HB.out.cell (World.block_lt_of_cell? w _ hw128_1)).trans hw128_1), ((HB.out.cell (World.block_lt_of_cell? w _ hw128_2)).trans hw128_2), ((HB.out.cell (World.block_lt_of_cell? w _ hw128_3)).trans hw128_3), ((HB.out.cell (World.block_lt_of_cell? w _ hw128_4)).trans hw128_4), ((HB.out.cell (World.block_lt_of_cell? w _ hw128_5)).trans hw128_5), HS6_, HS7_, HS8_, HS9_, HS10_, HS11_⟩ (fun hHeld => ?_)
                 clear hK K
                 refine norm_ (a' := ?_) ?_ ?_
                 rotate_left
                 ·show Act.put _ (some 27) _ = _
                  simp only [Act.put, List.setIfInBounds_toArray, List.set_cons_zero, List.set_cons_succ, i64_w, i32_w]
                  rfl
                 refine pure_ (i := 13) (N := some 28) (v := ?_) (a' := ?_) #[true, true, true, true, true, true, true, true, true, true, true, true, true, true] rfl rfl (any_of HT_.out jK) (fun _ _ _ h => h) (Or.inl ⟨by rfl, ?_⟩) ?_ ?_
                 rotate_left
                 ·intro w'
                  go_simp
                  with_reducible rfl
                 rotate_left
                 ·simp only [Act.put, List.setIfInBounds_toArray, List.set_cons_zero, List.set_cons_succ, i64_w, i32_w]
                  rfl
                 refine done_ (done_of HT_.out jK) ?_
                 try go_wp2
                 replace HO_3 := aS (Kd.R_drew HO_3.out)
                 replace HB := aS (below_drew1 HB.out)
                 have q26 : (x5_2 : Int) ≤ ((x3_1.length : Int) : Int) := of_decide_eq_true jC
                 obtain ⟨i026, hi026, _, hsz26, _⟩ := info_parts info33
                 have hroom26 : x3_1.length ≤ co5 := (Kd.R_reads' HO_3.out).2.1
                 have hC26 : Kd.C k33 _ (some ad129) x3_1.length x3_1 := (Kd.R_reads' HO_3.out).2.2
                 have hcut26 := cut_to (P := Tryd.prog) 46 33 .i64 Tryd.underlying46 hi026 (some ad129) x3_1.length co5 x5_2 (of_decide_eq_true jC) q26 hroom26
                 have hr26 := Kd.C_take (m := (x5_2 : Int).toNat) hC26 (by omega)
                 have hy26 : y134.length = (x5_2 : Int).toNat := (by rw [Ny134.out, List.length_take]; omega)
                 rw [← Ny134.out] at hr26
                 rw [← hy26] at hcut26
                 have HR137 := aS hr26
                 have HC137 := aS (show y134.length ≤ co5 from by omega)
                 clear hr26 hC26 hroom26 hi026 hsz26
                 have KY26 := aS hy26
                 clear hy26
                 have KL26 := aS (show (x5_2 : Int).toNat ≤ x3_1.length from by omega)
                 replace q26 := eq_true q26
                 have p141 : 0 ≤ (x4_1 : Int) := of_decide_eq_true jC
                 have q141 : x4_1 < (l0.length : Int) := of_decide_eq_true jC
                 obtain ⟨ad141, e141, hx141_0, hx141_1, hx141_2, hx141_3, hx141_4, hx141_5⟩ := at_T33 HR0.out x4_1 p141 q141
                 have hw141_5 := hx141_5
                 have hw141_4 := hx141_4
                 have hw141_3 := hx141_3
                 have hw141_2 := hx141_2
                 have hw141_1 := hx141_1
                 have hw141_0 := hx141_0
                 obtain rfl : ad128 = ad141 := (by injection e141)
                 try replace hx141_0 := (HB.out.cell (World.block_lt_of_cell? w _ hx141_0)).trans hx141_0
                 try replace hx141_1 := (HB.out.cell (World.block_lt_of_cell? w _ hx141_1)).trans hx141_1
                 try replace hx141_2 := (HB.out.cell (World.block_lt_of_cell? w _ hx141_2)).trans hx141_2
                 try replace hx141_3 := (HB.out.cell (World.block_lt_of_cell? w _ hx141_3)).trans hx141_3
                 try replace hx141_4 := (HB.out.cell (World.block_lt_of_cell? w _ hx141_4)).trans hx141_4
                 try replace hx141_5 := (HB.out.cell (World.block_lt_of_cell? w _ hx141_5)).trans hx141_5
                 replace p141 := eq_true p141
                 replace q141 := eq_true q141
                 have q27 : (x5_2 : Int) ≤ ((x3_1.length : Int) : Int) := of_decide_eq_true jC
                 obtain ⟨i027, hi027, _, hsz27, _⟩ := info_parts info33
                 have hroom27 : x3_1.length ≤ co5 := (Kd.R_reads' HO_3.out).2.1
                 have hC27 : Kd.C k33 _ (some ad129) x3_1.length x3_1 := (Kd.R_reads' HO_3.out).2.2
                 have q027 : (0 : Int) ≤ (x5_2 : Int) := of_decide_eq_true jC
                 have hcut27 := cut_from (P := Tryd.prog) 46 33 .i64 Tryd.underlying46 hi027 6 hsz27 (some ad129) x3_1.length co5 x5_2 q027 q27
                 have hr27 := Kd.C_drop (m := (x5_2 : Int).toNat) (c := co5) hC27 (by omega) hroom27
                 obtain ⟨A27, hA27⟩ : ∃ A1, A1 = (if co5 = (x5_2 : Int).toNat then (some ad129) else ((some ad129) : Option Addr).map (·.add ((x5_2 : Int).toNat * 6))) := ⟨_, rfl⟩
                 obtain ⟨c27, hc27⟩ : ∃ c1, c1 = co5 - (x5_2 : Int).toNat := ⟨_, rfl⟩
                 have hy27 : y148.length = x3_1.length - (x5_2 : Int).toNat := (by rw [Ny148.out, List.length_drop] <;> omega)
                 rw [show (x3_1).drop (x5_2 : Int).toNat = y148 from Ny148.out.symm] at hr27
                 replace hr27 : Kd.C k33 _ A27 y148.length y148 := (by rw [hA27]; exact hr27)
                 rw [← hy27, ← hA27, ← hc27] at hcut27
                 have HR151 := aS hr27
                 have HC151 := aS (show y148.length ≤ c27 from by rw [hy27, hc27]; exact Nat.sub_le_sub_right hroom27 _)
                 clear hr27 hC27 hroom27 hi027 hsz27 hc27
                 have KY27 := aS hy27
                 have KA27 := aS hA27
                 clear hy27 hA27
                 have KL27 := aS (show (x5_2 : Int).toNat ≤ x3_1.length from by omega)
                 replace q27 := eq_true q27
                 refine start_ (n := 16) (S := fun w' => w'.cell? (ad128.add ((x4_1).toNat * 6)) = some (.string ((rd_T33 l0 x4_1).f0)) ∧ w'.cell? ⟨(ad128.add ((x4_1).toNat * 6)).block, (ad128.add ((x4_1).toNat * 6)).off + 1, none⟩ = some (.int .i64 ((rd_T33 l0 x4_1).f1)) ∧ w'.cell? ⟨(ad128.add ((x4_1).toNat * 6)).block, (ad128.add ((x4_1).toNat * 6)).off + 2, none⟩ = some (.int .i64 ((rd_T33 l0 x4_1).f2)) ∧ w'.cell? ⟨(ad128.add ((x4_1).toNat * 6)).block, (ad128.add ((x4_1).toNat * 6)).off + 3, none⟩ = some (.int .i64 ((rd_T33 l0 x4_1).f3)) ∧ w'.cell? ⟨(ad128.add ((x4_1).toNat * 6)).block, (ad128.add ((x4_1).toNat * 6)).off + 4, none⟩ = some (.string ((rd_T33 l0 x4_1).f4)) ∧ w'.cell? ⟨(ad128.add ((x4_1).toNat * 6)).block, (ad128.add ((x4_1).toNat * 6)).off + 5, none⟩ = some (.string ((rd_T33 l0 x4_1).f5))) (ds := []) #[false, false, false, false, false, false, false, false, false, false, false, false, false, false, false, false] jK rfl rfl ⟨((HB.out.cell (World.block_lt_of_cell? w _ hw141_0)).trans hw141_0), ((HB.out.cell (World.block_lt_of_cell? w _ hw141_1)).trans hw141_1), ((HB.out.cell (World.block_lt_of_cell? w _ hw141_2)).trans hw141_2), ((HB.out.cell (World.block_lt_of_cell? w _ hw141_3)).trans hw141_3), ((HB.out.cell (World.block_lt_of_cell? w _ hw141_4)).trans hw141_4), ((HB.out.cell (World.block_lt_of_cell? w _ hw141_5)).trans hw141_5)⟩ (fun hHeld => ?_); refine with_tabW spec_SortRecords.tab8 spec_SortRecords.bits8 (fun HT_ HW_ => ?_)
                 generalize w24.drew = w25 at HO_3 HB HR137 HR151 hx141_0 hx141_1 hx141_2 hx141_3 hx141_4 hx141_5 hHeld ⊢
                 refine pure_ (i := 1) (N := some 32) (v := ?_) (a' := ?_) #[false, true, false, false, false, false, false, false, false, false, false, false, false, false, false, false] rfl rfl (any_of HT_.out jK) (fun _ _ _ h => h) (Or.inl ⟨by rfl, ?_⟩) ?_ ?_
                 rotate_left
                 ·intro w'
                  go_simp
                  with_reducible rfl
                 rotate_left
                 ·simp only [Act.put, List.setIfInBounds_toArray, List.set_cons_zero, List.set_cons_succ, i64_w, i32_w]
                  rfl
                 refine pure_ (i := 2) (N := some 33) (v := ?_) (a' := ?_) #[false, true, true, false, false, false, false, false, false, false, false, false, false, false, false, false] rfl rfl (any_of HT_.out jK) (fun _ _ _ h => h) (Or.inl ⟨by rfl, ?_⟩) ?_ ?_
                 rotate_left
                 ·intro w'
                  go_simp
                  with_reducible rfl
                 rotate_left
                 ·simp only [Act.put, List.setIfInBounds_toArray, List.set_cons_zero, List.set_cons_succ, i64_w, i32_w]
                  rfl
                 refine pure_ (i := 3) (N := some 34) (v := ?_) (a' := ?_) #[false, true, true, true, false, false, false, false, false, false, false, false, false, false, false, false] rfl rfl (any_of HT_.out jK) (fun _ _ _ h => h) (Or.inl ⟨by rfl, ?_⟩) ?_ ?_
                 rotate_left
                 ·intro w'
                  go_simp
                  with_reducible rfl
                 rotate_left
                 ·simp only [Act.put, List.setIfInBounds_toArray, List.set_cons_zero, List.set_cons_succ, i64_w, i32_w]
                  rfl
                 refine pure_ (i := 5) (N := some 36) (v := ?_) (a' := ?_) #[false, true, true, true, false, true, false, false, false, false, false, false, false, false, false, false] rfl rfl (any_of HT_.out jK) (fun _ _ _ h => h) (Or.inl ⟨by rfl, ?_⟩) ?_ ?_
                 rotate_left
                 ·intro w'
                  go_simp
                  with_reducible rfl
                 rotate_left
                 ·simp only [Act.put, List.setIfInBounds_toArray, List.set_cons_zero, List.set_cons_succ, i64_w, i32_w]
                  rfl
                 refine pure_ (i := 6) (N := some 37) (v := ?_) (a' := ?_) #[false, true, true, true, false, true, true, false, false, false, false, false, false, false, false, false] rfl rfl (any_of HT_.out jK) (fun _ _ _ h => h) (Or.inl ⟨by rfl, ?_⟩) ?_ ?_
                 rotate_left
                 ·intro w'
                  go_simp
                  with_reducible rfl
                 rotate_left
                 ·simp only [Act.put, List.setIfInBounds_toArray, List.set_cons_zero, List.set_cons_succ, i64_w, i32_w]
                  rfl
                 refine pure_ (i := 7) (N := some 38) (v := ?_) (a' := ?_) #[false, true, true, true, false, true, true, true, false, false, false, false, false, false, false, false] rfl rfl (any_of HT_.out jK) (fun _ _ _ h => h) (Or.inl ⟨by rfl, ?_⟩) ?_ ?_
                 rotate_left
                 ·intro w'
                  go_simp
                  with_reducible rfl
                 rotate_left
                 ·simp only [Act.put, List.setIfInBounds_toArray, List.set_cons_zero, List.set_cons_succ, i64_w, i32_w]
                  rfl
                 refine pure_ (i := 11) (N := some 42) (v := ?_) (a' := ?_) #[false, true, true, true, false, true, true, true, false, false, false, true, false, false, false, false] rfl rfl (any_of HT_.out jK) (fun _ _ _ h => h) (Or.inl ⟨by rfl, ?_⟩) ?_ ?_
                 rotate_left
                 ·intro w'
                  go_simp
                  with_reducible rfl
                 rotate_left
                 ·simp only [Act.put, List.setIfInBounds_toArray, List.set_cons_zero, List.set_cons_succ, i64_w, i32_w]
                  rfl
                 refine pure_ (i := 12) (N := some 43) (v := ?_) (a' := ?_) #[false, true, true, true, false, true, true, true, false, false, false, true, true, false, false, false] rfl rfl (any_of HT_.out jK) (fun _ _ _ h => h) (Or.inl ⟨by rfl, ?_⟩) ?_ ?_
                 rotate_left
                 ·intro w'
                  go_simp
                  with_reducible rfl
                 rotate_left
                 ·simp only [Act.put, List.setIfInBounds_toArray, List.set_cons_zero, List.set_cons_succ, i64_w, i32_w]
                  rfl
                 refine pure_ (i := 13) (N := some 44) (v := ?_) (a' := ?_) #[false, true, true, true, false, true, true, true, false, false, false, true, true, true, false, false] rfl rfl (any_of HT_.out jK) (fun _ _ _ h => h) (Or.inl ⟨by rfl, ?_⟩) ?_ ?_
                 rotate_left
                 ·intro w'
                  go_simp
                  with_reducible rfl
                 rotate_left
                 ·simp only [Act.put, List.setIfInBounds_toArray, List.set_cons_zero, List.set_cons_succ, i64_w, i32_w]
                  rfl
                 refine take_ (i := 8) (N := some 39) (v := ?_) (a' := ?_) #[false, true, true, true, false, true, true, true, true, false, false, true, true, true, false, false] rfl rfl (take_ofW HT_.out HW_.out jK) (fun _ _ _ h => h) (Or.inl ⟨by rfl, ?_⟩) hHeld ?_ ?_
                 rotate_left
                 ·rintro w' ⟨s0, s1, s2, s3, s4, s5⟩
                  go_simp
                  with_reducible rfl
                 rotate_left
                 ·simp only [Act.put, List.setIfInBounds_toArray, List.set_cons_zero, List.set_cons_succ, i64_w, i32_w]
                  rfl
                 refine join_ (σ := Value × Value × Value) 3 #[true, true, true, true, true, true, true, true, true, true, false, true, true, true, false, false] (fun s_ => [(31, s_.1), (35, s_.2.1), (40, s_.2.2)]) (fun s_ w' => (w'.cell? (ad128.add ((x4_1).toNat * 6)) = some (.string ((rd_T33 l0 x4_1).f0)) ∧ w'.cell? ⟨(ad128.add ((x4_1).toNat * 6)).block, (ad128.add ((x4_1).toNat * 6)).off + 1, none⟩ = some (.int .i64 ((rd_T33 l0 x4_1).f1)) ∧ w'.cell? ⟨(ad128.add ((x4_1).toNat * 6)).block, (ad128.add ((x4_1).toNat * 6)).off + 2, none⟩ = some (.int .i64 ((rd_T33 l0 x4_1).f2)) ∧ w'.cell? ⟨(ad128.add ((x4_1).toNat * 6)).block, (ad128.add ((x4_1).toNat * 6)).off + 3, none⟩ = some (.int .i64 ((rd_T33 l0 x4_1).f3)) ∧ w'.cell? ⟨(ad128.add ((x4_1).toNat * 6)).block, (ad128.add ((x4_1).toNat * 6)).off + 4, none⟩ = some (.string ((rd_T33 l0 x4_1).f4)) ∧ w'.cell? ⟨(ad128.add ((x4_1).toNat * 6)).block, (ad128.add ((x4_1).toNat * 6)).off + 5, none⟩ = some (.string ((rd_T33 l0 x4_1).f5))) ∧ (Kd.R k33 33 w' w.heap.size (fun k_ => some k_ ≠ (s_.2.2 : Value).ownBlock ∧ some k_ ≠ (.slice (some ad129) x3_1.length co5 : Value).ownBlock) s_.2.1 y138) ∧ (Kd.R k33 33 w' w.heap.size (fun k_ => some k_ ≠ (s_.2.1 : Value).ownBlock ∧ some k_ ≠ (.slice (some ad129) x3_1.length co5 : Value).ownBlock) s_.2.2 y142) ∧ (Kd.R k33 33 w' w.heap.size (fun k_ => some k_ ≠ (s_.2.1 : Value).ownBlock ∧ some k_ ≠ (s_.2.2 : Value).ownBlock) (.slice (some ad129) x3_1.length co5) x3_1) ∧ (Below w.heap.size w w')) ?_ ?_
                 rotate_left
                 ·intro hCont
                  refine two_ (i := 0) (j := 9) (Ni := some 31) (Nj := some 40) #[true, true, true, true, false, true, true, true, true, false, false, true, true, true, false, false] #[false, true, true, true, false, true, true, true, true, true, false, true, true, true, false, false] rfl rfl rfl rfl (two_of HT_.out jK) (by decide) (by decide) (fun K hK => ?_) (fun K hK => ?_)
                  ·skip
                   refine Kd.R_lit_step k33 _ 33 ?hg (N := 31) ?hd (xs := ([] : List (S33))) (inner := []) (ok := fun _ => True) (okp := fun _ => True) ?hr ?hp (fun _ hk => hk) trivial (Below.refl _ _) (Nat.le_refl _) (by simp) ?_; (case hd => rfl); (case hg => rfl); (case hr => first | (go_simp; done) | (go_simp; rfl)); (case hp => exact (Reps.none _ _))
                   intro v132 w28 ho29 hb hg_ hnew_
                   clear hg_ hnew_
                   (first | rw [← Ny131.out] at ho29 | (simp only [Int.reduceToNat] at ho29; rw [← Ny131.out] at ho29))
                   have HO133 := aS (Kd.R_lower (Kd.R_new' ho29 (Kd.R_lt (rU HO_3.out))) (below_size (wU HB.out)))
                   replace HO_3 := aS (Kd.R_elder' (rU HO_3.out) (Kd.R_base ho29) hb)
                   replace HR137 := aS (Kd.C_below (by repeat (first | (with_reducible exact HR137.out) | (with_reducible refine Kd.C_alloc ?_ _) | (with_reducible refine Kd.C_drewN ?_ _) | (with_reducible refine Kd.C_drew ?_) | exact HR137.out)) hb)
                   replace HR151 := aS (Kd.C_below (by repeat (first | (with_reducible exact HR151.out) | (with_reducible refine Kd.C_alloc ?_ _) | (with_reducible refine Kd.C_drewN ?_ _) | (with_reducible refine Kd.C_drew ?_) | exact HR151.out)) hb)
                   replace HB := aS (below_step (wU HB.out) hb)
                   clear hb ho29
                   refine hK.out _ _ ⟨((HB.out.cell (World.block_lt_of_cell? w _ hw141_0)).trans hw141_0), ((HB.out.cell (World.block_lt_of_cell? w _ hw141_1)).trans hw141_1), ((HB.out.cell (World.block_lt_of_cell? w _ hw141_2)).trans hw141_2), ((HB.out.cell (World.block_lt_of_cell? w _ hw141_3)).trans hw141_3), ((HB.out.cell (World.block_lt_of_cell? w _ hw141_4)).trans hw141_4), ((HB.out.cell (World.block_lt_of_cell? w _ hw141_5)).trans hw141_5)⟩ (fun hHeld => ?_)
                   clear hK K
                   refine norm_ (a' := ?_) ?_ ?_
                   rotate_left
                   ·show Act.put _ (some 31) _ = _
                    simp only [Act.put, List.setIfInBounds_toArray, List.set_cons_zero, List.set_cons_succ, i64_w, i32_w]
                    rfl
                   refine two_ (i := 4) (j := 9) (Ni := some 35) (Nj := some 40) #[true, true, true, true, true, true, true, true, true, false, false, true, true, true, false, false] #[true, true, true, true, false, true, true, true, true, true, false, true, true, true, false, false] rfl rfl rfl rfl (two_of HT_.out jK) (by decide) (by decide) (fun K hK => ?_) (fun K hK => ?_)
                   ·skip
                    refine Kd.R_append_rows_step k33 (w0 := w) w.heap.size (by rfl) (.tmp 31) (.tmp 34) 46 33 (.agg #[(.string ⟨#[]⟩), (.int .i64 0), (.int .i64 0), (.int .i64 0), (.string ⟨#[]⟩), (.string ⟨#[]⟩)]) 72 rfl Tryd.underlying46 info33 rfl (by decide) (by omega) v132 y131 y134 _ _ _ (fun k_ => some k_ ≠ (.slice (some ad129) x3_1.length co5 : Value).ownBlock) (fun _ => False) rfl rfl ?aO ?aR (fun _ _ h => h) (fun _ h => h.elim) ?aF ?aB ?aS ?aL ?_
                    (case aR => repeat (first | exact (by repeat (first | (with_reducible exact HR137.out) | (with_reducible refine Kd.C_alloc ?_ _) | (with_reducible refine Kd.C_drewN ?_ _) | (with_reducible refine Kd.C_drew ?_) | exact HR137.out)) | (with_reducible refine Kd.C_alloc ?_ _) | (with_reducible refine Kd.C_drewN ?_ _) | (with_reducible refine Kd.C_drew ?_)))
                    (case aB => exact (wU HB.out))
                    (case aF => exact (fun k_ hk => Kd.fresh' (Kd.R_lt (rU HO_3.out)) k_ hk))
                    (case aO => exact (by (with_reducible repeat (first | apply Kd.R_alloc | apply Kd.R_drewN | apply Kd.R_drew)); exact Kd.R_mono HO133.out (fun _ hk => hk.2)))
                    (case aS => exact (below_size (wU HB.out)))
                    (case aL => have := LMc18.out; omega)
                    intro v139 w30 ho hb hg hat
                    rw [← Ny138.out] at ho
                    replace HB := aS (hb)
                    replace HR137 := aS ((show Kd.C k33 w30 (some ad129) y134.length y134 from by rw [Ny134.out]; exact Kd.C_take (m := (x5_2 : Int).toNat) ((Kd.R_reads' (Kd.R_after (ok := (fun _ => True)) (rU HO_3.out) hg hat)).2.2) KL26.out))
                    replace HR151 := aS ((show Kd.C k33 w30 A27 y148.length y148 from by rw [Ny148.out, KA27.out]; exact Kd.C_drop (m := (x5_2 : Int).toNat) (c := co5) ((Kd.R_reads' (Kd.R_after (ok := (fun _ => True)) (rU HO_3.out) hg hat)).2.2) KL27.out ((Kd.R_reads' (Kd.R_after (ok := (fun _ => True)) (rU HO_3.out) hg hat)).2.1)))
                    replace HO_3 := aS (Kd.R_after (ok := (fun _ => True)) (rU HO_3.out) hg hat)
                    have HO140 := aS (ho)
                    clear HO133
                    clear ho hb hg hat
                    refine hK.out _ _ ⟨((HB.out.cell (World.block_lt_of_cell? w _ hw141_0)).trans hw141_0), ((HB.out.cell (World.block_lt_of_cell? w _ hw141_1)).trans hw141_1), ((HB.out.cell (World.block_lt_of_cell? w _ hw141_2)).trans hw141_2), ((HB.out.cell (World.block_lt_of_cell? w _ hw141_3)).trans hw141_3), ((HB.out.cell (World.block_lt_of_cell? w _ hw141_4)).trans hw141_4), ((HB.out.cell (World.block_lt_of_cell? w _ hw141_5)).trans hw141_5)⟩ (fun hHeld => ?_)
                    clear hK K
                    refine norm_ (a' := ?_) ?_ ?_
                    rotate_left
                    ·show Act.put _ (some 35) _ = _
                     simp only [Act.put, List.setIfInBounds_toArray, List.set_cons_zero, List.set_cons_succ, i64_w, i32_w]
                     rfl
                    refine one_ (i := 9) (N := some 40) #[true, true, true, true, true, true, true, true, true, true, false, true, true, true, false, false] rfl rfl (one_of HT_.out jK) (by decide) (fun K hK => ?_)
                    refine Kd.R_lit_step k33 _ 33 ?hg (N := 40) ?hd (xs := ([(⟨(rd_T33 l0 x4_1).f0, (rd_T33 l0 x4_1).f1, (rd_T33 l0 x4_1).f2, (rd_T33 l0 x4_1).f3, (rd_T33 l0 x4_1).f4, (rd_T33 l0 x4_1).f5⟩ : S33)] : List (S33))) (inner := [.string ((rd_T33 l0 x4_1).f0), .int .i64 ((rd_T33 l0 x4_1).f1), .int .i64 ((rd_T33 l0 x4_1).f2), .int .i64 ((rd_T33 l0 x4_1).f3), .string ((rd_T33 l0 x4_1).f4), .string ((rd_T33 l0 x4_1).f5)]) (ok := fun _ => True) (okp := fun _ => True) ?hr ?hp (fun _ hk => hk) trivial (Below.refl _ _) (Nat.le_refl _) (by simp) ?_; (case hd => rfl); (case hg => rfl); (case hr => first | (go_simp; done) | (go_simp; rfl)); (case hp => exact (Reps.c6 (show Kd.M k33 _ _ _ (⟨(rd_T33 l0 x4_1).f0, (rd_T33 l0 x4_1).f1, (rd_T33 l0 x4_1).f2, (rd_T33 l0 x4_1).f3, (rd_T33 l0 x4_1).f4, (rd_T33 l0 x4_1).f5⟩ : S33) [.string ((rd_T33 l0 x4_1).f0), .int .i64 ((rd_T33 l0 x4_1).f1), .int .i64 ((rd_T33 l0 x4_1).f2), .int .i64 ((rd_T33 l0 x4_1).f3), .string ((rd_T33 l0 x4_1).f4), .string ((rd_T33 l0 x4_1).f5)] from (k33_mkM _ _ _ (⟨(rd_T33 l0 x4_1).f0, (rd_T33 l0 x4_1).f1, (rd_T33 l0 x4_1).f2, (rd_T33 l0 x4_1).f3, (rd_T33 l0 x4_1).f4, (rd_T33 l0 x4_1).f5⟩ : S33) )) (Reps.none _ _)))
                    intro v143 w31 ho32 hb hg_ hnew_
                    clear hg_ hnew_
                    (first | rw [← Ny142.out] at ho32 | (simp only [Int.reduceToNat] at ho32; rw [← Ny142.out] at ho32))
                    have HO144 := aS (Kd.R_lower (Kd.R_new' (Kd.R_new' ho32 (Kd.R_lt (rU HO_3.out))) (Kd.R_lt (rU HO140.out))) (below_size (wU HB.out)))
                    replace HO_3 := aS (Kd.R_elder' (rU HO_3.out) (Kd.R_base ho32) hb)
                    replace HO140 := aS (Kd.R_elder' (rU HO140.out) (Kd.R_base ho32) hb)
                    replace HR137 := aS (Kd.C_below (by repeat (first | (with_reducible exact HR137.out) | (with_reducible refine Kd.C_alloc ?_ _) | (with_reducible refine Kd.C_drewN ?_ _) | (with_reducible refine Kd.C_drew ?_) | exact HR137.out)) hb)
                    replace HR151 := aS (Kd.C_below (by repeat (first | (with_reducible exact HR151.out) | (with_reducible refine Kd.C_alloc ?_ _) | (with_reducible refine Kd.C_drewN ?_ _) | (with_reducible refine Kd.C_drew ?_) | exact HR151.out)) hb)
                    replace HB := aS (below_step (wU HB.out) hb)
                    clear hb ho32
                    refine hK.out _ _ ⟨((HB.out.cell (World.block_lt_of_cell? w _ hw141_0)).trans hw141_0), ((HB.out.cell (World.block_lt_of_cell? w _ hw141_1)).trans hw141_1), ((HB.out.cell (World.block_lt_of_cell? w _ hw141_2)).trans hw141_2), ((HB.out.cell (World.block_lt_of_cell? w _ hw141_3)).trans hw141_3), ((HB.out.cell (World.block_lt_of_cell? w _ hw141_4)).trans hw141_4), ((HB.out.cell (World.block_lt_of_cell? w _ hw141_5)).trans hw141_5)⟩ (fun hHeld => ?_)
                    clear hK K
                    refine norm_ (a' := ?_) ?_ ?_
                    rotate_left
                    ·show Act.put _ (some 40) _ = _
                     simp only [Act.put, List.setIfInBounds_toArray, List.set_cons_zero, List.set_cons_succ, i64_w, i32_w]
                     rfl
                    exact norm_ (by simp only [putAll, Act.put, List.setIfInBounds_toArray, List.set_cons_zero, List.set_cons_succ]) (hCont (v132, v139, v143) _ ⟨hHeld, (by (with_reducible repeat (first | apply Kd.R_alloc | apply Kd.R_drewN | apply Kd.R_drew)); exact Kd.R_mono HO140.out (fun _ hk => ⟨hk.2, hk.1⟩)), (by (with_reducible repeat (first | apply Kd.R_alloc | apply Kd.R_drewN | apply Kd.R_drew)); exact Kd.R_mono HO144.out (fun _ hk => ⟨hk.2, hk.1.2⟩)), (by (with_reducible repeat (first | apply Kd.R_alloc | apply Kd.R_drewN | apply Kd.R_drew)); exact Kd.R_mono HO_3.out (fun _ hk => ⟨hk.1.2, hk.2⟩)), (wU HB.out)⟩)
                   ·skip
                    refine Kd.R_lit_step k33 _ 33 ?hg (N := 40) ?hd (xs := ([(⟨(rd_T33 l0 x4_1).f0, (rd_T33 l0 x4_1).f1, (rd_T33 l0 x4_1).f2, (rd_T33 l0 x4_1).f3, (rd_T33 l0 x4_1).f4, (rd_T33 l0 x4_1).f5⟩ : S33)] : List (S33))) (inner := [.string ((rd_T33 l0 x4_1).f0), .int .i64 ((rd_T33 l0 x4_1).f1), .int .i64 ((rd_T33 l0 x4_1).f2), .int .i64 ((rd_T33 l0 x4_1).f3), .string ((rd_T33 l0 x4_1).f4), .string ((rd_T33 l0 x4_1).f5)]) (ok := fun _ => True) (okp := fun _ => True) ?hr ?hp (fun _ hk => hk) trivial (Below.refl _ _) (Nat.le_refl _) (by simp) ?_; (case hd => rfl); (case hg => rfl); (case hr => first | (go_simp; done) | (go_simp; rfl)); (case hp => exact (Reps.c6 (show Kd.M k33 _ _ _ (⟨(rd_T33 l0 x4_1).f0, (rd_T33 l0 x4_1).f1, (rd_T33 l0 x4_1).f2, (rd_T33 l0 x4_1).f3, (rd_T33 l0 x4_1).f4, (rd_T33 l0 x4_1).f5⟩ : S33) [.string ((rd_T33 l0 x4_1).f0), .int .i64 ((rd_T33 l0 x4_1).f1), .int .i64 ((rd_T33 l0 x4_1).f2), .int .i64 ((rd_T33 l0 x4_1).f3), .string ((rd_T33 l0 x4_1).f4), .string ((rd_T33 l0 x4_1).f5)] from (k33_mkM _ _ _ (⟨(rd_T33 l0 x4_1).f0, (rd_T33 l0 x4_1).f1, (rd_T33 l0 x4_1).f2, (rd_T33 l0 x4_1).f3, (rd_T33 l0 x4_1).f4, (rd_T33 l0 x4_1).f5⟩ : S33) )) (Reps.none _ _)))
                    intro v143 w30 ho31 hb hg_ hnew_
                    clear hg_ hnew_
                    (first | rw [← Ny142.out] at ho31 | (simp only [Int.reduceToNat] at ho31; rw [← Ny142.out] at ho31))
                    have HO144 := aS (Kd.R_lower (Kd.R_new' (Kd.R_new' ho31 (Kd.R_lt (rU HO_3.out))) (Kd.R_lt (rU HO133.out))) (below_size (wU HB.out)))
                    replace HO_3 := aS (Kd.R_elder' (rU HO_3.out) (Kd.R_base ho31) hb)
                    replace HO133 := aS (Kd.R_elder' (rU HO133.out) (Kd.R_base ho31) hb)
                    replace HR137 := aS (Kd.C_below (by repeat (first | (with_reducible exact HR137.out) | (with_reducible refine Kd.C_alloc ?_ _) | (with_reducible refine Kd.C_drewN ?_ _) | (with_reducible refine Kd.C_drew ?_) | exact HR137.out)) hb)
                    replace HR151 := aS (Kd.C_below (by repeat (first | (with_reducible exact HR151.out) | (with_reducible refine Kd.C_alloc ?_ _) | (with_reducible refine Kd.C_drewN ?_ _) | (with_reducible refine Kd.C_drew ?_) | exact HR151.out)) hb)
                    replace HB := aS (below_step (wU HB.out) hb)
                    clear hb ho31
                    refine hK.out _ _ ⟨((HB.out.cell (World.block_lt_of_cell? w _ hw141_0)).trans hw141_0), ((HB.out.cell (World.block_lt_of_cell? w _ hw141_1)).trans hw141_1), ((HB.out.cell (World.block_lt_of_cell? w _ hw141_2)).trans hw141_2), ((HB.out.cell (World.block_lt_of_cell? w _ hw141_3)).trans hw141_3), ((HB.out.cell (World.block_lt_of_cell? w _ hw141_4)).trans hw141_4), ((HB.out.cell (World.block_lt_of_cell? w _ hw141_5)).trans hw141_5)⟩ (fun hHeld => ?_)
                    clear hK K
                    refine norm_ (a' := ?_) ?_ ?_
                    rotate_left
                    ·show Act.put _ (some 40) _ = _
                     simp only [Act.put, List.setIfInBounds_toArray, List.set_cons_zero, List.set_cons_succ, i64_w, i32_w]
                     rfl
                    refine one_ (i := 4) (N := some 35) #[true, true, true, true, true, true, true, true, true, true, false, true, true, true, false, false] rfl rfl (one_of HT_.out jK) (by decide) (fun K hK => ?_)
                    refine Kd.R_append_rows_step k33 (w0 := w) w.heap.size (by rfl) (.tmp 31) (.tmp 34) 46 33 (.agg #[(.string ⟨#[]⟩), (.int .i64 0), (.int .i64 0), (.int .i64 0), (.string ⟨#[]⟩), (.string ⟨#[]⟩)]) 72 rfl Tryd.underlying46 info33 rfl (by decide) (by omega) v132 y131 y134 _ _ _ (fun k_ => some k_ ≠ (.slice (some ad129) x3_1.length co5 : Value).ownBlock ∧ some k_ ≠ (v143 : Value).ownBlock) (fun _ => False) rfl rfl ?aO ?aR (fun _ _ h => h) (fun _ h => h.elim) ?aF ?aB ?aS ?aL ?_
                    (case aR => repeat (first | exact (by repeat (first | (with_reducible exact HR137.out) | (with_reducible refine Kd.C_alloc ?_ _) | (with_reducible refine Kd.C_drewN ?_ _) | (with_reducible refine Kd.C_drew ?_) | exact HR137.out)) | (with_reducible refine Kd.C_alloc ?_ _) | (with_reducible refine Kd.C_drewN ?_ _) | (with_reducible refine Kd.C_drew ?_)))
                    (case aB => exact (wU HB.out))
                    (case aF => exact (fun k_ hk => ⟨Kd.fresh' (Kd.R_lt (rU HO_3.out)) k_ hk, Kd.fresh' (Kd.R_lt (rU HO144.out)) k_ hk⟩))
                    (case aO => exact (by (with_reducible repeat (first | apply Kd.R_alloc | apply Kd.R_drewN | apply Kd.R_drew)); exact Kd.R_mono HO133.out (fun _ hk => ⟨hk.1.2, hk.2⟩)))
                    (case aS => exact (below_size (wU HB.out)))
                    (case aL => have := LMc18.out; omega)
                    intro v139 w32 ho hb hg hat
                    rw [← Ny138.out] at ho
                    replace HO144 := aS (Kd.R_after (ok := (fun k_ => some k_ ≠ (.slice (some ad129) x3_1.length co5 : Value).ownBlock)) (by (with_reducible repeat (first | apply Kd.R_alloc | apply Kd.R_drewN | apply Kd.R_drew)); exact Kd.R_mono HO144.out (fun _ hk => ⟨hk.1.2, hk.2⟩)) hg hat)
                    replace HB := aS (hb)
                    replace HR137 := aS ((show Kd.C k33 w32 (some ad129) y134.length y134 from by rw [Ny134.out]; exact Kd.C_take (m := (x5_2 : Int).toNat) ((Kd.R_reads' (Kd.R_after (ok := (fun k_ => some k_ ≠ (v143 : Value).ownBlock)) (by (with_reducible repeat (first | apply Kd.R_alloc | apply Kd.R_drewN | apply Kd.R_drew)); exact Kd.R_mono HO_3.out (fun _ hk => ⟨hk.2, hk.1.2⟩)) hg hat)).2.2) KL26.out))
                    replace HR151 := aS ((show Kd.C k33 w32 A27 y148.length y148 from by rw [Ny148.out, KA27.out]; exact Kd.C_drop (m := (x5_2 : Int).toNat) (c := co5) ((Kd.R_reads' (Kd.R_after (ok := (fun k_ => some k_ ≠ (v143 : Value).ownBlock)) (by (with_reducible repeat (first | apply Kd.R_alloc | apply Kd.R_drewN | apply Kd.R_drew)); exact Kd.R_mono HO_3.out (fun _ hk => ⟨hk.2, hk.1.2⟩)) hg hat)).2.2) KL27.out ((Kd.R_reads' (Kd.R_after (ok := (fun k_ => some k_ ≠ (v143 : Value).ownBlock)) (by (with_reducible repeat (first | apply Kd.R_alloc | apply Kd.R_drewN | apply Kd.R_drew)); exact Kd.R_mono HO_3.out (fun _ hk => ⟨hk.2, hk.1.2⟩)) hg hat)).2.1)))
                    replace HO_3 := aS (Kd.R_after (ok := (fun k_ => some k_ ≠ (v143 : Value).ownBlock)) (by (with_reducible repeat (first | apply Kd.R_alloc | apply Kd.R_drewN | apply Kd.R_drew)); exact Kd.R_mono HO_3.out (fun _ hk => ⟨hk.2, hk.1.2⟩)) hg hat)
                    have HO140 := aS (ho)
                    clear HO133
                    clear ho hb hg hat
                    refine hK.out _ _ ⟨((HB.out.cell (World.block_lt_of_cell? w _ hw141_0)).trans hw141_0), ((HB.out.cell (World.block_lt_of_cell? w _ hw141_1)).trans hw141_1), ((HB.out.cell (World.block_lt_of_cell? w _ hw141_2)).trans hw141_2), ((HB.out.cell (World.block_lt_of_cell? w _ hw141_3)).trans hw141_3), ((HB.out.cell (World.block_lt_of_cell? w _ hw141_4)).trans hw141_4), ((HB.out.cell (World.block_lt_of_cell? w _ hw141_5)).trans hw141_5)⟩ (fun hHeld => ?_)
                    clear hK K
                    refine norm_ (a' := ?_) ?_ ?_
                    rotate_left
                    ·show Act.put _ (some 35) _ = _
                     simp only [Act.put, List.setIfInBounds_toArray, List.set_cons_zero, List.set_cons_succ, i64_w, i32_w]
                     rfl
                    exact norm_ (by simp only [putAll, Act.put, List.setIfInBounds_toArray, List.set_cons_zero, List.set_cons_succ]) (hCont (v132, v139, v143) _ ⟨hHeld, (by (with_reducible repeat (first | apply Kd.R_alloc | apply Kd.R_drewN | apply Kd.R_drew)); exact Kd.R_mono HO140.out (fun _ hk => ⟨hk.2, hk.1⟩)), (by (with_reducible repeat (first | apply Kd.R_alloc | apply Kd.R_drewN | apply Kd.R_drew)); exact Kd.R_mono HO144.out (fun _ hk => ⟨hk.2, hk.1⟩)), (by (with_reducible repeat (first | apply Kd.R_alloc | apply Kd.R_drewN | apply Kd.R_drew)); exact Kd.R_mono HO_3.out (fun _ hk => ⟨hk.2, hk.1⟩)), (wU HB.out)⟩)
                  ·skip
                   refine Kd.R_lit_step k33 _ 33 ?hg (N := 40) ?hd (xs := ([(⟨(rd_T33 l0 x4_1).f0, (rd_T33 l0 x4_1).f1, (rd_T33 l0 x4_1).f2, (rd_T33 l0 x4_1).f3, (rd_T33 l0 x4_1).f4, (rd_T33 l0 x4_1).f5⟩ : S33)] : List (S33))) (inner := [.string ((rd_T33 l0 x4_1).f0), .int .i64 ((rd_T33 l0 x4_1).f1), .int .i64 ((rd_T33 l0 x4_1).f2), .int .i64 ((rd_T33 l0 x4_1).f3), .string ((rd_T33 l0 x4_1).f4), .string ((rd_T33 l0 x4_1).f5)]) (ok := fun _ => True) (okp := fun _ => True) ?hr ?hp (fun _ hk => hk) trivial (Below.refl _ _) (Nat.le_refl _) (by simp) ?_; (case hd => rfl); (case hg => rfl); (case hr => first | (go_simp; done) | (go_simp; rfl)); (case hp => exact (Reps.c6 (show Kd.M k33 _ _ _ (⟨(rd_T33 l0 x4_1).f0, (rd_T33 l0 x4_1).f1, (rd_T33 l0 x4_1).f2, (rd_T33 l0 x4_1).f3, (rd_T33 l0 x4_1).f4, (rd_T33 l0 x4_1).f5⟩ : S33) [.string ((rd_T33 l0 x4_1).f0), .int .i64 ((rd_T33 l0 x4_1).f1), .int .i64 ((rd_T33 l0 x4_1).f2), .int .i64 ((rd_T33 l0 x4_1).f3), .string ((rd_T33 l0 x4_1).f4), .string ((rd_T33 l0 x4_1).f5)] from (k33_mkM _ _ _ (⟨(rd_T33 l0 x4_1).f0, (rd_T33 l0 x4_1).f1, (rd_T33 l0 x4_1).f2, (rd_T33 l0 x4_1).f3, (rd_T33 l0 x4_1).f4, (rd_T33 l0 x4_1).f5⟩ : S33) )) (Reps.none _ _)))
                   intro v143 w28 ho29 hb hg_ hnew_
                   clear hg_ hnew_
                   (first | rw [← Ny142.out] at ho29 | (simp only [Int.reduceToNat] at ho29; rw [← Ny142.out] at ho29))
                   have HO144 := aS (Kd.R_lower (Kd.R_new' ho29 (Kd.R_lt (rU HO_3.out))) (below_size (wU HB.out)))
                   replace HO_3 := aS (Kd.R_elder' (rU HO_3.out) (Kd.R_base ho29) hb)
                   replace HR137 := aS (Kd.C_below (by repeat (first | (with_reducible exact HR137.out) | (with_reducible refine Kd.C_alloc ?_ _) | (with_reducible refine Kd.C_drewN ?_ _) | (with_reducible refine Kd.C_drew ?_) | exact HR137.out)) hb)
                   replace HR151 := aS (Kd.C_below (by repeat (first | (with_reducible exact HR151.out) | (with_reducible refine Kd.C_alloc ?_ _) | (with_reducible refine Kd.C_drewN ?_ _) | (with_reducible refine Kd.C_drew ?_) | exact HR151.out)) hb)
                   replace HB := aS (below_step (wU HB.out) hb)
                   clear hb ho29
                   refine hK.out _ _ ⟨((HB.out.cell (World.block_lt_of_cell? w _ hw141_0)).trans hw141_0), ((HB.out.cell (World.block_lt_of_cell? w _ hw141_1)).trans hw141_1), ((HB.out.cell (World.block_lt_of_cell? w _ hw141_2)).trans hw141_2), ((HB.out.cell (World.block_lt_of_cell? w _ hw141_3)).trans hw141_3), ((HB.out.cell (World.block_lt_of_cell? w _ hw141_4)).trans hw141_4), ((HB.out.cell (World.block_lt_of_cell? w _ hw141_5)).trans hw141_5)⟩ (fun hHeld => ?_)
                   clear hK K
                   refine norm_ (a' := ?_) ?_ ?_
                   rotate_left
                   ·show Act.put _ (some 40) _ = _
                    simp only [Act.put, List.setIfInBounds_toArray, List.set_cons_zero, List.set_cons_succ, i64_w, i32_w]
                    rfl
                   refine one_ (i := 0) (N := some 31) #[true, true, true, true, false, true, true, true, true, true, false, true, true, true, false, false] rfl rfl (one_of HT_.out jK) (by decide) (fun K hK => ?_)
                   refine Kd.R_lit_step k33 _ 33 ?hg (N := 31) ?hd (xs := ([] : List (S33))) (inner := []) (ok := fun _ => True) (okp := fun _ => True) ?hr ?hp (fun _ hk => hk) trivial (Below.refl _ _) (Nat.le_refl _) (by simp) ?_; (case hd => rfl); (case hg => rfl); (case hr => first | (go_simp; done) | (go_simp; rfl)); (case hp => exact (Reps.none _ _))
                   intro v132 w30 ho31 hb hg_ hnew_
                   clear hg_ hnew_
                   (first | rw [← Ny131.out] at ho31 | (simp only [Int.reduceToNat] at ho31; rw [← Ny131.out] at ho31))
                   have HO133 := aS (Kd.R_lower (Kd.R_new' (Kd.R_new' ho31 (Kd.R_lt (rU HO_3.out))) (Kd.R_lt (rU HO144.out))) (below_size (wU HB.out)))
                   replace HO_3 := aS (Kd.R_elder' (rU HO_3.out) (Kd.R_base ho31) hb)
                   replace HO144 := aS (Kd.R_elder' (rU HO144.out) (Kd.R_base ho31) hb)
                   replace HR137 := aS (Kd.C_below (by repeat (first | (with_reducible exact HR137.out) | (with_reducible refine Kd.C_alloc ?_ _) | (with_reducible refine Kd.C_drewN ?_ _) | (with_reducible refine Kd.C_drew ?_) | exact HR137.out)) hb)
                   replace HR151 := aS (Kd.C_below (by repeat (first | (with_reducible exact HR151.out) | (with_reducible refine Kd.C_alloc ?_ _) | (with_reducible refine Kd.C_drewN ?_ _) | (with_reducible refine Kd.C_drew ?_) | exact HR151.out)) hb)
                   replace HB := aS (below_step (wU HB.out) hb)
                   clear hb ho31
                   refine hK.out _ _ ⟨((HB.out.cell (World.block_lt_of_cell? w _ hw141_0)).trans hw141_0), ((HB.out.cell (World.block_lt_of_cell? w _ hw141_1)).trans hw141_1), ((HB.out.cell (World.block_lt_of_cell? w _ hw141_2)).trans hw141_2), ((HB.out.cell (World.block_lt_of_cell? w _ hw141_3)).trans hw141_3), ((HB.out.cell (World.block_lt_of_cell? w _ hw141_4)).trans hw141_4), ((HB.out.cell (World.block_lt_of_cell? w _ hw141_5)).trans hw141_5)⟩ (fun hHeld => ?_)
                   clear hK K
                   refine norm_ (a' := ?_) ?_ ?_
                   rotate_left
                   ·show Act.put _ (some 31) _ = _
                    simp only [Act.put, List.setIfInBounds_toArray, List.set_cons_zero, List.set_cons_succ, i64_w, i32_w]
                    rfl
                   refine one_ (i := 4) (N := some 35) #[true, true, true, true, true, true, true, true, true, true, false, true, true, true, false, false] rfl rfl (one_of HT_.out jK) (by decide) (fun K hK => ?_)
                   refine Kd.R_append_rows_step k33 (w0 := w) w.heap.size (by rfl) (.tmp 31) (.tmp 34) 46 33 (.agg #[(.string ⟨#[]⟩), (.int .i64 0), (.int .i64 0), (.int .i64 0), (.string ⟨#[]⟩), (.string ⟨#[]⟩)]) 72 rfl Tryd.underlying46 info33 rfl (by decide) (by omega) v132 y131 y134 _ _ _ (fun k_ => some k_ ≠ (.slice (some ad129) x3_1.length co5 : Value).ownBlock ∧ some k_ ≠ (v143 : Value).ownBlock) (fun _ => False) rfl rfl ?aO ?aR (fun _ _ h => h) (fun _ h => h.elim) ?aF ?aB ?aS ?aL ?_
                   (case aR => repeat (first | exact (by repeat (first | (with_reducible exact HR137.out) | (with_reducible refine Kd.C_alloc ?_ _) | (with_reducible refine Kd.C_drewN ?_ _) | (with_reducible refine Kd.C_drew ?_) | exact HR137.out)) | (with_reducible refine Kd.C_alloc ?_ _) | (with_reducible refine Kd.C_drewN ?_ _) | (with_reducible refine Kd.C_drew ?_)))
                   (case aB => exact (wU HB.out))
                   (case aF => exact (fun k_ hk => ⟨Kd.fresh' (Kd.R_lt (rU HO_3.out)) k_ hk, Kd.fresh' (Kd.R_lt (rU HO144.out)) k_ hk⟩))
                   (case aO => exact (by (with_reducible repeat (first | apply Kd.R_alloc | apply Kd.R_drewN | apply Kd.R_drew)); exact Kd.R_mono HO133.out (fun _ hk => ⟨hk.1.2, hk.2⟩)))
                   (case aS => exact (below_size (wU HB.out)))
                   (case aL => have := LMc18.out; omega)
                   intro v139 w32 ho hb hg hat
                   rw [← Ny138.out] at ho
                   replace HO144 := aS (Kd.R_after (ok := (fun k_ => some k_ ≠ (.slice (some ad129) x3_1.length co5 : Value).ownBlock)) (by (with_reducible repeat (first | apply Kd.R_alloc | apply Kd.R_drewN | apply Kd.R_drew)); exact Kd.R_mono HO144.out (fun _ hk => ⟨hk.1.2, hk.2⟩)) hg hat)
                   replace HB := aS (hb)
                   replace HR137 := aS ((show Kd.C k33 w32 (some ad129) y134.length y134 from by rw [Ny134.out]; exact Kd.C_take (m := (x5_2 : Int).toNat) ((Kd.R_reads' (Kd.R_after (ok := (fun k_ => some k_ ≠ (v143 : Value).ownBlock)) (by (with_reducible repeat (first | apply Kd.R_alloc | apply Kd.R_drewN | apply Kd.R_drew)); exact Kd.R_mono HO_3.out (fun _ hk => ⟨hk.1.2, hk.2⟩)) hg hat)).2.2) KL26.out))
                   replace HR151 := aS ((show Kd.C k33 w32 A27 y148.length y148 from by rw [Ny148.out, KA27.out]; exact Kd.C_drop (m := (x5_2 : Int).toNat) (c := co5) ((Kd.R_reads' (Kd.R_after (ok := (fun k_ => some k_ ≠ (v143 : Value).ownBlock)) (by (with_reducible repeat (first | apply Kd.R_alloc | apply Kd.R_drewN | apply Kd.R_drew)); exact Kd.R_mono HO_3.out (fun _ hk => ⟨hk.1.2, hk.2⟩)) hg hat)).2.2) KL27.out ((Kd.R_reads' (Kd.R_after (ok := (fun k_ => some k_ ≠ (v143 : Value).ownBlock)) (by (with_reducible repeat (first | apply Kd.R_alloc | apply Kd.R_drewN | apply Kd.R_drew)); exact Kd.R_mono HO_3.out (fun _ hk => ⟨hk.1.2, hk.2⟩)) hg hat)).2.1)))
                   replace HO_3 := aS (Kd.R_after (ok := (fun k_ => some k_ ≠ (v143 : Value).ownBlock)) (by (with_reducible repeat (first | apply Kd.R_alloc | apply Kd.R_drewN | apply Kd.R_drew)); exact Kd.R_mono HO_3.out (fun _ hk => ⟨hk.1.2, hk.2⟩)) hg hat)
                   have HO140 := aS (ho)
                   clear HO133
                   clear ho hb hg hat
                   refine hK.out _ _ ⟨((HB.out.cell (World.block_lt_of_cell? w _ hw141_0)).trans hw141_0), ((HB.out.cell (World.block_lt_of_cell? w _ hw141_1)).trans hw141_1), ((HB.out.cell (World.block_lt_of_cell? w _ hw141_2)).trans hw141_2), ((HB.out.cell (World.block_lt_of_cell? w _ hw141_3)).trans hw141_3), ((HB.out.cell (World.block_lt_of_cell? w _ hw141_4)).trans hw141_4), ((HB.out.cell (World.block_lt_of_cell? w _ hw141_5)).trans hw141_5)⟩ (fun hHeld => ?_)
                   clear hK K
                   refine norm_ (a' := ?_) ?_ ?_
                   rotate_left
                   ·show Act.put _ (some 35) _ = _
                    simp only [Act.put, List.setIfInBounds_toArray, List.set_cons_zero, List.set_cons_succ, i64_w, i32_w]
                    rfl
                   exact norm_ (by simp only [putAll, Act.put, List.setIfInBounds_toArray, List.set_cons_zero, List.set_cons_succ]) (hCont (v132, v139, v143) _ ⟨hHeld, (by (with_reducible repeat (first | apply Kd.R_alloc | apply Kd.R_drewN | apply Kd.R_drew)); exact Kd.R_mono HO140.out (fun _ hk => ⟨hk.2, hk.1⟩)), (by (with_reducible repeat (first | apply Kd.R_alloc | apply Kd.R_drewN | apply Kd.R_drew)); exact Kd.R_mono HO144.out (fun _ hk => ⟨hk.2, hk.1⟩)), (by (with_reducible repeat (first | apply Kd.R_alloc | apply Kd.R_drewN | apply Kd.R_drew)); exact Kd.R_mono HO_3.out (fun _ hk => ⟨hk.2, hk.1⟩)), (wU HB.out)⟩)
                 rintro ⟨v132, v139, v143⟩ w33 ⟨hS_, h0_, h1_, h2_, h3_⟩
                 have n0_ : Aside0 (Kd.R k33 33 w33 w.heap.size (fun k_ => some k_ ≠ (v143 : Value).ownBlock ∧ some k_ ≠ (.slice (some ad129) x3_1.length co5 : Value).ownBlock) v139 y138) := ⟨h0_⟩
                 have n1_ : Aside0 (Kd.R k33 33 w33 w.heap.size (fun k_ => some k_ ≠ (v139 : Value).ownBlock ∧ some k_ ≠ (.slice (some ad129) x3_1.length co5 : Value).ownBlock) v143 y142) := ⟨h1_⟩
                 have n2_ : Aside0 (Kd.R k33 33 w33 w.heap.size (fun k_ => some k_ ≠ (v139 : Value).ownBlock ∧ some k_ ≠ (v143 : Value).ownBlock) (.slice (some ad129) x3_1.length co5) x3_1) := ⟨h2_⟩
                 have n3_ : Aside0 (Below w.heap.size w w33) := ⟨h3_⟩
                 clear HO_3
                 clear HB
                 clear h0_ h1_ h2_ h3_
                 have HO140 := n0_
                 have HO144 := n1_
                 have HO_3 := n2_
                 have HB := n3_
                 clear n0_ n1_ n2_ n3_
                 have hHeld : w33.cell? (ad128.add ((x4_1).toNat * 6)) = some (.string ((rd_T33 l0 x4_1).f0)) ∧ w33.cell? ⟨(ad128.add ((x4_1).toNat * 6)).block, (ad128.add ((x4_1).toNat * 6)).off + 1, none⟩ = some (.int .i64 ((rd_T33 l0 x4_1).f1)) ∧ w33.cell? ⟨(ad128.add ((x4_1).toNat * 6)).block, (ad128.add ((x4_1).toNat * 6)).off + 2, none⟩ = some (.int .i64 ((rd_T33 l0 x4_1).f2)) ∧ w33.cell? ⟨(ad128.add ((x4_1).toNat * 6)).block, (ad128.add ((x4_1).toNat * 6)).off + 3, none⟩ = some (.int .i64 ((rd_T33 l0 x4_1).f3)) ∧ w33.cell? ⟨(ad128.add ((x4_1).toNat * 6)).block, (ad128.add ((x4_1).toNat * 6)).off + 4, none⟩ = some (.string ((rd_T33 l0 x4_1).f4)) ∧ w33.cell? ⟨(ad128.add ((x4_1).toNat * 6)).block, (ad128.add ((x4_1).toNat * 6)).off + 5, none⟩ = some (.string ((rd_T33 l0 x4_1).f5)) := hS_
                 (try clear HR137)
                 have HR137 := aS (show Kd.C k33 w33 (some ad129) y134.length y134 from by rw [Ny134.out]; exact Kd.C_take (m := (x5_2 : Int).toNat) ((Kd.R_reads' HO_3.out).2.2) KL26.out)
                 (try clear HR151)
                 have HR151 := aS (show Kd.C k33 w33 A27 y148.length y148 from by rw [Ny148.out, KA27.out]; exact Kd.C_drop (m := (x5_2 : Int).toNat) (c := co5) ((Kd.R_reads' HO_3.out).2.2) KL27.out ((Kd.R_reads' HO_3.out).2.1))
                 obtain ⟨Ao35, co35, eo35⟩ := Kd.R_slice HO144.out
                 (first | subst eo35 | (injection eo35 with f1_ f2_ f3_; have f4_ := f1_.symm; have f5_ := f3_.symm; clear f1_ f2_ f3_; subst f4_; subst f5_))
                 refine norm_ (a' := ?_) ?_ ?_
                 rotate_left
                 ·simp only [putAll, Act.put, List.setIfInBounds_toArray, List.set_cons_zero, List.set_cons_succ]
                  rfl
                 refine one_ (i := 10) (N := some 41) #[true, true, true, true, true, true, true, true, true, true, true, true, true, true, false, false] rfl rfl (one_of HT_.out jK) (by decide) (fun K hK => ?_)
                 refine Kd.R_append_rows_step k33 (w0 := w) w.heap.size (by rfl) (.tmp 35) (.tmp 40) 46 33 (.agg #[(.string ⟨#[]⟩), (.int .i64 0), (.int .i64 0), (.int .i64 0), (.string ⟨#[]⟩), (.string ⟨#[]⟩)]) 72 rfl Tryd.underlying46 info33 rfl (by decide) (by omega) v139 y138 y142 _ _ _ (fun k_ => some k_ ≠ (.slice (some ad129) x3_1.length co5 : Value).ownBlock ∧ some k_ ≠ (.slice Ao35 y142.length co35 : Value).ownBlock) (fun _ => False) rfl rfl ?aO ?aR (fun _ _ h => h) (fun _ h => h.elim) ?aF ?aB ?aS ?aL ?_
                 (case aR => exact cU ((Kd.R_reads' HO144.out).2.2))
                 (case aB => exact (wU HB.out))
                 (case aF => exact (fun k_ hk => ⟨Kd.fresh' (Kd.R_lt (rU HO_3.out)) k_ hk, Kd.fresh' (Kd.R_lt (rU HO144.out)) k_ hk⟩))
                 (case aO => exact (by (with_reducible repeat (first | apply Kd.R_alloc | apply Kd.R_drewN | apply Kd.R_drew)); exact Kd.R_mono HO140.out (fun _ hk => ⟨hk.2, hk.1⟩)))
                 (case aS => exact (below_size (wU HB.out)))
                 (case aL => have := LMc19.out; omega)
                 intro v146 w34 ho hb hg hat
                 rw [← Ny145.out] at ho
                 replace HO144 := aS (Kd.R_after (ok := (fun k_ => some k_ ≠ (.slice (some ad129) x3_1.length co5 : Value).ownBlock)) (by (with_reducible repeat (first | apply Kd.R_alloc | apply Kd.R_drewN | apply Kd.R_drew)); exact Kd.R_mono HO144.out (fun _ hk => ⟨hk.2, hk.1⟩)) hg hat)
                 replace HB := aS (hb)
                 replace HR137 := aS ((show Kd.C k33 w34 (some ad129) y134.length y134 from by rw [Ny134.out]; exact Kd.C_take (m := (x5_2 : Int).toNat) ((Kd.R_reads' (Kd.R_after (ok := (fun k_ => some k_ ≠ (.slice Ao35 y142.length co35 : Value).ownBlock)) (by (with_reducible repeat (first | apply Kd.R_alloc | apply Kd.R_drewN | apply Kd.R_drew)); exact Kd.R_mono HO_3.out (fun _ hk => ⟨hk.2, hk.1⟩)) hg hat)).2.2) KL26.out))
                 replace HR151 := aS ((show Kd.C k33 w34 A27 y148.length y148 from by rw [Ny148.out, KA27.out]; exact Kd.C_drop (m := (x5_2 : Int).toNat) (c := co5) ((Kd.R_reads' (Kd.R_after (ok := (fun k_ => some k_ ≠ (.slice Ao35 y142.length co35 : Value).ownBlock)) (by (with_reducible repeat (first | apply Kd.R_alloc | apply Kd.R_drewN | apply Kd.R_drew)); exact Kd.R_mono HO_3.out (fun _ hk => ⟨hk.2, hk.1⟩)) hg hat)).2.2) KL27.out ((Kd.R_reads' (Kd.R_after (ok := (fun k_ => some k_ ≠ (.slice Ao35 y142.length co35 : Value).ownBlock)) (by (with_reducible repeat (first | apply Kd.R_alloc | apply Kd.R_drewN | apply Kd.R_drew)); exact Kd.R_mono HO_3.out (fun _ hk => ⟨hk.2, hk.1⟩)) hg hat)).2.1)))
                 replace HO_3 := aS (Kd.R_after (ok := (fun k_ => some k_ ≠ (.slice Ao35 y142.length co35 : Value).ownBlock)) (by (with_reducible repeat (first | apply Kd.R_alloc | apply Kd.R_drewN | apply Kd.R_drew)); exact Kd.R_mono HO_3.out (fun _ hk => ⟨hk.2, hk.1⟩)) hg hat)
                 have HO147 := aS (ho)
                 clear HO140
                 clear ho hb hg hat
                 refine hK.out _ _ ⟨((HB.out.cell (World.block_lt_of_cell? w _ hw141_0)).trans hw141_0), ((HB.out.cell (World.block_lt_of_cell? w _ hw141_1)).trans hw141_1), ((HB.out.cell (World.block_lt_of_cell? w _ hw141_2)).trans hw141_2), ((HB.out.cell (World.block_lt_of_cell? w _ hw141_3)).trans hw141_3), ((HB.out.cell (World.block_lt_of_cell? w _ hw141_4)).trans hw141_4), ((HB.out.cell (World.block_lt_of_cell? w _ hw141_5)).trans hw141_5)⟩ (fun hHeld => ?_)
                 clear hK K
                 refine norm_ (a' := ?_) ?_ ?_
                 rotate_left
                 ·show Act.put _ (some 41) _ = _
                  simp only [Act.put, List.setIfInBounds_toArray, List.set_cons_zero, List.set_cons_succ, i64_w, i32_w]
                  rfl
                 refine one_ (i := 14) (N := some 45) #[true, true, true, true, true, true, true, true, true, true, true, true, true, true, true, false] rfl rfl (one_of HT_.out jK) (by decide) (fun K hK => ?_)
                 refine Kd.R_append_rows_step k33 (w0 := w) w.heap.size (by rfl) (.tmp 41) (.tmp 44) 46 33 (.agg #[(.string ⟨#[]⟩), (.int .i64 0), (.int .i64 0), (.int .i64 0), (.string ⟨#[]⟩), (.string ⟨#[]⟩)]) 72 rfl Tryd.underlying46 info33 rfl (by decide) (by omega) v146 y145 y148 _ _ _ (fun k_ => some k_ ≠ (.slice (some ad129) x3_1.length co5 : Value).ownBlock ∧ some k_ ≠ (.slice Ao35 y142.length co35 : Value).ownBlock) (fun _ => False) rfl rfl ?aO ?aR (fun _ _ h => h) (fun _ h => h.elim) ?aF ?aB ?aS ?aL ?_
                 (case aR => repeat (first | exact (by repeat (first | (with_reducible exact HR151.out) | (with_reducible refine Kd.C_alloc ?_ _) | (with_reducible refine Kd.C_drewN ?_ _) | (with_reducible refine Kd.C_drew ?_) | exact HR151.out)) | (with_reducible refine Kd.C_alloc ?_ _) | (with_reducible refine Kd.C_drewN ?_ _) | (with_reducible refine Kd.C_drew ?_)))
                 (case aB => exact (wU HB.out))
                 (case aF => exact (fun k_ hk => ⟨Kd.fresh' (Kd.R_lt (rU HO_3.out)) k_ hk, Kd.fresh' (Kd.R_lt (rU HO144.out)) k_ hk⟩))
                 (case aO => exact (rU HO147.out))
                 (case aS => exact (below_size (wU HB.out)))
                 (case aL => have := LMc22.out; omega)
                 intro v153 w36 ho hb hg hat
                 rw [← Ny152.out] at ho
                 replace HO144 := aS (Kd.R_after (ok := (fun k_ => some k_ ≠ (.slice (some ad129) x3_1.length co5 : Value).ownBlock)) (rU HO144.out) hg hat)
                 replace HB := aS (hb)
                 replace HR137 := aS ((show Kd.C k33 w36 (some ad129) y134.length y134 from by rw [Ny134.out]; exact Kd.C_take (m := (x5_2 : Int).toNat) ((Kd.R_reads' (Kd.R_after (ok := (fun k_ => some k_ ≠ (.slice Ao35 y142.length co35 : Value).ownBlock)) (rU HO_3.out) hg hat)).2.2) KL26.out))
                 replace HR151 := aS ((show Kd.C k33 w36 A27 y148.length y148 from by rw [Ny148.out, KA27.out]; exact Kd.C_drop (m := (x5_2 : Int).toNat) (c := co5) ((Kd.R_reads' (Kd.R_after (ok := (fun k_ => some k_ ≠ (.slice Ao35 y142.length co35 : Value).ownBlock)) (rU HO_3.out) hg hat)).2.2) KL27.out ((Kd.R_reads' (Kd.R_after (ok := (fun k_ => some k_ ≠ (.slice Ao35 y142.length co35 : Value).ownBlock)) (rU HO_3.out) hg hat)).2.1)))
                 replace HO_3 := aS (Kd.R_after (ok := (fun k_ => some k_ ≠ (.slice Ao35 y142.length co35 : Value).ownBlock)) (rU HO_3.out) hg hat)
                 have HO154 := aS (ho)
                 clear HO147
                 clear ho hb hg hat
                 refine hK.out _ _ ⟨((HB.out.cell (World.block_lt_of_cell? w _ hw141_0)).trans hw141_0), ((HB.out.cell (World.block_lt_of_cell? w _ hw141_1)).trans hw141_1), ((HB.out.cell (World.block_lt_of_cell? w _ hw141_2)).trans hw141_2), ((HB.out.cell (World.block_lt_of_cell? w _ hw141_3)).trans hw141_3), ((HB.out.cell (World.block_lt_of_cell? w _ hw141_4)).trans hw141_4), ((HB.out.cell (World.block_lt_of_cell? w _ hw141_5)).trans hw141_5)⟩ (fun hHeld => ?_)
                 clear hK K
                 refine norm_ (a' := ?_) ?_ ?_
                 rotate_left
                 ·show Act.put _ (some 45) _ = _
                  simp only [Act.put, List.setIfInBounds_toArray, List.set_cons_zero, List.set_cons_succ, i64_w, i32_w]
                  rfl
                 refine pure_ (i := 15) (N := some 3) (v := ?_) (a' := ?_) #[true, true, true, true, true, true, true, true, true, true, true, true, true, true, true, true] rfl rfl (any_of HT_.out jK) (fun _ _ _ h => h) (Or.inl ⟨by rfl, ?_⟩) ?_ ?_
                 rotate_left
                 ·intro w'
                  go_simp
                  with_reducible rfl
                 rotate_left
                 ·simp only [Act.put, List.setIfInBounds_toArray, List.set_cons_zero, List.set_cons_succ, i64_w, i32_w]
                  rfl
                 refine done_ (done_of HT_.out jK) ?_
                 try go_wp2
                 go_roundg k2
                 case measure => have := HK1.out; have := HK2.out; omega
                 case rel => exact ⟨(y152), (wrap64 (x4_1 + 1)), jB, H', ⟨by have := HK1.out; have := HK2.out; omega⟩, ⟨Kd.R_mono (rU HO154.out) (fun _ hk => trivial)⟩, ⟨by exact wU HB.out⟩⟩
                ·rw [if_neg c22] at H
                 exact absurd H (by simp)
               ·rw [if_neg c19] at H
                exact absurd H (by simp)
              ·rw [if_neg c18] at H
               exact absurd H (by simp)
             ·rw [if_neg c17] at H
              exact absurd H (by simp)
            ·rw [if_neg c16] at H
             exact absurd H (by simp)
          ·rw [if_neg c11] at H
           exact absurd H (by simp)
         ·rw [if_neg c10] at H
          exact absurd H (by simp)
        ·rw [if_neg c8] at H
         exact absurd H (by simp)
       ·rw [if_neg c7] at H
        exact absurd H (by simp)
      ·rw [if_neg c6] at H
       have c6b0 := decide_eq_false c6
       clear c6
       obtain ⟨y155, hy_⟩ : ∃ y_ : List (S33), y_ = (([] : List (S33))) := ⟨_, rfl⟩
       replace H : (if 0 ≤ x5_2 then (if x5_2 ≤ (x3_1.length : Int) then ((some (x3_1.take (x5_2 : Int).toNat : List (S33))).bind fun y158 => (if y155.length + y158.length < 1954687338268 then ((some (y155 ++ y158 : List (S33))).bind fun y162 => (if 0 ≤ x4_1 then (if x4_1 < (l0.length : Int) then ((some (([(⟨(rd_T33 l0 x4_1).f0, (rd_T33 l0 x4_1).f1, (rd_T33 l0 x4_1).f2, (rd_T33 l0 x4_1).f3, (rd_T33 l0 x4_1).f4, (rd_T33 l0 x4_1).f5⟩ : S33)] : List (S33)) : List (S33))).bind fun y166 => (if y162.length + y166.length < 1954687338268 then ((some (y162 ++ y166 : List (S33))).bind fun y169 => ((some (x3_1.drop (x5_2 : Int).toNat : List (S33))).bind fun y172 => (if y169.length + y172.length < 1954687338268 then (spec_SortRecords.l0 k2 l0 (y169 ++ y172) (wrap64 (x4_1 + 1))) else (none)))) else (none))) else (none)) else (none))) else (none))) else (none)) else (none)) = some r := jD
       have Ny155 := aS hy_
       clear hy_
       by_cases c37 : 0 ≤ x5_2
       ·rw [if_pos c37] at H
        have c37b0 := eq_true c37
        have c37b1 := decide_eq_true c37
        clear c37
        by_cases c38 : x5_2 ≤ (x3_1.length : Int)
        ·rw [if_pos c38] at H
         have c38b0 := eq_true c38
         have c38b1 := decide_eq_true c38
         clear c38
         obtain ⟨y158, hy_⟩ : ∃ y_ : List (S33), y_ = (x3_1.take (x5_2 : Int).toNat) := ⟨_, rfl⟩
         replace H : (if y155.length + y158.length < 1954687338268 then ((some (y155 ++ y158 : List (S33))).bind fun y162 => (if 0 ≤ x4_1 then (if x4_1 < (l0.length : Int) then ((some (([(⟨(rd_T33 l0 x4_1).f0, (rd_T33 l0 x4_1).f1, (rd_T33 l0 x4_1).f2, (rd_T33 l0 x4_1).f3, (rd_T33 l0 x4_1).f4, (rd_T33 l0 x4_1).f5⟩ : S33)] : List (S33)) : List (S33))).bind fun y166 => (if y162.length + y166.length < 1954687338268 then ((some (y162 ++ y166 : List (S33))).bind fun y169 => ((some (x3_1.drop (x5_2 : Int).toNat : List (S33))).bind fun y172 => (if y169.length + y172.length < 1954687338268 then (spec_SortRecords.l0 k2 l0 (y169 ++ y172) (wrap64 (x4_1 + 1))) else (none)))) else (none))) else (none)) else (none))) else (none)) = some r := jD
         have Ny158 := aS hy_
         clear hy_
         by_cases c39 : y155.length + y158.length < 1954687338268
         ·rw [if_pos c39] at H
          have LMc39 := aS c39
          clear c39
          obtain ⟨y162, hy_⟩ : ∃ y_ : List (S33), y_ = (y155 ++ y158) := ⟨_, rfl⟩
          replace H : (if 0 ≤ x4_1 then (if x4_1 < (l0.length : Int) then ((some (([(⟨(rd_T33 l0 x4_1).f0, (rd_T33 l0 x4_1).f1, (rd_T33 l0 x4_1).f2, (rd_T33 l0 x4_1).f3, (rd_T33 l0 x4_1).f4, (rd_T33 l0 x4_1).f5⟩ : S33)] : List (S33)) : List (S33))).bind fun y166 => (if y162.length + y166.length < 1954687338268 then ((some (y162 ++ y166 : List (S33))).bind fun y169 => ((some (x3_1.drop (x5_2 : Int).toNat : List (S33))).bind fun y172 => (if y169.length + y172.length < 1954687338268 then (spec_SortRecords.l0 k2 l0 (y169 ++ y172) (wrap64 (x4_1 + 1))) else (none)))) else (none))) else (none)) else (none)) = some r := jD
          have Ny162 := aS hy_
          clear hy_
          by_cases c40 : 0 ≤ x4_1
          ·rw [if_pos c40] at H
           have c40b0 := decide_eq_true c40
           clear c40
           by_cases c41 : x4_1 < (l0.length : Int)
           ·rw [if_pos c41] at H
            have c41b0 := decide_eq_true c41
            clear c41
            obtain ⟨y166, hy_⟩ : ∃ y_ : List (S33), y_ = (([(⟨(rd_T33 l0 x4_1).f0, (rd_T33 l0 x4_1).f1, (rd_T33 l0 x4_1).f2, (rd_T33 l0 x4_1).f3, (rd_T33 l0 x4_1).f4, (rd_T33 l0 x4_1).f5⟩ : S33)] : List (S33))) := ⟨_, rfl⟩
            replace H : (if y162.length + y166.length < 1954687338268 then ((some (y162 ++ y166 : List (S33))).bind fun y169 => ((some (x3_1.drop (x5_2 : Int).toNat : List (S33))).bind fun y172 => (if y169.length + y172.length < 1954687338268 then (spec_SortRecords.l0 k2 l0 (y169 ++ y172) (wrap64 (x4_1 + 1))) else (none)))) else (none)) = some r := jD
            have Ny166 := aS hy_
            clear hy_
            by_cases c42 : y162.length + y166.length < 1954687338268
            ·rw [if_pos c42] at H
             have LMc42 := aS c42
             clear c42
             obtain ⟨y169, hy_⟩ : ∃ y_ : List (S33), y_ = (y162 ++ y166) := ⟨_, rfl⟩
             replace H : ((some (x3_1.drop (x5_2 : Int).toNat : List (S33))).bind fun y172 => (if y169.length + y172.length < 1954687338268 then (spec_SortRecords.l0 k2 l0 (y169 ++ y172) (wrap64 (x4_1 + 1))) else (none))) = some r := jD
             have Ny169 := aS hy_
             clear hy_
             have c43b0 := eq_true (of_decide_eq_true jC : 0 ≤ x5_2)
             have c44b0 := eq_true (of_decide_eq_true jC : x5_2 ≤ (x3_1.length : Int))
             obtain ⟨y172, hy_⟩ : ∃ y_ : List (S33), y_ = (x3_1.drop (x5_2 : Int).toNat) := ⟨_, rfl⟩
             replace H : (if y169.length + y172.length < 1954687338268 then (spec_SortRecords.l0 k2 l0 (y169 ++ y172) (wrap64 (x4_1 + 1))) else (none)) = some r := jD
             have Ny172 := aS hy_
             clear hy_
             by_cases c45 : y169.length + y172.length < 1954687338268
             ·rw [if_pos c45] at H
              have LMc45 := aS c45
              clear c45
              obtain ⟨y176, hy_⟩ : ∃ y_ : List (S33), y_ = (y169 ++ y172) := ⟨_, rfl⟩
              replace H : (spec_SortRecords.l0 k2 l0 y176 (wrap64 (x4_1 + 1))) = some r := jD
              have Ny176 := aS hy_
              clear hy_
              have H' := aS H
              clear H
              try go_wp2
              replace HO_3 := aS (Kd.R_drew HO_3.out)
              replace HB := aS (below_drew1 HB.out)
              refine start_ (n := 14) (S := fun w' => True) (ds := []) #[false, false, false, false, false, false, false, false, false, false, false, false, false, false] jK rfl rfl trivial (fun hHeld => ?_); refine with_tabW spec_SortRecords.tab6 spec_SortRecords.bits6 (fun HT_ HW_ => ?_)
              generalize wr.drew = w46 at HO_3 HB hHeld ⊢
              refine pure_ (i := 0) (N := some 15) (v := ?_) (a' := ?_) #[true, false, false, false, false, false, false, false, false, false, false, false, false, false] rfl rfl (any_of HT_.out jK) (fun _ _ _ h => h) (Or.inl ⟨by rfl, ?_⟩) ?_ ?_
              rotate_left
              ·intro w'
               go_simp
               with_reducible rfl
              rotate_left
              ·simp only [Act.put, List.setIfInBounds_toArray, List.set_cons_zero, List.set_cons_succ, i64_w, i32_w]
               rfl
              refine pure_ (i := 1) (N := some 16) (v := ?_) (a' := ?_) #[true, true, false, false, false, false, false, false, false, false, false, false, false, false] rfl rfl (any_of HT_.out jK) (fun _ _ _ h => h) (Or.inl ⟨by rfl, ?_⟩) ?_ ?_
              rotate_left
              ·intro w'
               go_simp
               with_reducible rfl
              rotate_left
              ·simp only [Act.put, List.setIfInBounds_toArray, List.set_cons_zero, List.set_cons_succ, i64_w, i32_w]
               rfl
              refine pure_ (i := 2) (N := some 17) (v := ?_) (a' := ?_) #[true, true, true, false, false, false, false, false, false, false, false, false, false, false] rfl rfl (any_of HT_.out jK) (fun _ _ _ h => h) (Or.inl ⟨by rfl, ?_⟩) ?_ ?_
              rotate_left
              ·intro w'
               go_simp
               with_reducible rfl
              rotate_left
              ·simp only [Act.put, List.setIfInBounds_toArray, List.set_cons_zero, List.set_cons_succ, i64_w, i32_w]
               rfl
              refine pure_ (i := 3) (N := some 18) (v := undef) (a' := ?_) #[true, true, true, true, false, false, false, false, false, false, false, false, false, false] rfl rfl (any_of HT_.out jK) (fun _ _ _ h => h) (Or.inr ⟨by rfl, rfl⟩) ?_ ?_
              rotate_left
              ·simp only [Act.put, List.setIfInBounds_toArray, List.set_cons_zero, List.set_cons_succ, i64_w, i32_w]
               rfl
              refine pure_ (i := 4) (N := some 19) (v := undef) (a' := ?_) #[true, true, true, true, true, false, false, false, false, false, false, false, false, false] rfl rfl (any_of HT_.out jK) (fun _ _ _ h => h) (Or.inr ⟨by rfl, rfl⟩) ?_ ?_
              rotate_left
              ·simp only [Act.put, List.setIfInBounds_toArray, List.set_cons_zero, List.set_cons_succ, i64_w, i32_w]
               rfl
              refine pure_ (i := 5) (N := some 20) (v := undef) (a' := ?_) #[true, true, true, true, true, true, false, false, false, false, false, false, false, false] rfl rfl (any_of HT_.out jK) (fun _ _ _ h => h) (Or.inr ⟨by rfl, rfl⟩) ?_ ?_
              rotate_left
              ·simp only [Act.put, List.setIfInBounds_toArray, List.set_cons_zero, List.set_cons_succ, i64_w, i32_w]
               rfl
              refine pure_ (i := 6) (N := some 21) (v := undef) (a' := ?_) #[true, true, true, true, true, true, true, false, false, false, false, false, false, false] rfl rfl (any_of HT_.out jK) (fun _ _ _ h => h) (Or.inr ⟨by rfl, rfl⟩) ?_ ?_
              rotate_left
              ·simp only [Act.put, List.setIfInBounds_toArray, List.set_cons_zero, List.set_cons_succ, i64_w, i32_w]
               rfl
              refine pure_ (i := 7) (N := some 22) (v := undef) (a' := ?_) #[true, true, true, true, true, true, true, true, false, false, false, false, false, false] rfl rfl (any_of HT_.out jK) (fun _ _ _ h => h) (Or.inr ⟨by rfl, rfl⟩) ?_ ?_
              rotate_left
              ·simp only [Act.put, List.setIfInBounds_toArray, List.set_cons_zero, List.set_cons_succ, i64_w, i32_w]
               rfl
              refine pure_ (i := 8) (N := some 23) (v := undef) (a' := ?_) #[true, true, true, true, true, true, true, true, true, false, false, false, false, false] rfl rfl (any_of HT_.out jK) (fun _ _ _ h => h) (Or.inr ⟨by rfl, rfl⟩) ?_ ?_
              rotate_left
              ·simp only [Act.put, List.setIfInBounds_toArray, List.set_cons_zero, List.set_cons_succ, i64_w, i32_w]
               rfl
              refine pure_ (i := 9) (N := some 24) (v := undef) (a' := ?_) #[true, true, true, true, true, true, true, true, true, true, false, false, false, false] rfl rfl (any_of HT_.out jK) (fun _ _ _ h => h) (Or.inr ⟨by rfl, rfl⟩) ?_ ?_
              rotate_left
              ·simp only [Act.put, List.setIfInBounds_toArray, List.set_cons_zero, List.set_cons_succ, i64_w, i32_w]
               rfl
              refine pure_ (i := 10) (N := some 25) (v := undef) (a' := ?_) #[true, true, true, true, true, true, true, true, true, true, true, false, false, false] rfl rfl (any_of HT_.out jK) (fun _ _ _ h => h) (Or.inr ⟨by rfl, rfl⟩) ?_ ?_
              rotate_left
              ·simp only [Act.put, List.setIfInBounds_toArray, List.set_cons_zero, List.set_cons_succ, i64_w, i32_w]
               rfl
              refine pure_ (i := 11) (N := some 26) (v := undef) (a' := ?_) #[true, true, true, true, true, true, true, true, true, true, true, true, false, false] rfl rfl (any_of HT_.out jK) (fun _ _ _ h => h) (Or.inr ⟨by rfl, rfl⟩) ?_ ?_
              rotate_left
              ·simp only [Act.put, List.setIfInBounds_toArray, List.set_cons_zero, List.set_cons_succ, i64_w, i32_w]
               rfl
              refine pure_ (i := 12) (N := some 27) (v := undef) (a' := ?_) #[true, true, true, true, true, true, true, true, true, true, true, true, true, false] rfl rfl (any_of HT_.out jK) (fun _ _ _ h => h) (Or.inr ⟨by rfl, rfl⟩) ?_ ?_
              rotate_left
              ·simp only [Act.put, List.setIfInBounds_toArray, List.set_cons_zero, List.set_cons_succ, i64_w, i32_w]
               rfl
              refine pure_ (i := 13) (N := some 28) (v := ?_) (a' := ?_) #[true, true, true, true, true, true, true, true, true, true, true, true, true, true] rfl rfl (any_of HT_.out jK) (fun _ _ _ h => h) (Or.inl ⟨by rfl, ?_⟩) ?_ ?_
              rotate_left
              ·intro w'
               go_simp
               with_reducible rfl
              rotate_left
              ·simp only [Act.put, List.setIfInBounds_toArray, List.set_cons_zero, List.set_cons_succ, i64_w, i32_w]
               rfl
              refine done_ (done_of HT_.out jK) ?_
              try go_wp2
              replace HO_3 := aS (Kd.R_drew HO_3.out)
              replace HB := aS (below_drew1 HB.out)
              have q48 : (x5_2 : Int) ≤ ((x3_1.length : Int) : Int) := of_decide_eq_true jC
              obtain ⟨i048, hi048, _, hsz48, _⟩ := info_parts info33
              have hroom48 : x3_1.length ≤ co5 := (Kd.R_reads' HO_3.out).2.1
              have hC48 : Kd.C k33 _ Ao5 x3_1.length x3_1 := (Kd.R_reads' HO_3.out).2.2
              have hcut48 := cut_to (P := Tryd.prog) 46 33 .i64 Tryd.underlying46 hi048 Ao5 x3_1.length co5 x5_2 (of_decide_eq_true jC) q48 hroom48
              have hr48 := Kd.C_take (m := (x5_2 : Int).toNat) hC48 (by omega)
              have hy48 : y158.length = (x5_2 : Int).toNat := (by rw [Ny158.out, List.length_take]; omega)
              rw [← Ny158.out] at hr48
              rw [← hy48] at hcut48
              have HR161 := aS hr48
              have HC161 := aS (show y158.length ≤ co5 from by omega)
              clear hr48 hC48 hroom48 hi048 hsz48
              have KY48 := aS hy48
              clear hy48
              have KL48 := aS (show (x5_2 : Int).toNat ≤ x3_1.length from by omega)
              replace q48 := eq_true q48
              have p165 : 0 ≤ (x4_1 : Int) := of_decide_eq_true jC
              have q165 : x4_1 < (l0.length : Int) := of_decide_eq_true jC
              obtain ⟨ad165, e165, hx165_0, hx165_1, hx165_2, hx165_3, hx165_4, hx165_5⟩ := at_T33 HR0.out x4_1 p165 q165
              have hw165_5 := hx165_5
              have hw165_4 := hx165_4
              have hw165_3 := hx165_3
              have hw165_2 := hx165_2
              have hw165_1 := hx165_1
              have hw165_0 := hx165_0
              cases e165
              try replace hx165_0 := (HB.out.cell (World.block_lt_of_cell? w _ hx165_0)).trans hx165_0
              try replace hx165_1 := (HB.out.cell (World.block_lt_of_cell? w _ hx165_1)).trans hx165_1
              try replace hx165_2 := (HB.out.cell (World.block_lt_of_cell? w _ hx165_2)).trans hx165_2
              try replace hx165_3 := (HB.out.cell (World.block_lt_of_cell? w _ hx165_3)).trans hx165_3
              try replace hx165_4 := (HB.out.cell (World.block_lt_of_cell? w _ hx165_4)).trans hx165_4
              try replace hx165_5 := (HB.out.cell (World.block_lt_of_cell? w _ hx165_5)).trans hx165_5
              replace p165 := eq_true p165
              replace q165 := eq_true q165
              have q49 : (x5_2 : Int) ≤ ((x3_1.length : Int) : Int) := of_decide_eq_true jC
              obtain ⟨i049, hi049, _, hsz49, _⟩ := info_parts info33
              have hroom49 : x3_1.length ≤ co5 := (Kd.R_reads' HO_3.out).2.1
              have hC49 : Kd.C k33 _ Ao5 x3_1.length x3_1 := (Kd.R_reads' HO_3.out).2.2
              have q049 : (0 : Int) ≤ (x5_2 : Int) := of_decide_eq_true jC
              have hcut49 := cut_from (P := Tryd.prog) 46 33 .i64 Tryd.underlying46 hi049 6 hsz49 Ao5 x3_1.length co5 x5_2 q049 q49
              have hr49 := Kd.C_drop (m := (x5_2 : Int).toNat) (c := co5) hC49 (by omega) hroom49
              obtain ⟨A49, hA49⟩ : ∃ A1, A1 = (if co5 = (x5_2 : Int).toNat then Ao5 else (Ao5 : Option Addr).map (·.add ((x5_2 : Int).toNat * 6))) := ⟨_, rfl⟩
              obtain ⟨c49, hc49⟩ : ∃ c1, c1 = co5 - (x5_2 : Int).toNat := ⟨_, rfl⟩
              have hy49 : y172.length = x3_1.length - (x5_2 : Int).toNat := (by rw [Ny172.out, List.length_drop] <;> omega)
              rw [show (x3_1).drop (x5_2 : Int).toNat = y172 from Ny172.out.symm] at hr49
              replace hr49 : Kd.C k33 _ A49 y172.length y172 := (by rw [hA49]; exact hr49)
              rw [← hy49, ← hA49, ← hc49] at hcut49
              have HR175 := aS hr49
              have HC175 := aS (show y172.length ≤ c49 from by rw [hy49, hc49]; exact Nat.sub_le_sub_right hroom49 _)
              clear hr49 hC49 hroom49 hi049 hsz49 hc49
              have KY49 := aS hy49
              have KA49 := aS hA49
              clear hy49 hA49
              have KL49 := aS (show (x5_2 : Int).toNat ≤ x3_1.length from by omega)
              replace q49 := eq_true q49
              refine start_ (n := 16) (S := fun w' => w'.cell? (ad165.add ((x4_1).toNat * 6)) = some (.string ((rd_T33 l0 x4_1).f0)) ∧ w'.cell? ⟨(ad165.add ((x4_1).toNat * 6)).block, (ad165.add ((x4_1).toNat * 6)).off + 1, none⟩ = some (.int .i64 ((rd_T33 l0 x4_1).f1)) ∧ w'.cell? ⟨(ad165.add ((x4_1).toNat * 6)).block, (ad165.add ((x4_1).toNat * 6)).off + 2, none⟩ = some (.int .i64 ((rd_T33 l0 x4_1).f2)) ∧ w'.cell? ⟨(ad165.add ((x4_1).toNat * 6)).block, (ad165.add ((x4_1).toNat * 6)).off + 3, none⟩ = some (.int .i64 ((rd_T33 l0 x4_1).f3)) ∧ w'.cell? ⟨(ad165.add ((x4_1).toNat * 6)).block, (ad165.add ((x4_1).toNat * 6)).off + 4, none⟩ = some (.string ((rd_T33 l0 x4_1).f4)) ∧ w'.cell? ⟨(ad165.add ((x4_1).toNat * 6)).block, (ad165.add ((x4_1).toNat * 6)).off + 5, none⟩ = some (.string ((rd_T33 l0 x4_1).f5))) (ds := []) #[false, false, false, false, false, false, false, false, false, false, false, false, false, false, false, false] jK rfl rfl ⟨((HB.out.cell (World.block_lt_of_cell? w _ hw165_0)).trans hw165_0), ((HB.out.cell (World.block_lt_of_cell? w _ hw165_1)).trans hw165_1), ((HB.out.cell (World.block_lt_of_cell? w _ hw165_2)).trans hw165_2), ((HB.out.cell (World.block_lt_of_cell? w _ hw165_3)).trans hw165_3), ((HB.out.cell (World.block_lt_of_cell? w _ hw165_4)).trans hw165_4), ((HB.out.cell (World.block_lt_of_cell? w _ hw165_5)).trans hw165_5)⟩ (fun hHeld => ?_); refine with_tabW spec_SortRecords.tab8 spec_SortRecords.bits8 (fun HT_ HW_ => ?_)
              generalize w46.drew = w47 at HO_3 HB HR161 HR175 hx165_0 hx165_1 hx165_2 hx165_3 hx165_4 hx165_5 hHeld ⊢
              refine pure_ (i := 1) (N := some 32) (v := ?_) (a' := ?_) #[false, true, false, false, false, false, false, false, false, false, false, false, false, false, false, false] rfl rfl (any_of HT_.out jK) (fun _ _ _ h => h) (Or.inl ⟨by rfl, ?_⟩) ?_ ?_
              rotate_left
              ·intro w'
               go_simp
               with_reducible rfl
              rotate_left
              ·simp only [Act.put, List.setIfInBounds_toArray, List.set_cons_zero, List.set_cons_succ, i64_w, i32_w]
               rfl
              refine pure_ (i := 2) (N := some 33) (v := ?_) (a' := ?_) #[false, true, true, false, false, false, false, false, false, false, false, false, false, false, false, false] rfl rfl (any_of HT_.out jK) (fun _ _ _ h => h) (Or.inl ⟨by rfl, ?_⟩) ?_ ?_
              rotate_left
              ·intro w'
               go_simp
               with_reducible rfl
              rotate_left
              ·simp only [Act.put, List.setIfInBounds_toArray, List.set_cons_zero, List.set_cons_succ, i64_w, i32_w]
               rfl
              refine pure_ (i := 3) (N := some 34) (v := ?_) (a' := ?_) #[false, true, true, true, false, false, false, false, false, false, false, false, false, false, false, false] rfl rfl (any_of HT_.out jK) (fun _ _ _ h => h) (Or.inl ⟨by rfl, ?_⟩) ?_ ?_
              rotate_left
              ·intro w'
               go_simp
               with_reducible rfl
              rotate_left
              ·simp only [Act.put, List.setIfInBounds_toArray, List.set_cons_zero, List.set_cons_succ, i64_w, i32_w]
               rfl
              refine pure_ (i := 5) (N := some 36) (v := ?_) (a' := ?_) #[false, true, true, true, false, true, false, false, false, false, false, false, false, false, false, false] rfl rfl (any_of HT_.out jK) (fun _ _ _ h => h) (Or.inl ⟨by rfl, ?_⟩) ?_ ?_
              rotate_left
              ·intro w'
               go_simp
               with_reducible rfl
              rotate_left
              ·simp only [Act.put, List.setIfInBounds_toArray, List.set_cons_zero, List.set_cons_succ, i64_w, i32_w]
               rfl
              refine pure_ (i := 6) (N := some 37) (v := ?_) (a' := ?_) #[false, true, true, true, false, true, true, false, false, false, false, false, false, false, false, false] rfl rfl (any_of HT_.out jK) (fun _ _ _ h => h) (Or.inl ⟨by rfl, ?_⟩) ?_ ?_
              rotate_left
              ·intro w'
               go_simp
               with_reducible rfl
              rotate_left
              ·simp only [Act.put, List.setIfInBounds_toArray, List.set_cons_zero, List.set_cons_succ, i64_w, i32_w]
               rfl
              refine pure_ (i := 7) (N := some 38) (v := ?_) (a' := ?_) #[false, true, true, true, false, true, true, true, false, false, false, false, false, false, false, false] rfl rfl (any_of HT_.out jK) (fun _ _ _ h => h) (Or.inl ⟨by rfl, ?_⟩) ?_ ?_
              rotate_left
              ·intro w'
               go_simp
               with_reducible rfl
              rotate_left
              ·simp only [Act.put, List.setIfInBounds_toArray, List.set_cons_zero, List.set_cons_succ, i64_w, i32_w]
               rfl
              refine pure_ (i := 11) (N := some 42) (v := ?_) (a' := ?_) #[false, true, true, true, false, true, true, true, false, false, false, true, false, false, false, false] rfl rfl (any_of HT_.out jK) (fun _ _ _ h => h) (Or.inl ⟨by rfl, ?_⟩) ?_ ?_
              rotate_left
              ·intro w'
               go_simp
               with_reducible rfl
              rotate_left
              ·simp only [Act.put, List.setIfInBounds_toArray, List.set_cons_zero, List.set_cons_succ, i64_w, i32_w]
               rfl
              refine pure_ (i := 12) (N := some 43) (v := ?_) (a' := ?_) #[false, true, true, true, false, true, true, true, false, false, false, true, true, false, false, false] rfl rfl (any_of HT_.out jK) (fun _ _ _ h => h) (Or.inl ⟨by rfl, ?_⟩) ?_ ?_
              rotate_left
              ·intro w'
               go_simp
               with_reducible rfl
              rotate_left
              ·simp only [Act.put, List.setIfInBounds_toArray, List.set_cons_zero, List.set_cons_succ, i64_w, i32_w]
               rfl
              refine pure_ (i := 13) (N := some 44) (v := ?_) (a' := ?_) #[false, true, true, true, false, true, true, true, false, false, false, true, true, true, false, false] rfl rfl (any_of HT_.out jK) (fun _ _ _ h => h) (Or.inl ⟨by rfl, ?_⟩) ?_ ?_
              rotate_left
              ·intro w'
               go_simp
               with_reducible rfl
              rotate_left
              ·simp only [Act.put, List.setIfInBounds_toArray, List.set_cons_zero, List.set_cons_succ, i64_w, i32_w]
               rfl
              refine take_ (i := 8) (N := some 39) (v := ?_) (a' := ?_) #[false, true, true, true, false, true, true, true, true, false, false, true, true, true, false, false] rfl rfl (take_ofW HT_.out HW_.out jK) (fun _ _ _ h => h) (Or.inl ⟨by rfl, ?_⟩) hHeld ?_ ?_
              rotate_left
              ·rintro w' ⟨s0, s1, s2, s3, s4, s5⟩
               go_simp
               with_reducible rfl
              rotate_left
              ·simp only [Act.put, List.setIfInBounds_toArray, List.set_cons_zero, List.set_cons_succ, i64_w, i32_w]
               rfl
              refine join_ (σ := Value × Value × Value) 3 #[true, true, true, true, true, true, true, true, true, true, false, true, true, true, false, false] (fun s_ => [(31, s_.1), (35, s_.2.1), (40, s_.2.2)]) (fun s_ w' => (w'.cell? (ad165.add ((x4_1).toNat * 6)) = some (.string ((rd_T33 l0 x4_1).f0)) ∧ w'.cell? ⟨(ad165.add ((x4_1).toNat * 6)).block, (ad165.add ((x4_1).toNat * 6)).off + 1, none⟩ = some (.int .i64 ((rd_T33 l0 x4_1).f1)) ∧ w'.cell? ⟨(ad165.add ((x4_1).toNat * 6)).block, (ad165.add ((x4_1).toNat * 6)).off + 2, none⟩ = some (.int .i64 ((rd_T33 l0 x4_1).f2)) ∧ w'.cell? ⟨(ad165.add ((x4_1).toNat * 6)).block, (ad165.add ((x4_1).toNat * 6)).off + 3, none⟩ = some (.int .i64 ((rd_T33 l0 x4_1).f3)) ∧ w'.cell? ⟨(ad165.add ((x4_1).toNat * 6)).block, (ad165.add ((x4_1).toNat * 6)).off + 4, none⟩ = some (.string ((rd_T33 l0 x4_1).f4)) ∧ w'.cell? ⟨(ad165.add ((x4_1).toNat * 6)).block, (ad165.add ((x4_1).toNat * 6)).off + 5, none⟩ = some (.string ((rd_T33 l0 x4_1).f5))) ∧ (Kd.R k33 33 w' w.heap.size (fun k_ => some k_ ≠ (s_.2.2 : Value).ownBlock ∧ some k_ ≠ (.slice Ao5 x3_1.length co5 : Value).ownBlock) s_.2.1 y162) ∧ (Kd.R k33 33 w' w.heap.size (fun k_ => some k_ ≠ (s_.2.1 : Value).ownBlock ∧ some k_ ≠ (.slice Ao5 x3_1.length co5 : Value).ownBlock) s_.2.2 y166) ∧ (Kd.R k33 33 w' w.heap.size (fun k_ => some k_ ≠ (s_.2.1 : Value).ownBlock ∧ some k_ ≠ (s_.2.2 : Value).ownBlock) (.slice Ao5 x3_1.length co5) x3_1) ∧ (Below w.heap.size w w')) ?_ ?_
              rotate_left
              ·intro hCont
               refine two_ (i := 0) (j := 9) (Ni := some 31) (Nj := some 40) #[true, true, true, true, false, true, true, true, true, false, false, true, true, true, false, false] #[false, true, true, true, false, true, true, true, true, true, false, true, true, true, false, false] rfl rfl rfl rfl (two_of HT_.out jK) (by decide) (by decide) (fun K hK => ?_) (fun K hK => ?_)
               ·skip
                refine Kd.R_lit_step k33 _ 33 ?hg (N := 31) ?hd (xs := ([] : List (S33))) (inner := []) (ok := fun _ => True) (okp := fun _ => True) ?hr ?hp (fun _ hk => hk) trivial (Below.refl _ _) (Nat.le_refl _) (by simp) ?_; (case hd => rfl); (case hg => rfl); (case hr => first | (go_simp; done) | (go_simp; rfl)); (case hp => exact (Reps.none _ _))
                intro v156 w50 ho51 hb hg_ hnew_
                clear hg_ hnew_
                (first | rw [← Ny155.out] at ho51 | (simp only [Int.reduceToNat] at ho51; rw [← Ny155.out] at ho51))
                have HO157 := aS (Kd.R_lower (Kd.R_new' ho51 (Kd.R_lt (rU HO_3.out))) (below_size (wU HB.out)))
                replace HO_3 := aS (Kd.R_elder' (rU HO_3.out) (Kd.R_base ho51) hb)
                replace HR161 := aS (Kd.C_below (by repeat (first | (with_reducible exact HR161.out) | (with_reducible refine Kd.C_alloc ?_ _) | (with_reducible refine Kd.C_drewN ?_ _) | (with_reducible refine Kd.C_drew ?_) | exact HR161.out)) hb)
                replace HR175 := aS (Kd.C_below (by repeat (first | (with_reducible exact HR175.out) | (with_reducible refine Kd.C_alloc ?_ _) | (with_reducible refine Kd.C_drewN ?_ _) | (with_reducible refine Kd.C_drew ?_) | exact HR175.out)) hb)
                replace HB := aS (below_step (wU HB.out) hb)
                clear hb ho51
                refine hK.out _ _ ⟨((HB.out.cell (World.block_lt_of_cell? w _ hw165_0)).trans hw165_0), ((HB.out.cell (World.block_lt_of_cell? w _ hw165_1)).trans hw165_1), ((HB.out.cell (World.block_lt_of_cell? w _ hw165_2)).trans hw165_2), ((HB.out.cell (World.block_lt_of_cell? w _ hw165_3)).trans hw165_3), ((HB.out.cell (World.block_lt_of_cell? w _ hw165_4)).trans hw165_4), ((HB.out.cell (World.block_lt_of_cell? w _ hw165_5)).trans hw165_5)⟩ (fun hHeld => ?_)
                clear hK K
                refine norm_ (a' := ?_) ?_ ?_
                rotate_left
                ·show Act.put _ (some 31) _ = _
                 simp only [Act.put, List.setIfInBounds_toArray, List.set_cons_zero, List.set_cons_succ, i64_w, i32_w]
                 rfl
                refine two_ (i := 4) (j := 9) (Ni := some 35) (Nj := some 40) #[true, true, true, true, true, true, true, true, true, false, false, true, true, true, false, false] #[true, true, true, true, false, true, true, true, true, true, false, true, true, true, false, false] rfl rfl rfl rfl (two_of HT_.out jK) (by decide) (by decide) (fun K hK => ?_) (fun K hK => ?_)
                ·skip
                 refine Kd.R_append_rows_step k33 (w0 := w) w.heap.size (by rfl) (.tmp 31) (.tmp 34) 46 33 (.agg #[(.string ⟨#[]⟩), (.int .i64 0), (.int .i64 0), (.int .i64 0), (.string ⟨#[]⟩), (.string ⟨#[]⟩)]) 72 rfl Tryd.underlying46 info33 rfl (by decide) (by omega) v156 y155 y158 _ _ _ (fun k_ => some k_ ≠ (.slice Ao5 x3_1.length co5 : Value).ownBlock) (fun _ => False) rfl rfl ?aO ?aR (fun _ _ h => h) (fun _ h => h.elim) ?aF ?aB ?aS ?aL ?_
                 (case aR => repeat (first | exact (by repeat (first | (with_reducible exact HR161.out) | (with_reducible refine Kd.C_alloc ?_ _) | (with_reducible refine Kd.C_drewN ?_ _) | (with_reducible refine Kd.C_drew ?_) | exact HR161.out)) | (with_reducible refine Kd.C_alloc ?_ _) | (with_reducible refine Kd.C_drewN ?_ _) | (with_reducible refine Kd.C_drew ?_)))
                 (case aB => exact (wU HB.out))
                 (case aF => exact (fun k_ hk => Kd.fresh' (Kd.R_lt (rU HO_3.out)) k_ hk))
                 (case aO => exact (by (with_reducible repeat (first | apply Kd.R_alloc | apply Kd.R_drewN | apply Kd.R_drew)); exact Kd.R_mono HO157.out (fun _ hk => hk.2)))
                 (case aS => exact (below_size (wU HB.out)))
                 (case aL => have := LMc39.out; omega)
                 intro v163 w52 ho hb hg hat
                 rw [← Ny162.out] at ho
                 replace HB := aS (hb)
                 replace HR161 := aS ((show Kd.C k33 w52 Ao5 y158.length y158 from by rw [Ny158.out]; exact Kd.C_take (m := (x5_2 : Int).toNat) ((Kd.R_reads' (Kd.R_after (ok := (fun _ => True)) (rU HO_3.out) hg hat)).2.2) KL48.out))
                 replace HR175 := aS ((show Kd.C k33 w52 A49 y172.length y172 from by rw [Ny172.out, KA49.out]; exact Kd.C_drop (m := (x5_2 : Int).toNat) (c := co5) ((Kd.R_reads' (Kd.R_after (ok := (fun _ => True)) (rU HO_3.out) hg hat)).2.2) KL49.out ((Kd.R_reads' (Kd.R_after (ok := (fun _ => True)) (rU HO_3.out) hg hat)).2.1)))
                 replace HO_3 := aS (Kd.R_after (ok := (fun _ => True)) (rU HO_3.out) hg hat)
                 have HO164 := aS (ho)
                 clear HO157
                 clear ho hb hg hat
                 refine hK.out _ _ ⟨((HB.out.cell (World.block_lt_of_cell? w _ hw165_0)).trans hw165_0), ((HB.out.cell (World.block_lt_of_cell? w _ hw165_1)).trans hw165_1), ((HB.out.cell (World.block_lt_of_cell? w _ hw165_2)).trans hw165_2), ((HB.out.cell (World.block_lt_of_cell? w _ hw165_3)).trans hw165_3), ((HB.out.cell (World.block_lt_of_cell? w _ hw165_4)).trans hw165_4), ((HB.out.cell (World.block_lt_of_cell? w _ hw165_5)).trans hw165_5)⟩ (fun hHeld => ?_)
                 clear hK K
                 refine norm_ (a' := ?_) ?_ ?_
                 rotate_left
                 ·show Act.put _ (some 35) _ = _
                  simp only [Act.put, List.setIfInBounds_toArray, List.set_cons_zero, List.set_cons_succ, i64_w, i32_w]
                  rfl
                 refine one_ (i := 9) (N := some 40) #[true, true, true, true, true, true, true, true, true, true, false, true, true, true, false, false] rfl rfl (one_of HT_.out jK) (by decide) (fun K hK => ?_)
                 refine Kd.R_lit_step k33 _ 33 ?hg (N := 40) ?hd (xs := ([(⟨(rd_T33 l0 x4_1).f0, (rd_T33 l0 x4_1).f1, (rd_T33 l0 x4_1).f2, (rd_T33 l0 x4_1).f3, (rd_T33 l0 x4_1).f4, (rd_T33 l0 x4_1).f5⟩ : S33)] : List (S33))) (inner := [.string ((rd_T33 l0 x4_1).f0), .int .i64 ((rd_T33 l0 x4_1).f1), .int .i64 ((rd_T33 l0 x4_1).f2), .int .i64 ((rd_T33 l0 x4_1).f3), .string ((rd_T33 l0 x4_1).f4), .string ((rd_T33 l0 x4_1).f5)]) (ok := fun _ => True) (okp := fun _ => True) ?hr ?hp (fun _ hk => hk) trivial (Below.refl _ _) (Nat.le_refl _) (by simp) ?_; (case hd => rfl); (case hg => rfl); (case hr => first | (go_simp; done) | (go_simp; rfl)); (case hp => exact (Reps.c6 (show Kd.M k33 _ _ _ (⟨(rd_T33 l0 x4_1).f0, (rd_T33 l0 x4_1).f1, (rd_T33 l0 x4_1).f2, (rd_T33 l0 x4_1).f3, (rd_T33 l0 x4_1).f4, (rd_T33 l0 x4_1).f5⟩ : S33) [.string ((rd_T33 l0 x4_1).f0), .int .i64 ((rd_T33 l0 x4_1).f1), .int .i64 ((rd_T33 l0 x4_1).f2), .int .i64 ((rd_T33 l0 x4_1).f3), .string ((rd_T33 l0 x4_1).f4), .string ((rd_T33 l0 x4_1).f5)] from (k33_mkM _ _ _ (⟨(rd_T33 l0 x4_1).f0, (rd_T33 l0 x4_1).f1, (rd_T33 l0 x4_1).f2, (rd_T33 l0 x4_1).f3, (rd_T33 l0 x4_1).f4, (rd_T33 l0 x4_1).f5⟩ : S33) )) (Reps.none _ _)))
                 intro v167 w53 ho54 hb hg_ hnew_
                 clear hg_ hnew_
                 (first | rw [← Ny166.out] at ho54 | (simp only [Int.reduceToNat] at ho54; rw [← Ny166.out] at ho54))
                 have HO168 := aS (Kd.R_lower (Kd.R_new' (Kd.R_new' ho54 (Kd.R_lt (rU HO_3.out))) (Kd.R_lt (rU HO164.out))) (below_size (wU HB.out)))
                 replace HO_3 := aS (Kd.R_elder' (rU HO_3.out) (Kd.R_base ho54) hb)
                 replace HO164 := aS (Kd.R_elder' (rU HO164.out) (Kd.R_base ho54) hb)
                 replace HR161 := aS (Kd.C_below (by repeat (first | (with_reducible exact HR161.out) | (with_reducible refine Kd.C_alloc ?_ _) | (with_reducible refine Kd.C_drewN ?_ _) | (with_reducible refine Kd.C_drew ?_) | exact HR161.out)) hb)
                 replace HR175 := aS (Kd.C_below (by repeat (first | (with_reducible exact HR175.out) | (with_reducible refine Kd.C_alloc ?_ _) | (with_reducible refine Kd.C_drewN ?_ _) | (with_reducible refine Kd.C_drew ?_) | exact HR175.out)) hb)
                 replace HB := aS (below_step (wU HB.out) hb)
                 clear hb ho54
                 refine hK.out _ _ ⟨((HB.out.cell (World.block_lt_of_cell? w _ hw165_0)).trans hw165_0), ((HB.out.cell (World.block_lt_of_cell? w _ hw165_1)).trans hw165_1), ((HB.out.cell (World.block_lt_of_cell? w _ hw165_2)).trans hw165_2), ((HB.out.cell (World.block_lt_of_cell? w _ hw165_3)).trans hw165_3), ((HB.out.cell (World.block_lt_of_cell? w _ hw165_4)).trans hw165_4), ((HB.out.cell (World.block_lt_of_cell? w _ hw165_5)).trans hw165_5)⟩ (fun hHeld => ?_)
                 clear hK K
                 refine norm_ (a' := ?_) ?_ ?_
                 rotate_left
                 ·show Act.put _ (some 40) _ = _
                  simp only [Act.put, List.setIfInBounds_toArray, List.set_cons_zero, List.set_cons_succ, i64_w, i32_w]
                  rfl
                 exact norm_ (by simp only [putAll, Act.put, List.setIfInBounds_toArray, List.set_cons_zero, List.set_cons_succ]) (hCont (v156, v163, v167) _ ⟨hHeld, (by (with_reducible repeat (first | apply Kd.R_alloc | apply Kd.R_drewN | apply Kd.R_drew)); exact Kd.R_mono HO164.out (fun _ hk => ⟨hk.2, hk.1⟩)), (by (with_reducible repeat (first | apply Kd.R_alloc | apply Kd.R_drewN | apply Kd.R_drew)); exact Kd.R_mono HO168.out (fun _ hk => ⟨hk.2, hk.1.2⟩)), (by (with_reducible repeat (first | apply Kd.R_alloc | apply Kd.R_drewN | apply Kd.R_drew)); exact Kd.R_mono HO_3.out (fun _ hk => ⟨hk.1.2, hk.2⟩)), (wU HB.out)⟩)
                ·skip
                 refine Kd.R_lit_step k33 _ 33 ?hg (N := 40) ?hd (xs := ([(⟨(rd_T33 l0 x4_1).f0, (rd_T33 l0 x4_1).f1, (rd_T33 l0 x4_1).f2, (rd_T33 l0 x4_1).f3, (rd_T33 l0 x4_1).f4, (rd_T33 l0 x4_1).f5⟩ : S33)] : List (S33))) (inner := [.string ((rd_T33 l0 x4_1).f0), .int .i64 ((rd_T33 l0 x4_1).f1), .int .i64 ((rd_T33 l0 x4_1).f2), .int .i64 ((rd_T33 l0 x4_1).f3), .string ((rd_T33 l0 x4_1).f4), .string ((rd_T33 l0 x4_1).f5)]) (ok := fun _ => True) (okp := fun _ => True) ?hr ?hp (fun _ hk => hk) trivial (Below.refl _ _) (Nat.le_refl _) (by simp) ?_; (case hd => rfl); (case hg => rfl); (case hr => first | (go_simp; done) | (go_simp; rfl)); (case hp => exact (Reps.c6 (show Kd.M k33 _ _ _ (⟨(rd_T33 l0 x4_1).f0, (rd_T33 l0 x4_1).f1, (rd_T33 l0 x4_1).f2, (rd_T33 l0 x4_1).f3, (rd_T33 l0 x4_1).f4, (rd_T33 l0 x4_1).f5⟩ : S33) [.string ((rd_T33 l0 x4_1).f0), .int .i64 ((rd_T33 l0 x4_1).f1), .int .i64 ((rd_T33 l0 x4_1).f2), .int .i64 ((rd_T33 l0 x4_1).f3), .string ((rd_T33 l0 x4_1).f4), .string ((rd_T33 l0 x4_1).f5)] from (k33_mkM _ _ _ (⟨(rd_T33 l0 x4_1).f0, (rd_T33 l0 x4_1).f1, (rd_T33 l0 x4_1).f2, (rd_T33 l0 x4_1).f3, (rd_T33 l0 x4_1).f4, (rd_T33 l0 x4_1).f5⟩ : S33) )) (Reps.none _ _)))
                 intro v167 w52 ho53 hb hg_ hnew_
                 clear hg_ hnew_
                 (first | rw [← Ny166.out] at ho53 | (simp only [Int.reduceToNat] at ho53; rw [← Ny166.out] at ho53))
                 have HO168 := aS (Kd.R_lower (Kd.R_new' (Kd.R_new' ho53 (Kd.R_lt (rU HO_3.out))) (Kd.R_lt (rU HO157.out))) (below_size (wU HB.out)))
                 replace HO_3 := aS (Kd.R_elder' (rU HO_3.out) (Kd.R_base ho53) hb)
                 replace HO157 := aS (Kd.R_elder' (rU HO157.out) (Kd.R_base ho53) hb)
                 replace HR161 := aS (Kd.C_below (by repeat (first | (with_reducible exact HR161.out) | (with_reducible refine Kd.C_alloc ?_ _) | (with_reducible refine Kd.C_drewN ?_ _) | (with_reducible refine Kd.C_drew ?_) | exact HR161.out)) hb)
                 replace HR175 := aS (Kd.C_below (by repeat (first | (with_reducible exact HR175.out) | (with_reducible refine Kd.C_alloc ?_ _) | (with_reducible refine Kd.C_drewN ?_ _) | (with_reducible refine Kd.C_drew ?_) | exact HR175.out)) hb)
                 replace HB := aS (below_step (wU HB.out) hb)
                 clear hb ho53
                 refine hK.out _ _ ⟨((HB.out.cell (World.block_lt_of_cell? w _ hw165_0)).trans hw165_0), ((HB.out.cell (World.block_lt_of_cell? w _ hw165_1)).trans hw165_1), ((HB.out.cell (World.block_lt_of_cell? w _ hw165_2)).trans hw165_2), ((HB.out.cell (World.block_lt_of_cell? w _ hw165_3)).trans hw165_3), ((HB.out.cell (World.block_lt_of_cell? w _ hw165_4)).trans hw165_4), ((HB.out.cell (World.block_lt_of_cell? w _ hw165_5)).trans hw165_5)⟩ (fun hHeld => ?_)
                 clear hK K
                 refine norm_ (a' := ?_) ?_ ?_
                 rotate_left
                 ·show Act.put _ (some 40) _ = _
                  simp only [Act.put, List.setIfInBounds_toArray, List.set_cons_zero, List.set_cons_succ, i64_w, i32_w]
                  rfl
                 refine one_ (i := 4) (N := some 35) #[true, true, true, true, true, true, true, true, true, true, false, true, true, true, false, false] rfl rfl (one_of HT_.out jK) (by decide) (fun K hK => ?_)
                 refine Kd.R_append_rows_step k33 (w0 := w) w.heap.size (by rfl) (.tmp 31) (.tmp 34) 46 33 (.agg #[(.string ⟨#[]⟩), (.int .i64 0), (.int .i64 0), (.int .i64 0), (.string ⟨#[]⟩), (.string ⟨#[]⟩)]) 72 rfl Tryd.underlying46 info33 rfl (by decide) (by omega) v156 y155 y158 _ _ _ (fun k_ => some k_ ≠ (.slice Ao5 x3_1.length co5 : Value).ownBlock ∧ some k_ ≠ (v167 : Value).ownBlock) (fun _ => False) rfl rfl ?aO ?aR (fun _ _ h => h) (fun _ h => h.elim) ?aF ?aB ?aS ?aL ?_
                 (case aR => repeat (first | exact (by repeat (first | (with_reducible exact HR161.out) | (with_reducible refine Kd.C_alloc ?_ _) | (with_reducible refine Kd.C_drewN ?_ _) | (with_reducible refine Kd.C_drew ?_) | exact HR161.out)) | (with_reducible refine Kd.C_alloc ?_ _) | (with_reducible refine Kd.C_drewN ?_ _) | (with_reducible refine Kd.C_drew ?_)))
                 (case aB => exact (wU HB.out))
                 (case aF => exact (fun k_ hk => ⟨Kd.fresh' (Kd.R_lt (rU HO_3.out)) k_ hk, Kd.fresh' (Kd.R_lt (rU HO168.out)) k_ hk⟩))
                 (case aO => exact (by (with_reducible repeat (first | apply Kd.R_alloc | apply Kd.R_drewN | apply Kd.R_drew)); exact Kd.R_mono HO157.out (fun _ hk => ⟨hk.1.2, hk.2⟩)))
                 (case aS => exact (below_size (wU HB.out)))
                 (case aL => have := LMc39.out; omega)
                 intro v163 w54 ho hb hg hat
                 rw [← Ny162.out] at ho
                 replace HO168 := aS (Kd.R_after (ok := (fun k_ => some k_ ≠ (.slice Ao5 x3_1.length co5 : Value).ownBlock)) (by (with_reducible repeat (first | apply Kd.R_alloc | apply Kd.R_drewN | apply Kd.R_drew)); exact Kd.R_mono HO168.out (fun _ hk => ⟨hk.1.2, hk.2⟩)) hg hat)
                 replace HB := aS (hb)
                 replace HR161 := aS ((show Kd.C k33 w54 Ao5 y158.length y158 from by rw [Ny158.out]; exact Kd.C_take (m := (x5_2 : Int).toNat) ((Kd.R_reads' (Kd.R_after (ok := (fun k_ => some k_ ≠ (v167 : Value).ownBlock)) (by (with_reducible repeat (first | apply Kd.R_alloc | apply Kd.R_drewN | apply Kd.R_drew)); exact Kd.R_mono HO_3.out (fun _ hk => ⟨hk.2, hk.1.2⟩)) hg hat)).2.2) KL48.out))
                 replace HR175 := aS ((show Kd.C k33 w54 A49 y172.length y172 from by rw [Ny172.out, KA49.out]; exact Kd.C_drop (m := (x5_2 : Int).toNat) (c := co5) ((Kd.R_reads' (Kd.R_after (ok := (fun k_ => some k_ ≠ (v167 : Value).ownBlock)) (by (with_reducible repeat (first | apply Kd.R_alloc | apply Kd.R_drewN | apply Kd.R_drew)); exact Kd.R_mono HO_3.out (fun _ hk => ⟨hk.2, hk.1.2⟩)) hg hat)).2.2) KL49.out ((Kd.R_reads' (Kd.R_after (ok := (fun k_ => some k_ ≠ (v167 : Value).ownBlock)) (by (with_reducible repeat (first | apply Kd.R_alloc | apply Kd.R_drewN | apply Kd.R_drew)); exact Kd.R_mono HO_3.out (fun _ hk => ⟨hk.2, hk.1.2⟩)) hg hat)).2.1)))
                 replace HO_3 := aS (Kd.R_after (ok := (fun k_ => some k_ ≠ (v167 : Value).ownBlock)) (by (with_reducible repeat (first | apply Kd.R_alloc | apply Kd.R_drewN | apply Kd.R_drew)); exact Kd.R_mono HO_3.out (fun _ hk => ⟨hk.2, hk.1.2⟩)) hg hat)
                 have HO164 := aS (ho)
                 clear HO157
                 clear ho hb hg hat
                 refine hK.out _ _ ⟨((HB.out.cell (World.block_lt_of_cell? w _ hw165_0)).trans hw165_0), ((HB.out.cell (World.block_lt_of_cell? w _ hw165_1)).trans hw165_1), ((HB.out.cell (World.block_lt_of_cell? w _ hw165_2)).trans hw165_2), ((HB.out.cell (World.block_lt_of_cell? w _ hw165_3)).trans hw165_3), ((HB.out.cell (World.block_lt_of_cell? w _ hw165_4)).trans hw165_4), ((HB.out.cell (World.block_lt_of_cell? w _ hw165_5)).trans hw165_5)⟩ (fun hHeld => ?_)
                 clear hK K
                 refine norm_ (a' := ?_) ?_ ?_
                 rotate_left
                 ·show Act.put _ (some 35) _ = _
                  simp only [Act.put, List.setIfInBounds_toArray, List.set_cons_zero, List.set_cons_succ, i64_w, i32_w]
                  rfl
                 exact norm_ (by simp only [putAll, Act.put, List.setIfInBounds_toArray, List.set_cons_zero, List.set_cons_succ]) (hCont (v156, v163, v167) _ ⟨hHeld, (by (with_reducible repeat (first | apply Kd.R_alloc | apply Kd.R_drewN | apply Kd.R_drew)); exact Kd.R_mono HO164.out (fun _ hk => ⟨hk.2, hk.1⟩)), (by (with_reducible repeat (first | apply Kd.R_alloc | apply Kd.R_drewN | apply Kd.R_drew)); exact Kd.R_mono HO168.out (fun _ hk => ⟨hk.2, hk.1⟩)), (by (with_reducible repeat (first | apply Kd.R_alloc | apply Kd.R_drewN | apply Kd.R_drew)); exact Kd.R_mono HO_3.out (fun _ hk => ⟨hk.2, hk.1⟩)), (wU HB.out)⟩)
               ·skip
                refine Kd.R_lit_step k33 _ 33 ?hg (N := 40) ?hd (xs := ([(⟨(rd_T33 l0 x4_1).f0, (rd_T33 l0 x4_1).f1, (rd_T33 l0 x4_1).f2, (rd_T33 l0 x4_1).f3, (rd_T33 l0 x4_1).f4, (rd_T33 l0 x4_1).f5⟩ : S33)] : List (S33))) (inner := [.string ((rd_T33 l0 x4_1).f0), .int .i64 ((rd_T33 l0 x4_1).f1), .int .i64 ((rd_T33 l0 x4_1).f2), .int .i64 ((rd_T33 l0 x4_1).f3), .string ((rd_T33 l0 x4_1).f4), .string ((rd_T33 l0 x4_1).f5)]) (ok := fun _ => True) (okp := fun _ => True) ?hr ?hp (fun _ hk => hk) trivial (Below.refl _ _) (Nat.le_refl _) (by simp) ?_; (case hd => rfl); (case hg => rfl); (case hr => first | (go_simp; done) | (go_simp; rfl)); (case hp => exact (Reps.c6 (show Kd.M k33 _ _ _ (⟨(rd_T33 l0 x4_1).f0, (rd_T33 l0 x4_1).f1, (rd_T33 l0 x4_1).f2, (rd_T33 l0 x4_1).f3, (rd_T33 l0 x4_1).f4, (rd_T33 l0 x4_1).f5⟩ : S33) [.string ((rd_T33 l0 x4_1).f0), .int .i64 ((rd_T33 l0 x4_1).f1), .int .i64 ((rd_T33 l0 x4_1).f2), .int .i64 ((rd_T33 l0 x4_1).f3), .string ((rd_T33 l0 x4_1).f4), .string ((rd_T33 l0 x4_1).f5)] from (k33_mkM _ _ _ (⟨(rd_T33 l0 x4_1).f0, (rd_T33 l0 x4_1).f1, (rd_T33 l0 x4_1).f2, (rd_T33 l0 x4_1).f3, (rd_T33 l0 x4_1).f4, (rd_T33 l0 x4_1).f5⟩ : S33) )) (Reps.none _ _)))
                intro v167 w50 ho51 hb hg_ hnew_
                clear hg_ hnew_
                (first | rw [← Ny166.out] at ho51 | (simp only [Int.reduceToNat] at ho51; rw [← Ny166.out] at ho51))
                have HO168 := aS (Kd.R_lower (Kd.R_new' ho51 (Kd.R_lt (rU HO_3.out))) (below_size (wU HB.out)))
                replace HO_3 := aS (Kd.R_elder' (rU HO_3.out) (Kd.R_base ho51) hb)
                replace HR161 := aS (Kd.C_below (by repeat (first | (with_reducible exact HR161.out) | (with_reducible refine Kd.C_alloc ?_ _) | (with_reducible refine Kd.C_drewN ?_ _) | (with_reducible refine Kd.C_drew ?_) | exact HR161.out)) hb)
                replace HR175 := aS (Kd.C_below (by repeat (first | (with_reducible exact HR175.out) | (with_reducible refine Kd.C_alloc ?_ _) | (with_reducible refine Kd.C_drewN ?_ _) | (with_reducible refine Kd.C_drew ?_) | exact HR175.out)) hb)
                replace HB := aS (below_step (wU HB.out) hb)
                clear hb ho51
                refine hK.out _ _ ⟨((HB.out.cell (World.block_lt_of_cell? w _ hw165_0)).trans hw165_0), ((HB.out.cell (World.block_lt_of_cell? w _ hw165_1)).trans hw165_1), ((HB.out.cell (World.block_lt_of_cell? w _ hw165_2)).trans hw165_2), ((HB.out.cell (World.block_lt_of_cell? w _ hw165_3)).trans hw165_3), ((HB.out.cell (World.block_lt_of_cell? w _ hw165_4)).trans hw165_4), ((HB.out.cell (World.block_lt_of_cell? w _ hw165_5)).trans hw165_5)⟩ (fun hHeld => ?_)
                clear hK K
                refine norm_ (a' := ?_) ?_ ?_
                rotate_left
                ·show Act.put _ (some 40) _ = _
                 simp only [Act.put, List.setIfInBounds_toArray, List.set_cons_zero, List.set_cons_succ, i64_w, i32_w]
                 rfl
                refine one_ (i := 0) (N := some 31) #[true, true, true, true, false, true, true, true, true, true, false, true, true, true, false, false] rfl rfl (one_of HT_.out jK) (by decide) (fun K hK => ?_)
                refine Kd.R_lit_step k33 _ 33 ?hg (N := 31) ?hd (xs := ([] : List (S33))) (inner := []) (ok := fun _ => True) (okp := fun _ => True) ?hr ?hp (fun _ hk => hk) trivial (Below.refl _ _) (Nat.le_refl _) (by simp) ?_; (case hd => rfl); (case hg => rfl); (case hr => first | (go_simp; done) | (go_simp; rfl)); (case hp => exact (Reps.none _ _))
                intro v156 w52 ho53 hb hg_ hnew_
                clear hg_ hnew_
                (first | rw [← Ny155.out] at ho53 | (simp only [Int.reduceToNat] at ho53; rw [← Ny155.out] at ho53))
                have HO157 := aS (Kd.R_lower (Kd.R_new' (Kd.R_new' ho53 (Kd.R_lt (rU HO_3.out))) (Kd.R_lt (rU HO168.out))) (below_size (wU HB.out)))
                replace HO_3 := aS (Kd.R_elder' (rU HO_3.out) (Kd.R_base ho53) hb)
                replace HO168 := aS (Kd.R_elder' (rU HO168.out) (Kd.R_base ho53) hb)
                replace HR161 := aS (Kd.C_below (by repeat (first | (with_reducible exact HR161.out) | (with_reducible refine Kd.C_alloc ?_ _) | (with_reducible refine Kd.C_drewN ?_ _) | (with_reducible refine Kd.C_drew ?_) | exact HR161.out)) hb)
                replace HR175 := aS (Kd.C_below (by repeat (first | (with_reducible exact HR175.out) | (with_reducible refine Kd.C_alloc ?_ _) | (with_reducible refine Kd.C_drewN ?_ _) | (with_reducible refine Kd.C_drew ?_) | exact HR175.out)) hb)
                replace HB := aS (below_step (wU HB.out) hb)
                clear hb ho53
                refine hK.out _ _ ⟨((HB.out.cell (World.block_lt_of_cell? w _ hw165_0)).trans hw165_0), ((HB.out.cell (World.block_lt_of_cell? w _ hw165_1)).trans hw165_1), ((HB.out.cell (World.block_lt_of_cell? w _ hw165_2)).trans hw165_2), ((HB.out.cell (World.block_lt_of_cell? w _ hw165_3)).trans hw165_3), ((HB.out.cell (World.block_lt_of_cell? w _ hw165_4)).trans hw165_4), ((HB.out.cell (World.block_lt_of_cell? w _ hw165_5)).trans hw165_5)⟩ (fun hHeld => ?_)
                clear hK K
                refine norm_ (a' := ?_) ?_ ?_
                rotate_left
                ·show Act.put _ (some 31) _ = _
                 simp only [Act.put, List.setIfInBounds_toArray, List.set_cons_zero, List.set_cons_succ, i64_w, i32_w]
                 rfl
                refine one_ (i := 4) (N := some 35) #[true, true, true, true, true, true, true, true, true, true, false, true, true, true, false, false] rfl rfl (one_of HT_.out jK) (by decide) (fun K hK => ?_)
                refine Kd.R_append_rows_step k33 (w0 := w) w.heap.size (by rfl) (.tmp 31) (.tmp 34) 46 33 (.agg #[(.string ⟨#[]⟩), (.int .i64 0), (.int .i64 0), (.int .i64 0), (.string ⟨#[]⟩), (.string ⟨#[]⟩)]) 72 rfl Tryd.underlying46 info33 rfl (by decide) (by omega) v156 y155 y158 _ _ _ (fun k_ => some k_ ≠ (.slice Ao5 x3_1.length co5 : Value).ownBlock ∧ some k_ ≠ (v167 : Value).ownBlock) (fun _ => False) rfl rfl ?aO ?aR (fun _ _ h => h) (fun _ h => h.elim) ?aF ?aB ?aS ?aL ?_
                (case aR => repeat (first | exact (by repeat (first | (with_reducible exact HR161.out) | (with_reducible refine Kd.C_alloc ?_ _) | (with_reducible refine Kd.C_drewN ?_ _) | (with_reducible refine Kd.C_drew ?_) | exact HR161.out)) | (with_reducible refine Kd.C_alloc ?_ _) | (with_reducible refine Kd.C_drewN ?_ _) | (with_reducible refine Kd.C_drew ?_)))
                (case aB => exact (wU HB.out))
                (case aF => exact (fun k_ hk => ⟨Kd.fresh' (Kd.R_lt (rU HO_3.out)) k_ hk, Kd.fresh' (Kd.R_lt (rU HO168.out)) k_ hk⟩))
                (case aO => exact (by (with_reducible repeat (first | apply Kd.R_alloc | apply Kd.R_drewN | apply Kd.R_drew)); exact Kd.R_mono HO157.out (fun _ hk => ⟨hk.1.2, hk.2⟩)))
                (case aS => exact (below_size (wU HB.out)))
                (case aL => have := LMc39.out; omega)
                intro v163 w54 ho hb hg hat
                rw [← Ny162.out] at ho
                replace HO168 := aS (Kd.R_after (ok := (fun k_ => some k_ ≠ (.slice Ao5 x3_1.length co5 : Value).ownBlock)) (by (with_reducible repeat (first | apply Kd.R_alloc | apply Kd.R_drewN | apply Kd.R_drew)); exact Kd.R_mono HO168.out (fun _ hk => ⟨hk.1.2, hk.2⟩)) hg hat)
                replace HB := aS (hb)
                replace HR161 := aS ((show Kd.C k33 w54 Ao5 y158.length y158 from by rw [Ny158.out]; exact Kd.C_take (m := (x5_2 : Int).toNat) ((Kd.R_reads' (Kd.R_after (ok := (fun k_ => some k_ ≠ (v167 : Value).ownBlock)) (by (with_reducible repeat (first | apply Kd.R_alloc | apply Kd.R_drewN | apply Kd.R_drew)); exact Kd.R_mono HO_3.out (fun _ hk => ⟨hk.1.2, hk.2⟩)) hg hat)).2.2) KL48.out))
                replace HR175 := aS ((show Kd.C k33 w54 A49 y172.length y172 from by rw [Ny172.out, KA49.out]; exact Kd.C_drop (m := (x5_2 : Int).toNat) (c := co5) ((Kd.R_reads' (Kd.R_after (ok := (fun k_ => some k_ ≠ (v167 : Value).ownBlock)) (by (with_reducible repeat (first | apply Kd.R_alloc | apply Kd.R_drewN | apply Kd.R_drew)); exact Kd.R_mono HO_3.out (fun _ hk => ⟨hk.1.2, hk.2⟩)) hg hat)).2.2) KL49.out ((Kd.R_reads' (Kd.R_after (ok := (fun k_ => some k_ ≠ (v167 : Value).ownBlock)) (by (with_reducible repeat (first | apply Kd.R_alloc | apply Kd.R_drewN | apply Kd.R_drew)); exact Kd.R_mono HO_3.out (fun _ hk => ⟨hk.1.2, hk.2⟩)) hg hat)).2.1)))
                replace HO_3 := aS (Kd.R_after (ok := (fun k_ => some k_ ≠ (v167 : Value).ownBlock)) (by (with_reducible repeat (first | apply Kd.R_alloc | apply Kd.R_drewN | apply Kd.R_drew)); exact Kd.R_mono HO_3.out (fun _ hk => ⟨hk.1.2, hk.2⟩)) hg hat)
                have HO164 := aS (ho)
                clear HO157
                clear ho hb hg hat
                refine hK.out _ _ ⟨((HB.out.cell (World.block_lt_of_cell? w _ hw165_0)).trans hw165_0), ((HB.out.cell (World.block_lt_of_cell? w _ hw165_1)).trans hw165_1), ((HB.out.cell (World.block_lt_of_cell? w _ hw165_2)).trans hw165_2), ((HB.out.cell (World.block_lt_of_cell? w _ hw165_3)).trans hw165_3), ((HB.out.cell (World.block_lt_of_cell? w _ hw165_4)).trans hw165_4), ((HB.out.cell (World.block_lt_of_cell? w _ hw165_5)).trans hw165_5)⟩ (fun hHeld => ?_)
                clear hK K
                refine norm_ (a' := ?_) ?_ ?_
                rotate_left
                ·show Act.put _ (some 35) _ = _
                 simp only [Act.put, List.setIfInBounds_toArray, List.set_cons_zero, List.set_cons_succ, i64_w, i32_w]
                 rfl
                exact norm_ (by simp only [putAll, Act.put, List.setIfInBounds_toArray, List.set_cons_zero, List.set_cons_succ]) (hCont (v156, v163, v167) _ ⟨hHeld, (by (with_reducible repeat (first | apply Kd.R_alloc | apply Kd.R_drewN | apply Kd.R_drew)); exact Kd.R_mono HO164.out (fun _ hk => ⟨hk.2, hk.1⟩)), (by (with_reducible repeat (first | apply Kd.R_alloc | apply Kd.R_drewN | apply Kd.R_drew)); exact Kd.R_mono HO168.out (fun _ hk => ⟨hk.2, hk.1⟩)), (by (with_reducible repeat (first | apply Kd.R_alloc | apply Kd.R_drewN | apply Kd.R_drew)); exact Kd.R_mono HO_3.out (fun _ hk => ⟨hk.2, hk.1⟩)), (wU HB.out)⟩)
              rintro ⟨v156, v163, v167⟩ w55 ⟨hS_, h0_, h1_, h2_, h3_⟩
              have n0_ : Aside0 (Kd.R k33 33 w55 w.heap.size (fun k_ => some k_ ≠ (v167 : Value).ownBlock ∧ some k_ ≠ (.slice Ao5 x3_1.length co5 : Value).ownBlock) v163 y162) := ⟨h0_⟩
              have n1_ : Aside0 (Kd.R k33 33 w55 w.heap.size (fun k_ => some k_ ≠ (v163 : Value).ownBlock ∧ some k_ ≠ (.slice Ao5 x3_1.length co5 : Value).ownBlock) v167 y166) := ⟨h1_⟩
              have n2_ : Aside0 (Kd.R k33 33 w55 w.heap.size (fun k_ => some k_ ≠ (v163 : Value).ownBlock ∧ some k_ ≠ (v167 : Value).ownBlock) (.slice Ao5 x3_1.length co5) x3_1) := ⟨h2_⟩
              have n3_ : Aside0 (Below w.heap.size w w55) := ⟨h3_⟩
              clear HO_3
              clear HB
              clear h0_ h1_ h2_ h3_
              have HO164 := n0_
              have HO168 := n1_
              have HO_3 := n2_
              have HB := n3_
              clear n0_ n1_ n2_ n3_
              have hHeld : w55.cell? (ad165.add ((x4_1).toNat * 6)) = some (.string ((rd_T33 l0 x4_1).f0)) ∧ w55.cell? ⟨(ad165.add ((x4_1).toNat * 6)).block, (ad165.add ((x4_1).toNat * 6)).off + 1, none⟩ = some (.int .i64 ((rd_T33 l0 x4_1).f1)) ∧ w55.cell? ⟨(ad165.add ((x4_1).toNat * 6)).block, (ad165.add ((x4_1).toNat * 6)).off + 2, none⟩ = some (.int .i64 ((rd_T33 l0 x4_1).f2)) ∧ w55.cell? ⟨(ad165.add ((x4_1).toNat * 6)).block, (ad165.add ((x4_1).toNat * 6)).off + 3, none⟩ = some (.int .i64 ((rd_T33 l0 x4_1).f3)) ∧ w55.cell? ⟨(ad165.add ((x4_1).toNat * 6)).block, (ad165.add ((x4_1).toNat * 6)).off + 4, none⟩ = some (.string ((rd_T33 l0 x4_1).f4)) ∧ w55.cell? ⟨(ad165.add ((x4_1).toNat * 6)).block, (ad165.add ((x4_1).toNat * 6)).off + 5, none⟩ = some (.string ((rd_T33 l0 x4_1).f5)) := hS_
              (try clear HR161)
              have HR161 := aS (show Kd.C k33 w55 Ao5 y158.length y158 from by rw [Ny158.out]; exact Kd.C_take (m := (x5_2 : Int).toNat) ((Kd.R_reads' HO_3.out).2.2) KL48.out)
              (try clear HR175)
              have HR175 := aS (show Kd.C k33 w55 A49 y172.length y172 from by rw [Ny172.out, KA49.out]; exact Kd.C_drop (m := (x5_2 : Int).toNat) (c := co5) ((Kd.R_reads' HO_3.out).2.2) KL49.out ((Kd.R_reads' HO_3.out).2.1))
              obtain ⟨Ao57, co57, eo57⟩ := Kd.R_slice HO168.out
              (first | subst eo57 | (injection eo57 with f1_ f2_ f3_; have f4_ := f1_.symm; have f5_ := f3_.symm; clear f1_ f2_ f3_; subst f4_; subst f5_))
              refine norm_ (a' := ?_) ?_ ?_
              rotate_left
              ·simp only [putAll, Act.put, List.setIfInBounds_toArray, List.set_cons_zero, List.set_cons_succ]
               rfl
              refine one_ (i := 10) (N := some 41) #[true, true, true, true, true, true, true, true, true, true, true, true, true, true, false, false] rfl rfl (one_of HT_.out jK) (by decide) (fun K hK => ?_)
              refine Kd.R_append_rows_step k33 (w0 := w) w.heap.size (by rfl) (.tmp 35) (.tmp 40) 46 33 (.agg #[(.string ⟨#[]⟩), (.int .i64 0), (.int .i64 0), (.int .i64 0), (.string ⟨#[]⟩), (.string ⟨#[]⟩)]) 72 rfl Tryd.underlying46 info33 rfl (by decide) (by omega) v163 y162 y166 _ _ _ (fun k_ => some k_ ≠ (.slice Ao5 x3_1.length co5 : Value).ownBlock ∧ some k_ ≠ (.slice Ao57 y166.length co57 : Value).ownBlock) (fun _ => False) rfl rfl ?aO ?aR (fun _ _ h => h) (fun _ h => h.elim) ?aF ?aB ?aS ?aL ?_
              (case aR => exact cU ((Kd.R_reads' HO168.out).2.2))
              (case aB => exact (wU HB.out))
              (case aF => exact (fun k_ hk => ⟨Kd.fresh' (Kd.R_lt (rU HO_3.out)) k_ hk, Kd.fresh' (Kd.R_lt (rU HO168.out)) k_ hk⟩))
              (case aO => exact (by (with_reducible repeat (first | apply Kd.R_alloc | apply Kd.R_drewN | apply Kd.R_drew)); exact Kd.R_mono HO164.out (fun _ hk => ⟨hk.2, hk.1⟩)))
              (case aS => exact (below_size (wU HB.out)))
              (case aL => have := LMc42.out; omega)
              intro v170 w56 ho hb hg hat
              rw [← Ny169.out] at ho
              replace HO168 := aS (Kd.R_after (ok := (fun k_ => some k_ ≠ (.slice Ao5 x3_1.length co5 : Value).ownBlock)) (by (with_reducible repeat (first | apply Kd.R_alloc | apply Kd.R_drewN | apply Kd.R_drew)); exact Kd.R_mono HO168.out (fun _ hk => ⟨hk.2, hk.1⟩)) hg hat)
              replace HB := aS (hb)
              replace HR161 := aS ((show Kd.C k33 w56 Ao5 y158.length y158 from by rw [Ny158.out]; exact Kd.C_take (m := (x5_2 : Int).toNat) ((Kd.R_reads' (Kd.R_after (ok := (fun k_ => some k_ ≠ (.slice Ao57 y166.length co57 : Value).ownBlock)) (by (with_reducible repeat (first | apply Kd.R_alloc | apply Kd.R_drewN | apply Kd.R_drew)); exact Kd.R_mono HO_3.out (fun _ hk => ⟨hk.2, hk.1⟩)) hg hat)).2.2) KL48.out))
              replace HR175 := aS ((show Kd.C k33 w56 A49 y172.length y172 from by rw [Ny172.out, KA49.out]; exact Kd.C_drop (m := (x5_2 : Int).toNat) (c := co5) ((Kd.R_reads' (Kd.R_after (ok := (fun k_ => some k_ ≠ (.slice Ao57 y166.length co57 : Value).ownBlock)) (by (with_reducible repeat (first | apply Kd.R_alloc | apply Kd.R_drewN | apply Kd.R_drew)); exact Kd.R_mono HO_3.out (fun _ hk => ⟨hk.2, hk.1⟩)) hg hat)).2.2) KL49.out ((Kd.R_reads' (Kd.R_after (ok := (fun k_ => some k_ ≠ (.slice Ao57 y166.length co57 : Value).ownBlock)) (by (with_reducible repeat (first | apply Kd.R_alloc | apply Kd.R_drewN | apply Kd.R_drew)); exact Kd.R_mono HO_3.out (fun _ hk => ⟨hk.2, hk.1⟩)) hg hat)).2.1)))
              replace HO_3 := aS (Kd.R_after (ok := (fun k_ => some k_ ≠ (.slice Ao57 y166.length co57 : Value).ownBlock)) (by (with_reducible repeat (first | apply Kd.R_alloc | apply Kd.R_drewN | apply Kd.R_drew)); exact Kd.R_mono HO_3.out (fun _ hk => ⟨hk.2, hk.1⟩)) hg hat)
              have HO171 := aS (ho)
              clear HO164
              clear ho hb hg hat
              refine hK.out _ _ ⟨((HB.out.cell (World.block_lt_of_cell? w _ hw165_0)).trans hw165_0), ((HB.out.cell (World.block_lt_of_cell? w _ hw165_1)).trans hw165_1), ((HB.out.cell (World.block_lt_of_cell? w _ hw165_2)).trans hw165_2), ((HB.out.cell (World.block_lt_of_cell? w _ hw165_3)).trans hw165_3), ((HB.out.cell (World.block_lt_of_cell? w _ hw165_4)).trans hw165_4), ((HB.out.cell (World.block_lt_of_cell? w _ hw165_5)).trans hw165_5)⟩ (fun hHeld => ?_)
              clear hK K
              refine norm_ (a' := ?_) ?_ ?_
              rotate_left
              ·show Act.put _ (some 41) _ = _
               simp only [Act.put, List.setIfInBounds_toArray, List.set_cons_zero, List.set_cons_succ, i64_w, i32_w]
               rfl
              refine one_ (i := 14) (N := some 45) #[true, true, true, true, true, true, true, true, true, true, true, true, true, true, true, false] rfl rfl (one_of HT_.out jK) (by decide) (fun K hK => ?_)
              refine Kd.R_append_rows_step k33 (w0 := w) w.heap.size (by rfl) (.tmp 41) (.tmp 44) 46 33 (.agg #[(.string ⟨#[]⟩), (.int .i64 0), (.int .i64 0), (.int .i64 0), (.string ⟨#[]⟩), (.string ⟨#[]⟩)]) 72 rfl Tryd.underlying46 info33 rfl (by decide) (by omega) v170 y169 y172 _ _ _ (fun k_ => some k_ ≠ (.slice Ao5 x3_1.length co5 : Value).ownBlock ∧ some k_ ≠ (.slice Ao57 y166.length co57 : Value).ownBlock) (fun _ => False) rfl rfl ?aO ?aR (fun _ _ h => h) (fun _ h => h.elim) ?aF ?aB ?aS ?aL ?_
              (case aR => repeat (first | exact (by repeat (first | (with_reducible exact HR175.out) | (with_reducible refine Kd.C_alloc ?_ _) | (with_reducible refine Kd.C_drewN ?_ _) | (with_reducible refine Kd.C_drew ?_) | exact HR175.out)) | (with_reducible refine Kd.C_alloc ?_ _) | (with_reducible refine Kd.C_drewN ?_ _) | (with_reducible refine Kd.C_drew ?_)))
              (case aB => exact (wU HB.out))
              (case aF => exact (fun k_ hk => ⟨Kd.fresh' (Kd.R_lt (rU HO_3.out)) k_ hk, Kd.fresh' (Kd.R_lt (rU HO168.out)) k_ hk⟩))
              (case aO => exact (rU HO171.out))
              (case aS => exact (below_size (wU HB.out)))
              (case aL => have := LMc45.out; omega)
              intro v177 w58 ho hb hg hat
              rw [← Ny176.out] at ho
              replace HO168 := aS (Kd.R_after (ok := (fun k_ => some k_ ≠ (.slice Ao5 x3_1.length co5 : Value).ownBlock)) (rU HO168.out) hg hat)
              replace HB := aS (hb)
              replace HR161 := aS ((show Kd.C k33 w58 Ao5 y158.length y158 from by rw [Ny158.out]; exact Kd.C_take (m := (x5_2 : Int).toNat) ((Kd.R_reads' (Kd.R_after (ok := (fun k_ => some k_ ≠ (.slice Ao57 y166.length co57 : Value).ownBlock)) (rU HO_3.out) hg hat)).2.2) KL48.out))
              replace HR175 := aS ((show Kd.C k33 w58 A49 y172.length y172 from by rw [Ny172.out, KA49.out]; exact Kd.C_drop (m := (x5_2 : Int).toNat) (c := co5) ((Kd.R_reads' (Kd.R_after (ok := (fun k_ => some k_ ≠ (.slice Ao57 y166.length co57 : Value).ownBlock)) (rU HO_3.out) hg hat)).2.2) KL49.out ((Kd.R_reads' (Kd.R_after (ok := (fun k_ => some k_ ≠ (.slice Ao57 y166.length co57 : Value).ownBlock)) (rU HO_3.out) hg hat)).2.1)))
              replace HO_3 := aS (Kd.R_after (ok := (fun k_ => some k_ ≠ (.slice Ao57 y166.length co57 : Value).ownBlock)) (rU HO_3.out) hg hat)
              have HO178 := aS (ho)
              clear HO171
              clear ho hb hg hat
              refine hK.out _ _ ⟨((HB.out.cell (World.block_lt_of_cell? w _ hw165_0)).trans hw165_0), ((HB.out.cell (World.block_lt_of_cell? w _ hw165_1)).trans hw165_1), ((HB.out.cell (World.block_lt_of_cell? w _ hw165_2)).trans hw165_2), ((HB.out.cell (World.block_lt_of_cell? w _ hw165_3)).trans hw165_3), ((HB.out.cell (World.block_lt_of_cell? w _ hw165_4)).trans hw165_4), ((HB.out.cell (World.block_lt_of_cell? w _ hw165_5)).trans hw165_5)⟩ (fun hHeld => ?_)
              clear hK K
              refine norm_ (a' := ?_) ?_ ?_
              rotate_left
              ·show Act.put _ (some 45) _ = _
               simp only [Act.put, List.setIfInBounds_toArray, List.set_cons_zero, List.set_cons_succ, i64_w, i32_w]
               rfl
              refine pure_ (i := 15) (N := some 3) (v := ?_) (a' := ?_) #[true, true, true, true, true, true, true, true, true, true, true, true, true, true, true, true] rfl rfl (any_of HT_.out jK) (fun _ _ _ h => h) (Or.inl ⟨by rfl, ?_⟩) ?_ ?_
              rotate_left
              ·intro w'
               go_simp
               with_reducible rfl
              rotate_left
              ·simp only [Act.put, List.setIfInBounds_toArray, List.set_cons_zero, List.set_cons_succ, i64_w, i32_w]
               rfl
              refine done_ (done_of HT_.out jK) ?_
              try go_wp2
              go_roundg k2
              case measure => have := HK1.out; have := HK2.out; omega
              case rel => exact ⟨(y176), (wrap64 (x4_1 + 1)), jB, H', ⟨by have := HK1.out; have := HK2.out; omega⟩, ⟨Kd.R_mono (rU HO178.out) (fun _ hk => trivial)⟩, ⟨by exact wU HB.out⟩⟩
             ·rw [if_neg c45] at H
              exact absurd H (by simp)
            ·rw [if_neg c42] at H
             exact absurd H (by simp)
           ·rw [if_neg c41] at H
            exact absurd H (by simp)
          ·rw [if_neg c40] at H
           exact absurd H (by simp)
         ·rw [if_neg c39] at H
          exact absurd H (by simp)
        ·rw [if_neg c38] at H
         exact absurd H (by simp)
       ·rw [if_neg c37] at H
        exact absurd H (by simp)
   ·rw [if_neg c4] at H
    have c4b0 := decide_eq_false c4
    clear c4
    obtain rfl := Option.some.inj H
    go_wp2
    go_ret
    exact ⟨_, jE, by exact rU HO_3.out, by exact wU HB.out⟩

end Go.Proofs.YtfmnofjijodgcaaDoor.Pr
