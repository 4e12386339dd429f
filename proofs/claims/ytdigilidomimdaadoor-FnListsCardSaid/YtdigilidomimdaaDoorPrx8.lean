-- Written for this claim by a program of this session (wip/tool/pr.py, over the kit's printer).
-- half
import Derived.Test.YtdigilidomimdaaDoorPrx0
import Derived.Test.YtdigilidomimdaaDoorPrx7
namespace Go.Proofs.YtdigilidomimdaaDoor.Pr
open Go.RowKit Go.Proofs.YtdigilidomimdaaDoorW.PrintWords Go.Proofs.YtdigilidomimdaaDoorW.PrintLast Go.Proofs.YtdigilidomimdaaDoorW.PrintMore
attribute [local go_sem] max2_int min2_int max_two min_two max_three min_three max_four min_four   -- for this text's walks alone
set_option linter.unusedVariables false
set_option linter.unusedSimpArgs false

/-! ### impl_PutRecords: function 19 -/
def impl_PutRecords.l0 : Nat → List Int → List (S25) → Int → Int → Option (List Int)
 | 0, _, _, _, _ => none
 | k + 1, x5, x11, x12, x13 => if x13 < x12 then (if 0 ≤ x13 then (if x13 < (x11.length : Int) then ((impl_PutRecord.f k x5 ((rd_T25 x11 x13).f0) ((rd_T25 x11 x13).f1) ((rd_T25 x11 x13).f2) ((rd_T25 x11 x13).f3) ((rd_T25 x11 x13).f4) ((rd_T25 x11 x13).f5)).bind fun t493 => (impl_PutRecords.l0 k t493 x11 x12 (wrap64 (x13 + 1)))) else (none)) else (none)) else (some x5)
def impl_PutRecords.f (k : Nat) (l0 : List Int) (l1 : List (S25)) : Option (List Int) := (some (([] : List Int) : List Int)).bind fun y485 => (if y485.length + l0.length < 140737488355328 then (impl_PutRecords.l0 k (y485 ++ l0) l1 (l1.length : Int) 0) else (none))
theorem impl_PutRecords.mono_l : ∀ k, (∀ y0 y1 y2 y3, LeO (impl_PutRecords.l0 k y0 y1 y2 y3) (impl_PutRecords.l0 (k + 1) y0 y1 y2 y3))
 | 0 => fun _ _ _ _ r h => by simp [impl_PutRecords.l0] at h
 | k + 1 => by
  have ih0 := impl_PutRecords.mono_l k
  ·intro y0 y1 y2 y3
   unfold impl_PutRecords.l0
   repeat' first
   | (with_reducible first | exact ih0 _ _ _ _ | exact impl_PutRecord.mono _ _ _ _ _ _ _ _ | exact LeO.refl _ | exact LeO.none _ | refine LeO.ite ?_ ?_ | refine LeO.bind ?_ (fun _ => ?_))
   | exact ih0 _ _ _ _
   | exact impl_PutRecord.mono _ _ _ _ _ _ _ _
   | exact LeO.none _
   | refine LeO.ite ?_ ?_
   | refine LeO.bind ?_ (fun _ => ?_)
theorem impl_PutRecords.mono : ∀ a0 a1 k, LeO (impl_PutRecords.f k a0 a1) (impl_PutRecords.f (k + 1) a0 a1) := by
 intro a0 a1 k
 have ih0 := impl_PutRecords.mono_l k
 unfold impl_PutRecords.f
 repeat' first
   | (with_reducible first | exact ih0 _ _ _ _ | exact impl_PutRecord.mono _ _ _ _ _ _ _ _ | exact LeO.refl _ | exact LeO.none _ | refine LeO.ite ?_ ?_ | refine LeO.bind ?_ (fun _ => ?_))
   | exact ih0 _ _ _ _
   | exact impl_PutRecord.mono _ _ _ _ _ _ _ _
   | exact LeO.none _
   | refine LeO.ite ?_ ?_
   | refine LeO.bind ?_ (fun _ => ?_)
set_option maxHeartbeats 8000000 in
set_option maxRecDepth 100000 in
theorem impl_PutRecords.calls (k : Nat) (A0 : Option Addr) (c0 : Nat) (l0 : List Int) (A1 : Option Addr) (c1 : Nat) (l1 : List (S25)) (r : List Int) (w : World) (hr0 : Kd.C (Kd.int .u8) w A0 l0.length l0) (hc0 : l0.length ≤ c0) (hr1 : Kd.C k25 w A1 l1.length l1) (hc1 : l1.length ≤ c1) (h : impl_PutRecords.f k l0 l1 = some r) :
  Calls Tryd.prog 19 #[.slice A0 l0.length c0, .slice A1 l1.length c1] w fun e w' => ∃ v0_ : Value, e = .returned (v0_) ∧ Kd.R (Kd.int .u8) 5 w' w.heap.size (fun _ => True) v0_ r ∧ Below w.heap.size w w' := by
 have hu25 := Tryd.underlying25
 have HR0 := aS hr0
 have HC0 := aS hc0
 clear hr0 hc0
 have HR1 := aS hr1
 have HC1 := aS hc1
 clear hr1 hc1
 have HB := aS (Below.refl w.heap.size w)
 have H : ((some (([] : List Int) : List Int)).bind fun y485 => (if y485.length + l0.length < 140737488355328 then (impl_PutRecords.l0 k (y485 ++ l0) l1 (l1.length : Int) 0) else (none))) = some r := h
 clear h
 obtain ⟨y485, hy_⟩ : ∃ y_ : List Int, y_ = (([] : List Int)) := ⟨_, rfl⟩
 replace H : (if y485.length + l0.length < 140737488355328 then (impl_PutRecords.l0 k (y485 ++ l0) l1 (l1.length : Int) 0) else (none)) = some r := jD
 have Ny485 := aS hy_
 clear hy_
 by_cases c3 : y485.length + l0.length < 140737488355328
 ·rw [if_pos c3] at H
  have LMc3 := aS c3
  clear c3
  obtain ⟨y488, hy_⟩ : ∃ y_ : List Int, y_ = (y485 ++ l0) := ⟨_, rfl⟩
  replace H : (impl_PutRecords.l0 k y488 l1 (l1.length : Int) 0) = some r := jD
  have Ny488 := aS hy_
  clear hy_
  have H' := aS H
  clear H
  go_enter Tryd.func19, Tryd.ntmps19
  go_wp2_with (first | ((with_reducible refine gate_dst (N := 8) rfl ?_); refine Kd.R_lit (Kd.int .u8) _ 5 ?hg (N := 8) ?hd (xs := ([] : List Int)) (inner := []) (ok := fun _ => True) (okp := fun _ => True) ?hr ?hp (fun _ hk => hk) trivial (Below.refl _ _) (Nat.le_refl _) (by simp) ?_; (case hd => rfl); (case hg => rfl); (case hr => first | (go_simp; done) | (go_simp; rfl)); (case hp => exact (Reps.none _ _)); intro v486 w4 ho5 hb hg_ hnew_; clear hg_ hnew_; (first | rw [← Ny485.out] at ho5 | (simp only [Int.reduceToNat] at ho5; rw [← Ny485.out] at ho5)); have HO487 := aS (Kd.R_lower ho5 (below_size (wU HB.out))); replace HB := aS (below_step (wU HB.out) hb); clear hb ho5) | ((with_reducible refine gate_builtin (b := .append) (xs := #[.tmp 8, .tmp 9]) rfl ?_); at_builtin; refine Kd.R_append_rows (Kd.int .u8) (w0 := w) w.heap.size rfl (.tmp 8) (.tmp 9) 22 5 (.int .u8 0) 1 rfl Tryd.underlying22 info5 rfl (by decide) (by omega) v486 y485 l0 _ _ _ (fun _ => True) (fun _ => False) rfl rfl ?aO ?aR (fun _ _ h => h) (fun _ h => h.elim) ?aF ?aB ?aS ?aL ?_; (case aR => exact cU ((Kd.C_below HR0.out HB.out))); (case aB => exact (wU HB.out)); (case aF => exact (fun _ _ => trivial)); (case aO => exact (rU HO487.out)); (case aS => exact (below_size (wU HB.out))); (case aL => have := LMc3.out; omega); intro v489 w6 ho hb hg hat; rw [← Ny488.out] at ho; replace HB := aS (hb); have HO490 := aS (ho); clear HO487; clear ho hb hg hat))
  go_loopg [5, 13] k (fun kq v5 v13 w' => ∃ (x5_1 : List Int) (x13_1 : Int), v13 = .int .i64 x13_1 ∧ Aside0 (impl_PutRecords.l0 kq x5_1 l1 (l1.length : Int) x13_1 = some r) ∧ Aside0 (kq ≤ k) ∧ Aside0 (Kd.R (Kd.int .u8) 5 w' w.heap.size (fun _ => True) v5 x5_1) ∧ Aside0 (Below w.heap.size w w'))
  case atStart => exact ⟨(y488), (0), jB, H', ⟨Nat.le_refl _⟩, ⟨by exact rU HO490.out⟩, ⟨by exact wU HB.out⟩⟩
  case round =>
   clear H'
   try clear c1
   try clear p2
   try clear c3
   obtain ⟨x5_1, x13_1, rfl, HA, HK1, HO_5, HB⟩ := hrel
   cases gk with
   | zero => exact absurd HA.out (by simp [impl_PutRecords.l0])
   | succ k1 =>
    have H := HA.out
    clear HA
    simp only [impl_PutRecords.l0] at H
    by_cases c7 : x13_1 < (l1.length : Int)
    ·rw [if_pos c7] at H
     have c7b0 := decide_eq_true c7
     clear c7
     by_cases c8 : 0 ≤ x13_1
     ·rw [if_pos c8] at H
      have c8b0 := decide_eq_true c8
      clear c8
      by_cases c9 : x13_1 < (l1.length : Int)
      ·rw [if_pos c9] at H
       have c9b0 := decide_eq_true c9
       clear c9
       obtain ⟨t493, A10, H⟩ := bM H
       try dsimp only at H
       have H' := aS H
       clear H
       have p491 : 0 ≤ (x13_1 : Int) := of_decide_eq_true jC
       have q491 : x13_1 < (l1.length : Int) := of_decide_eq_true jC
       obtain ⟨ad491, e491, hx491_0, hx491_1, hx491_2, hx491_3, hx491_4, hx491_5⟩ := at_T25 HR1.out x13_1 p491 q491
       cases e491
       try replace hx491_0 := (HB.out.cell (World.block_lt_of_cell? w _ hx491_0)).trans hx491_0
       try replace hx491_1 := (HB.out.cell (World.block_lt_of_cell? w _ hx491_1)).trans hx491_1
       try replace hx491_2 := (HB.out.cell (World.block_lt_of_cell? w _ hx491_2)).trans hx491_2
       try replace hx491_3 := (HB.out.cell (World.block_lt_of_cell? w _ hx491_3)).trans hx491_3
       try replace hx491_4 := (HB.out.cell (World.block_lt_of_cell? w _ hx491_4)).trans hx491_4
       try replace hx491_5 := (HB.out.cell (World.block_lt_of_cell? w _ hx491_5)).trans hx491_5
       replace p491 := eq_true p491
       replace q491 := eq_true q491
       go_wp2_with (first | ((with_reducible refine gate_dst (N := 7) rfl ?_); refine box_event ?hg (N := 7) ?hd (cs := #[.string (⟨#[]⟩ : ByteArray), .int .i64 0, .int .i64 0, .int .i64 0, .string (⟨#[]⟩ : ByteArray), .string (⟨#[]⟩ : ByteArray)]) (t := 25) ?hr ?_; (case hd => rfl); (case hg => rfl); (case hr => first | (go_simp; done) | (go_simp; rfl)); intro gb492 hg w11 hbox hb; replace HO_5 := aS (Kd.R_below (rU HO_5.out) hb); have BK492 := aS (hbox); have GW492 := aS ((by rw [hg]; exact (below_size (wU HB.out)) : w.heap.size ≤ gb492)); have GE492 := aS ((by rw [hg]; exact (below_size (wU HB.out)) : w.heap.size ≤ gb492)); replace HB := aS (below_step (wU HB.out) hb); clear hb hbox hg; have hcz12 := cells6f BK492.out; obtain ⟨Ao13, co13, eo13⟩ := Kd.R_slice HO_5.out; subst eo13) | ((with_reducible refine gate_callee (f := 10) rfl ?_); refine goesL_ (some 19) rfl rfl Tryd.func10 jK rfl #[.slice Ao13 x5_1.length co13, .agg #[.string ((rd_T25 l1 x13_1).f0), .int .i64 ((rd_T25 l1 x13_1).f1), .int .i64 ((rd_T25 l1 x13_1).f2), .int .i64 ((rd_T25 l1 x13_1).f3), .string ((rd_T25 l1 x13_1).f4), .string ((rd_T25 l1 x13_1).f5)]] rfl jA ?_; (with_reducible refine (impl_PutRecord.calls k1 _ _ x5_1 ((rd_T25 l1 x13_1).f0) ((rd_T25 l1 x13_1).f1) ((rd_T25 l1 x13_1).f2) ((rd_T25 l1 x13_1).f3) ((rd_T25 l1 x13_1).f4) ((rd_T25 l1 x13_1).f5) t493 _ ?side1 ?side2 A10.out).mono ?_); (case side1 => refine (Kd.R_reads' (e := 5) (base := w.heap.size) (ok := fun k_ => True) (n := x5_1.length) (c := co13) ?_).2.2; exact (by (with_reducible repeat (first | apply Kd.R_alloc | apply Kd.R_drewN | apply Kd.R_drew)); exact (Kd.R_mono (Kd.R_far (p := ⟨gb492, 5, none⟩) (Kd.R_far (p := ⟨gb492, 4, none⟩) (Kd.R_far (p := ⟨gb492, 3, none⟩) (Kd.R_far (p := ⟨gb492, 2, none⟩) (Kd.R_far (p := ⟨gb492, 1, none⟩) (Kd.R_far (p := ⟨gb492, 0, none⟩) (Kd.R_types HO_5.out BK492.out (by decide)) (fun _ hk => hk.2) (.string ((rd_T25 l1 x13_1).f0))) (fun _ hk => hk.2) (.int .i64 ((rd_T25 l1 x13_1).f1))) (fun _ hk => hk.2) (.int .i64 ((rd_T25 l1 x13_1).f2))) (fun _ hk => hk.2) (.int .i64 ((rd_T25 l1 x13_1).f3))) (fun _ hk => hk.2) (.string ((rd_T25 l1 x13_1).f4))) (fun _ hk => hk.2) (.string ((rd_T25 l1 x13_1).f5))) (fun _ h_ => h_.1)))); (case side2 => exact (Kd.R_reads' HO_5.out).2.1); rintro e w14 ⟨v494, rfl, ho0, hb⟩; refine ⟨_, rfl, ?_⟩; have HO495 := aS (Kd.R_lower (Kd.R_new' ho0 (Kd.R_lt (by (with_reducible repeat (first | apply Kd.R_alloc | apply Kd.R_drewN | apply Kd.R_drew)); exact (Kd.R_mono (Kd.R_far (p := ⟨gb492, 5, none⟩) (Kd.R_far (p := ⟨gb492, 4, none⟩) (Kd.R_far (p := ⟨gb492, 3, none⟩) (Kd.R_far (p := ⟨gb492, 2, none⟩) (Kd.R_far (p := ⟨gb492, 1, none⟩) (Kd.R_far (p := ⟨gb492, 0, none⟩) (Kd.R_types HO_5.out BK492.out (by decide)) (fun _ hk => hk.2) (.string ((rd_T25 l1 x13_1).f0))) (fun _ hk => hk.2) (.int .i64 ((rd_T25 l1 x13_1).f1))) (fun _ hk => hk.2) (.int .i64 ((rd_T25 l1 x13_1).f2))) (fun _ hk => hk.2) (.int .i64 ((rd_T25 l1 x13_1).f3))) (fun _ hk => hk.2) (.string ((rd_T25 l1 x13_1).f4))) (fun _ hk => hk.2) (.string ((rd_T25 l1 x13_1).f5))) (fun _ h_ => h_.1))))) (below_size (wS1 HB.out GE492.out))); replace HO_5 := aS (Kd.R_elder' (by (with_reducible repeat (first | apply Kd.R_alloc | apply Kd.R_drewN | apply Kd.R_drew)); exact (Kd.R_mono (Kd.R_far (p := ⟨gb492, 5, none⟩) (Kd.R_far (p := ⟨gb492, 4, none⟩) (Kd.R_far (p := ⟨gb492, 3, none⟩) (Kd.R_far (p := ⟨gb492, 2, none⟩) (Kd.R_far (p := ⟨gb492, 1, none⟩) (Kd.R_far (p := ⟨gb492, 0, none⟩) (Kd.R_types HO_5.out BK492.out (by decide)) (fun _ hk => hk.2) (.string ((rd_T25 l1 x13_1).f0))) (fun _ hk => hk.2) (.int .i64 ((rd_T25 l1 x13_1).f1))) (fun _ hk => hk.2) (.int .i64 ((rd_T25 l1 x13_1).f2))) (fun _ hk => hk.2) (.int .i64 ((rd_T25 l1 x13_1).f3))) (fun _ hk => hk.2) (.string ((rd_T25 l1 x13_1).f4))) (fun _ hk => hk.2) (.string ((rd_T25 l1 x13_1).f5))) (fun _ h_ => h_.1))) (Kd.R_base ho0) hb); replace BK492 := aS (blk_below (g := gb492) (o := .cells #[.string ((rd_T25 l1 x13_1).f0), .int .i64 ((rd_T25 l1 x13_1).f1), .int .i64 ((rd_T25 l1 x13_1).f2), .int .i64 ((rd_T25 l1 x13_1).f3), .string ((rd_T25 l1 x13_1).f4), .string ((rd_T25 l1 x13_1).f5)] 25 (0, 0)) (by (with_reducible repeat (first | refine blk_drewN ?_ _ | refine blk_drew ?_ | refine blk_alloc ?_ _)); refine blk_put_6 (.string (⟨#[]⟩ : ByteArray)) (.int .i64 0) (.int .i64 0) (.int .i64 0) (.string (⟨#[]⟩ : ByteArray)) (.string (⟨#[]⟩ : ByteArray)) ?_; exact bU BK492.out) hb); replace HB := aS (below_step (wS1 HB.out GE492.out) hb); clear hb; (try clear ho0)))
       go_roundg k1
       case measure => have := HK1.out; omega
       case rel => exact ⟨(t493), (wrap64 (x13_1 + 1)), jB, H', ⟨by have := HK1.out; omega⟩, ⟨Kd.R_mono (rU HO495.out) (fun _ hk => trivial)⟩, ⟨by exact wS1 HB.out GE492.out⟩⟩
      ·rw [if_neg c9] at H
       exact absurd H (by simp)
     ·rw [if_neg c8] at H
      exact absurd H (by simp)
    ·rw [if_neg c7] at H
     have c7b0 := decide_eq_false c7
     clear c7
     obtain rfl := Option.some.inj H
     go_wp2
     go_ret
     exact ⟨_, jE, by exact rU HO_5.out, by exact wU HB.out⟩
 ·rw [if_neg c3] at H
  exact absurd H (by simp)

/-! ### spec_l1In: function 86 -/
def spec_l1In.f (a0 : Int) (a1 : Int) (a2 : Int) : Option (Bool) := if a0 ≥ a1 then (some (decide (a0 ≤ a2))) else (some false)
set_option maxHeartbeats 8000000 in
set_option maxRecDepth 100000 in
theorem spec_l1In.calls (a0 : Int) (a1 : Int) (a2 : Int) (r : Bool) (w : World) (h : spec_l1In.f a0 a1 a2 = some r) :
  Calls Tryd.prog 86 #[.int .i64 a0, .int .i64 a1, .int .i64 a2] w fun e w' => e = .returned (.bool r) ∧ Drawn0 w w' := by
 have H : (if a0 ≥ a1 then (some (decide (a0 ≤ a2))) else (some false)) = some r := h
 clear h
 by_cases c4 : a0 ≥ a1
 ·rw [if_pos c4] at H
  have c4b0 := decide_eq_true c4
  clear c4
  obtain rfl := Option.some.inj H
  go_enter Tryd.func86, Tryd.ntmps86
  go_wp2
  go_ret
  exact ⟨by first | rfl | (simp; done) | (simp [*]; done) | (simp [X.bne_nil, X.beq_nil]; done) | (simp [*, X.bne_nil, X.beq_nil]; done) | (simp [X.bne_nil, X.beq_nil]; done), by repeat (first | exact Drawn0.refl _ | apply Drawn0.step)⟩
 ·rw [if_neg c4] at H
  have c4b0 := decide_eq_false c4
  clear c4
  obtain rfl := Option.some.inj H
  go_enter Tryd.func86, Tryd.ntmps86
  go_wp2
  go_ret
  exact ⟨by first | rfl | (simp; done) | (simp [*]; done) | (simp [X.bne_nil, X.beq_nil]; done) | (simp [*, X.bne_nil, X.beq_nil]; done) | (simp [X.bne_nil, X.beq_nil]; done), by repeat (first | exact Drawn0.refl _ | apply Drawn0.step)⟩

/-! ### spec_l5Text: function 88 -/
def spec_l5Text.l0 : Nat → ByteArray → Int → Option (Bool)
 | 0, _, _ => none
 | k + 1, x0, x3 => if x3 < (x0.size : Int) then (if 0 ≤ x3 then ((spec_l1In.f (wrap64 (bt x0 x3)) 33 126).bind fun t496 => (if t496 = true then (spec_l5Text.l0 k x0 (wrap64 (x3 + 1))) else (some false))) else (none)) else (some (decide ((x0.size : Int) ≤ 12)))
def spec_l5Text.f (k : Nat) (a0 : ByteArray) : Option (Bool) := spec_l5Text.l0 k a0 0
theorem spec_l5Text.mono_l : ∀ k, (∀ y0 y1, LeO (spec_l5Text.l0 k y0 y1) (spec_l5Text.l0 (k + 1) y0 y1))
 | 0 => fun _ _ r h => by simp [spec_l5Text.l0] at h
 | k + 1 => by
  have ih0 := spec_l5Text.mono_l k
  ·intro y0 y1
   unfold spec_l5Text.l0
   repeat' first
   | (with_reducible first | exact ih0 _ _ | exact LeO.refl _ | exact LeO.none _ | refine LeO.ite ?_ ?_ | refine LeO.bind ?_ (fun _ => ?_))
   | exact ih0 _ _
   | exact LeO.none _
   | refine LeO.ite ?_ ?_
   | refine LeO.bind ?_ (fun _ => ?_)
theorem spec_l5Text.mono : ∀ a0 k, LeO (spec_l5Text.f k a0) (spec_l5Text.f (k + 1) a0) := by
 intro a0 k
 have ih0 := spec_l5Text.mono_l k
 unfold spec_l5Text.f
 repeat' first
   | (with_reducible first | exact ih0 _ _ | exact LeO.refl _ | exact LeO.none _ | refine LeO.ite ?_ ?_ | refine LeO.bind ?_ (fun _ => ?_))
   | exact ih0 _ _
   | exact LeO.none _
   | refine LeO.ite ?_ ?_
   | refine LeO.bind ?_ (fun _ => ?_)
set_option maxHeartbeats 8000000 in
set_option maxRecDepth 100000 in
theorem spec_l5Text.calls (k : Nat) (a0 : ByteArray) (r : Bool) (w : World) (h : spec_l5Text.f k a0 = some r) :
  Calls Tryd.prog 88 #[.string a0] w fun e w' => e = .returned (.bool r) ∧ Drawn0 w w' := by
 have H : (spec_l5Text.l0 k a0 0) = some r := h
 clear h
 have H' := aS H
 clear H
 go_enter Tryd.func88, Tryd.ntmps88
 go_wp2
 go_loopg [3] k (fun kq v3 w' => ∃ (x3_1 : Int), v3 = .int .i64 x3_1 ∧ Aside0 (spec_l5Text.l0 kq a0 x3_1 = some r) ∧ Aside0 (kq ≤ k) ∧ Drawn0 w w')
 case atStart => exact ⟨(0), jB, H', ⟨Nat.le_refl _⟩, by repeat (first | exact Drawn0.refl _ | apply Drawn0.step)⟩
 case round =>
  clear H'
  obtain ⟨x3_1, rfl, HA, HK1, ⟨m1, rfl⟩⟩ := hrel
  cases gk with
  | zero => exact absurd HA.out (by simp [spec_l5Text.l0])
  | succ k1 =>
   have H := HA.out
   clear HA
   simp only [spec_l5Text.l0] at H
   by_cases c2 : x3_1 < (a0.size : Int)
   ·rw [if_pos c2] at H
    have c2b0 := decide_eq_true c2
    clear c2
    by_cases c3 : 0 ≤ x3_1
    ·rw [if_pos c3] at H
     have c3b0 := decide_eq_true c3
     clear c3
     obtain ⟨t496, A5, H⟩ := bM H
     try dsimp only at H
     by_cases c6 : t496 = true
     ·subst c6
      rw [if_pos rfl] at H
      have H' := aS H
      clear H
      have p4 : 0 ≤ (x3_1 : Int) := of_decide_eq_true jC
      have q4 : x3_1 < (a0.size : Int) := of_decide_eq_true jC
      have hx4 := bt_at a0 x3_1
      replace p4 := eq_true p4
      replace q4 := eq_true q4
      go_wp2_with (first | ((with_reducible refine gate_callee (f := 86) rfl ?_); refine goesL_ (some 14) rfl rfl Tryd.func86 jK rfl #[.int .i64 (wrap64 (bt a0 x3_1)), .int .i64 33, .int .i64 126] rfl jA ?_; (with_reducible refine (spec_l1In.calls (wrap64 (bt a0 x3_1)) 33 126 true _ A5.out).mono ?_); rintro e w' ⟨rfl, ⟨nd, rfl⟩⟩; refine ⟨_, rfl, ?_⟩))
      go_roundg k1
      case measure => have := HK1.out; omega
      case rel => exact ⟨(wrap64 (x3_1 + 1)), jB, H', ⟨by have := HK1.out; omega⟩, by repeat (first | exact Drawn0.refl _ | apply Drawn0.step)⟩
     ·replace c6 := Bool.eq_false_iff.mpr c6
      subst c6
      rw [if_neg Bool.false_ne_true] at H
      obtain rfl := Option.some.inj H
      have p4 : 0 ≤ (x3_1 : Int) := of_decide_eq_true jC
      have q4 : x3_1 < (a0.size : Int) := of_decide_eq_true jC
      have hx4 := bt_at a0 x3_1
      replace p4 := eq_true p4
      replace q4 := eq_true q4
      go_wp2_with (first | ((with_reducible refine gate_callee (f := 86) rfl ?_); refine goesL_ (some 14) rfl rfl Tryd.func86 jK rfl #[.int .i64 (wrap64 (bt a0 x3_1)), .int .i64 33, .int .i64 126] rfl jA ?_; (with_reducible refine (spec_l1In.calls (wrap64 (bt a0 x3_1)) 33 126 false _ A5.out).mono ?_); rintro e w' ⟨rfl, ⟨nd, rfl⟩⟩; refine ⟨_, rfl, ?_⟩))
      go_ret
      exact ⟨by first | rfl | (simp; done) | (simp [*]; done) | (simp [X.bne_nil, X.beq_nil]; done) | (simp [*, X.bne_nil, X.beq_nil]; done) | (simp [X.bne_nil, X.beq_nil]; done), by repeat (first | exact Drawn0.refl _ | apply Drawn0.step)⟩
    ·rw [if_neg c3] at H
     exact absurd H (by simp)
   ·rw [if_neg c2] at H
    have c2b0 := decide_eq_false c2
    clear c2
    obtain rfl := Option.some.inj H
    go_wp2
    go_ret
    exact ⟨by first | rfl | (simp; done) | (simp [*]; done) | (simp [X.bne_nil, X.beq_nil]; done) | (simp [*, X.bne_nil, X.beq_nil]; done) | (simp [X.bne_nil, X.beq_nil]; done), by repeat (first | exact Drawn0.refl _ | apply Drawn0.step)⟩

/-! ### spec_Labels: function 121 -/
mutual
def spec_Labels.l0 : Nat → ByteArray → List ByteArray → Int → Int → Option (List ByteArray)
 | 0, _, _, _, _ => none
 | k + 1, x0, x3, x4, x5 => if x5 ≤ (x0.size : Int) then (spec_Labels.j1 k x0 x3 x4 x5 (x0.toList != ([] : List UInt8))) else (spec_Labels.j1 k x0 x3 x4 x5 false)
def spec_Labels.j1 : Nat → ByteArray → List ByteArray → Int → Int → Bool → Option (List ByteArray)
 | 0, _, _, _, _, _ => none
 | k + 1, x0, x3, x4, x5, x14 => if x14 = true then (if x5 = (x0.size : Int) then (if 0 ≤ x4 then (if x4 ≤ x5 then (if x5 ≤ (x0.size : Int) then (if x3.length < 8796093022208 then (spec_Labels.l0 k x0 (x3 ++ [x0.extract (x4 : Int).toNat (x5 : Int).toNat]) (wrap64 (x5 + 1)) (wrap64 (x5 + 1))) else (none)) else (none)) else (none)) else (none)) else (if 0 ≤ x5 then (if x5 < (x0.size : Int) then (if (bt x0 x5) = 46 then (if 0 ≤ x4 then (if x4 ≤ x5 then (if x5 ≤ (x0.size : Int) then (if x3.length < 8796093022208 then (spec_Labels.l0 k x0 (x3 ++ [x0.extract (x4 : Int).toNat (x5 : Int).toNat]) (wrap64 (x5 + 1)) (wrap64 (x5 + 1))) else (none)) else (none)) else (none)) else (none)) else (spec_Labels.l0 k x0 x3 x4 (wrap64 (x5 + 1)))) else (none)) else (none))) else (some x3)
end
def spec_Labels.f (k : Nat) (a0 : ByteArray) : Option (List ByteArray) := spec_Labels.l0 k a0 (([] : List ByteArray)) 0 0
theorem spec_Labels.mono_l : ∀ k, (∀ y0 y1 y2 y3, LeO (spec_Labels.l0 k y0 y1 y2 y3) (spec_Labels.l0 (k + 1) y0 y1 y2 y3)) ∧ (∀ y0 y1 y2 y3 y4, LeO (spec_Labels.j1 k y0 y1 y2 y3 y4) (spec_Labels.j1 (k + 1) y0 y1 y2 y3 y4))
 | 0 => ⟨fun _ _ _ _ r h => by simp [spec_Labels.l0] at h, fun _ _ _ _ _ r h => by simp [spec_Labels.j1] at h⟩
 | k + 1 => by
  obtain ⟨ih0, ih1⟩ := spec_Labels.mono_l k
  refine ⟨?_, ?_⟩
  ·intro y0 y1 y2 y3
   unfold spec_Labels.l0
   repeat' first
   | (with_reducible first | exact ih0 _ _ _ _ | exact ih1 _ _ _ _ _ | exact LeO.refl _ | exact LeO.none _ | refine LeO.ite ?_ ?_ | refine LeO.bind ?_ (fun _ => ?_))
   | exact ih0 _ _ _ _
   | exact ih1 _ _ _ _ _
   | exact LeO.none _
   | refine LeO.ite ?_ ?_
   | refine LeO.bind ?_ (fun _ => ?_)
  ·intro y0 y1 y2 y3 y4
   unfold spec_Labels.j1
   repeat' first
   | (with_reducible first | exact ih0 _ _ _ _ | exact ih1 _ _ _ _ _ | exact LeO.refl _ | exact LeO.none _ | refine LeO.ite ?_ ?_ | refine LeO.bind ?_ (fun _ => ?_))
   | exact ih0 _ _ _ _
   | exact ih1 _ _ _ _ _
   | exact LeO.none _
   | refine LeO.ite ?_ ?_
   | refine LeO.bind ?_ (fun _ => ?_)
theorem spec_Labels.mono : ∀ a0 k, LeO (spec_Labels.f k a0) (spec_Labels.f (k + 1) a0) := by
 intro a0 k
 obtain ⟨ih0, ih1⟩ := spec_Labels.mono_l k
 unfold spec_Labels.f
 repeat' first
   | (with_reducible first | exact ih0 _ _ _ _ | exact ih1 _ _ _ _ _ | exact LeO.refl _ | exact LeO.none _ | refine LeO.ite ?_ ?_ | refine LeO.bind ?_ (fun _ => ?_))
   | exact ih0 _ _ _ _
   | exact ih1 _ _ _ _ _
   | exact LeO.none _
   | refine LeO.ite ?_ ?_
   | refine LeO.bind ?_ (fun _ => ?_)
set_option maxHeartbeats 8000000 in
set_option maxRecDepth 100000 in
theorem spec_Labels.calls (k : Nat) (a0 : ByteArray) (r : List ByteArray) (w : World) (h : spec_Labels.f k a0 = some r) :
  Calls Tryd.prog 121 #[.string a0] w fun e w' => ∃ v0_ : Value, e = .returned (v0_) ∧ Kd.R Kd.string 9 w' w.heap.size (fun _ => True) v0_ r ∧ Below w.heap.size w w' := by
 have HB := aS (Below.refl w.heap.size w)
 have H : (spec_Labels.l0 k a0 (([] : List ByteArray)) 0 0) = some r := h
 clear h
 obtain ⟨y497, hy_⟩ : ∃ y_ : List ByteArray, y_ = (([] : List ByteArray)) := ⟨_, rfl⟩
 replace H : (spec_Labels.l0 k a0 y497 0 0) = some r := jD
 have Ny497 := aS hy_
 clear hy_
 have H' := aS H
 clear H
 go_enter Tryd.func121, Tryd.ntmps121
 go_wp2_with (first | ((with_reducible refine gate_dst (N := 6) rfl ?_); refine Kd.R_lit Kd.string _ 9 ?hg (N := 6) ?hd (xs := ([] : List ByteArray)) (inner := []) (ok := fun _ => True) (okp := fun _ => True) ?hr ?hp (fun _ hk => hk) trivial (Below.refl _ _) (Nat.le_refl _) (by simp) ?_; (case hd => rfl); (case hg => rfl); (case hr => first | (go_simp; done) | (go_simp; rfl)); (case hp => exact (Reps.none _ _)); intro v498 w2 ho3 hb hg_ hnew_; clear hg_ hnew_; (first | rw [← Ny497.out] at ho3 | (simp only [Int.reduceToNat] at ho3; rw [← Ny497.out] at ho3)); have HO499 := aS (Kd.R_lower ho3 (below_size (wU HB.out))); replace HB := aS (below_step (wU HB.out) hb); clear hb ho3))
 go_loopg [3, 4, 5] k (fun kq v3 v4 v5 w' => ∃ (x3_1 : List ByteArray) (x4_1 : Int) (x5_1 : Int), v4 = .int .i64 x4_1 ∧ v5 = .int .i64 x5_1 ∧ Aside0 (spec_Labels.l0 kq a0 x3_1 x4_1 x5_1 = some r) ∧ Aside0 (kq ≤ k) ∧ Aside0 (Kd.R Kd.string 9 w' w.heap.size (fun _ => True) v3 x3_1) ∧ Aside0 (Below w.heap.size w w'))
 case atStart => exact ⟨(y497), (0), (0), jB, jB, H', ⟨Nat.le_refl _⟩, ⟨by exact rU HO499.out⟩, ⟨by exact wU HB.out⟩⟩
 case round =>
  clear H'
  try clear c1
  try clear p2
  obtain ⟨x3_1, x4_1, x5_1, rfl, rfl, HA, HK1, HO_3, HB⟩ := hrel
  cases gk with
  | zero => exact absurd HA.out (by simp [spec_Labels.l0])
  | succ k1 =>
   have H := HA.out
   clear HA
   simp only [spec_Labels.l0] at H
   have HC4 := aS H
   clear H
   go_upto_region 4 with (fail)
   go_cut [14] (fun v14 wc => ∃ (kq : Nat) (x14_3 : Bool), v14 = .bool x14_3 ∧ Aside0 (spec_Labels.j1 kq a0 x3_1 x4_1 x5_1 x14_3 = some r) ∧ Aside0 (kq ≤ k1) ∧ Aside0 (Kd.R Kd.string 9 wc w.heap.size (fun _ => True) u3 x3_1) ∧ Aside0 (Below w.heap.size w wc))
   case first =>
    have H := HC4.out
    clear HC4
    by_cases c5 : x5_1 ≤ (a0.size : Int)
    ·rw [if_pos c5] at H
     have c5b0 := decide_eq_true c5
     clear c5
     (first | rw [c5b0] | (simp only [i64_w, i32_w]; rw [c5b0]) | skip)
     have H' := aS H
     clear H
     go_wp2
     go_meet
     case rel => exact ⟨_, ((a0.toList != ([] : List UInt8))), jB, H', ⟨by have := HK1.out; first | omega | exact Nat.le_refl _⟩, ⟨by exact rU HO_3.out⟩, ⟨by exact wU HB.out⟩⟩
    ·rw [if_neg c5] at H
     have c5b0 := decide_eq_false c5
     clear c5
     (first | rw [c5b0] | (simp only [i64_w, i32_w]; rw [c5b0]) | skip)
     have H' := aS H
     clear H
     go_wp2
     go_meet
     case rel => exact ⟨_, (false), jB, H', ⟨by have := HK1.out; first | omega | exact Nat.le_refl _⟩, ⟨by exact rU HO_3.out⟩, ⟨by exact wU HB.out⟩⟩
   case rest =>
    clear HC4
    try clear c1
    try clear p2
    try clear c5
    try clear c5b0
    try clear p2
    obtain ⟨kq, x14_3, rfl, HA, HJ3, HO_3, HB⟩ := hcut
    cases kq with
    | zero => exact absurd HA.out (by simp [spec_Labels.j1])
    | succ kj3 =>
     have H := HA.out
     clear HA
     simp only [spec_Labels.j1] at H
     by_cases c6 : x14_3 = true
     ·subst c6
      rw [if_pos rfl] at H
      by_cases c7 : x5_1 = (a0.size : Int)
      ·rw [if_pos c7] at H
       have c7b0 := beq_iff_eq.mpr c7
       have c7b1 := bne_eq_false_iff_eq.mpr c7
       clear c7
       by_cases c8 : 0 ≤ x4_1
       ·rw [if_pos c8] at H
        have c8b0 := eq_true c8
        have c8b1 := decide_eq_true c8
        clear c8
        by_cases c9 : x4_1 ≤ x5_1
        ·rw [if_pos c9] at H
         have c9b0 := eq_true c9
         have c9b1 := decide_eq_true c9
         clear c9
         by_cases c10 : x5_1 ≤ (a0.size : Int)
         ·rw [if_pos c10] at H
          have c10b0 := eq_true c10
          have c10b1 := decide_eq_true c10
          clear c10
          by_cases c11 : x3_1.length < 8796093022208
          ·rw [if_pos c11] at H
           have LMc11 := aS c11
           clear c11
           obtain ⟨y500, hy_⟩ : ∃ y_ : List ByteArray, y_ = (x3_1 ++ [a0.extract (x4_1 : Int).toNat (x5_1 : Int).toNat]) := ⟨_, rfl⟩
           replace H : (spec_Labels.l0 kj3 a0 y500 (wrap64 (x5_1 + 1)) (wrap64 (x5_1 + 1))) = some r := jD
           have Ny500 := aS hy_
           clear hy_
           have H' := aS H
           clear H
           go_wp2_with (first | ((with_reducible refine gate_builtin (b := .append) (xs := #[.tmp 27, .tmp 32]) rfl ?_); at_builtin; refine Kd.R_append Kd.string (w0 := w) w.heap.size rfl (.tmp 27) (.tmp 32) 108 9 (.string ⟨#[]⟩) 16 rfl Tryd.underlying108 info9 rfl (by decide) (by omega) u3 x3_1 (a0.extract (x4_1 : Int).toNat (x5_1 : Int).toNat) [.string (a0.extract (x4_1 : Int).toNat (x5_1 : Int).toNat)] (fun _ => True) (fun _ => False) rfl rfl ?aP (fun _ hk => hk.elim) ?aF ?aO ?aB ?aS ?aL ?_; (case aP => exact rfl); (case aB => exact (wU HB.out)); (case aF => exact (fun _ _ => trivial)); (case aO => exact (rU HO_3.out)); (case aS => exact (below_size (wU HB.out))); (case aL => have := LMc11.out; omega); intro v501 w12 ho hb hg hat; rw [← Ny500.out] at ho; replace HB := aS (hb); have HO502 := aS (ho); clear HO_3; clear ho hb hg hat))
           go_roundg kj3
           case measure => have := HK1.out; have := HJ3.out; omega
           case rel => exact ⟨(y500), (wrap64 (x5_1 + 1)), (wrap64 (x5_1 + 1)), jB, jB, H', ⟨by have := HK1.out; have := HJ3.out; omega⟩, ⟨by exact rU HO502.out⟩, ⟨by exact wU HB.out⟩⟩
          ·rw [if_neg c11] at H
           exact absurd H (by simp)
         ·rw [if_neg c10] at H
          exact absurd H (by simp)
        ·rw [if_neg c9] at H
         exact absurd H (by simp)
       ·rw [if_neg c8] at H
        exact absurd H (by simp)
      ·rw [if_neg c7] at H
       have c7b0 := beq_eq_false_iff_ne.mpr c7
       have c7b1 := bne_iff_ne.mpr c7
       by_cases c13 : 0 ≤ x5_1
       ·rw [if_pos c13] at H
        have c13b0 := decide_eq_true c13
        clear c13
        by_cases c14 : x5_1 < (a0.size : Int)
        ·rw [if_pos c14] at H
         have c14b0 := decide_eq_true c14
         clear c14
         by_cases c16 : (bt a0 x5_1) = 46
         ·rw [if_pos c16] at H
          have c16b0 := beq_iff_eq.mpr c16
          have c16b1 := bne_eq_false_iff_eq.mpr c16
          clear c16
          by_cases c17 : 0 ≤ x4_1
          ·rw [if_pos c17] at H
           have c17b0 := eq_true c17
           have c17b1 := decide_eq_true c17
           clear c17
           by_cases c18 : x4_1 ≤ x5_1
           ·rw [if_pos c18] at H
            have c18b0 := eq_true c18
            have c18b1 := decide_eq_true c18
            clear c18
            by_cases c19 : x5_1 ≤ (a0.size : Int)
            ·rw [if_pos c19] at H
             have c19b0 := eq_true c19
             have c19b1 := decide_eq_true c19
             clear c19
             by_cases c20 : x3_1.length < 8796093022208
             ·rw [if_pos c20] at H
              have LMc20 := aS c20
              clear c20
              obtain ⟨y503, hy_⟩ : ∃ y_ : List ByteArray, y_ = (x3_1 ++ [a0.extract (x4_1 : Int).toNat (x5_1 : Int).toNat]) := ⟨_, rfl⟩
              replace H : (spec_Labels.l0 kj3 a0 y503 (wrap64 (x5_1 + 1)) (wrap64 (x5_1 + 1))) = some r := jD
              have Ny503 := aS hy_
              clear hy_
              have H' := aS H
              clear H
              have p15 : 0 ≤ (x5_1 : Int) := of_decide_eq_true jC
              have q15 : x5_1 < (a0.size : Int) := of_decide_eq_true jC
              have hx15 := bt_at a0 x5_1
              replace p15 := eq_true p15
              replace q15 := eq_true q15
              go_wp2_with (first | ((with_reducible refine gate_builtin (b := .append) (xs := #[.tmp 27, .tmp 32]) rfl ?_); at_builtin; refine Kd.R_append Kd.string (w0 := w) w.heap.size rfl (.tmp 27) (.tmp 32) 108 9 (.string ⟨#[]⟩) 16 rfl Tryd.underlying108 info9 rfl (by decide) (by omega) u3 x3_1 (a0.extract (x4_1 : Int).toNat (x5_1 : Int).toNat) [.string (a0.extract (x4_1 : Int).toNat (x5_1 : Int).toNat)] (fun _ => True) (fun _ => False) rfl rfl ?aP (fun _ hk => hk.elim) ?aF ?aO ?aB ?aS ?aL ?_; (case aP => exact rfl); (case aB => exact (wU HB.out)); (case aF => exact (fun _ _ => trivial)); (case aO => exact (rU HO_3.out)); (case aS => exact (below_size (wU HB.out))); (case aL => have := LMc20.out; omega); intro v504 w21 ho hb hg hat; rw [← Ny503.out] at ho; replace HB := aS (hb); have HO505 := aS (ho); clear HO_3; clear ho hb hg hat))
              go_roundg kj3
              case measure => have := HK1.out; have := HJ3.out; omega
              case rel => exact ⟨(y503), (wrap64 (x5_1 + 1)), (wrap64 (x5_1 + 1)), jB, jB, H', ⟨by have := HK1.out; have := HJ3.out; omega⟩, ⟨by exact rU HO505.out⟩, ⟨by exact wU HB.out⟩⟩
             ·rw [if_neg c20] at H
              exact absurd H (by simp)
            ·rw [if_neg c19] at H
             exact absurd H (by simp)
           ·rw [if_neg c18] at H
            exact absurd H (by simp)
          ·rw [if_neg c17] at H
           exact absurd H (by simp)
         ·rw [if_neg c16] at H
          have c16b0 := beq_eq_false_iff_ne.mpr c16
          have c16b1 := bne_iff_ne.mpr c16
          have H' := aS H
          clear H
          have p15 : 0 ≤ (x5_1 : Int) := of_decide_eq_true jC
          have q15 : x5_1 < (a0.size : Int) := of_decide_eq_true jC
          have hx15 := bt_at a0 x5_1
          replace p15 := eq_true p15
          replace q15 := eq_true q15
          go_wp2
          go_roundg kj3
          case measure => have := HK1.out; have := HJ3.out; omega
          case rel => exact ⟨(x3_1), (x4_1), (wrap64 (x5_1 + 1)), jB, jB, H', ⟨by have := HK1.out; have := HJ3.out; omega⟩, ⟨by exact rU HO_3.out⟩, ⟨by exact wU HB.out⟩⟩
        ·rw [if_neg c14] at H
         exact absurd H (by simp)
       ·rw [if_neg c13] at H
        exact absurd H (by simp)
     ·replace c6 := Bool.eq_false_iff.mpr c6
      subst c6
      rw [if_neg Bool.false_ne_true] at H
      obtain rfl := Option.some.inj H
      go_wp2
      go_ret
      exact ⟨_, jE, by exact rU HO_3.out, by exact wU HB.out⟩

/-! ### spec_l2Byte: function 159 -/
def spec_l2Byte.f (a0 : Int) : Option (Bool) := (spec_l1In.f (wrap64 (a0)) 97 122).bind fun t506 => (if t506 = true then (some true) else ((spec_l1In.f (wrap64 (a0)) 48 57).bind fun t507 => (if t507 = true then (some true) else (if a0 = 45 then (some true) else (some (a0 == 95))))))
set_option maxHeartbeats 8000000 in
set_option maxRecDepth 100000 in
theorem spec_l2Byte.calls (a0 : Int) (r : Bool) (w : World) (h : spec_l2Byte.f a0 = some r) :
  Calls Tryd.prog 159 #[.int .u8 a0] w fun e w' => e = .returned (.bool r) ∧ Drawn0 w w' := by
 have H : ((spec_l1In.f (wrap64 (a0)) 97 122).bind fun t506 => (if t506 = true then (some true) else ((spec_l1In.f (wrap64 (a0)) 48 57).bind fun t507 => (if t507 = true then (some true) else (if a0 = 45 then (some true) else (some (a0 == 95))))))) = some r := h
 clear h
 obtain ⟨t506, A2, H⟩ := bM H
 try dsimp only at H
 by_cases c3 : t506 = true
 ·subst c3
  rw [if_pos rfl] at H
  obtain rfl := Option.some.inj H
  go_enter Tryd.func159, Tryd.ntmps159
  go_wp2_with (first | ((with_reducible refine gate_callee (f := 86) rfl ?_); refine goesL_ (some 5) rfl rfl Tryd.func86 jK rfl #[.int .i64 (wrap64 (a0)), .int .i64 97, .int .i64 122] rfl jA ?_; (with_reducible refine (spec_l1In.calls (wrap64 (a0)) 97 122 true _ A2.out).mono ?_); rintro e w' ⟨rfl, ⟨nd, rfl⟩⟩; refine ⟨_, rfl, ?_⟩))
  go_ret
  exact ⟨by first | rfl | (simp; done) | (simp [*]; done) | (simp [X.bne_nil, X.beq_nil]; done) | (simp [*, X.bne_nil, X.beq_nil]; done) | (simp [X.bne_nil, X.beq_nil]; done), by repeat (first | exact Drawn0.refl _ | apply Drawn0.step)⟩
 ·replace c3 := Bool.eq_false_iff.mpr c3
  subst c3
  rw [if_neg Bool.false_ne_true] at H
  obtain ⟨t507, A4, H⟩ := bM H
  try dsimp only at H
  by_cases c5 : t507 = true
  ·subst c5
   rw [if_pos rfl] at H
   obtain rfl := Option.some.inj H
   go_enter Tryd.func159, Tryd.ntmps159
   go_wp2_with (first | ((with_reducible refine gate_callee (f := 86) rfl ?_); refine goesL_ (some 5) rfl rfl Tryd.func86 jK rfl #[.int .i64 (wrap64 (a0)), .int .i64 97, .int .i64 122] rfl jA ?_; (with_reducible refine (spec_l1In.calls (wrap64 (a0)) 97 122 false _ A2.out).mono ?_); rintro e w' ⟨rfl, ⟨nd, rfl⟩⟩; refine ⟨_, rfl, ?_⟩) | (go_at_call 86; (with_reducible refine (spec_l1In.calls (wrap64 (a0)) 48 57 true _ A4.out).mono ?_); rintro e w' ⟨rfl, ⟨nd, rfl⟩⟩))
   go_ret
   exact ⟨by first | rfl | (simp; done) | (simp [*]; done) | (simp [X.bne_nil, X.beq_nil]; done) | (simp [*, X.bne_nil, X.beq_nil]; done) | (simp [X.bne_nil, X.beq_nil]; done), by repeat (first | exact Drawn0.refl _ | apply Drawn0.step)⟩
  ·replace c5 := Bool.eq_false_iff.mpr c5
   subst c5
   rw [if_neg Bool.false_ne_true] at H
   by_cases c6 : a0 = 45
   ·rw [if_pos c6] at H
    have c6b0 := beq_iff_eq.mpr c6
    have c6b1 := bne_eq_false_iff_eq.mpr c6
    clear c6
    obtain rfl := Option.some.inj H
    go_enter Tryd.func159, Tryd.ntmps159
    go_wp2_with (first | ((with_reducible refine gate_callee (f := 86) rfl ?_); refine goesL_ (some 5) rfl rfl Tryd.func86 jK rfl #[.int .i64 (wrap64 (a0)), .int .i64 97, .int .i64 122] rfl jA ?_; (with_reducible refine (spec_l1In.calls (wrap64 (a0)) 97 122 false _ A2.out).mono ?_); rintro e w' ⟨rfl, ⟨nd, rfl⟩⟩; refine ⟨_, rfl, ?_⟩) | (go_at_call 86; (with_reducible refine (spec_l1In.calls (wrap64 (a0)) 48 57 false _ A4.out).mono ?_); rintro e w' ⟨rfl, ⟨nd, rfl⟩⟩))
    go_ret
    exact ⟨by first | rfl | (simp; done) | (simp [*]; done) | (simp [X.bne_nil, X.beq_nil]; done) | (simp [*, X.bne_nil, X.beq_nil]; done) | (simp [X.bne_nil, X.beq_nil]; done), by repeat (first | exact Drawn0.refl _ | apply Drawn0.step)⟩
   ·rw [if_neg c6] at H
    have c6b0 := beq_eq_false_iff_ne.mpr c6
    have c6b1 := bne_iff_ne.mpr c6
    obtain rfl := Option.some.inj H
    go_enter Tryd.func159, Tryd.ntmps159
    go_wp2_with (first | ((with_reducible refine gate_callee (f := 86) rfl ?_); refine goesL_ (some 5) rfl rfl Tryd.func86 jK rfl #[.int .i64 (wrap64 (a0)), .int .i64 97, .int .i64 122] rfl jA ?_; (with_reducible refine (spec_l1In.calls (wrap64 (a0)) 97 122 false _ A2.out).mono ?_); rintro e w' ⟨rfl, ⟨nd, rfl⟩⟩; refine ⟨_, rfl, ?_⟩) | (go_at_call 86; (with_reducible refine (spec_l1In.calls (wrap64 (a0)) 48 57 false _ A4.out).mono ?_); rintro e w' ⟨rfl, ⟨nd, rfl⟩⟩))
    go_ret
    exact ⟨by first | rfl | (simp; done) | (simp [*]; done) | (simp [X.bne_nil, X.beq_nil]; done) | (simp [*, X.bne_nil, X.beq_nil]; done) | (simp [X.bne_nil, X.beq_nil]; done), by repeat (first | exact Drawn0.refl _ | apply Drawn0.step)⟩

/-! ### spec_LabelOk: function 144 -/
def spec_LabelOk.l0 : Nat → ByteArray → Int → Option (Bool)
 | 0, _, _ => none
 | k + 1, x0, x3 => if x3 < (x0.size : Int) then (if 0 ≤ x3 then ((spec_l2Byte.f (bt x0 x3)).bind fun t508 => (if t508 = true then (spec_LabelOk.l0 k x0 (wrap64 (x3 + 1))) else (some false))) else (none)) else ((spec_l1In.f (x0.size : Int) 1 12).bind fun t509 => (some t509))
def spec_LabelOk.f (k : Nat) (a0 : ByteArray) : Option (Bool) := spec_LabelOk.l0 k a0 0
theorem spec_LabelOk.mono_l : ∀ k, (∀ y0 y1, LeO (spec_LabelOk.l0 k y0 y1) (spec_LabelOk.l0 (k + 1) y0 y1))
 | 0 => fun _ _ r h => by simp [spec_LabelOk.l0] at h
 | k + 1 => by
  have ih0 := spec_LabelOk.mono_l k
  ·intro y0 y1
   unfold spec_LabelOk.l0
   repeat' first
   | (with_reducible first | exact ih0 _ _ | exact LeO.refl _ | exact LeO.none _ | refine LeO.ite ?_ ?_ | refine LeO.bind ?_ (fun _ => ?_))
   | exact ih0 _ _
   | exact LeO.none _
   | refine LeO.ite ?_ ?_
   | refine LeO.bind ?_ (fun _ => ?_)
theorem spec_LabelOk.mono : ∀ a0 k, LeO (spec_LabelOk.f k a0) (spec_LabelOk.f (k + 1) a0) := by
 intro a0 k
 have ih0 := spec_LabelOk.mono_l k
 unfold spec_LabelOk.f
 repeat' first
   | (with_reducible first | exact ih0 _ _ | exact LeO.refl _ | exact LeO.none _ | refine LeO.ite ?_ ?_ | refine LeO.bind ?_ (fun _ => ?_))
   | exact ih0 _ _
   | exact LeO.none _
   | refine LeO.ite ?_ ?_
   | refine LeO.bind ?_ (fun _ => ?_)
set_option maxHeartbeats 8000000 in
set_option maxRecDepth 100000 in
theorem spec_LabelOk.calls (k : Nat) (a0 : ByteArray) (r : Bool) (w : World) (h : spec_LabelOk.f k a0 = some r) :
  Calls Tryd.prog 144 #[.string a0] w fun e w' => e = .returned (.bool r) ∧ Drawn0 w w' := by
 have H : (spec_LabelOk.l0 k a0 0) = some r := h
 clear h
 have H' := aS H
 clear H
 go_enter Tryd.func144, Tryd.ntmps144
 go_wp2
 go_loopg [3] k (fun kq v3 w' => ∃ (x3_1 : Int), v3 = .int .i64 x3_1 ∧ Aside0 (spec_LabelOk.l0 kq a0 x3_1 = some r) ∧ Aside0 (kq ≤ k) ∧ Drawn0 w w')
 case atStart => exact ⟨(0), jB, H', ⟨Nat.le_refl _⟩, by repeat (first | exact Drawn0.refl _ | apply Drawn0.step)⟩
 case round =>
  clear H'
  try clear c1
  obtain ⟨x3_1, rfl, HA, HK1, ⟨m1, rfl⟩⟩ := hrel
  cases gk with
  | zero => exact absurd HA.out (by simp [spec_LabelOk.l0])
  | succ k1 =>
   have H := HA.out
   clear HA
   simp only [spec_LabelOk.l0] at H
   by_cases c2 : x3_1 < (a0.size : Int)
   ·rw [if_pos c2] at H
    have c2b0 := decide_eq_true c2
    clear c2
    by_cases c3 : 0 ≤ x3_1
    ·rw [if_pos c3] at H
     have c3b0 := decide_eq_true c3
     clear c3
     obtain ⟨t508, A5, H⟩ := bM H
     try dsimp only at H
     by_cases c6 : t508 = true
     ·subst c6
      rw [if_pos rfl] at H
      have H' := aS H
      clear H
      have p4 : 0 ≤ (x3_1 : Int) := of_decide_eq_true jC
      have q4 : x3_1 < (a0.size : Int) := of_decide_eq_true jC
      have hx4 := bt_at a0 x3_1
      replace p4 := eq_true p4
      replace q4 := eq_true q4
      go_wp2_with (first | ((with_reducible refine gate_callee (f := 159) rfl ?_); refine goesL_ (some 13) rfl rfl Tryd.func159 jK rfl #[.int .u8 (bt a0 x3_1)] rfl jA ?_; (with_reducible refine (spec_l2Byte.calls (bt a0 x3_1) true _ A5.out).mono ?_); rintro e w' ⟨rfl, ⟨nd, rfl⟩⟩; refine ⟨_, rfl, ?_⟩))
      go_roundg k1
      case measure => have := HK1.out; omega
      case rel => exact ⟨(wrap64 (x3_1 + 1)), jB, H', ⟨by have := HK1.out; omega⟩, by repeat (first | exact Drawn0.refl _ | apply Drawn0.step)⟩
     ·replace c6 := Bool.eq_false_iff.mpr c6
      subst c6
      rw [if_neg Bool.false_ne_true] at H
      obtain rfl := Option.some.inj H
      have p4 : 0 ≤ (x3_1 : Int) := of_decide_eq_true jC
      have q4 : x3_1 < (a0.size : Int) := of_decide_eq_true jC
      have hx4 := bt_at a0 x3_1
      replace p4 := eq_true p4
      replace q4 := eq_true q4
      go_wp2_with (first | ((with_reducible refine gate_callee (f := 159) rfl ?_); refine goesL_ (some 13) rfl rfl Tryd.func159 jK rfl #[.int .u8 (bt a0 x3_1)] rfl jA ?_; (with_reducible refine (spec_l2Byte.calls (bt a0 x3_1) false _ A5.out).mono ?_); rintro e w' ⟨rfl, ⟨nd, rfl⟩⟩; refine ⟨_, rfl, ?_⟩))
      go_ret
      exact ⟨by first | rfl | (simp; done) | (simp [*]; done) | (simp [X.bne_nil, X.beq_nil]; done) | (simp [*, X.bne_nil, X.beq_nil]; done) | (simp [X.bne_nil, X.beq_nil]; done), by repeat (first | exact Drawn0.refl _ | apply Drawn0.step)⟩
    ·rw [if_neg c3] at H
     exact absurd H (by simp)
   ·rw [if_neg c2] at H
    have c2b0 := decide_eq_false c2
    clear c2
    obtain ⟨t509, A7, H⟩ := bM H
    try dsimp only at H
    obtain rfl := Option.some.inj H
    go_wp2_with (first | ((with_reducible refine gate_callee (f := 86) rfl ?_); refine goesL_ (some 17) rfl rfl Tryd.func86 jK rfl #[.int .i64 (a0.size : Int), .int .i64 1, .int .i64 12] rfl jA ?_; (with_reducible refine (spec_l1In.calls (a0.size : Int) 1 12 t509 _ A7.out).mono ?_); rintro e w' ⟨rfl, ⟨nd, rfl⟩⟩; refine ⟨_, rfl, ?_⟩))
    go_ret
    exact ⟨by first | rfl | (simp; done) | (simp [*]; done) | (simp [X.bne_nil, X.beq_nil]; done) | (simp [*, X.bne_nil, X.beq_nil]; done) | (simp [X.bne_nil, X.beq_nil]; done), by repeat (first | exact Drawn0.refl _ | apply Drawn0.step)⟩

/-! ### spec_NameOk: function 110 -/
def spec_NameOk.l0 : Nat → ByteArray → List ByteArray → Int → Option (Bool)
 | 0, _, _, _ => none
 | k + 1, x0, x3, x4 => if x4 < (x3.length : Int) then (if 0 ≤ x4 then ((spec_LabelOk.f k (rdOf ByteArray.empty x3 x4)).bind fun t514 => (if t514 = true then (spec_NameOk.l0 k x0 x3 (wrap64 (x4 + 1))) else (some false))) else (none)) else (if (x0.size : Int) ≤ 50 then (some (decide ((x3.length : Int) ≤ 6))) else (some false))
def spec_NameOk.f (k : Nat) (a0 : ByteArray) : Option (Bool) := (spec_Labels.f k a0).bind fun t510 => (spec_NameOk.l0 k a0 t510 0)
theorem spec_NameOk.mono_l : ∀ k, (∀ y0 y1 y2, LeO (spec_NameOk.l0 k y0 y1 y2) (spec_NameOk.l0 (k + 1) y0 y1 y2))
 | 0 => fun _ _ _ r h => by simp [spec_NameOk.l0] at h
 | k + 1 => by
  have ih0 := spec_NameOk.mono_l k
  ·intro y0 y1 y2
   unfold spec_NameOk.l0
   repeat' first
   | (with_reducible first | exact ih0 _ _ _ | exact spec_LabelOk.mono _ _ | exact spec_Labels.mono _ _ | exact LeO.refl _ | exact LeO.none _ | refine LeO.ite ?_ ?_ | refine LeO.bind ?_ (fun _ => ?_))
   | exact ih0 _ _ _
   | exact spec_LabelOk.mono _ _
   | exact spec_Labels.mono _ _
   | exact LeO.none _
   | refine LeO.ite ?_ ?_
   | refine LeO.bind ?_ (fun _ => ?_)
theorem spec_NameOk.mono : ∀ a0 k, LeO (spec_NameOk.f k a0) (spec_NameOk.f (k + 1) a0) := by
 intro a0 k
 have ih0 := spec_NameOk.mono_l k
 unfold spec_NameOk.f
 repeat' first
   | (with_reducible first | exact ih0 _ _ _ | exact spec_LabelOk.mono _ _ | exact spec_Labels.mono _ _ | exact LeO.refl _ | exact LeO.none _ | refine LeO.ite ?_ ?_ | refine LeO.bind ?_ (fun _ => ?_))
   | exact ih0 _ _ _
   | exact spec_LabelOk.mono _ _
   | exact spec_Labels.mono _ _
   | exact LeO.none _
   | refine LeO.ite ?_ ?_
   | refine LeO.bind ?_ (fun _ => ?_)
set_option maxHeartbeats 8000000 in
set_option maxRecDepth 100000 in
theorem spec_NameOk.calls (k : Nat) (a0 : ByteArray) (r : Bool) (w : World) (h : spec_NameOk.f k a0 = some r) :
  Calls Tryd.prog 110 #[.string a0] w fun e w' => e = .returned (.bool r) ∧ Below w.heap.size w w' := by
 have HB := aS (Below.refl w.heap.size w)
 have H : ((spec_Labels.f k a0).bind fun t510 => (spec_NameOk.l0 k a0 t510 0)) = some r := h
 clear h
 obtain ⟨t510, A2, H⟩ := bM H
 try dsimp only at H
 have H' := aS H
 clear H
 go_enter Tryd.func110, Tryd.ntmps110
 go_wp2_with (first | ((with_reducible refine gate_callee (f := 121) rfl ?_); refine goesL_ (some 6) rfl rfl Tryd.func121 jK rfl #[.string a0] rfl jA ?_; (with_reducible refine (spec_Labels.calls k a0 t510 _ A2.out).mono ?_); rintro e w3 ⟨v511, rfl, ho0, hb⟩; refine ⟨_, rfl, ?_⟩; have HO512 := aS (Kd.R_lower ho0 (below_size (wU HB.out))); replace HB := aS (below_step (wU HB.out) hb); clear hb; (try clear ho0)))
 go_loopg [4] k (fun kq v4 w' => ∃ (x4_1 : Int), v4 = .int .i64 x4_1 ∧ Aside0 (spec_NameOk.l0 kq a0 t510 x4_1 = some r) ∧ Aside0 (kq ≤ k) ∧ Aside0 (Kd.R Kd.string 9 w' w.heap.size (fun _ => True) v511 t510) ∧ Aside0 (Below w.heap.size w w'))
 case atStart => exact ⟨(0), jB, H', ⟨Nat.le_refl _⟩, ⟨by exact rU HO512.out⟩, ⟨by exact wU HB.out⟩⟩
 case round =>
  clear H'
  try clear c1
  try clear p2
  obtain ⟨x4_1, rfl, HA, HK1, HO_3, HB⟩ := hrel
  cases gk with
  | zero => exact absurd HA.out (by simp [spec_NameOk.l0])
  | succ k1 =>
   have H := HA.out
   clear HA
   simp only [spec_NameOk.l0] at H
   by_cases c4 : x4_1 < (t510.length : Int)
   ·rw [if_pos c4] at H
    have c4b0 := decide_eq_true c4
    clear c4
    by_cases c5 : 0 ≤ x4_1
    ·rw [if_pos c5] at H
     have c5b0 := decide_eq_true c5
     clear c5
     obtain ⟨t514, A6, H⟩ := bM H
     try dsimp only at H
     by_cases c7 : t514 = true
     ·subst c7
      rw [if_pos rfl] at H
      have H' := aS H
      clear H
      obtain ⟨Ao8, co8, eo8⟩ := Kd.R_slice HO_3.out
      subst eo8
      have p513 : 0 ≤ (x4_1 : Int) := of_decide_eq_true jC
      have q513 : x4_1 < (t510.length : Int) := of_decide_eq_true jC
      obtain ⟨ad513, e513, hx513_0⟩ := Kd.at_string (Kd.R_reads' HO_3.out).2.2 x4_1 p513 q513
      cases e513
      replace p513 := eq_true p513
      replace q513 := eq_true q513
      go_wp2_with (first | ((with_reducible refine gate_callee (f := 144) rfl ?_); refine goesL_ (some 17) rfl rfl Tryd.func144 jK rfl #[.string (rdOf ByteArray.empty t510 x4_1)] rfl jA ?_; (with_reducible refine (spec_LabelOk.calls k1 (rdOf ByteArray.empty t510 x4_1) true _ A6.out).mono ?_); rintro e w' ⟨rfl, ⟨nd, rfl⟩⟩; refine ⟨_, rfl, ?_⟩))
      go_roundg k1
      case measure => have := HK1.out; omega
      case rel => exact ⟨(wrap64 (x4_1 + 1)), jB, H', ⟨by have := HK1.out; omega⟩, ⟨by exact rU HO_3.out⟩, ⟨by exact wU HB.out⟩⟩
     ·replace c7 := Bool.eq_false_iff.mpr c7
      subst c7
      rw [if_neg Bool.false_ne_true] at H
      obtain rfl := Option.some.inj H
      obtain ⟨Ao9, co9, eo9⟩ := Kd.R_slice HO_3.out
      subst eo9
      have p513 : 0 ≤ (x4_1 : Int) := of_decide_eq_true jC
      have q513 : x4_1 < (t510.length : Int) := of_decide_eq_true jC
      obtain ⟨ad513, e513, hx513_0⟩ := Kd.at_string (Kd.R_reads' HO_3.out).2.2 x4_1 p513 q513
      cases e513
      replace p513 := eq_true p513
      replace q513 := eq_true q513
      go_wp2_with (first | ((with_reducible refine gate_callee (f := 144) rfl ?_); refine goesL_ (some 17) rfl rfl Tryd.func144 jK rfl #[.string (rdOf ByteArray.empty t510 x4_1)] rfl jA ?_; (with_reducible refine (spec_LabelOk.calls k1 (rdOf ByteArray.empty t510 x4_1) false _ A6.out).mono ?_); rintro e w' ⟨rfl, ⟨nd, rfl⟩⟩; refine ⟨_, rfl, ?_⟩))
      go_ret
      exact ⟨jE, by exact wU HB.out⟩
    ·rw [if_neg c5] at H
     exact absurd H (by simp)
   ·rw [if_neg c4] at H
    have c4b0 := decide_eq_false c4
    clear c4
    by_cases c10 : (a0.size : Int) ≤ 50
    ·rw [if_pos c10] at H
     have c10b0 := decide_eq_true c10
     have c10b1 : decide (a0.size ≤ 50) = true := decide_eq_true (by omega)
     clear c10
     obtain rfl := Option.some.inj H
     obtain ⟨Ao11, co11, eo11⟩ := Kd.R_slice HO_3.out
     subst eo11
     go_wp2
     go_ret
     exact ⟨jE, by exact wU HB.out⟩
    ·rw [if_neg c10] at H
     have c10b0 := decide_eq_false c10
     have c10b1 : decide (a0.size ≤ 50) = false := decide_eq_false (by omega)
     clear c10
     obtain rfl := Option.some.inj H
     obtain ⟨Ao12, co12, eo12⟩ := Kd.R_slice HO_3.out
     subst eo12
     go_wp2
     go_ret
     exact ⟨jE, by exact wU HB.out⟩

end Go.Proofs.YtdigilidomimdaaDoor.Pr
