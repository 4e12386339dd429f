-- Written for this claim by a program of this session (wip/tool/pr.py, over the kit's printer).
-- half
import Derived.Test.YtdigilidomimdaaDoorPrx0
import Derived.Test.YtdigilidomimdaaDoorPrx2
import Derived.Test.YtdigilidomimdaaDoorPrx5
import Derived.Test.YtdigilidomimdaaDoorPrx12
namespace Go.Proofs.YtdigilidomimdaaDoor.Pr
open Go.RowKit Go.Proofs.YtdigilidomimdaaDoorW.PrintWords Go.Proofs.YtdigilidomimdaaDoorW.PrintLast Go.Proofs.YtdigilidomimdaaDoorW.PrintMore
attribute [local go_sem] max2_int min2_int max_two min_two max_three min_three max_four min_four   -- for this text's walks alone
set_option linter.unusedVariables false
set_option linter.unusedSimpArgs false

/-! ### spec_PutData: function 14 -/
def spec_PutData.f (k : Nat) (a0_0 : ByteArray) (a0_1 : Int) (a0_2 : Int) (a0_3 : Int) (a0_4 : ByteArray) (a0_5 : ByteArray) : Option (List Int) := (spec_RecordOk.f k a0_0 a0_1 a0_2 a0_3 a0_4 a0_5).bind fun t667 => (if t667 = true then (if a0_1 = 1 then ((spec_Put4.f (([] : List Int)) a0_3).bind fun t674 => (some t674)) else (if a0_1 = 6 then ((spec_PutPlain.f k (([] : List Int)) a0_4).bind fun t680 => ((spec_Put4.f t680 a0_3).bind fun t683 => (some t683))) else (if a0_1 = 16 then ((some (([((a0_5.size : Int)) % 256] : List Int) : List Int)).bind fun y686 => (if y686.length + a0_5.size < 140737488355328 then (some (y686 ++ bytesOf a0_5)) else (none))) else ((spec_PutPlain.f k (([] : List Int)) a0_4).bind fun t695 => (some t695))))) else (some (([] : List Int))))
theorem spec_PutData.mono : ∀ a0 a1 a2 a3 a4 a5 k, LeO (spec_PutData.f k a0 a1 a2 a3 a4 a5) (spec_PutData.f (k + 1) a0 a1 a2 a3 a4 a5) := by
 intro a0 a1 a2 a3 a4 a5 k
 unfold spec_PutData.f
 repeat' first
   | (with_reducible first | exact spec_PutPlain.mono _ _ _ | exact spec_RecordOk.mono _ _ _ _ _ _ _ | exact LeO.refl _ | exact LeO.none _ | refine LeO.ite ?_ ?_ | refine LeO.bind ?_ (fun _ => ?_))
   | exact spec_PutPlain.mono _ _ _
   | exact spec_RecordOk.mono _ _ _ _ _ _ _
   | exact LeO.none _
   | refine LeO.ite ?_ ?_
   | refine LeO.bind ?_ (fun _ => ?_)
def spec_PutData.T7 : Bool × List (List Nat × List Nat) := (true, [([], []), ([], []), ([1], [1]), ([0, 2], [0, 2]), ([], []), ([4], [4]), ([3, 5, 3], [3, 5]), ([6, 6, 0, 1, 2, 3, 4, 5, 6], [6])])
def spec_PutData.B7 : List Nat := [0, 0, 2, 7, 0, 16, 63, 127]
theorem spec_PutData.tab7 : rtab .any (opsOf Tryd.f14 7) = spec_PutData.T7 := by kernel_rfl
theorem spec_PutData.bits7 : waitsOk spec_PutData.T7.2 spec_PutData.B7 = true := by kernel_rfl
set_option maxHeartbeats 8000000 in
set_option maxRecDepth 100000 in
theorem spec_PutData.calls (k : Nat) (a0_0 : ByteArray) (a0_1 : Int) (a0_2 : Int) (a0_3 : Int) (a0_4 : ByteArray) (a0_5 : ByteArray) (r : List Int) (w : World) (h : spec_PutData.f k a0_0 a0_1 a0_2 a0_3 a0_4 a0_5 = some r) :
  Calls Tryd.prog 14 #[.agg #[.string a0_0, .int .i64 a0_1, .int .i64 a0_2, .int .i64 a0_3, .string a0_4, .string a0_5]] w fun e w' => ∃ v0_ : Value, e = .returned (v0_) ∧ Kd.R (Kd.int .u8) 5 w' w.heap.size (fun _ => True) v0_ r ∧ Below w.heap.size w w' := by
 have hu25 := Tryd.underlying25
 have HB := aS (Below.refl w.heap.size w)
 have H : ((spec_RecordOk.f k a0_0 a0_1 a0_2 a0_3 a0_4 a0_5).bind fun t667 => (if t667 = true then (if a0_1 = 1 then ((spec_Put4.f (([] : List Int)) a0_3).bind fun t674 => (some t674)) else (if a0_1 = 6 then ((spec_PutPlain.f k (([] : List Int)) a0_4).bind fun t680 => ((spec_Put4.f t680 a0_3).bind fun t683 => (some t683))) else (if a0_1 = 16 then ((some (([((a0_5.size : Int)) % 256] : List Int) : List Int)).bind fun y686 => (if y686.length + a0_5.size < 140737488355328 then (some (y686 ++ bytesOf a0_5)) else (none))) else ((spec_PutPlain.f k (([] : List Int)) a0_4).bind fun t695 => (some t695))))) else (some (([] : List Int))))) = some r := h
 clear h
 replace H := Option.bind_eq_some_iff.mp H
 obtain ⟨t667, A2, H⟩ := H
 try dsimp only at H
 replace A2 := aS A2
 by_cases c3 : t667 = true
 ·subst c3
  have H1 : (if a0_1 = 1 then ((spec_Put4.f (([] : List Int)) a0_3).bind fun t674 => (some t674)) else (if a0_1 = 6 then ((spec_PutPlain.f k (([] : List Int)) a0_4).bind fun t680 => ((spec_Put4.f t680 a0_3).bind fun t683 => (some t683))) else (if a0_1 = 16 then ((some (([((a0_5.size : Int)) % 256] : List Int) : List Int)).bind fun y686 => (if y686.length + a0_5.size < 140737488355328 then (some (y686 ++ bytesOf a0_5)) else (none))) else ((spec_PutPlain.f k (([] : List Int)) a0_4).bind fun t695 => (some t695))))) = some r := by rw [if_pos rfl] at H; exact H
  clear H
  have H := H1
  clear H1
  by_cases c4 : a0_1 = 1
  ·rw [if_pos c4] at H
   have c4b0 : (a0_1 == 1) = true := beq_iff_eq.mpr c4
   have c4b1 : (a0_1 != 1) = false := bne_eq_false_iff_eq.mpr c4
   clear c4
   obtain ⟨y671, hy_⟩ : ∃ y_ : List Int, y_ = (([] : List Int)) := ⟨_, rfl⟩
   replace H : ((spec_Put4.f y671 a0_3).bind fun t674 => (some t674)) = some r := jD
   have Ny671 := aS hy_
   clear hy_
   replace H := Option.bind_eq_some_iff.mp H
   obtain ⟨t674, A5, H⟩ := H
   try dsimp only at H
   replace A5 := aS A5
   obtain rfl := Option.some.inj H
   go_enter Tryd.func14, Tryd.ntmps14
   go_wp2_with (first | ((with_reducible refine gate_dst (N := 1) rfl ?_); refine box_event ?hg (N := 1) ?hd (cs := #[.string a0_0, .int .i64 a0_1, .int .i64 a0_2, .int .i64 a0_3, .string a0_4, .string a0_5]) (t := 25) ?hr ?_; (case hd => rfl); (case hg => rfl); (case hr => first | (go_simp; done) | (go_simp; rfl)); intro gb666 hg w6 hbox hb; have n0_ := aS (below_step (wU HB.out) hb); have n1_ := aS (hbox); have n2_ := aS ((by rw [hg]; exact (below_size (wU HB.out)) : w.heap.size ≤ gb666)); have n3_ := aS ((by rw [hg]; exact (below_size (wU HB.out)) : w.heap.size ≤ gb666)); clear HB; revert n0_ n1_ n2_ n3_; intro HB BK666 GW666 GE666; clear hb hbox hg; have hcz7 := cells6f BK666.out) | ((with_reducible refine gate_callee (f := 54) rfl ?_); refine goesL_ (some 4) rfl rfl Tryd.func54 jK rfl #[.agg #[.string a0_0, .int .i64 a0_1, .int .i64 a0_2, .int .i64 a0_3, .string a0_4, .string a0_5]] rfl jA ?_; (with_reducible refine (spec_RecordOk.calls k a0_0 a0_1 a0_2 a0_3 a0_4 a0_5 true _ A2.out).mono ?_); rintro e w8 ⟨rfl, hb⟩; refine ⟨_, rfl, ?_⟩; have n0_ := aS (blk_below (bU BK666.out) hb); have n1_ := aS (below_step (wS1 HB.out GE666.out) hb); clear BK666 HB; revert n0_ n1_; intro BK666 HB; clear hb; have hcz9 := cells6f BK666.out) | ((with_reducible refine gate_dst (N := 11) rfl ?_); refine Kd.R_lit (Kd.int .u8) _ 5 ?hg (N := 11) ?hd (xs := ([] : List Int)) (inner := []) (ok := fun _ => True) (okp := fun _ => True) ?hr ?hp (fun _ hk => hk) trivial (Below.refl _ _) (Nat.le_refl _) (by simp) ?_; (case hd => rfl); (case hg => rfl); (case hr => first | (go_simp; done) | (go_simp; rfl)); (case hp => exact (Reps.none _ _)); intro v672 w10 ho11 hb hg_ hnew_; clear hg_ hnew_; (first | rw [← Ny671.out] at ho11 | (simp only [Int.reduceToNat] at ho11; rw [← Ny671.out] at ho11)); have n0_ := aS (Kd.R_lower ho11 (below_size (wS1 HB.out GE666.out))); have n1_ := aS (blk_below (bU BK666.out) hb); have n2_ := aS (below_step (wS1 HB.out GE666.out) hb); clear BK666 HB; revert n0_ n1_ n2_; intro HO673 BK666 HB; clear hb ho11; have hcz12 := cells6f BK666.out; obtain ⟨Ao13, co13, eo13⟩ := Kd.R_slice HO673.out; subst eo13) | ((with_reducible refine gate_callee (f := 63) rfl ?_); refine goesL_ (some 14) rfl rfl Tryd.func63 jK rfl #[.slice Ao13 y671.length co13, .int .i64 a0_3] rfl jA ?_; (with_reducible refine (spec_Put4.calls _ _ y671 a0_3 t674 _ ?side1 ?side2 A5.out).mono ?_); (case side1 => exact cU ((Kd.R_reads' HO673.out).2.2)); (case side2 => exact (Kd.R_reads' HO673.out).2.1); rintro e w14 ⟨v675, rfl, ho0, hb⟩; refine ⟨_, rfl, ?_⟩; have n0_ := aS (Kd.R_elder' (rU HO673.out) (Kd.R_base ho0) hb); have n1_ := aS (Kd.R_lower (Kd.R_new' ho0 (Kd.R_lt (rU HO673.out))) (below_size (wS1 HB.out GE666.out))); have n2_ := aS (blk_below (bU BK666.out) hb); have n3_ := aS (below_step (wS1 HB.out GE666.out) hb); clear HO673 BK666 HB; revert n0_ n1_ n2_ n3_; intro HO673 HO676 BK666 HB; clear hb; (try clear ho0)))
   go_ret
   exact ⟨_, jE, Kd.R_mono (rU HO676.out) (fun _ hk => trivial), by exact wS1 HB.out GE666.out⟩
  ·rw [if_neg c4] at H
   have c4b0 : (a0_1 == 1) = false := beq_eq_false_iff_ne.mpr c4
   have c4b1 : (a0_1 != 1) = true := bne_iff_ne.mpr c4
   by_cases c15 : a0_1 = 6
   ·rw [if_pos c15] at H
    have c15b0 : (a0_1 == 6) = true := beq_iff_eq.mpr c15
    have c15b1 : (a0_1 != 6) = false := bne_eq_false_iff_eq.mpr c15
    clear c15
    obtain ⟨y677, hy_⟩ : ∃ y_ : List Int, y_ = (([] : List Int)) := ⟨_, rfl⟩
    replace H : ((spec_PutPlain.f k y677 a0_4).bind fun t680 => ((spec_Put4.f t680 a0_3).bind fun t683 => (some t683))) = some r := jD
    have Ny677 := aS hy_
    clear hy_
    replace H := Option.bind_eq_some_iff.mp H
    obtain ⟨t680, A16, H⟩ := H
    try dsimp only at H
    replace A16 := aS A16
    replace H := Option.bind_eq_some_iff.mp H
    obtain ⟨t683, A17, H⟩ := H
    try dsimp only at H
    replace A17 := aS A17
    obtain rfl := Option.some.inj H
    go_enter Tryd.func14, Tryd.ntmps14
    try go_wp2_with (first | ((with_reducible refine gate_dst (N := 1) rfl ?_); refine box_event ?hg (N := 1) ?hd (cs := #[.string a0_0, .int .i64 a0_1, .int .i64 a0_2, .int .i64 a0_3, .string a0_4, .string a0_5]) (t := 25) ?hr ?_; (case hd => rfl); (case hg => rfl); (case hr => first | (go_simp; done) | (go_simp; rfl)); intro gb666 hg w18 hbox hb; have n0_ := aS (below_step (wU HB.out) hb); have n1_ := aS (hbox); have n2_ := aS ((by rw [hg]; exact (below_size (wU HB.out)) : w.heap.size ≤ gb666)); have n3_ := aS ((by rw [hg]; exact (below_size (wU HB.out)) : w.heap.size ≤ gb666)); clear HB; revert n0_ n1_ n2_ n3_; intro HB BK666 GW666 GE666; clear hb hbox hg; have hcz19 := cells6f BK666.out) | ((with_reducible refine gate_callee (f := 54) rfl ?_); refine goesL_ (some 4) rfl rfl Tryd.func54 jK rfl #[.agg #[.string a0_0, .int .i64 a0_1, .int .i64 a0_2, .int .i64 a0_3, .string a0_4, .string a0_5]] rfl jA ?_; (with_reducible refine (spec_RecordOk.calls k a0_0 a0_1 a0_2 a0_3 a0_4 a0_5 true _ A2.out).mono ?_); rintro e w20 ⟨rfl, hb⟩; refine ⟨_, rfl, ?_⟩; have n0_ := aS (blk_below (bU BK666.out) hb); have n1_ := aS (below_step (wS1 HB.out GE666.out) hb); clear BK666 HB; revert n0_ n1_; intro BK666 HB; clear hb; have hcz21 := cells6f BK666.out))
    have n0_ := aS (blk_drew BK666.out)
    have n1_ := aS (below_drew1 HB.out)
    clear BK666
    clear HB
    have BK666 := n0_
    have HB := n1_
    clear n0_ n1_
    refine start_ (n := 8) (S := fun w' => w'.cell? ⟨gb666, 0, none⟩ = some (.string a0_0) ∧ w'.cell? ⟨gb666, 1, none⟩ = some (.int .i64 a0_1) ∧ w'.cell? ⟨gb666, 2, none⟩ = some (.int .i64 a0_2) ∧ w'.cell? ⟨gb666, 3, none⟩ = some (.int .i64 a0_3) ∧ w'.cell? ⟨gb666, 4, none⟩ = some (.string a0_4) ∧ w'.cell? ⟨gb666, 5, none⟩ = some (.string a0_5)) (ds := []) #[false, false, false, false, false, false, false, false] jK rfl rfl ⟨(blk_cell BK666.out 0).trans rfl, (blk_cell BK666.out 1).trans rfl, (blk_cell BK666.out 2).trans rfl, (blk_cell BK666.out 3).trans rfl, (blk_cell BK666.out 4).trans rfl, (blk_cell BK666.out 5).trans rfl⟩ (fun hHeld => ?_); refine with_tabW spec_PutData.tab7 spec_PutData.bits7 (fun HT_ HW_ => ?_)
    generalize w20.drew = w22 at BK666 HB hHeld ⊢
    refine pure_ (i := 1) (N := some 18) (v := ?_) (a' := ?_) #[false, true, false, false, false, false, false, false] rfl rfl (any_of HT_.out jK) (fun _ _ _ h => h) (Or.inl ⟨by rfl, ?_⟩) ?_ ?_
    rotate_left
    ·intro w'
     go_simp
     with_reducible rfl
    rotate_left
    ·simp only [Act.put, List.setIfInBounds_toArray, List.set_cons_zero, List.set_cons_succ, i64_w, i32_w]
     rfl
    refine pure_ (i := 4) (N := some 21) (v := ?_) (a' := ?_) #[false, true, false, false, true, false, false, false] rfl rfl (any_of HT_.out jK) (fun _ _ _ h => h) (Or.inl ⟨by rfl, ?_⟩) ?_ ?_
    rotate_left
    ·intro w'
     go_simp
     with_reducible rfl
    rotate_left
    ·simp only [Act.put, List.setIfInBounds_toArray, List.set_cons_zero, List.set_cons_succ, i64_w, i32_w]
     rfl
    refine take_ (i := 2) (N := some 19) (v := ?_) (a' := ?_) #[false, true, true, false, true, false, false, false] rfl rfl (take_ofW HT_.out HW_.out jK) (fun _ _ _ h => h) (Or.inl ⟨by rfl, ?_⟩) hHeld ?_ ?_
    rotate_left
    ·rintro w' ⟨s0, s1, s2, s3, s4, s5⟩
     go_simp
     with_reducible rfl
    rotate_left
    ·simp only [Act.put, List.setIfInBounds_toArray, List.set_cons_zero, List.set_cons_succ, i64_w, i32_w]
     rfl
    refine take_ (i := 5) (N := some 22) (v := ?_) (a' := ?_) #[false, true, true, false, true, true, false, false] rfl rfl (take_ofW HT_.out HW_.out jK) (fun _ _ _ h => h) (Or.inl ⟨by rfl, ?_⟩) hHeld ?_ ?_
    rotate_left
    ·rintro w' ⟨s0, s1, s2, s3, s4, s5⟩
     go_simp
     with_reducible rfl
    rotate_left
    ·simp only [Act.put, List.setIfInBounds_toArray, List.set_cons_zero, List.set_cons_succ, i64_w, i32_w]
     rfl
    refine one_ (i := 0) (N := some 17) #[true, true, true, false, true, true, false, false] rfl rfl (one_of HT_.out jK) (by decide) (fun K hK => ?_)
    refine Kd.R_lit_step (Kd.int .u8) _ 5 ?hg (N := 17) ?hd (xs := ([] : List Int)) (inner := []) (ok := fun _ => True) (okp := fun _ => True) ?hr ?hp (fun _ hk => hk) trivial (Below.refl _ _) (Nat.le_refl _) (by simp) ?_; (case hd => rfl); (case hg => rfl); (case hr => first | (go_simp; done) | (go_simp; rfl)); (case hp => exact (Reps.none _ _))
    intro v678 w23 ho24 hb hg_ hnew_
    clear hg_ hnew_
    (first | rw [← Ny677.out] at ho24 | (simp only [Int.reduceToNat] at ho24; rw [← Ny677.out] at ho24))
    have n0_ := aS (Kd.R_lower ho24 (below_size (wS1 HB.out GE666.out)))
    have n1_ := aS (blk_below (bU BK666.out) hb)
    have n2_ := aS (below_step (wS1 HB.out GE666.out) hb)
    clear BK666
    clear HB
    have HO679 := n0_
    have BK666 := n1_
    have HB := n2_
    clear n0_ n1_ n2_
    clear hb ho24
    obtain ⟨Ao25, co25, eo25⟩ := Kd.R_slice HO679.out
    (first | subst eo25 | (injection eo25 with f1_ f2_ f3_; have f4_ := f1_.symm; have f5_ := f3_.symm; clear f1_ f2_ f3_; subst f4_; subst f5_))
    refine hK.out _ _ ⟨(blk_cell BK666.out 0).trans rfl, (blk_cell BK666.out 1).trans rfl, (blk_cell BK666.out 2).trans rfl, (blk_cell BK666.out 3).trans rfl, (blk_cell BK666.out 4).trans rfl, (blk_cell BK666.out 5).trans rfl⟩ (fun hHeld => ?_)
    clear hK K
    refine norm_ (a' := ?_) ?_ ?_
    rotate_left
    ·show Act.put _ (some 17) _ = _
     simp only [Act.put, List.setIfInBounds_toArray, List.set_cons_zero, List.set_cons_succ, i64_w, i32_w]
     rfl
    refine one_ (i := 3) (N := some 20) #[true, true, true, true, true, true, false, false] rfl rfl (one_of HT_.out jK) (by decide) (fun K hK => ?_)
    refine goes_ Tryd.func66 jK rfl #[.slice Ao25 y677.length co25, .string a0_4] (by rfl) rfl rfl jA ?_
    with_reducible refine (spec_PutPlain.calls k _ _ y677 a0_4 t680 _ ?side1 ?side2 A16.out).mono ?_
    (case side1 => exact cU ((Kd.R_reads' HO679.out).2.2))
    (case side2 => exact (Kd.R_reads' HO679.out).2.1)
    rintro e w26 ⟨v681, rfl, ho0, hb⟩
    refine ⟨_, rfl, ?_⟩
    have n0_ := aS (Kd.R_elder' (rU HO679.out) (Kd.R_base ho0) hb)
    have n1_ := aS (Kd.R_lower (Kd.R_new' ho0 (Kd.R_lt (rU HO679.out))) (below_size (wS1 HB.out GE666.out)))
    have n2_ := aS (blk_below (bU BK666.out) hb)
    have n3_ := aS (below_step (wS1 HB.out GE666.out) hb)
    clear HO679
    clear BK666
    clear HB
    have HO679 := n0_
    have HO682 := n1_
    have BK666 := n2_
    have HB := n3_
    clear n0_ n1_ n2_ n3_
    (try clear hb)
    (try clear hb2)
    (try clear hk)
    (try clear hi)
    (try clear ho0)
    obtain ⟨Ao27, co27, eo27⟩ := Kd.R_slice HO682.out
    (first | subst eo27 | (injection eo27 with f1_ f2_ f3_; have f4_ := f1_.symm; have f5_ := f3_.symm; clear f1_ f2_ f3_; subst f4_; subst f5_))
    refine hK.out _ _ ⟨(blk_cell BK666.out 0).trans rfl, (blk_cell BK666.out 1).trans rfl, (blk_cell BK666.out 2).trans rfl, (blk_cell BK666.out 3).trans rfl, (blk_cell BK666.out 4).trans rfl, (blk_cell BK666.out 5).trans rfl⟩ (fun hHeld => ?_)
    clear hK K
    refine norm_ (a' := ?_) ?_ ?_
    rotate_left
    ·show Act.put _ (some 20) _ = _
     simp only [Act.put, List.setIfInBounds_toArray, List.set_cons_zero, List.set_cons_succ, i64_w, i32_w]
     rfl
    refine one_ (i := 6) (N := some 23) #[true, true, true, true, true, true, true, false] rfl rfl (one_of HT_.out jK) (by decide) (fun K hK => ?_)
    refine goes_ Tryd.func63 jK rfl #[.slice Ao27 t680.length co27, .int .i64 a0_3] (by rfl) rfl rfl jA ?_
    with_reducible refine (spec_Put4.calls _ _ t680 a0_3 t683 _ ?side1 ?side2 A17.out).mono ?_
    (case side1 => exact cU ((Kd.R_reads' HO682.out).2.2))
    (case side2 => exact (Kd.R_reads' HO682.out).2.1)
    rintro e w28 ⟨v684, rfl, ho0, hb⟩
    refine ⟨_, rfl, ?_⟩
    have n0_ := aS (Kd.R_elder' (rU HO679.out) (Kd.R_base ho0) hb)
    have n1_ := aS (Kd.R_elder' (rU HO682.out) (Kd.R_base ho0) hb)
    have n2_ := aS (Kd.R_lower (Kd.R_new' (Kd.R_new' ho0 (Kd.R_lt (rU HO679.out))) (Kd.R_lt (rU HO682.out))) (below_size (wS1 HB.out GE666.out)))
    have n3_ := aS (blk_below (bU BK666.out) hb)
    have n4_ := aS (below_step (wS1 HB.out GE666.out) hb)
    clear HO679
    clear HO682
    clear BK666
    clear HB
    have HO679 := n0_
    have HO682 := n1_
    have HO685 := n2_
    have BK666 := n3_
    have HB := n4_
    clear n0_ n1_ n2_ n3_ n4_
    (try clear hb)
    (try clear hb2)
    (try clear hk)
    (try clear hi)
    (try clear ho0)
    refine hK.out _ _ ⟨(blk_cell BK666.out 0).trans rfl, (blk_cell BK666.out 1).trans rfl, (blk_cell BK666.out 2).trans rfl, (blk_cell BK666.out 3).trans rfl, (blk_cell BK666.out 4).trans rfl, (blk_cell BK666.out 5).trans rfl⟩ (fun hHeld => ?_)
    clear hK K
    refine norm_ (a' := ?_) ?_ ?_
    rotate_left
    ·show Act.put _ (some 23) _ = _
     simp only [Act.put, List.setIfInBounds_toArray, List.set_cons_zero, List.set_cons_succ, i64_w, i32_w]
     rfl
    refine pure_ (i := 7) (N := some 2) (v := ?_) (a' := ?_) #[true, true, true, true, true, true, true, true] rfl rfl (any_of HT_.out jK) (fun _ _ _ h => h) (Or.inl ⟨by rfl, ?_⟩) ?_ ?_
    rotate_left
    ·intro w'
     go_simp
     with_reducible rfl
    rotate_left
    ·simp only [Act.put, List.setIfInBounds_toArray, List.set_cons_zero, List.set_cons_succ, i64_w, i32_w]
     rfl
    refine done_ (done_of HT_.out jK) ?_
    try go_wp2
    go_ret
    exact ⟨_, jE, Kd.R_mono (rU HO685.out) (fun _ hk => trivial), by exact wS1 HB.out GE666.out⟩
   ·rw [if_neg c15] at H
    have c15b0 : (a0_1 == 6) = false := beq_eq_false_iff_ne.mpr c15
    have c15b1 : (a0_1 != 6) = true := bne_iff_ne.mpr c15
    by_cases c29 : a0_1 = 16
    ·rw [if_pos c29] at H
     have c29b0 : (a0_1 == 16) = true := beq_iff_eq.mpr c29
     have c29b1 : (a0_1 != 16) = false := bne_eq_false_iff_eq.mpr c29
     clear c29
     obtain ⟨y686, hy_⟩ : ∃ y_ : List Int, y_ = (([((a0_5.size : Int)) % 256] : List Int)) := ⟨_, rfl⟩
     replace H : (if y686.length + a0_5.size < 140737488355328 then (some (y686 ++ bytesOf a0_5)) else (none)) = some r := jD
     have Ny686 := aS hy_
     clear hy_
     by_cases c30 : y686.length + a0_5.size < 140737488355328
     ·rw [if_pos c30] at H
      have LMc30 := aS c30
      clear c30
      obtain ⟨y689, hy_⟩ : ∃ y_ : List Int, y_ = (y686 ++ bytesOf a0_5) := ⟨_, rfl⟩
      replace H : (some y689) = some r := jD
      have Ny689 := aS hy_
      clear hy_
      obtain rfl := Option.some.inj H
      go_enter Tryd.func14, Tryd.ntmps14
      go_wp2_with (first | ((with_reducible refine gate_dst (N := 1) rfl ?_); refine box_event ?hg (N := 1) ?hd (cs := #[.string a0_0, .int .i64 a0_1, .int .i64 a0_2, .int .i64 a0_3, .string a0_4, .string a0_5]) (t := 25) ?hr ?_; (case hd => rfl); (case hg => rfl); (case hr => first | (go_simp; done) | (go_simp; rfl)); intro gb666 hg w31 hbox hb; have n0_ := aS (below_step (wU HB.out) hb); have n1_ := aS (hbox); have n2_ := aS ((by rw [hg]; exact (below_size (wU HB.out)) : w.heap.size ≤ gb666)); have n3_ := aS ((by rw [hg]; exact (below_size (wU HB.out)) : w.heap.size ≤ gb666)); clear HB; revert n0_ n1_ n2_ n3_; intro HB BK666 GW666 GE666; clear hb hbox hg; have hcz32 := cells6f BK666.out) | ((with_reducible refine gate_callee (f := 54) rfl ?_); refine goesL_ (some 4) rfl rfl Tryd.func54 jK rfl #[.agg #[.string a0_0, .int .i64 a0_1, .int .i64 a0_2, .int .i64 a0_3, .string a0_4, .string a0_5]] rfl jA ?_; (with_reducible refine (spec_RecordOk.calls k a0_0 a0_1 a0_2 a0_3 a0_4 a0_5 true _ A2.out).mono ?_); rintro e w33 ⟨rfl, hb⟩; refine ⟨_, rfl, ?_⟩; have n0_ := aS (blk_below (bU BK666.out) hb); have n1_ := aS (below_step (wS1 HB.out GE666.out) hb); clear BK666 HB; revert n0_ n1_; intro BK666 HB; clear hb; have hcz34 := cells6f BK666.out) | ((with_reducible refine gate_dst (N := 30) rfl ?_); refine Kd.R_lit (Kd.int .u8) _ 5 ?hg (N := 30) ?hd (xs := ([((a0_5.size : Int)) % 256] : List Int)) (inner := [.int .u8 (((a0_5.size : Int)) % 256)]) (ok := fun _ => True) (okp := fun _ => True) ?hr ?hp (fun _ hk => hk) trivial (Below.refl _ _) (Nat.le_refl _) (by simp) ?_; (case hd => rfl); (case hg => rfl); (case hr => first | (go_simp; done) | (go_simp; rfl)); (case hp => exact (Reps.one (show Kd.M (Kd.int .u8) _ _ _ (((a0_5.size : Int)) % 256) [.int .u8 (((a0_5.size : Int)) % 256)] from rfl) (Reps.none _ _))); intro v687 w35 ho36 hb hg_ hnew_; clear hg_ hnew_; (first | rw [← Ny686.out] at ho36 | (simp only [Int.reduceToNat] at ho36; rw [← Ny686.out] at ho36)); have n0_ := aS (Kd.R_lower ho36 (below_size (wS1 HB.out GE666.out))); have n1_ := aS (blk_below (bU BK666.out) hb); have n2_ := aS (below_step (wS1 HB.out GE666.out) hb); clear BK666 HB; revert n0_ n1_ n2_; intro HO688 BK666 HB; clear hb ho36; have hcz37 := cells6f BK666.out) | (at_builtin; refine print_append_str (w0 := w) w.heap.size rfl (.tmp 30) _ 22 9 5 rfl Tryd.underlying22 Tryd.underlying9 info5 v687 y686 a0_5 rfl rfl ?aO ?aB ?aS ?aL ?_; (case aB => exact (wS1 HB.out GE666.out)); (case aO => exact (Kd.own_of_R (rU HO688.out))); (case aS => exact (below_size (wS1 HB.out GE666.out))); (case aL => have := LMc30.out; omega); intro v690 w38 ho0 hb hg; have ho := Kd.R_of_own (h1 := fun _ => rfl) (ok := fun _ => True) ho0 (fun _ _ => trivial); clear ho0; have hat := True.intro; rw [← Ny689.out] at ho; change Kd.R (Kd.int .u8) 5 w38 w.heap.size (fun _ => True) v690 y689 at ho; have n0_ := aS (blk_grown (g := gb666) (o := .cells #[.string a0_0, .int .i64 a0_1, .int .i64 a0_2, .int .i64 a0_3, .string a0_4, .string a0_5] 25 (0, 0)) (bU BK666.out) hg (Kd.R_ne HO688.out BK666.out (by decide))); have n1_ := aS (hb); have n2_ := aS (ho); clear BK666 HB HO688; revert n0_ n1_ n2_; intro BK666 HB HO691; clear ho hb hg hat))
      go_ret
      exact ⟨_, jE, by (with_reducible repeat (first | apply Kd.R_alloc | apply Kd.R_drewN | apply Kd.R_drew)); exact HO691.out, by exact wS1 HB.out GE666.out⟩
     ·rw [if_neg c30] at H
      exact absurd H (by simp)
    ·rw [if_neg c29] at H
     have c29b0 : (a0_1 == 16) = false := beq_eq_false_iff_ne.mpr c29
     have c29b1 : (a0_1 != 16) = true := bne_iff_ne.mpr c29
     obtain ⟨y692, hy_⟩ : ∃ y_ : List Int, y_ = (([] : List Int)) := ⟨_, rfl⟩
     replace H : ((spec_PutPlain.f k y692 a0_4).bind fun t695 => (some t695)) = some r := jD
     have Ny692 := aS hy_
     clear hy_
     replace H := Option.bind_eq_some_iff.mp H
     obtain ⟨t695, A39, H⟩ := H
     try dsimp only at H
     replace A39 := aS A39
     obtain rfl := Option.some.inj H
     go_enter Tryd.func14, Tryd.ntmps14
     go_wp2_with (first | ((with_reducible refine gate_dst (N := 1) rfl ?_); refine box_event ?hg (N := 1) ?hd (cs := #[.string a0_0, .int .i64 a0_1, .int .i64 a0_2, .int .i64 a0_3, .string a0_4, .string a0_5]) (t := 25) ?hr ?_; (case hd => rfl); (case hg => rfl); (case hr => first | (go_simp; done) | (go_simp; rfl)); intro gb666 hg w40 hbox hb; have n0_ := aS (below_step (wU HB.out) hb); have n1_ := aS (hbox); have n2_ := aS ((by rw [hg]; exact (below_size (wU HB.out)) : w.heap.size ≤ gb666)); have n3_ := aS ((by rw [hg]; exact (below_size (wU HB.out)) : w.heap.size ≤ gb666)); clear HB; revert n0_ n1_ n2_ n3_; intro HB BK666 GW666 GE666; clear hb hbox hg; have hcz41 := cells6f BK666.out) | ((with_reducible refine gate_callee (f := 54) rfl ?_); refine goesL_ (some 4) rfl rfl Tryd.func54 jK rfl #[.agg #[.string a0_0, .int .i64 a0_1, .int .i64 a0_2, .int .i64 a0_3, .string a0_4, .string a0_5]] rfl jA ?_; (with_reducible refine (spec_RecordOk.calls k a0_0 a0_1 a0_2 a0_3 a0_4 a0_5 true _ A2.out).mono ?_); rintro e w42 ⟨rfl, hb⟩; refine ⟨_, rfl, ?_⟩; have n0_ := aS (blk_below (bU BK666.out) hb); have n1_ := aS (below_step (wS1 HB.out GE666.out) hb); clear BK666 HB; revert n0_ n1_; intro BK666 HB; clear hb; have hcz43 := cells6f BK666.out) | ((with_reducible refine gate_dst (N := 34) rfl ?_); refine Kd.R_lit (Kd.int .u8) _ 5 ?hg (N := 34) ?hd (xs := ([] : List Int)) (inner := []) (ok := fun _ => True) (okp := fun _ => True) ?hr ?hp (fun _ hk => hk) trivial (Below.refl _ _) (Nat.le_refl _) (by simp) ?_; (case hd => rfl); (case hg => rfl); (case hr => first | (go_simp; done) | (go_simp; rfl)); (case hp => exact (Reps.none _ _)); intro v693 w44 ho45 hb hg_ hnew_; clear hg_ hnew_; (first | rw [← Ny692.out] at ho45 | (simp only [Int.reduceToNat] at ho45; rw [← Ny692.out] at ho45)); have n0_ := aS (Kd.R_lower ho45 (below_size (wS1 HB.out GE666.out))); have n1_ := aS (blk_below (bU BK666.out) hb); have n2_ := aS (below_step (wS1 HB.out GE666.out) hb); clear BK666 HB; revert n0_ n1_ n2_; intro HO694 BK666 HB; clear hb ho45; have hcz46 := cells6f BK666.out; obtain ⟨Ao47, co47, eo47⟩ := Kd.R_slice HO694.out; subst eo47) | ((with_reducible refine gate_callee (f := 66) rfl ?_); refine goesL_ (some 37) rfl rfl Tryd.func66 jK rfl #[.slice Ao47 y692.length co47, .string a0_4] rfl jA ?_; (with_reducible refine (spec_PutPlain.calls k _ _ y692 a0_4 t695 _ ?side1 ?side2 A39.out).mono ?_); (case side1 => exact cU ((Kd.R_reads' HO694.out).2.2)); (case side2 => exact (Kd.R_reads' HO694.out).2.1); rintro e w48 ⟨v696, rfl, ho0, hb⟩; refine ⟨_, rfl, ?_⟩; have n0_ := aS (Kd.R_elder' (rU HO694.out) (Kd.R_base ho0) hb); have n1_ := aS (Kd.R_lower (Kd.R_new' ho0 (Kd.R_lt (rU HO694.out))) (below_size (wS1 HB.out GE666.out))); have n2_ := aS (blk_below (bU BK666.out) hb); have n3_ := aS (below_step (wS1 HB.out GE666.out) hb); clear HO694 BK666 HB; revert n0_ n1_ n2_ n3_; intro HO694 HO697 BK666 HB; clear hb; (try clear ho0)))
     go_ret
     exact ⟨_, jE, Kd.R_mono (rU HO697.out) (fun _ hk => trivial), by exact wS1 HB.out GE666.out⟩
 ·replace c3 := Bool.eq_false_iff.mpr c3
  subst c3
  have H1 : (some (([] : List Int))) = some r := by rw [if_neg (show ¬ (false = true) by decide)] at H; exact H
  clear H
  have H := H1
  clear H1
  obtain ⟨y668, hy_⟩ : ∃ y_ : List Int, y_ = (([] : List Int)) := ⟨_, rfl⟩
  replace H : (some y668) = some r := jD
  have Ny668 := aS hy_
  clear hy_
  obtain rfl := Option.some.inj H
  go_enter Tryd.func14, Tryd.ntmps14
  go_wp2_with (first | ((with_reducible refine gate_dst (N := 1) rfl ?_); refine box_event ?hg (N := 1) ?hd (cs := #[.string a0_0, .int .i64 a0_1, .int .i64 a0_2, .int .i64 a0_3, .string a0_4, .string a0_5]) (t := 25) ?hr ?_; (case hd => rfl); (case hg => rfl); (case hr => first | (go_simp; done) | (go_simp; rfl)); intro gb666 hg w49 hbox hb; have n0_ := aS (below_step (wU HB.out) hb); have n1_ := aS (hbox); have n2_ := aS ((by rw [hg]; exact (below_size (wU HB.out)) : w.heap.size ≤ gb666)); have n3_ := aS ((by rw [hg]; exact (below_size (wU HB.out)) : w.heap.size ≤ gb666)); clear HB; revert n0_ n1_ n2_ n3_; intro HB BK666 GW666 GE666; clear hb hbox hg; have hcz50 := cells6f BK666.out) | ((with_reducible refine gate_callee (f := 54) rfl ?_); refine goesL_ (some 4) rfl rfl Tryd.func54 jK rfl #[.agg #[.string a0_0, .int .i64 a0_1, .int .i64 a0_2, .int .i64 a0_3, .string a0_4, .string a0_5]] rfl jA ?_; (with_reducible refine (spec_RecordOk.calls k a0_0 a0_1 a0_2 a0_3 a0_4 a0_5 false _ A2.out).mono ?_); rintro e w51 ⟨rfl, hb⟩; refine ⟨_, rfl, ?_⟩; have n0_ := aS (blk_below (bU BK666.out) hb); have n1_ := aS (below_step (wS1 HB.out GE666.out) hb); clear BK666 HB; revert n0_ n1_; intro BK666 HB; clear hb) | ((with_reducible refine gate_dst (N := 6) rfl ?_); refine Kd.R_lit (Kd.int .u8) _ 5 ?hg (N := 6) ?hd (xs := ([] : List Int)) (inner := []) (ok := fun _ => True) (okp := fun _ => True) ?hr ?hp (fun _ hk => hk) trivial (Below.refl _ _) (Nat.le_refl _) (by simp) ?_; (case hd => rfl); (case hg => rfl); (case hr => first | (go_simp; done) | (go_simp; rfl)); (case hp => exact (Reps.none _ _)); intro v669 w52 ho53 hb hg_ hnew_; clear hg_ hnew_; (first | rw [← Ny668.out] at ho53 | (simp only [Int.reduceToNat] at ho53; rw [← Ny668.out] at ho53)); have n0_ := aS (Kd.R_lower ho53 (below_size (wS1 HB.out GE666.out))); have n1_ := aS (blk_below (bU BK666.out) hb); have n2_ := aS (below_step (wS1 HB.out GE666.out) hb); clear BK666 HB; revert n0_ n1_ n2_; intro HO670 BK666 HB; clear hb ho53))
  go_ret
  exact ⟨_, jE, by (with_reducible repeat (first | apply Kd.R_alloc | apply Kd.R_drewN | apply Kd.R_drew)); exact HO670.out, by exact wS1 HB.out GE666.out⟩

/-! ### spec_Put2: function 64 -/
def spec_Put2.f (l0 : List Int) (a1 : Int) : Option (List Int) := (some (([] : List Int) : List Int)).bind fun y698 => (if y698.length + l0.length < 140737488355328 then ((some (y698 ++ l0 : List Int)).bind fun y701 => ((spec_l1In.f a1 0 65535).bind fun t704 => (if t704 = true then ((some (([(a1 / 256) % 256, (Go.bits .and .i64 a1 255) % 256] : List Int) : List Int)).bind fun y705 => (if y701.length + y705.length < 140737488355328 then (some (y701 ++ y705)) else (none))) else (some y701)))) else (none))
set_option maxHeartbeats 8000000 in
set_option maxRecDepth 100000 in
theorem spec_Put2.calls (A0 : Option Addr) (c0 : Nat) (l0 : List Int) (a1 : Int) (r : List Int) (w : World) (hr0 : Kd.C (Kd.int .u8) w A0 l0.length l0) (hc0 : l0.length ≤ c0) (h : spec_Put2.f l0 a1 = some r) :
  Calls Tryd.prog 64 #[.slice A0 l0.length c0, .int .i64 a1] w fun e w' => ∃ v0_ : Value, e = .returned (v0_) ∧ Kd.R (Kd.int .u8) 5 w' w.heap.size (fun _ => True) v0_ r ∧ Below w.heap.size w w' := by
 have HR0 := aS hr0
 have HC0 := aS hc0
 clear hr0 hc0
 have HB := aS (Below.refl w.heap.size w)
 have H : ((some (([] : List Int) : List Int)).bind fun y698 => (if y698.length + l0.length < 140737488355328 then ((some (y698 ++ l0 : List Int)).bind fun y701 => ((spec_l1In.f a1 0 65535).bind fun t704 => (if t704 = true then ((some (([(a1 / 256) % 256, (Go.bits .and .i64 a1 255) % 256] : List Int) : List Int)).bind fun y705 => (if y701.length + y705.length < 140737488355328 then (some (y701 ++ y705)) else (none))) else (some y701)))) else (none))) = some r := h
 clear h
 obtain ⟨y698, hy_⟩ : ∃ y_ : List Int, y_ = (([] : List Int)) := ⟨_, rfl⟩
 replace H : (if y698.length + l0.length < 140737488355328 then ((some (y698 ++ l0 : List Int)).bind fun y701 => ((spec_l1In.f a1 0 65535).bind fun t704 => (if t704 = true then ((some (([(a1 / 256) % 256, (Go.bits .and .i64 a1 255) % 256] : List Int) : List Int)).bind fun y705 => (if y701.length + y705.length < 140737488355328 then (some (y701 ++ y705)) else (none))) else (some y701)))) else (none)) = some r := jD
 have Ny698 := aS hy_
 clear hy_
 by_cases c3 : y698.length + l0.length < 140737488355328
 ·rw [if_pos c3] at H
  have LMc3 := aS c3
  clear c3
  obtain ⟨y701, hy_⟩ : ∃ y_ : List Int, y_ = (y698 ++ l0) := ⟨_, rfl⟩
  replace H : ((spec_l1In.f a1 0 65535).bind fun t704 => (if t704 = true then ((some (([(a1 / 256) % 256, (Go.bits .and .i64 a1 255) % 256] : List Int) : List Int)).bind fun y705 => (if y701.length + y705.length < 140737488355328 then (some (y701 ++ y705)) else (none))) else (some y701))) = some r := jD
  have Ny701 := aS hy_
  clear hy_
  replace H := Option.bind_eq_some_iff.mp H
  obtain ⟨t704, A4, H⟩ := H
  try dsimp only at H
  replace A4 := aS A4
  have HC5 := aS H
  clear H
  go_enter Tryd.func64, Tryd.ntmps64
  go_upto_if 11 with (first | ((with_reducible refine gate_dst (N := 6) rfl ?_); refine Kd.R_lit (Kd.int .u8) _ 5 ?hg (N := 6) ?hd (xs := ([] : List Int)) (inner := []) (ok := fun _ => True) (okp := fun _ => True) ?hr ?hp (fun _ hk => hk) trivial (Below.refl _ _) (Nat.le_refl _) (by simp) ?_; (case hd => rfl); (case hg => rfl); (case hr => first | (go_simp; done) | (go_simp; rfl)); (case hp => exact (Reps.none _ _)); intro v699 w6 ho7 hb hg_ hnew_; clear hg_ hnew_; (first | rw [← Ny698.out] at ho7 | (simp only [Int.reduceToNat] at ho7; rw [← Ny698.out] at ho7)); have n0_ := aS (Kd.R_lower ho7 (below_size (wU HB.out))); have n1_ := aS (below_step (wU HB.out) hb); clear HB; revert n0_ n1_; intro HO700 HB; clear hb ho7) | ((with_reducible refine gate_builtin (b := .append) (xs := #[.tmp 6, .tmp 7]) rfl ?_); at_builtin; refine Kd.R_append_rows (Kd.int .u8) (w0 := w) w.heap.size rfl (.tmp 6) (.tmp 7) 22 5 (.int .u8 0) 1 rfl Tryd.underlying22 info5 rfl (by decide) (by omega) v699 y698 l0 _ _ _ (fun _ => True) (fun _ => False) rfl rfl ?aO ?aR (fun _ _ h => h) (fun _ h => h.elim) ?aF ?aB ?aS ?aL ?_; (case aR => exact cU ((Kd.C_below HR0.out HB.out))); (case aB => exact (wU HB.out)); (case aF => exact (fun _ _ => trivial)); (case aO => exact (rU HO700.out)); (case aS => exact (below_size (wU HB.out))); (case aL => have := LMc3.out; omega); intro v702 w8 ho hb hg hat; rw [← Ny701.out] at ho; have n0_ := aS (hb); have n1_ := aS (ho); clear HB HO700; revert n0_ n1_; intro HB HO703; clear ho hb hg hat) | ((with_reducible refine gate_callee (f := 86) rfl ?_); refine goesL_ (some 10) rfl rfl Tryd.func86 jK rfl #[.int .i64 a1, .int .i64 0, .int .i64 65535] rfl jA ?_; (with_reducible refine (spec_l1In.calls a1 0 65535 t704 _ A4.out).mono ?_); rintro e w' ⟨rfl, ⟨nd, rfl⟩⟩; refine ⟨_, rfl, ?_⟩))
  (try simp only [Act.put, List.setIfInBounds_toArray, List.set_cons_zero, List.set_cons_succ])
  have H := HC5.out
  clear HC5
  by_cases c9 : t704 = true
  ·subst c9
   have H1 : ((some (([(a1 / 256) % 256, (Go.bits .and .i64 a1 255) % 256] : List Int) : List Int)).bind fun y705 => (if y701.length + y705.length < 140737488355328 then (some (y701 ++ y705)) else (none))) = some r := by rw [if_pos rfl] at H; exact H
   clear H
   have H := H1
   clear H1
   obtain ⟨ji10, hji10⟩ : ∃ j_ : Int, (Go.bits .and .i64 a1 255) = j_ := ⟨_, rfl⟩
   replace H : ((some (([(a1 / 256) % 256, (ji10) % 256] : List Int) : List Int)).bind fun y705 => (if y701.length + y705.length < 140737488355328 then (some (y701 ++ y705)) else (none))) = some r := by first | (rw [hji10] at H; exact H) | (simp only [hji10] at H ⊢; exact H)
   obtain ⟨y705, hy_⟩ : ∃ y_ : List Int, y_ = (([(a1 / 256) % 256, (ji10) % 256] : List Int)) := ⟨_, rfl⟩
   replace H : (if y701.length + y705.length < 140737488355328 then (some (y701 ++ y705)) else (none)) = some r := jD
   have Ny705 := aS hy_
   clear hy_
   by_cases c11 : y701.length + y705.length < 140737488355328
   ·rw [if_pos c11] at H
    have LMc11 := aS c11
    clear c11
    obtain ⟨y708, hy_⟩ : ∃ y_ : List Int, y_ = (y701 ++ y705) := ⟨_, rfl⟩
    replace H : (some y708) = some r := jD
    have Ny708 := aS hy_
    clear hy_
    obtain rfl := Option.some.inj H
    go_wp2_with (first | ((with_reducible refine gate_dst (N := 20) rfl ?_); refine Kd.R_lit (Kd.int .u8) _ 5 ?hg (N := 20) ?hd (xs := ([(a1 / 256) % 256, (ji10) % 256] : List Int)) (inner := [.int .u8 ((a1 / 256) % 256), .int .u8 ((ji10) % 256)]) (ok := fun _ => True) (okp := fun _ => True) ?hr ?hp (fun _ hk => hk) trivial (Below.refl _ _) (Nat.le_refl _) (by simp) ?_; (case hd => rfl); (case hg => rfl); (case hr => first | (go_simp; done) | (go_simp; rfl)); (case hp => exact (Reps.one (show Kd.M (Kd.int .u8) _ _ _ ((a1 / 256) % 256) [.int .u8 ((a1 / 256) % 256)] from rfl) (Reps.one (show Kd.M (Kd.int .u8) _ _ _ ((ji10) % 256) [.int .u8 ((ji10) % 256)] from rfl) (Reps.none _ _)))); intro v706 w12 ho13 hb hg_ hnew_; clear hg_ hnew_; (first | rw [← Ny705.out] at ho13 | (simp only [Int.reduceToNat] at ho13; rw [← Ny705.out] at ho13)); have n0_ := aS (Kd.R_elder' (rU HO703.out) (Kd.R_base ho13) hb); have n1_ := aS (Kd.R_lower (Kd.R_new' ho13 (Kd.R_lt (rU HO703.out))) (below_size (wU HB.out))); have n2_ := aS (below_step (wU HB.out) hb); clear HO703 HB; revert n0_ n1_ n2_; intro HO703 HO707 HB; clear hb ho13; obtain ⟨Ao15, co15, eo15⟩ := Kd.R_slice HO707.out; subst eo15) | ((with_reducible refine gate_builtin (b := .append) (xs := #[.tmp 13, .tmp 20]) rfl ?_); at_builtin; refine Kd.R_append_rows (Kd.int .u8) (w0 := w) w.heap.size rfl (.tmp 13) (.tmp 20) 22 5 (.int .u8 0) 1 rfl Tryd.underlying22 info5 rfl (by decide) (by omega) v702 y701 y705 _ _ _ (fun k_ => some k_ ≠ (.slice Ao15 y705.length co15 : Value).ownBlock) (fun _ => False) rfl rfl ?aO ?aR (fun _ _ h => h) (fun _ h => h.elim) ?aF ?aB ?aS ?aL ?_; (case aR => exact cU ((Kd.R_reads' HO707.out).2.2)); (case aB => exact (wU HB.out)); (case aF => exact (fun k_ hk => Kd.fresh' (Kd.R_lt (rU HO707.out)) k_ hk)); (case aO => exact (by (with_reducible repeat (first | apply Kd.R_alloc | apply Kd.R_drewN | apply Kd.R_drew)); exact Kd.R_mono HO703.out (fun _ hk => hk.2))); (case aS => exact (below_size (wU HB.out))); (case aL => have := LMc11.out; omega); intro v709 w14 ho hb hg hat; rw [← Ny708.out] at ho; have n0_ := aS (Kd.R_after (ok := (fun _ => True)) (rU HO707.out) hg hat); have n1_ := aS (hb); have n2_ := aS (ho); clear HO707 HB HO703; revert n0_ n1_ n2_; intro HO707 HB HO710; clear ho hb hg hat))
    go_ret
    exact ⟨_, by first | rfl | (simp [errW_none, errW_some] <;> rfl) | (simp only [← hji10]; first | rfl | (simp [errW_none, errW_some] <;> rfl)) | (simp [*, errW_none, errW_some] <;> rfl), Kd.R_mono (rU HO710.out) (fun _ hk => trivial), by repeat (first | (with_reducible first | exact HB.out | apply below_alloc | apply pw_below_drewN | apply below_drew1) | exact HB.out)⟩
   ·rw [if_neg c11] at H
    exact absurd H (by simp)
  ·replace c9 := Bool.eq_false_iff.mpr c9
   subst c9
   have H1 : (some y701) = some r := by rw [if_neg (show ¬ (false = true) by decide)] at H; exact H
   clear H
   have H := H1
   clear H1
   obtain rfl := Option.some.inj H
   go_wp2
   go_ret
   exact ⟨_, jE, by (with_reducible repeat (first | apply Kd.R_alloc | apply Kd.R_drewN | apply Kd.R_drew)); exact HO703.out, by repeat (first | (with_reducible first | exact HB.out | apply below_alloc | apply pw_below_drewN | apply below_drew1) | exact HB.out)⟩
 ·rw [if_neg c3] at H
  exact absurd H (by simp)

/-! ### spec_PutRecord: function 13 -/
def spec_PutRecord.f (k : Nat) (l0 : List Int) (a1_0 : ByteArray) (a1_1 : Int) (a1_2 : Int) (a1_3 : Int) (a1_4 : ByteArray) (a1_5 : ByteArray) : Option (List Int) := (spec_RecordOk.f k a1_0 a1_1 a1_2 a1_3 a1_4 a1_5).bind fun t712 => (if t712 = true then ((spec_PutName.f k l0 a1_0).bind fun t719 => ((spec_Put2.f t719 a1_1).bind fun t722 => ((spec_Put2.f t722 1).bind fun t725 => ((spec_Put4.f t725 a1_2).bind fun t728 => ((spec_PutData.f k a1_0 a1_1 a1_2 a1_3 a1_4 a1_5).bind fun t731 => ((spec_Put2.f t728 (t731.length : Int)).bind fun t734 => (if t734.length + t731.length < 140737488355328 then (some (t734 ++ t731)) else (none)))))))) else ((some (([] : List Int) : List Int)).bind fun y713 => (if y713.length + l0.length < 140737488355328 then (some (y713 ++ l0)) else (none))))
theorem spec_PutRecord.mono : ∀ a0 a1 a2 a3 a4 a5 a6 k, LeO (spec_PutRecord.f k a0 a1 a2 a3 a4 a5 a6) (spec_PutRecord.f (k + 1) a0 a1 a2 a3 a4 a5 a6) := by
 intro a0 a1 a2 a3 a4 a5 a6 k
 unfold spec_PutRecord.f
 repeat' first
   | (with_reducible first | exact spec_PutData.mono _ _ _ _ _ _ _ | exact spec_PutName.mono _ _ _ | exact spec_RecordOk.mono _ _ _ _ _ _ _ | exact LeO.refl _ | exact LeO.none _ | refine LeO.ite ?_ ?_ | refine LeO.bind ?_ (fun _ => ?_))
   | exact spec_PutData.mono _ _ _ _ _ _ _
   | exact spec_PutName.mono _ _ _
   | exact spec_RecordOk.mono _ _ _ _ _ _ _
   | exact LeO.none _
   | refine LeO.ite ?_ ?_
   | refine LeO.bind ?_ (fun _ => ?_)
def spec_PutRecord.T3 : Bool × List (List Nat × List Nat) := (true, [([], []), ([], []), ([1], [1]), ([0, 2], [0, 2]), ([], []), ([4], [4]), ([3, 5, 3], [3, 5]), ([6, 6], [6]), ([], []), ([8], [8]), ([7, 9, 7], [7, 9]), ([10, 10, 0, 1, 2, 3, 4, 5, 6, 7, 8, 9, 10], [10])])
def spec_PutRecord.B3 : List Nat := [0, 0, 2, 7, 0, 16, 63, 127, 0, 256, 1023, 2047]
theorem spec_PutRecord.tab3 : rtab .any (opsOf Tryd.f13 3) = spec_PutRecord.T3 := by kernel_rfl
theorem spec_PutRecord.bits3 : waitsOk spec_PutRecord.T3.2 spec_PutRecord.B3 = true := by kernel_rfl
set_option maxHeartbeats 8000000 in
set_option maxRecDepth 100000 in
theorem spec_PutRecord.calls (k : Nat) (A0 : Option Addr) (c0 : Nat) (l0 : List Int) (a1_0 : ByteArray) (a1_1 : Int) (a1_2 : Int) (a1_3 : Int) (a1_4 : ByteArray) (a1_5 : ByteArray) (r : List Int) (w : World) (hr0 : Kd.C (Kd.int .u8) w A0 l0.length l0) (hc0 : l0.length ≤ c0) (h : spec_PutRecord.f k l0 a1_0 a1_1 a1_2 a1_3 a1_4 a1_5 = some r) :
  Calls Tryd.prog 13 #[.slice A0 l0.length c0, .agg #[.string a1_0, .int .i64 a1_1, .int .i64 a1_2, .int .i64 a1_3, .string a1_4, .string a1_5]] w fun e w' => ∃ v0_ : Value, e = .returned (v0_) ∧ Kd.R (Kd.int .u8) 5 w' w.heap.size (fun _ => True) v0_ r ∧ Below w.heap.size w w' := by
 have hu25 := Tryd.underlying25
 have HR0 := aS hr0
 have HC0 := aS hc0
 clear hr0 hc0
 have HB := aS (Below.refl w.heap.size w)
 have H : ((spec_RecordOk.f k a1_0 a1_1 a1_2 a1_3 a1_4 a1_5).bind fun t712 => (if t712 = true then ((spec_PutName.f k l0 a1_0).bind fun t719 => ((spec_Put2.f t719 a1_1).bind fun t722 => ((spec_Put2.f t722 1).bind fun t725 => ((spec_Put4.f t725 a1_2).bind fun t728 => ((spec_PutData.f k a1_0 a1_1 a1_2 a1_3 a1_4 a1_5).bind fun t731 => ((spec_Put2.f t728 (t731.length : Int)).bind fun t734 => (if t734.length + t731.length < 140737488355328 then (some (t734 ++ t731)) else (none)))))))) else ((some (([] : List Int) : List Int)).bind fun y713 => (if y713.length + l0.length < 140737488355328 then (some (y713 ++ l0)) else (none))))) = some r := h
 clear h
 replace H := Option.bind_eq_some_iff.mp H
 obtain ⟨t712, A3, H⟩ := H
 try dsimp only at H
 replace A3 := aS A3
 by_cases c4 : t712 = true
 ·subst c4
  have H1 : ((spec_PutName.f k l0 a1_0).bind fun t719 => ((spec_Put2.f t719 a1_1).bind fun t722 => ((spec_Put2.f t722 1).bind fun t725 => ((spec_Put4.f t725 a1_2).bind fun t728 => ((spec_PutData.f k a1_0 a1_1 a1_2 a1_3 a1_4 a1_5).bind fun t731 => ((spec_Put2.f t728 (t731.length : Int)).bind fun t734 => (if t734.length + t731.length < 140737488355328 then (some (t734 ++ t731)) else (none)))))))) = some r := by rw [if_pos rfl] at H; exact H
  clear H
  have H := H1
  clear H1
  replace H := Option.bind_eq_some_iff.mp H
  obtain ⟨t719, A5, H⟩ := H
  try dsimp only at H
  replace A5 := aS A5
  replace H := Option.bind_eq_some_iff.mp H
  obtain ⟨t722, A6, H⟩ := H
  try dsimp only at H
  replace A6 := aS A6
  replace H := Option.bind_eq_some_iff.mp H
  obtain ⟨t725, A7, H⟩ := H
  try dsimp only at H
  replace A7 := aS A7
  replace H := Option.bind_eq_some_iff.mp H
  obtain ⟨t728, A8, H⟩ := H
  try dsimp only at H
  replace A8 := aS A8
  replace H := Option.bind_eq_some_iff.mp H
  obtain ⟨t731, A9, H⟩ := H
  try dsimp only at H
  replace A9 := aS A9
  replace H := Option.bind_eq_some_iff.mp H
  obtain ⟨t734, A10, H⟩ := H
  try dsimp only at H
  replace A10 := aS A10
  by_cases c11 : t734.length + t731.length < 140737488355328
  ·rw [if_pos c11] at H
   have LMc11 := aS c11
   clear c11
   obtain ⟨y737, hy_⟩ : ∃ y_ : List Int, y_ = (t734 ++ t731) := ⟨_, rfl⟩
   replace H : (some y737) = some r := jD
   have Ny737 := aS hy_
   clear hy_
   obtain rfl := Option.some.inj H
   go_enter Tryd.func13, Tryd.ntmps13
   try go_wp2_with (first | ((with_reducible refine gate_dst (N := 3) rfl ?_); refine box_event ?hg (N := 3) ?hd (cs := #[.string a1_0, .int .i64 a1_1, .int .i64 a1_2, .int .i64 a1_3, .string a1_4, .string a1_5]) (t := 25) ?hr ?_; (case hd => rfl); (case hg => rfl); (case hr => first | (go_simp; done) | (go_simp; rfl)); intro gb711 hg w12 hbox hb; have n0_ := aS (below_step (wU HB.out) hb); have n1_ := aS (hbox); have n2_ := aS ((by rw [hg]; exact (below_size (wU HB.out)) : w.heap.size ≤ gb711)); have n3_ := aS ((by rw [hg]; exact (below_size (wU HB.out)) : w.heap.size ≤ gb711)); clear HB; revert n0_ n1_ n2_ n3_; intro HB BK711 GW711 GE711; clear hb hbox hg; have hcz13 := cells6f BK711.out) | ((with_reducible refine gate_callee (f := 54) rfl ?_); refine goesL_ (some 8) rfl rfl Tryd.func54 jK rfl #[.agg #[.string a1_0, .int .i64 a1_1, .int .i64 a1_2, .int .i64 a1_3, .string a1_4, .string a1_5]] rfl jA ?_; (with_reducible refine (spec_RecordOk.calls k a1_0 a1_1 a1_2 a1_3 a1_4 a1_5 true _ A3.out).mono ?_); rintro e w14 ⟨rfl, hb⟩; refine ⟨_, rfl, ?_⟩; have n0_ := aS (blk_below (bU BK711.out) hb); have n1_ := aS (below_step (wS1 HB.out GE711.out) hb); clear BK711 HB; revert n0_ n1_; intro BK711 HB; clear hb))
   have n0_ := aS (blk_drew BK711.out)
   have n1_ := aS (below_drew1 HB.out)
   clear BK711
   clear HB
   have BK711 := n0_
   have HB := n1_
   clear n0_ n1_
   refine start_ (n := 12) (S := fun w' => w'.cell? ⟨gb711, 0, none⟩ = some (.string a1_0) ∧ w'.cell? ⟨gb711, 1, none⟩ = some (.int .i64 a1_1) ∧ w'.cell? ⟨gb711, 2, none⟩ = some (.int .i64 a1_2) ∧ w'.cell? ⟨gb711, 3, none⟩ = some (.int .i64 a1_3) ∧ w'.cell? ⟨gb711, 4, none⟩ = some (.string a1_4) ∧ w'.cell? ⟨gb711, 5, none⟩ = some (.string a1_5)) (ds := []) #[false, false, false, false, false, false, false, false, false, false, false, false] jK rfl rfl ⟨(blk_cell BK711.out 0).trans rfl, (blk_cell BK711.out 1).trans rfl, (blk_cell BK711.out 2).trans rfl, (blk_cell BK711.out 3).trans rfl, (blk_cell BK711.out 4).trans rfl, (blk_cell BK711.out 5).trans rfl⟩ (fun hHeld => ?_); refine with_tabW spec_PutRecord.tab3 spec_PutRecord.bits3 (fun HT_ HW_ => ?_)
   generalize w14.drew = w15 at BK711 HB hHeld ⊢
   refine pure_ (i := 0) (N := some 13) (v := ?_) (a' := ?_) #[true, false, false, false, false, false, false, false, false, false, false, false] rfl rfl (any_of HT_.out jK) (fun _ _ _ h => h) (Or.inl ⟨by rfl, ?_⟩) ?_ ?_
   rotate_left
   ·intro w'
    go_simp
    with_reducible rfl
   rotate_left
   ·simp only [Act.put, List.setIfInBounds_toArray, List.set_cons_zero, List.set_cons_succ, i64_w, i32_w]
    rfl
   refine pure_ (i := 1) (N := some 14) (v := ?_) (a' := ?_) #[true, true, false, false, false, false, false, false, false, false, false, false] rfl rfl (any_of HT_.out jK) (fun _ _ _ h => h) (Or.inl ⟨by rfl, ?_⟩) ?_ ?_
   rotate_left
   ·intro w'
    go_simp
    with_reducible rfl
   rotate_left
   ·simp only [Act.put, List.setIfInBounds_toArray, List.set_cons_zero, List.set_cons_succ, i64_w, i32_w]
    rfl
   refine pure_ (i := 4) (N := some 17) (v := ?_) (a' := ?_) #[true, true, false, false, true, false, false, false, false, false, false, false] rfl rfl (any_of HT_.out jK) (fun _ _ _ h => h) (Or.inl ⟨by rfl, ?_⟩) ?_ ?_
   rotate_left
   ·intro w'
    go_simp
    with_reducible rfl
   rotate_left
   ·simp only [Act.put, List.setIfInBounds_toArray, List.set_cons_zero, List.set_cons_succ, i64_w, i32_w]
    rfl
   refine pure_ (i := 8) (N := some 21) (v := ?_) (a' := ?_) #[true, true, false, false, true, false, false, false, true, false, false, false] rfl rfl (any_of HT_.out jK) (fun _ _ _ h => h) (Or.inl ⟨by rfl, ?_⟩) ?_ ?_
   rotate_left
   ·intro w'
    go_simp
    with_reducible rfl
   rotate_left
   ·simp only [Act.put, List.setIfInBounds_toArray, List.set_cons_zero, List.set_cons_succ, i64_w, i32_w]
    rfl
   refine take_ (i := 2) (N := some 15) (v := ?_) (a' := ?_) #[true, true, true, false, true, false, false, false, true, false, false, false] rfl rfl (take_ofW HT_.out HW_.out jK) (fun _ _ _ h => h) (Or.inl ⟨by rfl, ?_⟩) hHeld ?_ ?_
   rotate_left
   ·rintro w' ⟨s0, s1, s2, s3, s4, s5⟩
    go_simp
    with_reducible rfl
   rotate_left
   ·simp only [Act.put, List.setIfInBounds_toArray, List.set_cons_zero, List.set_cons_succ, i64_w, i32_w]
    rfl
   refine take_ (i := 5) (N := some 18) (v := ?_) (a' := ?_) #[true, true, true, false, true, true, false, false, true, false, false, false] rfl rfl (take_ofW HT_.out HW_.out jK) (fun _ _ _ h => h) (Or.inl ⟨by rfl, ?_⟩) hHeld ?_ ?_
   rotate_left
   ·rintro w' ⟨s0, s1, s2, s3, s4, s5⟩
    go_simp
    with_reducible rfl
   rotate_left
   ·simp only [Act.put, List.setIfInBounds_toArray, List.set_cons_zero, List.set_cons_succ, i64_w, i32_w]
    rfl
   refine take_ (i := 9) (N := some 22) (v := ?_) (a' := ?_) #[true, true, true, false, true, true, false, false, true, true, false, false] rfl rfl (take_ofW HT_.out HW_.out jK) (fun _ _ _ h => h) (Or.inl ⟨by rfl, ?_⟩) hHeld ?_ ?_
   rotate_left
   ·rintro w' ⟨s0, s1, s2, s3, s4, s5⟩
    go_simp
    with_reducible rfl
   rotate_left
   ·simp only [Act.put, List.setIfInBounds_toArray, List.set_cons_zero, List.set_cons_succ, i64_w, i32_w]
    rfl
   refine one_ (i := 3) (N := some 16) #[true, true, true, true, true, true, false, false, true, true, false, false] rfl rfl (one_of HT_.out jK) (by decide) (fun K hK => ?_)
   refine goes_ Tryd.func65 jK rfl #[.slice A0 l0.length c0, .string a1_0] (by rfl) rfl rfl jA ?_
   with_reducible refine (spec_PutName.calls k _ _ l0 a1_0 t719 _ ?side1 ?side2 A5.out).mono ?_
   (case side1 => exact cU ((Kd.C_below HR0.out HB.out)))
   (case side2 => exact HC0.out)
   rintro e w16 ⟨v720, rfl, ho0, hb⟩
   refine ⟨_, rfl, ?_⟩
   have n0_ := aS (Kd.R_lower ho0 (below_size (wS1 HB.out GE711.out)))
   have n1_ := aS (blk_below (bU BK711.out) hb)
   have n2_ := aS (below_step (wS1 HB.out GE711.out) hb)
   clear BK711
   clear HB
   have HO721 := n0_
   have BK711 := n1_
   have HB := n2_
   clear n0_ n1_ n2_
   (try clear hb)
   (try clear hb2)
   (try clear hk)
   (try clear hi)
   (try clear ho0)
   obtain ⟨Ao17, co17, eo17⟩ := Kd.R_slice HO721.out
   (first | subst eo17 | (injection eo17 with f1_ f2_ f3_; have f4_ := f1_.symm; have f5_ := f3_.symm; clear f1_ f2_ f3_; subst f4_; subst f5_))
   refine hK.out _ _ ⟨(blk_cell BK711.out 0).trans rfl, (blk_cell BK711.out 1).trans rfl, (blk_cell BK711.out 2).trans rfl, (blk_cell BK711.out 3).trans rfl, (blk_cell BK711.out 4).trans rfl, (blk_cell BK711.out 5).trans rfl⟩ (fun hHeld => ?_)
   clear hK K
   refine norm_ (a' := ?_) ?_ ?_
   rotate_left
   ·show Act.put _ (some 16) _ = _
    simp only [Act.put, List.setIfInBounds_toArray, List.set_cons_zero, List.set_cons_succ, i64_w, i32_w]
    rfl
   refine one_ (i := 6) (N := some 19) #[true, true, true, true, true, true, true, false, true, true, false, false] rfl rfl (one_of HT_.out jK) (by decide) (fun K hK => ?_)
   refine goes_ Tryd.func64 jK rfl #[.slice Ao17 t719.length co17, .int .i64 a1_1] (by rfl) rfl rfl jA ?_
   with_reducible refine (spec_Put2.calls _ _ t719 a1_1 t722 _ ?side1 ?side2 A6.out).mono ?_
   (case side1 => exact cU ((Kd.R_reads' HO721.out).2.2))
   (case side2 => exact (Kd.R_reads' HO721.out).2.1)
   rintro e w18 ⟨v723, rfl, ho0, hb⟩
   refine ⟨_, rfl, ?_⟩
   have n0_ := aS (Kd.R_elder' (rU HO721.out) (Kd.R_base ho0) hb)
   have n1_ := aS (Kd.R_lower (Kd.R_new' ho0 (Kd.R_lt (rU HO721.out))) (below_size (wS1 HB.out GE711.out)))
   have n2_ := aS (blk_below (bU BK711.out) hb)
   have n3_ := aS (below_step (wS1 HB.out GE711.out) hb)
   clear HO721
   clear BK711
   clear HB
   have HO721 := n0_
   have HO724 := n1_
   have BK711 := n2_
   have HB := n3_
   clear n0_ n1_ n2_ n3_
   (try clear hb)
   (try clear hb2)
   (try clear hk)
   (try clear hi)
   (try clear ho0)
   obtain ⟨Ao19, co19, eo19⟩ := Kd.R_slice HO724.out
   (first | subst eo19 | (injection eo19 with f1_ f2_ f3_; have f4_ := f1_.symm; have f5_ := f3_.symm; clear f1_ f2_ f3_; subst f4_; subst f5_))
   refine hK.out _ _ ⟨(blk_cell BK711.out 0).trans rfl, (blk_cell BK711.out 1).trans rfl, (blk_cell BK711.out 2).trans rfl, (blk_cell BK711.out 3).trans rfl, (blk_cell BK711.out 4).trans rfl, (blk_cell BK711.out 5).trans rfl⟩ (fun hHeld => ?_)
   clear hK K
   refine norm_ (a' := ?_) ?_ ?_
   rotate_left
   ·show Act.put _ (some 19) _ = _
    simp only [Act.put, List.setIfInBounds_toArray, List.set_cons_zero, List.set_cons_succ, i64_w, i32_w]
    rfl
   refine one_ (i := 7) (N := some 20) #[true, true, true, true, true, true, true, true, true, true, false, false] rfl rfl (one_of HT_.out jK) (by decide) (fun K hK => ?_)
   refine goes_ Tryd.func64 jK rfl #[.slice Ao19 t722.length co19, .int .i64 1] (by rfl) rfl rfl jA ?_
   with_reducible refine (spec_Put2.calls _ _ t722 1 t725 _ ?side1 ?side2 A7.out).mono ?_
   (case side1 => exact cU ((Kd.R_reads' HO724.out).2.2))
   (case side2 => exact (Kd.R_reads' HO724.out).2.1)
   rintro e w20 ⟨v726, rfl, ho0, hb⟩
   refine ⟨_, rfl, ?_⟩
   have n0_ := aS (Kd.R_elder' (rU HO721.out) (Kd.R_base ho0) hb)
   have n1_ := aS (Kd.R_elder' (rU HO724.out) (Kd.R_base ho0) hb)
   have n2_ := aS (Kd.R_lower (Kd.R_new' (Kd.R_new' ho0 (Kd.R_lt (rU HO721.out))) (Kd.R_lt (rU HO724.out))) (below_size (wS1 HB.out GE711.out)))
   have n3_ := aS (blk_below (bU BK711.out) hb)
   have n4_ := aS (below_step (wS1 HB.out GE711.out) hb)
   clear HO721
   clear HO724
   clear BK711
   clear HB
   have HO721 := n0_
   have HO724 := n1_
   have HO727 := n2_
   have BK711 := n3_
   have HB := n4_
   clear n0_ n1_ n2_ n3_ n4_
   (try clear hb)
   (try clear hb2)
   (try clear hk)
   (try clear hi)
   (try clear ho0)
   obtain ⟨Ao21, co21, eo21⟩ := Kd.R_slice HO727.out
   (first | subst eo21 | (injection eo21 with f1_ f2_ f3_; have f4_ := f1_.symm; have f5_ := f3_.symm; clear f1_ f2_ f3_; subst f4_; subst f5_))
   refine hK.out _ _ ⟨(blk_cell BK711.out 0).trans rfl, (blk_cell BK711.out 1).trans rfl, (blk_cell BK711.out 2).trans rfl, (blk_cell BK711.out 3).trans rfl, (blk_cell BK711.out 4).trans rfl, (blk_cell BK711.out 5).trans rfl⟩ (fun hHeld => ?_)
   clear hK K
   refine norm_ (a' := ?_) ?_ ?_
   rotate_left
   ·show Act.put _ (some 20) _ = _
    simp only [Act.put, List.setIfInBounds_toArray, List.set_cons_zero, List.set_cons_succ, i64_w, i32_w]
    rfl
   refine one_ (i := 10) (N := some 23) #[true, true, true, true, true, true, true, true, true, true, true, false] rfl rfl (one_of HT_.out jK) (by decide) (fun K hK => ?_)
   refine goes_ Tryd.func63 jK rfl #[.slice Ao21 t725.length co21, .int .i64 a1_2] (by rfl) rfl rfl jA ?_
   with_reducible refine (spec_Put4.calls _ _ t725 a1_2 t728 _ ?side1 ?side2 A8.out).mono ?_
   (case side1 => exact cU ((Kd.R_reads' HO727.out).2.2))
   (case side2 => exact (Kd.R_reads' HO727.out).2.1)
   rintro e w22 ⟨v729, rfl, ho0, hb⟩
   refine ⟨_, rfl, ?_⟩
   have n0_ := aS (Kd.R_elder' (rU HO721.out) (Kd.R_base ho0) hb)
   have n1_ := aS (Kd.R_elder' (rU HO724.out) (Kd.R_base ho0) hb)
   have n2_ := aS (Kd.R_elder' (rU HO727.out) (Kd.R_base ho0) hb)
   have n3_ := aS (Kd.R_lower (Kd.R_new' (Kd.R_new' (Kd.R_new' ho0 (Kd.R_lt (rU HO721.out))) (Kd.R_lt (rU HO724.out))) (Kd.R_lt (rU HO727.out))) (below_size (wS1 HB.out GE711.out)))
   have n4_ := aS (blk_below (bU BK711.out) hb)
   have n5_ := aS (below_step (wS1 HB.out GE711.out) hb)
   clear HO721
   clear HO724
   clear HO727
   clear BK711
   clear HB
   have HO721 := n0_
   have HO724 := n1_
   have HO727 := n2_
   have HO730 := n3_
   have BK711 := n4_
   have HB := n5_
   clear n0_ n1_ n2_ n3_ n4_ n5_
   (try clear hb)
   (try clear hb2)
   (try clear hk)
   (try clear hi)
   (try clear ho0)
   refine hK.out _ _ ⟨(blk_cell BK711.out 0).trans rfl, (blk_cell BK711.out 1).trans rfl, (blk_cell BK711.out 2).trans rfl, (blk_cell BK711.out 3).trans rfl, (blk_cell BK711.out 4).trans rfl, (blk_cell BK711.out 5).trans rfl⟩ (fun hHeld => ?_)
   clear hK K
   refine norm_ (a' := ?_) ?_ ?_
   rotate_left
   ·show Act.put _ (some 23) _ = _
    simp only [Act.put, List.setIfInBounds_toArray, List.set_cons_zero, List.set_cons_succ, i64_w, i32_w]
    rfl
   refine pure_ (i := 11) (N := some 5) (v := ?_) (a' := ?_) #[true, true, true, true, true, true, true, true, true, true, true, true] rfl rfl (any_of HT_.out jK) (fun _ _ _ h => h) (Or.inl ⟨by rfl, ?_⟩) ?_ ?_
   rotate_left
   ·intro w'
    go_simp
    with_reducible rfl
   rotate_left
   ·simp only [Act.put, List.setIfInBounds_toArray, List.set_cons_zero, List.set_cons_succ, i64_w, i32_w]
    rfl
   refine done_ (done_of HT_.out jK) ?_
   have hcz23 := cells6f BK711.out
   try go_wp2_with (first | ((with_reducible refine gate_callee (f := 14) rfl ?_); refine goesL_ (some 25) rfl rfl Tryd.func14 jK rfl #[.agg #[.string a1_0, .int .i64 a1_1, .int .i64 a1_2, .int .i64 a1_3, .string a1_4, .string a1_5]] rfl jA ?_; (with_reducible refine (spec_PutData.calls k a1_0 a1_1 a1_2 a1_3 a1_4 a1_5 t731 _ A9.out).mono ?_); rintro e w24 ⟨v732, rfl, ho0, hb⟩; refine ⟨_, rfl, ?_⟩; have n0_ := aS (Kd.R_elder' (rU HO721.out) (Kd.R_base ho0) hb); have n1_ := aS (Kd.R_elder' (rU HO724.out) (Kd.R_base ho0) hb); have n2_ := aS (Kd.R_elder' (rU HO727.out) (Kd.R_base ho0) hb); have n3_ := aS (Kd.R_elder' (rU HO730.out) (Kd.R_base ho0) hb); have n4_ := aS (Kd.R_lower (Kd.R_new' (Kd.R_new' (Kd.R_new' (Kd.R_new' ho0 (Kd.R_lt (rU HO721.out))) (Kd.R_lt (rU HO724.out))) (Kd.R_lt (rU HO727.out))) (Kd.R_lt (rU HO730.out))) (below_size (wS1 HB.out GE711.out))); have n5_ := aS (blk_below (bU BK711.out) hb); have n6_ := aS (below_step (wS1 HB.out GE711.out) hb); clear HO721 HO724 HO727 HO730 BK711 HB; revert n0_ n1_ n2_ n3_ n4_ n5_ n6_; intro HO721 HO724 HO727 HO730 HO733 BK711 HB; clear hb; (try clear ho0); obtain ⟨Ao25, co25, eo25⟩ := Kd.R_slice HO733.out; subst eo25; obtain ⟨Ao26, co26, eo26⟩ := Kd.R_slice HO730.out; subst eo26) | ((with_reducible refine gate_callee (f := 64) rfl ?_); refine goesL_ (some 29) rfl rfl Tryd.func64 jK rfl #[.slice Ao26 t728.length co26, .int .i64 (t731.length : Int)] rfl jA ?_; (with_reducible refine (spec_Put2.calls _ _ t728 (t731.length : Int) t734 _ ?side1 ?side2 A10.out).mono ?_); (case side1 => exact cU ((Kd.R_reads' HO730.out).2.2)); (case side2 => exact (Kd.R_reads' HO730.out).2.1); rintro e w27 ⟨v735, rfl, ho0, hb⟩; refine ⟨_, rfl, ?_⟩; have n0_ := aS (Kd.R_elder' (rU HO721.out) (Kd.R_base ho0) hb); have n1_ := aS (Kd.R_elder' (rU HO724.out) (Kd.R_base ho0) hb); have n2_ := aS (Kd.R_elder' (rU HO727.out) (Kd.R_base ho0) hb); have n3_ := aS (Kd.R_elder' (rU HO730.out) (Kd.R_base ho0) hb); have n4_ := aS (Kd.R_elder' (rU HO733.out) (Kd.R_base ho0) hb); have n5_ := aS (Kd.R_lower (Kd.R_new' (Kd.R_new' (Kd.R_new' (Kd.R_new' (Kd.R_new' ho0 (Kd.R_lt (rU HO721.out))) (Kd.R_lt (rU HO724.out))) (Kd.R_lt (rU HO727.out))) (Kd.R_lt (rU HO730.out))) (Kd.R_lt (rU HO733.out))) (below_size (wS1 HB.out GE711.out))); have n6_ := aS (blk_below (bU BK711.out) hb); have n7_ := aS (below_step (wS1 HB.out GE711.out) hb); clear HO721 HO724 HO727 HO730 HO733 BK711 HB; revert n0_ n1_ n2_ n3_ n4_ n5_ n6_ n7_; intro HO721 HO724 HO727 HO730 HO733 HO736 BK711 HB; clear hb; (try clear ho0)) | ((with_reducible refine gate_builtin (b := .append) (xs := #[.tmp 29, .tmp 30]) rfl ?_); at_builtin; refine Kd.R_append_rows (Kd.int .u8) (w0 := w) w.heap.size rfl (.tmp 29) (.tmp 30) 22 5 (.int .u8 0) 1 rfl Tryd.underlying22 info5 rfl (by decide) (by omega) v735 t734 t731 _ _ _ (fun k_ => some k_ ≠ (.slice Ao17 t719.length co17 : Value).ownBlock ∧ some k_ ≠ (.slice Ao19 t722.length co19 : Value).ownBlock ∧ some k_ ≠ (.slice Ao21 t725.length co21 : Value).ownBlock ∧ some k_ ≠ (.slice Ao26 t728.length co26 : Value).ownBlock ∧ some k_ ≠ (.slice Ao25 t731.length co25 : Value).ownBlock) (fun _ => False) rfl rfl ?aO ?aR (fun _ _ h => h) (fun _ h => h.elim) ?aF ?aB ?aS ?aL ?_; (case aR => exact cU ((Kd.R_reads' HO733.out).2.2)); (case aB => exact (wS1 HB.out GE711.out)); (case aF => exact (fun k_ hk => ⟨Kd.fresh' (Kd.R_lt (rU HO721.out)) k_ hk, Kd.fresh' (Kd.R_lt (rU HO724.out)) k_ hk, Kd.fresh' (Kd.R_lt (rU HO727.out)) k_ hk, Kd.fresh' (Kd.R_lt (rU HO730.out)) k_ hk, Kd.fresh' (Kd.R_lt (rU HO733.out)) k_ hk⟩)); (case aO => exact (by (with_reducible repeat (first | apply Kd.R_alloc | apply Kd.R_drewN | apply Kd.R_drew)); exact Kd.R_mono HO736.out (fun _ hk => ⟨hk.1.1.1.1.2, ⟨hk.1.1.1.2, ⟨hk.1.1.2, ⟨hk.1.2, hk.2⟩⟩⟩⟩))); (case aS => exact (below_size (wS1 HB.out GE711.out))); (case aL => have := LMc11.out; omega); intro v738 w28 ho hb hg hat; rw [← Ny737.out] at ho; have n0_ := aS (blk_grown (g := gb711) (o := .cells #[.string a1_0, .int .i64 a1_1, .int .i64 a1_2, .int .i64 a1_3, .string a1_4, .string a1_5] 25 (0, 0)) (bU BK711.out) hg (Kd.R_ne HO736.out BK711.out (by decide))); have n1_ := aS (Kd.R_after (ok := (fun k_ => some k_ ≠ (.slice Ao19 t722.length co19 : Value).ownBlock ∧ some k_ ≠ (.slice Ao21 t725.length co21 : Value).ownBlock ∧ some k_ ≠ (.slice Ao26 t728.length co26 : Value).ownBlock ∧ some k_ ≠ (.slice Ao25 t731.length co25 : Value).ownBlock)) (by (with_reducible repeat (first | apply Kd.R_alloc | apply Kd.R_drewN | apply Kd.R_drew)); exact Kd.R_mono HO721.out (fun _ hk => ⟨⟨hk.1.1.1.1.2, ⟨hk.1.1.1.2, ⟨hk.1.1.2, hk.1.2⟩⟩⟩, hk.2⟩)) hg hat); have n2_ := aS (Kd.R_after (ok := (fun k_ => some k_ ≠ (.slice Ao17 t719.length co17 : Value).ownBlock ∧ some k_ ≠ (.slice Ao21 t725.length co21 : Value).ownBlock ∧ some k_ ≠ (.slice Ao26 t728.length co26 : Value).ownBlock ∧ some k_ ≠ (.slice Ao25 t731.length co25 : Value).ownBlock)) (by (with_reducible repeat (first | apply Kd.R_alloc | apply Kd.R_drewN | apply Kd.R_drew)); exact Kd.R_mono HO724.out (fun _ hk => ⟨⟨hk.1.1.1.1.2, ⟨hk.1.1.1.2, ⟨hk.1.1.2, hk.1.2⟩⟩⟩, hk.2⟩)) hg hat); have n3_ := aS (Kd.R_after (ok := (fun k_ => some k_ ≠ (.slice Ao17 t719.length co17 : Value).ownBlock ∧ some k_ ≠ (.slice Ao19 t722.length co19 : Value).ownBlock ∧ some k_ ≠ (.slice Ao26 t728.length co26 : Value).ownBlock ∧ some k_ ≠ (.slice Ao25 t731.length co25 : Value).ownBlock)) (by (with_reducible repeat (first | apply Kd.R_alloc | apply Kd.R_drewN | apply Kd.R_drew)); exact Kd.R_mono HO727.out (fun _ hk => ⟨⟨hk.1.1.1.1.2, ⟨hk.1.1.1.2, ⟨hk.1.1.2, hk.1.2⟩⟩⟩, hk.2⟩)) hg hat); have n4_ := aS (Kd.R_after (ok := (fun k_ => some k_ ≠ (.slice Ao17 t719.length co17 : Value).ownBlock ∧ some k_ ≠ (.slice Ao19 t722.length co19 : Value).ownBlock ∧ some k_ ≠ (.slice Ao21 t725.length co21 : Value).ownBlock ∧ some k_ ≠ (.slice Ao25 t731.length co25 : Value).ownBlock)) (by (with_reducible repeat (first | apply Kd.R_alloc | apply Kd.R_drewN | apply Kd.R_drew)); exact Kd.R_mono HO730.out (fun _ hk => ⟨⟨hk.1.1.1.1.2, ⟨hk.1.1.1.2, ⟨hk.1.1.2, hk.1.2⟩⟩⟩, hk.2⟩)) hg hat); have n5_ := aS (Kd.R_after (ok := (fun k_ => some k_ ≠ (.slice Ao17 t719.length co17 : Value).ownBlock ∧ some k_ ≠ (.slice Ao19 t722.length co19 : Value).ownBlock ∧ some k_ ≠ (.slice Ao21 t725.length co21 : Value).ownBlock ∧ some k_ ≠ (.slice Ao26 t728.length co26 : Value).ownBlock)) (by (with_reducible repeat (first | apply Kd.R_alloc | apply Kd.R_drewN | apply Kd.R_drew)); exact Kd.R_mono HO733.out (fun _ hk => ⟨⟨hk.1.1.1.1.2, ⟨hk.1.1.1.2, ⟨hk.1.1.2, hk.1.2⟩⟩⟩, hk.2⟩)) hg hat); have n6_ := aS (hb); have n7_ := aS (ho); clear BK711 HO721 HO724 HO727 HO730 HO733 HB HO736; revert n0_ n1_ n2_ n3_ n4_ n5_ n6_ n7_; intro BK711 HO721 HO724 HO727 HO730 HO733 HB HO739; clear ho hb hg hat))
   go_ret
   exact ⟨_, jE, Kd.R_mono (rU HO739.out) (fun _ hk => trivial), by exact wS1 HB.out GE711.out⟩
  ·rw [if_neg c11] at H
   exact absurd H (by simp)
 ·replace c4 := Bool.eq_false_iff.mpr c4
  subst c4
  have H1 : ((some (([] : List Int) : List Int)).bind fun y713 => (if y713.length + l0.length < 140737488355328 then (some (y713 ++ l0)) else (none))) = some r := by rw [if_neg (show ¬ (false = true) by decide)] at H; exact H
  clear H
  have H := H1
  clear H1
  obtain ⟨y713, hy_⟩ : ∃ y_ : List Int, y_ = (([] : List Int)) := ⟨_, rfl⟩
  replace H : (if y713.length + l0.length < 140737488355328 then (some (y713 ++ l0)) else (none)) = some r := jD
  have Ny713 := aS hy_
  clear hy_
  by_cases c29 : y713.length + l0.length < 140737488355328
  ·rw [if_pos c29] at H
   have LMc29 := aS c29
   clear c29
   obtain ⟨y716, hy_⟩ : ∃ y_ : List Int, y_ = (y713 ++ l0) := ⟨_, rfl⟩
   replace H : (some y716) = some r := jD
   have Ny716 := aS hy_
   clear hy_
   obtain rfl := Option.some.inj H
   go_enter Tryd.func13, Tryd.ntmps13
   go_wp2_with (first | ((with_reducible refine gate_dst (N := 3) rfl ?_); refine box_event ?hg (N := 3) ?hd (cs := #[.string a1_0, .int .i64 a1_1, .int .i64 a1_2, .int .i64 a1_3, .string a1_4, .string a1_5]) (t := 25) ?hr ?_; (case hd => rfl); (case hg => rfl); (case hr => first | (go_simp; done) | (go_simp; rfl)); intro gb711 hg w30 hbox hb; have n0_ := aS (below_step (wU HB.out) hb); have n1_ := aS (hbox); have n2_ := aS ((by rw [hg]; exact (below_size (wU HB.out)) : w.heap.size ≤ gb711)); have n3_ := aS ((by rw [hg]; exact (below_size (wU HB.out)) : w.heap.size ≤ gb711)); clear HB; revert n0_ n1_ n2_ n3_; intro HB BK711 GW711 GE711; clear hb hbox hg; have hcz31 := cells6f BK711.out) | ((with_reducible refine gate_callee (f := 54) rfl ?_); refine goesL_ (some 8) rfl rfl Tryd.func54 jK rfl #[.agg #[.string a1_0, .int .i64 a1_1, .int .i64 a1_2, .int .i64 a1_3, .string a1_4, .string a1_5]] rfl jA ?_; (with_reducible refine (spec_RecordOk.calls k a1_0 a1_1 a1_2 a1_3 a1_4 a1_5 false _ A3.out).mono ?_); rintro e w32 ⟨rfl, hb⟩; refine ⟨_, rfl, ?_⟩; have n0_ := aS (blk_below (bU BK711.out) hb); have n1_ := aS (below_step (wS1 HB.out GE711.out) hb); clear BK711 HB; revert n0_ n1_; intro BK711 HB; clear hb) | ((with_reducible refine gate_dst (N := 10) rfl ?_); refine Kd.R_lit (Kd.int .u8) _ 5 ?hg (N := 10) ?hd (xs := ([] : List Int)) (inner := []) (ok := fun _ => True) (okp := fun _ => True) ?hr ?hp (fun _ hk => hk) trivial (Below.refl _ _) (Nat.le_refl _) (by simp) ?_; (case hd => rfl); (case hg => rfl); (case hr => first | (go_simp; done) | (go_simp; rfl)); (case hp => exact (Reps.none _ _)); intro v714 w33 ho34 hb hg_ hnew_; clear hg_ hnew_; (first | rw [← Ny713.out] at ho34 | (simp only [Int.reduceToNat] at ho34; rw [← Ny713.out] at ho34)); have n0_ := aS (Kd.R_lower ho34 (below_size (wS1 HB.out GE711.out))); have n1_ := aS (blk_below (bU BK711.out) hb); have n2_ := aS (below_step (wS1 HB.out GE711.out) hb); clear BK711 HB; revert n0_ n1_ n2_; intro HO715 BK711 HB; clear hb ho34) | ((with_reducible refine gate_builtin (b := .append) (xs := #[.tmp 10, .tmp 11]) rfl ?_); at_builtin; refine Kd.R_append_rows (Kd.int .u8) (w0 := w) w.heap.size rfl (.tmp 10) (.tmp 11) 22 5 (.int .u8 0) 1 rfl Tryd.underlying22 info5 rfl (by decide) (by omega) v714 y713 l0 _ _ _ (fun _ => True) (fun _ => False) rfl rfl ?aO ?aR (fun _ _ h => h) (fun _ h => h.elim) ?aF ?aB ?aS ?aL ?_; (case aR => exact cU ((Kd.C_below HR0.out HB.out))); (case aB => exact (wS1 HB.out GE711.out)); (case aF => exact (fun _ _ => trivial)); (case aO => exact (rU HO715.out)); (case aS => exact (below_size (wS1 HB.out GE711.out))); (case aL => have := LMc29.out; omega); intro v717 w35 ho hb hg hat; rw [← Ny716.out] at ho; have n0_ := aS (blk_grown (g := gb711) (o := .cells #[.string a1_0, .int .i64 a1_1, .int .i64 a1_2, .int .i64 a1_3, .string a1_4, .string a1_5] 25 (0, 0)) (bU BK711.out) hg (Kd.R_ne HO715.out BK711.out (by decide))); have n1_ := aS (hb); have n2_ := aS (ho); clear BK711 HB HO715; revert n0_ n1_ n2_; intro BK711 HB HO718; clear ho hb hg hat))
   go_ret
   exact ⟨_, jE, by (with_reducible repeat (first | apply Kd.R_alloc | apply Kd.R_drewN | apply Kd.R_drew)); exact HO718.out, by exact wS1 HB.out GE711.out⟩
  ·rw [if_neg c29] at H
   exact absurd H (by simp)

end Go.Proofs.YtdigilidomimdaaDoor.Pr
