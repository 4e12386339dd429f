-- Written for this claim by a program of this session (wip/tool/pr.py, over the kit's printer).
-- half
import Derived.Test.YtdigilidomimdaaDoorPrx0
import Derived.Test.YtdigilidomimdaaDoorPrx8
import Derived.Test.YtdigilidomimdaaDoorPrx9
namespace Go.Proofs.YtdigilidomimdaaDoor.Pr
open Go.RowKit Go.Proofs.YtdigilidomimdaaDoorW.PrintWords Go.Proofs.YtdigilidomimdaaDoorW.PrintLast Go.Proofs.YtdigilidomimdaaDoorW.PrintMore
attribute [local go_sem] max2_int min2_int max_two min_two max_three min_three max_four min_four   -- for this text's walks alone
set_option linter.unusedVariables false
set_option linter.unusedSimpArgs false

/-! ### spec_PutData: function 14 -/
def spec_PutData.f (k : Nat) (a0_0 : ByteArray) (a0_1 : Int) (a0_2 : Int) (a0_3 : Int) (a0_4 : ByteArray) (a0_5 : ByteArray) : Option (List Int) := (spec_RecordOk.f k a0_0 a0_1 a0_2 a0_3 a0_4 a0_5).bind fun t567 => (if t567 = true then (if a0_1 = 1 then ((spec_Put4.f (([] : List Int)) a0_3).bind fun t574 => (some t574)) else (if a0_1 = 6 then ((spec_PutPlain.f k (([] : List Int)) a0_4).bind fun t580 => ((spec_Put4.f t580 a0_3).bind fun t583 => (some t583))) else (if a0_1 = 16 then ((some (([((a0_5.size : Int)) % 256] : List Int) : List Int)).bind fun y586 => (if y586.length + a0_5.size < 140737488355328 then (some (y586 ++ bytesOf a0_5)) else (none))) else ((spec_PutPlain.f k (([] : List Int)) a0_4).bind fun t595 => (some t595))))) else (some (([] : List Int))))
theorem spec_PutData.mono : ∀ a0 a1 a2 a3 a4 a5 k, LeO (spec_PutData.f k a0 a1 a2 a3 a4 a5) (spec_PutData.f (k + 1) a0 a1 a2 a3 a4 a5) := by
 intro a0 a1 a2 a3 a4 a5 k
 unfold spec_PutData.f
 repeat' first
   | (with_reducible first | exact spec_PutPlain.mono _ _ _ | exact spec_RecordOk.mono _ _ _ _ _ _ _ | exact LeO.refl _ | exact LeO.none _ | refine LeO.ite ?_ ?_ | refine LeO.bind ?_ (fun _ => ?_))
   | exact spec_PutPlain.mono _ _ _
   | exact spec_RecordOk.mono _ _ _ _ _ _ _
   | exact LeO.none _
   | refine LeO.ite ?_ ?_
   | refine LeO.bind ?_ (fun _ => ?_)
def spec_PutData.T7 : Bool × List (List Nat × List Nat) := (true, [([], []), ([], []), ([1], [1]), ([0, 2], [0, 2]), ([], []), ([4], [4]), ([3, 5, 3], [3, 5]), ([6, 6, 0, 1, 2, 3, 4, 5, 6], [6])])
def spec_PutData.B7 : List Nat := [0, 0, 2, 7, 0, 16, 63, 127]
theorem spec_PutData.tab7 : rtab .any (opsOf Tryd.f14 7) = spec_PutData.T7 := by kernel_rfl
theorem spec_PutData.bits7 : waitsOk spec_PutData.T7.2 spec_PutData.B7 = true := by kernel_rfl
set_option maxHeartbeats 8000000 in
set_option maxRecDepth 100000 in
theorem spec_PutData.calls (k : Nat) (a0_0 : ByteArray) (a0_1 : Int) (a0_2 : Int) (a0_3 : Int) (a0_4 : ByteArray) (a0_5 : ByteArray) (r : List Int) (w : World) (h : spec_PutData.f k a0_0 a0_1 a0_2 a0_3 a0_4 a0_5 = some r) :
  Calls Tryd.prog 14 #[.agg #[.string a0_0, .int .i64 a0_1, .int .i64 a0_2, .int .i64 a0_3, .string a0_4, .string a0_5]] w fun e w' => ∃ v0_ : Value, e = .returned (v0_) ∧ Kd.R (Kd.int .u8) 5 w' w.heap.size (fun _ => True) v0_ r ∧ Below w.heap.size w w' := by
 have hu25 := Tryd.underlying25
 have HB := aS (Below.refl w.heap.size w)
 have H : ((spec_RecordOk.f k a0_0 a0_1 a0_2 a0_3 a0_4 a0_5).bind fun t567 => (if t567 = true then (if a0_1 = 1 then ((spec_Put4.f (([] : List Int)) a0_3).bind fun t574 => (some t574)) else (if a0_1 = 6 then ((spec_PutPlain.f k (([] : List Int)) a0_4).bind fun t580 => ((spec_Put4.f t580 a0_3).bind fun t583 => (some t583))) else (if a0_1 = 16 then ((some (([((a0_5.size : Int)) % 256] : List Int) : List Int)).bind fun y586 => (if y586.length + a0_5.size < 140737488355328 then (some (y586 ++ bytesOf a0_5)) else (none))) else ((spec_PutPlain.f k (([] : List Int)) a0_4).bind fun t595 => (some t595))))) else (some (([] : List Int))))) = some r := h
 clear h
 obtain ⟨t567, A2, H⟩ := bM H
 try dsimp only at H
 by_cases c3 : t567 = true
 ·subst c3
  rw [if_pos rfl] at H
  by_cases c4 : a0_1 = 1
  ·rw [if_pos c4] at H
   have c4b0 := beq_iff_eq.mpr c4
   have c4b1 := bne_eq_false_iff_eq.mpr c4
   clear c4
   obtain ⟨y571, hy_⟩ : ∃ y_ : List Int, y_ = (([] : List Int)) := ⟨_, rfl⟩
   replace H : ((spec_Put4.f y571 a0_3).bind fun t574 => (some t574)) = some r := jD
   have Ny571 := aS hy_
   clear hy_
   obtain ⟨t574, A5, H⟩ := bM H
   try dsimp only at H
   obtain rfl := Option.some.inj H
   go_enter Tryd.func14, Tryd.ntmps14
   go_wp2_with (first | ((with_reducible refine gate_dst (N := 1) rfl ?_); refine box_event ?hg (N := 1) ?hd (cs := #[.string a0_0, .int .i64 a0_1, .int .i64 a0_2, .int .i64 a0_3, .string a0_4, .string a0_5]) (t := 25) ?hr ?_; (case hd => rfl); (case hg => rfl); (case hr => first | (go_simp; done) | (go_simp; rfl)); intro gb566 hg w6 hbox hb; have BK566 := aS (hbox); have GW566 := aS ((by rw [hg]; exact (below_size (wU HB.out)) : w.heap.size ≤ gb566)); have GE566 := aS ((by rw [hg]; exact (below_size (wU HB.out)) : w.heap.size ≤ gb566)); replace HB := aS (below_step (wU HB.out) hb); clear hb hbox hg; have hcz7 := cells6f BK566.out) | ((with_reducible refine gate_callee (f := 54) rfl ?_); refine goesL_ (some 4) rfl rfl Tryd.func54 jK rfl #[.agg #[.string a0_0, .int .i64 a0_1, .int .i64 a0_2, .int .i64 a0_3, .string a0_4, .string a0_5]] rfl jA ?_; (with_reducible refine (spec_RecordOk.calls k a0_0 a0_1 a0_2 a0_3 a0_4 a0_5 true _ A2.out).mono ?_); rintro e w8 ⟨rfl, hb⟩; refine ⟨_, rfl, ?_⟩; replace BK566 := aS (blk_below (bU BK566.out) hb); replace HB := aS (below_step (wS1 HB.out GE566.out) hb); clear hb; have hcz9 := cells6f BK566.out) | ((with_reducible refine gate_dst (N := 11) rfl ?_); refine Kd.R_lit (Kd.int .u8) _ 5 ?hg (N := 11) ?hd (xs := ([] : List Int)) (inner := []) (ok := fun _ => True) (okp := fun _ => True) ?hr ?hp (fun _ hk => hk) trivial (Below.refl _ _) (Nat.le_refl _) (by simp) ?_; (case hd => rfl); (case hg => rfl); (case hr => first | (go_simp; done) | (go_simp; rfl)); (case hp => exact (Reps.none _ _)); intro v572 w10 ho11 hb hg_ hnew_; clear hg_ hnew_; (first | rw [← Ny571.out] at ho11 | (simp only [Int.reduceToNat] at ho11; rw [← Ny571.out] at ho11)); have HO573 := aS (Kd.R_lower ho11 (below_size (wS1 HB.out GE566.out))); replace BK566 := aS (blk_below (bU BK566.out) hb); replace HB := aS (below_step (wS1 HB.out GE566.out) hb); clear hb ho11; have hcz12 := cells6f BK566.out; obtain ⟨Ao13, co13, eo13⟩ := Kd.R_slice HO573.out; subst eo13) | ((with_reducible refine gate_callee (f := 63) rfl ?_); refine goesL_ (some 14) rfl rfl Tryd.func63 jK rfl #[.slice Ao13 y571.length co13, .int .i64 a0_3] rfl jA ?_; (with_reducible refine (spec_Put4.calls _ _ y571 a0_3 t574 _ ?side1 ?side2 A5.out).mono ?_); (case side1 => exact cU ((Kd.R_reads' HO573.out).2.2)); (case side2 => exact (Kd.R_reads' HO573.out).2.1); rintro e w14 ⟨v575, rfl, ho0, hb⟩; refine ⟨_, rfl, ?_⟩; have HO576 := aS (Kd.R_lower (Kd.R_new' ho0 (Kd.R_lt (rU HO573.out))) (below_size (wS1 HB.out GE566.out))); replace HO573 := aS (Kd.R_elder' (rU HO573.out) (Kd.R_base ho0) hb); replace BK566 := aS (blk_below (bU BK566.out) hb); replace HB := aS (below_step (wS1 HB.out GE566.out) hb); clear hb; (try clear ho0)))
   go_ret
   exact ⟨_, jE, Kd.R_mono (rU HO576.out) (fun _ hk => trivial), by exact wS1 HB.out GE566.out⟩
  ·rw [if_neg c4] at H
   have c4b0 := beq_eq_false_iff_ne.mpr c4
   have c4b1 := bne_iff_ne.mpr c4
   by_cases c15 : a0_1 = 6
   ·rw [if_pos c15] at H
    have c15b0 := beq_iff_eq.mpr c15
    have c15b1 := bne_eq_false_iff_eq.mpr c15
    clear c15
    obtain ⟨y577, hy_⟩ : ∃ y_ : List Int, y_ = (([] : List Int)) := ⟨_, rfl⟩
    replace H : ((spec_PutPlain.f k y577 a0_4).bind fun t580 => ((spec_Put4.f t580 a0_3).bind fun t583 => (some t583))) = some r := jD
    have Ny577 := aS hy_
    clear hy_
    obtain ⟨t580, A16, H⟩ := bM H
    try dsimp only at H
    obtain ⟨t583, A17, H⟩ := bM H
    try dsimp only at H
    obtain rfl := Option.some.inj H
    go_enter Tryd.func14, Tryd.ntmps14
    try go_wp2_with (first | ((with_reducible refine gate_dst (N := 1) rfl ?_); refine box_event ?hg (N := 1) ?hd (cs := #[.string a0_0, .int .i64 a0_1, .int .i64 a0_2, .int .i64 a0_3, .string a0_4, .string a0_5]) (t := 25) ?hr ?_; (case hd => rfl); (case hg => rfl); (case hr => first | (go_simp; done) | (go_simp; rfl)); intro gb566 hg w18 hbox hb; have BK566 := aS (hbox); have GW566 := aS ((by rw [hg]; exact (below_size (wU HB.out)) : w.heap.size ≤ gb566)); have GE566 := aS ((by rw [hg]; exact (below_size (wU HB.out)) : w.heap.size ≤ gb566)); replace HB := aS (below_step (wU HB.out) hb); clear hb hbox hg; have hcz19 := cells6f BK566.out) | ((with_reducible refine gate_callee (f := 54) rfl ?_); refine goesL_ (some 4) rfl rfl Tryd.func54 jK rfl #[.agg #[.string a0_0, .int .i64 a0_1, .int .i64 a0_2, .int .i64 a0_3, .string a0_4, .string a0_5]] rfl jA ?_; (with_reducible refine (spec_RecordOk.calls k a0_0 a0_1 a0_2 a0_3 a0_4 a0_5 true _ A2.out).mono ?_); rintro e w20 ⟨rfl, hb⟩; refine ⟨_, rfl, ?_⟩; replace BK566 := aS (blk_below (bU BK566.out) hb); replace HB := aS (below_step (wS1 HB.out GE566.out) hb); clear hb; have hcz21 := cells6f BK566.out))
    replace BK566 := aS (blk_drew BK566.out)
    replace HB := aS (below_drew1 HB.out)
    refine start_ (n := 8) (S := fun w' => w'.cell? ⟨gb566, 0, none⟩ = some (.string a0_0) ∧ w'.cell? ⟨gb566, 1, none⟩ = some (.int .i64 a0_1) ∧ w'.cell? ⟨gb566, 2, none⟩ = some (.int .i64 a0_2) ∧ w'.cell? ⟨gb566, 3, none⟩ = some (.int .i64 a0_3) ∧ w'.cell? ⟨gb566, 4, none⟩ = some (.string a0_4) ∧ w'.cell? ⟨gb566, 5, none⟩ = some (.string a0_5)) (ds := []) #[false, false, false, false, false, false, false, false] jK rfl rfl ⟨(blk_cell BK566.out 0).trans rfl, (blk_cell BK566.out 1).trans rfl, (blk_cell BK566.out 2).trans rfl, (blk_cell BK566.out 3).trans rfl, (blk_cell BK566.out 4).trans rfl, (blk_cell BK566.out 5).trans rfl⟩ (fun hHeld => ?_); refine with_tabW spec_PutData.tab7 spec_PutData.bits7 (fun HT_ HW_ => ?_)
    generalize w20.drew = w22 at BK566 HB hHeld ⊢
    refine pure_ (i := 1) (N := some 18) (v := ?_) (a' := ?_) #[false, true, false, false, false, false, false, false] rfl rfl (any_of HT_.out jK) (fun _ _ _ h => h) (Or.inl ⟨by rfl, ?_⟩) ?_ ?_
    rotate_left
    ·intro w'
     go_simp
     with_reducible rfl
    rotate_left
    ·simp only [Act.put, List.setIfInBounds_toArray, List.set_cons_zero, List.set_cons_succ, i64_w, i32_w]
     rfl
    refine pure_ (i := 4) (N := some 21) (v := ?_) (a' := ?_) #[false, true, false, false, true, false, false, false] rfl rfl (any_of HT_.out jK) (fun _ _ _ h => h) (Or.inl ⟨by rfl, ?_⟩) ?_ ?_
    rotate_left
    ·intro w'
     go_simp
     with_reducible rfl
    rotate_left
    ·simp only [Act.put, List.setIfInBounds_toArray, List.set_cons_zero, List.set_cons_succ, i64_w, i32_w]
     rfl
    refine take_ (i := 2) (N := some 19) (v := ?_) (a' := ?_) #[false, true, true, false, true, false, false, false] rfl rfl (take_ofW HT_.out HW_.out jK) (fun _ _ _ h => h) (Or.inl ⟨by rfl, ?_⟩) hHeld ?_ ?_
    rotate_left
    ·rintro w' ⟨s0, s1, s2, s3, s4, s5⟩
     go_simp
     with_reducible rfl
    rotate_left
    ·simp only [Act.put, List.setIfInBounds_toArray, List.set_cons_zero, List.set_cons_succ, i64_w, i32_w]
     rfl
    refine take_ (i := 5) (N := some 22) (v := ?_) (a' := ?_) #[false, true, true, false, true, true, false, false] rfl rfl (take_ofW HT_.out HW_.out jK) (fun _ _ _ h => h) (Or.inl ⟨by rfl, ?_⟩) hHeld ?_ ?_
    rotate_left
    ·rintro w' ⟨s0, s1, s2, s3, s4, s5⟩
     go_simp
     with_reducible rfl
    rotate_left
    ·simp only [Act.put, List.setIfInBounds_toArray, List.set_cons_zero, List.set_cons_succ, i64_w, i32_w]
     rfl
    refine one_ (i := 0) (N := some 17) #[true, true, true, false, true, true, false, false] rfl rfl (one_of HT_.out jK) (by decide) (fun K hK => ?_)
    refine Kd.R_lit_step (Kd.int .u8) _ 5 ?hg (N := 17) ?hd (xs := ([] : List Int)) (inner := []) (ok := fun _ => True) (okp := fun _ => True) ?hr ?hp (fun _ hk => hk) trivial (Below.refl _ _) (Nat.le_refl _) (by simp) ?_; (case hd => rfl); (case hg => rfl); (case hr => first | (go_simp; done) | (go_simp; rfl)); (case hp => exact (Reps.none _ _))
    intro v578 w23 ho24 hb hg_ hnew_
    clear hg_ hnew_
    (first | rw [← Ny577.out] at ho24 | (simp only [Int.reduceToNat] at ho24; rw [← Ny577.out] at ho24))
    have HO579 := aS (Kd.R_lower ho24 (below_size (wS1 HB.out GE566.out)))
    replace BK566 := aS (blk_below (bU BK566.out) hb)
    replace HB := aS (below_step (wS1 HB.out GE566.out) hb)
    clear hb ho24
    obtain ⟨Ao25, co25, eo25⟩ := Kd.R_slice HO579.out
    (first | subst eo25 | (injection eo25 with f1_ f2_ f3_; have f4_ := f1_.symm; have f5_ := f3_.symm; clear f1_ f2_ f3_; subst f4_; subst f5_))
    refine hK.out _ _ ⟨(blk_cell BK566.out 0).trans rfl, (blk_cell BK566.out 1).trans rfl, (blk_cell BK566.out 2).trans rfl, (blk_cell BK566.out 3).trans rfl, (blk_cell BK566.out 4).trans rfl, (blk_cell BK566.out 5).trans rfl⟩ (fun hHeld => ?_)
    clear hK K
    refine norm_ (a' := ?_) ?_ ?_
    rotate_left
    ·show Act.put _ (some 17) _ = _
     simp only [Act.put, List.setIfInBounds_toArray, List.set_cons_zero, List.set_cons_succ, i64_w, i32_w]
     rfl
    refine one_ (i := 3) (N := some 20) #[true, true, true, true, true, true, false, false] rfl rfl (one_of HT_.out jK) (by decide) (fun K hK => ?_)
    refine goes_ Tryd.func66 jK rfl #[.slice Ao25 y577.length co25, .string a0_4] (by rfl) rfl rfl jA ?_
    with_reducible refine (spec_PutPlain.calls k _ _ y577 a0_4 t580 _ ?side1 ?side2 A16.out).mono ?_
    (case side1 => exact cU ((Kd.R_reads' HO579.out).2.2))
    (case side2 => exact (Kd.R_reads' HO579.out).2.1)
    rintro e w26 ⟨v581, rfl, ho0, hb⟩
    refine ⟨_, rfl, ?_⟩
    have HO582 := aS (Kd.R_lower (Kd.R_new' ho0 (Kd.R_lt (rU HO579.out))) (below_size (wS1 HB.out GE566.out)))
    replace HO579 := aS (Kd.R_elder' (rU HO579.out) (Kd.R_base ho0) hb)
    replace BK566 := aS (blk_below (bU BK566.out) hb)
    replace HB := aS (below_step (wS1 HB.out GE566.out) hb)
    (try clear hb)
    (try clear hb2)
    (try clear hk)
    (try clear hi)
    (try clear ho0)
    obtain ⟨Ao27, co27, eo27⟩ := Kd.R_slice HO582.out
    (first | subst eo27 | (injection eo27 with f1_ f2_ f3_; have f4_ := f1_.symm; have f5_ := f3_.symm; clear f1_ f2_ f3_; subst f4_; subst f5_))
    refine hK.out _ _ ⟨(blk_cell BK566.out 0).trans rfl, (blk_cell BK566.out 1).trans rfl, (blk_cell BK566.out 2).trans rfl, (blk_cell BK566.out 3).trans rfl, (blk_cell BK566.out 4).trans rfl, (blk_cell BK566.out 5).trans rfl⟩ (fun hHeld => ?_)
    clear hK K
    refine norm_ (a' := ?_) ?_ ?_
    rotate_left
    ·show Act.put _ (some 20) _ = _
     simp only [Act.put, List.setIfInBounds_toArray, List.set_cons_zero, List.set_cons_succ, i64_w, i32_w]
     rfl
    refine one_ (i := 6) (N := some 23) #[true, true, true, true, true, true, true, false] rfl rfl (one_of HT_.out jK) (by decide) (fun K hK => ?_)
    refine goes_ Tryd.func63 jK rfl #[.slice Ao27 t580.length co27, .int .i64 a0_3] (by rfl) rfl rfl jA ?_
    with_reducible refine (spec_Put4.calls _ _ t580 a0_3 t583 _ ?side1 ?side2 A17.out).mono ?_
    (case side1 => exact cU ((Kd.R_reads' HO582.out).2.2))
    (case side2 => exact (Kd.R_reads' HO582.out).2.1)
    rintro e w28 ⟨v584, rfl, ho0, hb⟩
    refine ⟨_, rfl, ?_⟩
    have HO585 := aS (Kd.R_lower (Kd.R_new' (Kd.R_new' ho0 (Kd.R_lt (rU HO579.out))) (Kd.R_lt (rU HO582.out))) (below_size (wS1 HB.out GE566.out)))
    replace HO579 := aS (Kd.R_elder' (rU HO579.out) (Kd.R_base ho0) hb)
    replace HO582 := aS (Kd.R_elder' (rU HO582.out) (Kd.R_base ho0) hb)
    replace BK566 := aS (blk_below (bU BK566.out) hb)
    replace HB := aS (below_step (wS1 HB.out GE566.out) hb)
    (try clear hb)
    (try clear hb2)
    (try clear hk)
    (try clear hi)
    (try clear ho0)
    refine hK.out _ _ ⟨(blk_cell BK566.out 0).trans rfl, (blk_cell BK566.out 1).trans rfl, (blk_cell BK566.out 2).trans rfl, (blk_cell BK566.out 3).trans rfl, (blk_cell BK566.out 4).trans rfl, (blk_cell BK566.out 5).trans rfl⟩ (fun hHeld => ?_)
    clear hK K
    refine norm_ (a' := ?_) ?_ ?_
    rotate_left
    ·show Act.put _ (some 23) _ = _
     simp only [Act.put, List.setIfInBounds_toArray, List.set_cons_zero, List.set_cons_succ, i64_w, i32_w]
     rfl
    refine pure_ (i := 7) (N := some 2) (v := ?_) (a' := ?_) #[true, true, true, true, true, true, true, true] rfl rfl (any_of HT_.out jK) (fun _ _ _ h => h) (Or.inl ⟨by rfl, ?_⟩) ?_ ?_
    rotate_left
    ·intro w'
     go_simp
     with_reducible rfl
    rotate_left
    ·simp only [Act.put, List.setIfInBounds_toArray, List.set_cons_zero, List.set_cons_succ, i64_w, i32_w]
     rfl
    refine done_ (done_of HT_.out jK) ?_
    try go_wp2
    go_ret
    exact ⟨_, jE, Kd.R_mono (rU HO585.out) (fun _ hk => trivial), by exact wS1 HB.out GE566.out⟩
   ·rw [if_neg c15] at H
    have c15b0 := beq_eq_false_iff_ne.mpr c15
    have c15b1 := bne_iff_ne.mpr c15
    by_cases c29 : a0_1 = 16
    ·rw [if_pos c29] at H
     have c29b0 := beq_iff_eq.mpr c29
     have c29b1 := bne_eq_false_iff_eq.mpr c29
     clear c29
     obtain ⟨y586, hy_⟩ : ∃ y_ : List Int, y_ = (([((a0_5.size : Int)) % 256] : List Int)) := ⟨_, rfl⟩
     replace H : (if y586.length + a0_5.size < 140737488355328 then (some (y586 ++ bytesOf a0_5)) else (none)) = some r := jD
     have Ny586 := aS hy_
     clear hy_
     by_cases c30 : y586.length + a0_5.size < 140737488355328
     ·rw [if_pos c30] at H
      have LMc30 := aS c30
      clear c30
      obtain ⟨y589, hy_⟩ : ∃ y_ : List Int, y_ = (y586 ++ bytesOf a0_5) := ⟨_, rfl⟩
      replace H : (some y589) = some r := jD
      have Ny589 := aS hy_
      clear hy_
      obtain rfl := Option.some.inj H
      go_enter Tryd.func14, Tryd.ntmps14
      go_wp2_with (first | ((with_reducible refine gate_dst (N := 1) rfl ?_); refine box_event ?hg (N := 1) ?hd (cs := #[.string a0_0, .int .i64 a0_1, .int .i64 a0_2, .int .i64 a0_3, .string a0_4, .string a0_5]) (t := 25) ?hr ?_; (case hd => rfl); (case hg => rfl); (case hr => first | (go_simp; done) | (go_simp; rfl)); intro gb566 hg w31 hbox hb; have BK566 := aS (hbox); have GW566 := aS ((by rw [hg]; exact (below_size (wU HB.out)) : w.heap.size ≤ gb566)); have GE566 := aS ((by rw [hg]; exact (below_size (wU HB.out)) : w.heap.size ≤ gb566)); replace HB := aS (below_step (wU HB.out) hb); clear hb hbox hg; have hcz32 := cells6f BK566.out) | ((with_reducible refine gate_callee (f := 54) rfl ?_); refine goesL_ (some 4) rfl rfl Tryd.func54 jK rfl #[.agg #[.string a0_0, .int .i64 a0_1, .int .i64 a0_2, .int .i64 a0_3, .string a0_4, .string a0_5]] rfl jA ?_; (with_reducible refine (spec_RecordOk.calls k a0_0 a0_1 a0_2 a0_3 a0_4 a0_5 true _ A2.out).mono ?_); rintro e w33 ⟨rfl, hb⟩; refine ⟨_, rfl, ?_⟩; replace BK566 := aS (blk_below (bU BK566.out) hb); replace HB := aS (below_step (wS1 HB.out GE566.out) hb); clear hb; have hcz34 := cells6f BK566.out) | ((with_reducible refine gate_dst (N := 30) rfl ?_); refine Kd.R_lit (Kd.int .u8) _ 5 ?hg (N := 30) ?hd (xs := ([((a0_5.size : Int)) % 256] : List Int)) (inner := [.int .u8 (((a0_5.size : Int)) % 256)]) (ok := fun _ => True) (okp := fun _ => True) ?hr ?hp (fun _ hk => hk) trivial (Below.refl _ _) (Nat.le_refl _) (by simp) ?_; (case hd => rfl); (case hg => rfl); (case hr => first | (go_simp; done) | (go_simp; rfl)); (case hp => exact (Reps.one (show Kd.M (Kd.int .u8) _ _ _ (((a0_5.size : Int)) % 256) [.int .u8 (((a0_5.size : Int)) % 256)] from rfl) (Reps.none _ _))); intro v587 w35 ho36 hb hg_ hnew_; clear hg_ hnew_; (first | rw [← Ny586.out] at ho36 | (simp only [Int.reduceToNat] at ho36; rw [← Ny586.out] at ho36)); have HO588 := aS (Kd.R_lower ho36 (below_size (wS1 HB.out GE566.out))); replace BK566 := aS (blk_below (bU BK566.out) hb); replace HB := aS (below_step (wS1 HB.out GE566.out) hb); clear hb ho36; have hcz37 := cells6f BK566.out) | (at_builtin; refine print_append_str (w0 := w) w.heap.size rfl (.tmp 30) _ 22 9 5 rfl Tryd.underlying22 Tryd.underlying9 info5 v587 y586 a0_5 rfl rfl ?aO ?aB ?aS ?aL ?_; (case aB => exact (wS1 HB.out GE566.out)); (case aO => exact (Kd.own_of_R (rU HO588.out))); (case aS => exact (below_size (wS1 HB.out GE566.out))); (case aL => have := LMc30.out; omega); intro v590 w38 ho0 hb hg; have ho := Kd.R_of_own (h1 := fun _ => rfl) (ok := fun _ => True) ho0 (fun _ _ => trivial); clear ho0; have hat := True.intro; rw [← Ny589.out] at ho; change Kd.R (Kd.int .u8) 5 w38 w.heap.size (fun _ => True) v590 y589 at ho; replace BK566 := aS (blk_grown (g := gb566) (o := .cells #[.string a0_0, .int .i64 a0_1, .int .i64 a0_2, .int .i64 a0_3, .string a0_4, .string a0_5] 25 (0, 0)) (bU BK566.out) hg (Kd.R_ne HO588.out BK566.out (by decide))); replace HB := aS (hb); have HO591 := aS (ho); clear HO588; clear ho hb hg hat))
      go_ret
      exact ⟨_, jE, by exact rU HO591.out, by exact wS1 HB.out GE566.out⟩
     ·rw [if_neg c30] at H
      exact absurd H (by simp)
    ·rw [if_neg c29] at H
     have c29b0 := beq_eq_false_iff_ne.mpr c29
     have c29b1 := bne_iff_ne.mpr c29
     obtain ⟨y592, hy_⟩ : ∃ y_ : List Int, y_ = (([] : List Int)) := ⟨_, rfl⟩
     replace H : ((spec_PutPlain.f k y592 a0_4).bind fun t595 => (some t595)) = some r := jD
     have Ny592 := aS hy_
     clear hy_
     obtain ⟨t595, A39, H⟩ := bM H
     try dsimp only at H
     obtain rfl := Option.some.inj H
     go_enter Tryd.func14, Tryd.ntmps14
     go_wp2_with (first | ((with_reducible refine gate_dst (N := 1) rfl ?_); refine box_event ?hg (N := 1) ?hd (cs := #[.string a0_0, .int .i64 a0_1, .int .i64 a0_2, .int .i64 a0_3, .string a0_4, .string a0_5]) (t := 25) ?hr ?_; (case hd => rfl); (case hg => rfl); (case hr => first | (go_simp; done) | (go_simp; rfl)); intro gb566 hg w40 hbox hb; have BK566 := aS (hbox); have GW566 := aS ((by rw [hg]; exact (below_size (wU HB.out)) : w.heap.size ≤ gb566)); have GE566 := aS ((by rw [hg]; exact (below_size (wU HB.out)) : w.heap.size ≤ gb566)); replace HB := aS (below_step (wU HB.out) hb); clear hb hbox hg; have hcz41 := cells6f BK566.out) | ((with_reducible refine gate_callee (f := 54) rfl ?_); refine goesL_ (some 4) rfl rfl Tryd.func54 jK rfl #[.agg #[.string a0_0, .int .i64 a0_1, .int .i64 a0_2, .int .i64 a0_3, .string a0_4, .string a0_5]] rfl jA ?_; (with_reducible refine (spec_RecordOk.calls k a0_0 a0_1 a0_2 a0_3 a0_4 a0_5 true _ A2.out).mono ?_); rintro e w42 ⟨rfl, hb⟩; refine ⟨_, rfl, ?_⟩; replace BK566 := aS (blk_below (bU BK566.out) hb); replace HB := aS (below_step (wS1 HB.out GE566.out) hb); clear hb; have hcz43 := cells6f BK566.out) | ((with_reducible refine gate_dst (N := 34) rfl ?_); refine Kd.R_lit (Kd.int .u8) _ 5 ?hg (N := 34) ?hd (xs := ([] : List Int)) (inner := []) (ok := fun _ => True) (okp := fun _ => True) ?hr ?hp (fun _ hk => hk) trivial (Below.refl _ _) (Nat.le_refl _) (by simp) ?_; (case hd => rfl); (case hg => rfl); (case hr => first | (go_simp; done) | (go_simp; rfl)); (case hp => exact (Reps.none _ _)); intro v593 w44 ho45 hb hg_ hnew_; clear hg_ hnew_; (first | rw [← Ny592.out] at ho45 | (simp only [Int.reduceToNat] at ho45; rw [← Ny592.out] at ho45)); have HO594 := aS (Kd.R_lower ho45 (below_size (wS1 HB.out GE566.out))); replace BK566 := aS (blk_below (bU BK566.out) hb); replace HB := aS (below_step (wS1 HB.out GE566.out) hb); clear hb ho45; have hcz46 := cells6f BK566.out; obtain ⟨Ao47, co47, eo47⟩ := Kd.R_slice HO594.out; subst eo47) | ((with_reducible refine gate_callee (f := 66) rfl ?_); refine goesL_ (some 37) rfl rfl Tryd.func66 jK rfl #[.slice Ao47 y592.length co47, .string a0_4] rfl jA ?_; (with_reducible refine (spec_PutPlain.calls k _ _ y592 a0_4 t595 _ ?side1 ?side2 A39.out).mono ?_); (case side1 => exact cU ((Kd.R_reads' HO594.out).2.2)); (case side2 => exact (Kd.R_reads' HO594.out).2.1); rintro e w48 ⟨v596, rfl, ho0, hb⟩; refine ⟨_, rfl, ?_⟩; have HO597 := aS (Kd.R_lower (Kd.R_new' ho0 (Kd.R_lt (rU HO594.out))) (below_size (wS1 HB.out GE566.out))); replace HO594 := aS (Kd.R_elder' (rU HO594.out) (Kd.R_base ho0) hb); replace BK566 := aS (blk_below (bU BK566.out) hb); replace HB := aS (below_step (wS1 HB.out GE566.out) hb); clear hb; (try clear ho0)))
     go_ret
     exact ⟨_, jE, Kd.R_mono (rU HO597.out) (fun _ hk => trivial), by exact wS1 HB.out GE566.out⟩
 ·replace c3 := Bool.eq_false_iff.mpr c3
  subst c3
  rw [if_neg Bool.false_ne_true] at H
  obtain ⟨y568, hy_⟩ : ∃ y_ : List Int, y_ = (([] : List Int)) := ⟨_, rfl⟩
  replace H : (some y568) = some r := jD
  have Ny568 := aS hy_
  clear hy_
  obtain rfl := Option.some.inj H
  go_enter Tryd.func14, Tryd.ntmps14
  go_wp2_with (first | ((with_reducible refine gate_dst (N := 1) rfl ?_); refine box_event ?hg (N := 1) ?hd (cs := #[.string a0_0, .int .i64 a0_1, .int .i64 a0_2, .int .i64 a0_3, .string a0_4, .string a0_5]) (t := 25) ?hr ?_; (case hd => rfl); (case hg => rfl); (case hr => first | (go_simp; done) | (go_simp; rfl)); intro gb566 hg w49 hbox hb; have BK566 := aS (hbox); have GW566 := aS ((by rw [hg]; exact (below_size (wU HB.out)) : w.heap.size ≤ gb566)); have GE566 := aS ((by rw [hg]; exact (below_size (wU HB.out)) : w.heap.size ≤ gb566)); replace HB := aS (below_step (wU HB.out) hb); clear hb hbox hg; have hcz50 := cells6f BK566.out) | ((with_reducible refine gate_callee (f := 54) rfl ?_); refine goesL_ (some 4) rfl rfl Tryd.func54 jK rfl #[.agg #[.string a0_0, .int .i64 a0_1, .int .i64 a0_2, .int .i64 a0_3, .string a0_4, .string a0_5]] rfl jA ?_; (with_reducible refine (spec_RecordOk.calls k a0_0 a0_1 a0_2 a0_3 a0_4 a0_5 false _ A2.out).mono ?_); rintro e w51 ⟨rfl, hb⟩; refine ⟨_, rfl, ?_⟩; replace BK566 := aS (blk_below (bU BK566.out) hb); replace HB := aS (below_step (wS1 HB.out GE566.out) hb); clear hb) | ((with_reducible refine gate_dst (N := 6) rfl ?_); refine Kd.R_lit (Kd.int .u8) _ 5 ?hg (N := 6) ?hd (xs := ([] : List Int)) (inner := []) (ok := fun _ => True) (okp := fun _ => True) ?hr ?hp (fun _ hk => hk) trivial (Below.refl _ _) (Nat.le_refl _) (by simp) ?_; (case hd => rfl); (case hg => rfl); (case hr => first | (go_simp; done) | (go_simp; rfl)); (case hp => exact (Reps.none _ _)); intro v569 w52 ho53 hb hg_ hnew_; clear hg_ hnew_; (first | rw [← Ny568.out] at ho53 | (simp only [Int.reduceToNat] at ho53; rw [← Ny568.out] at ho53)); have HO570 := aS (Kd.R_lower ho53 (below_size (wS1 HB.out GE566.out))); replace BK566 := aS (blk_below (bU BK566.out) hb); replace HB := aS (below_step (wS1 HB.out GE566.out) hb); clear hb ho53))
  go_ret
  exact ⟨_, jE, by exact rU HO570.out, by exact wS1 HB.out GE566.out⟩

/-! ### spec_Put2: function 64 -/
def spec_Put2.f (l0 : List Int) (a1 : Int) : Option (List Int) := (some (([] : List Int) : List Int)).bind fun y598 => (if y598.length + l0.length < 140737488355328 then ((some (y598 ++ l0 : List Int)).bind fun y601 => ((spec_l1In.f a1 0 65535).bind fun t604 => (if t604 = true then ((some (([(a1 / 256) % 256, (Go.bits .and .i64 a1 255) % 256] : List Int) : List Int)).bind fun y605 => (if y601.length + y605.length < 140737488355328 then (some (y601 ++ y605)) else (none))) else (some y601)))) else (none))
set_option maxHeartbeats 8000000 in
set_option maxRecDepth 100000 in
theorem spec_Put2.calls (A0 : Option Addr) (c0 : Nat) (l0 : List Int) (a1 : Int) (r : List Int) (w : World) (hr0 : Kd.C (Kd.int .u8) w A0 l0.length l0) (hc0 : l0.length ≤ c0) (h : spec_Put2.f l0 a1 = some r) :
  Calls Tryd.prog 64 #[.slice A0 l0.length c0, .int .i64 a1] w fun e w' => ∃ v0_ : Value, e = .returned (v0_) ∧ Kd.R (Kd.int .u8) 5 w' w.heap.size (fun _ => True) v0_ r ∧ Below w.heap.size w w' := by
 have HR0 := aS hr0
 have HC0 := aS hc0
 clear hr0 hc0
 have HB := aS (Below.refl w.heap.size w)
 have H : ((some (([] : List Int) : List Int)).bind fun y598 => (if y598.length + l0.length < 140737488355328 then ((some (y598 ++ l0 : List Int)).bind fun y601 => ((spec_l1In.f a1 0 65535).bind fun t604 => (if t604 = true then ((some (([(a1 / 256) % 256, (Go.bits .and .i64 a1 255) % 256] : List Int) : List Int)).bind fun y605 => (if y601.length + y605.length < 140737488355328 then (some (y601 ++ y605)) else (none))) else (some y601)))) else (none))) = some r := h
 clear h
 obtain ⟨y598, hy_⟩ : ∃ y_ : List Int, y_ = (([] : List Int)) := ⟨_, rfl⟩
 replace H : (if y598.length + l0.length < 140737488355328 then ((some (y598 ++ l0 : List Int)).bind fun y601 => ((spec_l1In.f a1 0 65535).bind fun t604 => (if t604 = true then ((some (([(a1 / 256) % 256, (Go.bits .and .i64 a1 255) % 256] : List Int) : List Int)).bind fun y605 => (if y601.length + y605.length < 140737488355328 then (some (y601 ++ y605)) else (none))) else (some y601)))) else (none)) = some r := jD
 have Ny598 := aS hy_
 clear hy_
 by_cases c3 : y598.length + l0.length < 140737488355328
 ·rw [if_pos c3] at H
  have LMc3 := aS c3
  clear c3
  obtain ⟨y601, hy_⟩ : ∃ y_ : List Int, y_ = (y598 ++ l0) := ⟨_, rfl⟩
  replace H : ((spec_l1In.f a1 0 65535).bind fun t604 => (if t604 = true then ((some (([(a1 / 256) % 256, (Go.bits .and .i64 a1 255) % 256] : List Int) : List Int)).bind fun y605 => (if y601.length + y605.length < 140737488355328 then (some (y601 ++ y605)) else (none))) else (some y601))) = some r := jD
  have Ny601 := aS hy_
  clear hy_
  obtain ⟨t604, A4, H⟩ := bM H
  try dsimp only at H
  have HC5 := aS H
  clear H
  go_enter Tryd.func64, Tryd.ntmps64
  go_upto_if 11 with (first | ((with_reducible refine gate_dst (N := 6) rfl ?_); refine Kd.R_lit (Kd.int .u8) _ 5 ?hg (N := 6) ?hd (xs := ([] : List Int)) (inner := []) (ok := fun _ => True) (okp := fun _ => True) ?hr ?hp (fun _ hk => hk) trivial (Below.refl _ _) (Nat.le_refl _) (by simp) ?_; (case hd => rfl); (case hg => rfl); (case hr => first | (go_simp; done) | (go_simp; rfl)); (case hp => exact (Reps.none _ _)); intro v599 w6 ho7 hb hg_ hnew_; clear hg_ hnew_; (first | rw [← Ny598.out] at ho7 | (simp only [Int.reduceToNat] at ho7; rw [← Ny598.out] at ho7)); have HO600 := aS (Kd.R_lower ho7 (below_size (wU HB.out))); replace HB := aS (below_step (wU HB.out) hb); clear hb ho7) | ((with_reducible refine gate_builtin (b := .append) (xs := #[.tmp 6, .tmp 7]) rfl ?_); at_builtin; refine Kd.R_append_rows (Kd.int .u8) (w0 := w) w.heap.size rfl (.tmp 6) (.tmp 7) 22 5 (.int .u8 0) 1 rfl Tryd.underlying22 info5 rfl (by decide) (by omega) v599 y598 l0 _ _ _ (fun _ => True) (fun _ => False) rfl rfl ?aO ?aR (fun _ _ h => h) (fun _ h => h.elim) ?aF ?aB ?aS ?aL ?_; (case aR => exact cU ((Kd.C_below HR0.out HB.out))); (case aB => exact (wU HB.out)); (case aF => exact (fun _ _ => trivial)); (case aO => exact (rU HO600.out)); (case aS => exact (below_size (wU HB.out))); (case aL => have := LMc3.out; omega); intro v602 w8 ho hb hg hat; rw [← Ny601.out] at ho; replace HB := aS (hb); have HO603 := aS (ho); clear HO600; clear ho hb hg hat) | ((with_reducible refine gate_callee (f := 86) rfl ?_); refine goesL_ (some 10) rfl rfl Tryd.func86 jK rfl #[.int .i64 a1, .int .i64 0, .int .i64 65535] rfl jA ?_; (with_reducible refine (spec_l1In.calls a1 0 65535 t604 _ A4.out).mono ?_); rintro e w' ⟨rfl, ⟨nd, rfl⟩⟩; refine ⟨_, rfl, ?_⟩))
  (try simp only [Act.put, List.setIfInBounds_toArray, List.set_cons_zero, List.set_cons_succ])
  have H := HC5.out
  clear HC5
  by_cases c9 : t604 = true
  ·subst c9
   rw [if_pos rfl] at H
   obtain ⟨ji10, hji10⟩ : ∃ j_ : Int, (Go.bits .and .i64 a1 255) = j_ := ⟨_, rfl⟩
   replace H : ((some (([(a1 / 256) % 256, (ji10) % 256] : List Int) : List Int)).bind fun y605 => (if y601.length + y605.length < 140737488355328 then (some (y601 ++ y605)) else (none))) = some r := by first | (rw [hji10] at H; exact H) | (simp only [hji10] at H ⊢; exact H)
   obtain ⟨y605, hy_⟩ : ∃ y_ : List Int, y_ = (([(a1 / 256) % 256, (ji10) % 256] : List Int)) := ⟨_, rfl⟩
   replace H : (if y601.length + y605.length < 140737488355328 then (some (y601 ++ y605)) else (none)) = some r := jD
   have Ny605 := aS hy_
   clear hy_
   by_cases c11 : y601.length + y605.length < 140737488355328
   ·rw [if_pos c11] at H
    have LMc11 := aS c11
    clear c11
    obtain ⟨y608, hy_⟩ : ∃ y_ : List Int, y_ = (y601 ++ y605) := ⟨_, rfl⟩
    replace H : (some y608) = some r := jD
    have Ny608 := aS hy_
    clear hy_
    obtain rfl := Option.some.inj H
    go_wp2_with (first | ((with_reducible refine gate_dst (N := 20) rfl ?_); refine Kd.R_lit (Kd.int .u8) _ 5 ?hg (N := 20) ?hd (xs := ([(a1 / 256) % 256, (ji10) % 256] : List Int)) (inner := [.int .u8 ((a1 / 256) % 256), .int .u8 ((ji10) % 256)]) (ok := fun _ => True) (okp := fun _ => True) ?hr ?hp (fun _ hk => hk) trivial (Below.refl _ _) (Nat.le_refl _) (by simp) ?_; (case hd => rfl); (case hg => rfl); (case hr => first | (go_simp; done) | (go_simp; rfl)); (case hp => exact (Reps.one (show Kd.M (Kd.int .u8) _ _ _ ((a1 / 256) % 256) [.int .u8 ((a1 / 256) % 256)] from rfl) (Reps.one (show Kd.M (Kd.int .u8) _ _ _ ((ji10) % 256) [.int .u8 ((ji10) % 256)] from rfl) (Reps.none _ _)))); intro v606 w12 ho13 hb hg_ hnew_; clear hg_ hnew_; (first | rw [← Ny605.out] at ho13 | (simp only [Int.reduceToNat] at ho13; rw [← Ny605.out] at ho13)); have HO607 := aS (Kd.R_lower (Kd.R_new' ho13 (Kd.R_lt (rU HO603.out))) (below_size (wU HB.out))); replace HO603 := aS (Kd.R_elder' (rU HO603.out) (Kd.R_base ho13) hb); replace HB := aS (below_step (wU HB.out) hb); clear hb ho13; obtain ⟨Ao15, co15, eo15⟩ := Kd.R_slice HO607.out; subst eo15) | ((with_reducible refine gate_builtin (b := .append) (xs := #[.tmp 13, .tmp 20]) rfl ?_); at_builtin; refine Kd.R_append_rows (Kd.int .u8) (w0 := w) w.heap.size rfl (.tmp 13) (.tmp 20) 22 5 (.int .u8 0) 1 rfl Tryd.underlying22 info5 rfl (by decide) (by omega) v602 y601 y605 _ _ _ (fun k_ => some k_ ≠ (.slice Ao15 y605.length co15 : Value).ownBlock) (fun _ => False) rfl rfl ?aO ?aR (fun _ _ h => h) (fun _ h => h.elim) ?aF ?aB ?aS ?aL ?_; (case aR => exact cU ((Kd.R_reads' HO607.out).2.2)); (case aB => exact (wU HB.out)); (case aF => exact (fun k_ hk => Kd.fresh' (Kd.R_lt (rU HO607.out)) k_ hk)); (case aO => exact (by (with_reducible repeat (first | apply Kd.R_alloc | apply Kd.R_drewN | apply Kd.R_drew)); exact Kd.R_mono HO603.out (fun _ hk => hk.2))); (case aS => exact (below_size (wU HB.out))); (case aL => have := LMc11.out; omega); intro v609 w14 ho hb hg hat; rw [← Ny608.out] at ho; replace HO607 := aS (Kd.R_after (ok := (fun _ => True)) (rU HO607.out) hg hat); replace HB := aS (hb); have HO610 := aS (ho); clear HO603; clear ho hb hg hat))
    go_ret
    exact ⟨_, by first | rfl | (simp [errW_none, errW_some] <;> rfl) | (simp only [← hji10]; first | rfl | (simp [errW_none, errW_some] <;> rfl)) | (simp [*, errW_none, errW_some] <;> rfl), Kd.R_mono (rU HO610.out) (fun _ hk => trivial), by exact wU HB.out⟩
   ·rw [if_neg c11] at H
    exact absurd H (by simp)
  ·replace c9 := Bool.eq_false_iff.mpr c9
   subst c9
   rw [if_neg Bool.false_ne_true] at H
   obtain rfl := Option.some.inj H
   go_wp2
   go_ret
   exact ⟨_, jE, by exact rU HO603.out, by exact wU HB.out⟩
 ·rw [if_neg c3] at H
  exact absurd H (by simp)

/-! ### spec_JoinLabels: function 147 -/
def spec_JoinLabels.l0 : Nat → List ByteArray → ByteArray → Int → Option (ByteArray)
 | 0, _, _, _ => none
 | k + 1, x0, x3, x4 => if x4 < (x0.length : Int) then (if x4 > 0 then (if x3.size + 1 ≤ 9223372036854775807 then (if 0 ≤ x4 then (if (x3 ++ (⟨#[46]⟩ : ByteArray)).size + (rdOf ByteArray.empty x0 x4).size ≤ 9223372036854775807 then (spec_JoinLabels.l0 k x0 ((x3 ++ (⟨#[46]⟩ : ByteArray)) ++ (rdOf ByteArray.empty x0 x4)) (wrap64 (x4 + 1))) else (none)) else (none)) else (none)) else (if 0 ≤ x4 then (if x3.size + (rdOf ByteArray.empty x0 x4).size ≤ 9223372036854775807 then (spec_JoinLabels.l0 k x0 (x3 ++ (rdOf ByteArray.empty x0 x4)) (wrap64 (x4 + 1))) else (none)) else (none))) else (some x3)
def spec_JoinLabels.f (k : Nat) (l0 : List ByteArray) : Option (ByteArray) := spec_JoinLabels.l0 k l0 (⟨#[]⟩ : ByteArray) 0
theorem spec_JoinLabels.mono_l : ∀ k, (∀ y0 y1 y2, LeO (spec_JoinLabels.l0 k y0 y1 y2) (spec_JoinLabels.l0 (k + 1) y0 y1 y2))
 | 0 => fun _ _ _ r h => by simp [spec_JoinLabels.l0] at h
 | k + 1 => by
  have ih0 := spec_JoinLabels.mono_l k
  ·intro y0 y1 y2
   unfold spec_JoinLabels.l0
   repeat' first
   | (with_reducible first | exact ih0 _ _ _ | exact LeO.refl _ | exact LeO.none _ | refine LeO.ite ?_ ?_ | refine LeO.bind ?_ (fun _ => ?_))
   | exact ih0 _ _ _
   | exact LeO.none _
   | refine LeO.ite ?_ ?_
   | refine LeO.bind ?_ (fun _ => ?_)
theorem spec_JoinLabels.mono : ∀ a0 k, LeO (spec_JoinLabels.f k a0) (spec_JoinLabels.f (k + 1) a0) := by
 intro a0 k
 have ih0 := spec_JoinLabels.mono_l k
 unfold spec_JoinLabels.f
 repeat' first
   | (with_reducible first | exact ih0 _ _ _ | exact LeO.refl _ | exact LeO.none _ | refine LeO.ite ?_ ?_ | refine LeO.bind ?_ (fun _ => ?_))
   | exact ih0 _ _ _
   | exact LeO.none _
   | refine LeO.ite ?_ ?_
   | refine LeO.bind ?_ (fun _ => ?_)
set_option maxHeartbeats 8000000 in
set_option maxRecDepth 100000 in
theorem spec_JoinLabels.calls (k : Nat) (A0 : Option Addr) (c0 : Nat) (l0 : List ByteArray) (r : ByteArray) (w : World) (hr0 : Kd.C Kd.string w A0 l0.length l0) (hc0 : l0.length ≤ c0) (h : spec_JoinLabels.f k l0 = some r) :
  Calls Tryd.prog 147 #[.slice A0 l0.length c0] w fun e w' => e = .returned (.string r) ∧ Drawn0 w w' := by
 have HR0 := aS hr0
 have HC0 := aS hc0
 clear hr0 hc0
 have H : (spec_JoinLabels.l0 k l0 (⟨#[]⟩ : ByteArray) 0) = some r := h
 clear h
 have H' := aS H
 clear H
 go_enter Tryd.func147, Tryd.ntmps147
 go_wp2
 go_loopg [3, 4] k (fun kq v3 v4 w' => ∃ (x3_1 : ByteArray) (x4_1 : Int), v3 = .string x3_1 ∧ v4 = .int .i64 x4_1 ∧ Aside0 (spec_JoinLabels.l0 kq l0 x3_1 x4_1 = some r) ∧ Aside0 (kq ≤ k) ∧ Drawn0 w w')
 case atStart => exact ⟨((⟨#[]⟩ : ByteArray)), (0), jB, jB, H', ⟨Nat.le_refl _⟩, by repeat (first | exact Drawn0.refl _ | apply Drawn0.step)⟩
 case round =>
  clear H'
  try clear c1
  obtain ⟨x3_1, x4_1, rfl, rfl, HA, HK1, ⟨m1, rfl⟩⟩ := hrel
  cases gk with
  | zero => exact absurd HA.out (by simp [spec_JoinLabels.l0])
  | succ k1 =>
   have H := HA.out
   clear HA
   simp only [spec_JoinLabels.l0] at H
   by_cases c2 : x4_1 < (l0.length : Int)
   ·rw [if_pos c2] at H
    have c2b0 := decide_eq_true c2
    clear c2
    by_cases c3 : x4_1 > 0
    ·rw [if_pos c3] at H
     have c3b0 := decide_eq_true c3
     clear c3
     by_cases c4 : x3_1.size + 1 ≤ 9223372036854775807
     ·rw [if_pos c4] at H
      have c4b0 := eq_true c4
      have c4b1 := decide_eq_true c4
      try have c4b2 : (9223372036854775807 < x3_1.size + 1) = False := eq_false (Nat.not_lt.2 c4)
      by_cases c5 : 0 ≤ x4_1
      ·rw [if_pos c5] at H
       have c5b0 := decide_eq_true c5
       clear c5
       by_cases c6 : (x3_1 ++ (⟨#[46]⟩ : ByteArray)).size + (rdOf ByteArray.empty l0 x4_1).size ≤ 9223372036854775807
       ·rw [if_pos c6] at H
        have c6b0 := eq_true c6
        have c6b1 := decide_eq_true c6
        try have c6b2 : (9223372036854775807 < (x3_1 ++ (⟨#[46]⟩ : ByteArray)).size + (rdOf ByteArray.empty l0 x4_1).size) = False := eq_false (Nat.not_lt.2 c6)
        try have c6b8 : (9223372036854775807 < x3_1.size + 1 + (rdOf ByteArray.empty l0 x4_1).size) = False := by have q_ := c6b2; simp only [ByteArray.size_append] at q_; exact q_
        have H' := aS H
        clear H
        have p611 : 0 ≤ (x4_1 : Int) := of_decide_eq_true jC
        have q611 : x4_1 < (l0.length : Int) := of_decide_eq_true jC
        obtain ⟨ad611, e611, hx611_0⟩ := Kd.at_string HR0.out x4_1 p611 q611
        cases e611
        replace p611 := eq_true p611
        replace q611 := eq_true q611
        go_wp2
        go_roundg k1
        case measure => have := HK1.out; omega
        case rel => exact ⟨((x3_1 ++ (⟨#[46]⟩ : ByteArray)) ++ (rdOf ByteArray.empty l0 x4_1)), (wrap64 (x4_1 + 1)), jB, jB, H', ⟨by have := HK1.out; omega⟩, by repeat (first | exact Drawn0.refl _ | apply Drawn0.step)⟩
       ·rw [if_neg c6] at H
        exact absurd H (by simp)
      ·rw [if_neg c5] at H
       exact absurd H (by simp)
     ·rw [if_neg c4] at H
      exact absurd H (by simp)
    ·rw [if_neg c3] at H
     have c3b0 := decide_eq_false c3
     clear c3
     by_cases c7 : 0 ≤ x4_1
     ·rw [if_pos c7] at H
      have c7b0 := decide_eq_true c7
      clear c7
      by_cases c8 : x3_1.size + (rdOf ByteArray.empty l0 x4_1).size ≤ 9223372036854775807
      ·rw [if_pos c8] at H
       have c8b0 := eq_true c8
       have c8b1 := decide_eq_true c8
       try have c8b2 : (9223372036854775807 < x3_1.size + (rdOf ByteArray.empty l0 x4_1).size) = False := eq_false (Nat.not_lt.2 c8)
       have H' := aS H
       clear H
       have p612 : 0 ≤ (x4_1 : Int) := of_decide_eq_true jC
       have q612 : x4_1 < (l0.length : Int) := of_decide_eq_true jC
       obtain ⟨ad612, e612, hx612_0⟩ := Kd.at_string HR0.out x4_1 p612 q612
       cases e612
       replace p612 := eq_true p612
       replace q612 := eq_true q612
       go_wp2
       go_roundg k1
       case measure => have := HK1.out; omega
       case rel => exact ⟨(x3_1 ++ (rdOf ByteArray.empty l0 x4_1)), (wrap64 (x4_1 + 1)), jB, jB, H', ⟨by have := HK1.out; omega⟩, by repeat (first | exact Drawn0.refl _ | apply Drawn0.step)⟩
      ·rw [if_neg c8] at H
       exact absurd H (by simp)
     ·rw [if_neg c7] at H
      exact absurd H (by simp)
   ·rw [if_neg c2] at H
    have c2b0 := decide_eq_false c2
    clear c2
    obtain rfl := Option.some.inj H
    go_wp2
    go_ret
    exact ⟨by first | rfl | (simp; done) | (simp [*]; done) | (simp [X.bne_nil, X.beq_nil]; done) | (simp [*, X.bne_nil, X.beq_nil]; done) | (simp [X.bne_nil, X.beq_nil]; done), by repeat (first | exact Drawn0.refl _ | apply Drawn0.step)⟩

/-! ### spec_Above: function 120 -/
def spec_Above.l0 : Nat → List ByteArray → List ByteArray → Int → Option (List ByteArray)
 | 0, _, _, _ => none
 | k + 1, x3, x4, x5 => if x5 ≤ (x4.length : Int) then (if 0 ≤ x5 then ((spec_JoinLabels.f k (x4.drop (x5 : Int).toNat)).bind fun t623 => (if x3.length < 8796093022208 then (spec_Above.l0 k (x3 ++ [t623]) x4 (wrap64 (x5 + 1))) else (none))) else (none)) else (some x3)
def spec_Above.f (k : Nat) (a0 : ByteArray) : Option (List ByteArray) := (spec_Labels.f k a0).bind fun t616 => (spec_Above.l0 k (([a0] : List ByteArray)) t616 1)
theorem spec_Above.mono_l : ∀ k, (∀ y0 y1 y2, LeO (spec_Above.l0 k y0 y1 y2) (spec_Above.l0 (k + 1) y0 y1 y2))
 | 0 => fun _ _ _ r h => by simp [spec_Above.l0] at h
 | k + 1 => by
  have ih0 := spec_Above.mono_l k
  ·intro y0 y1 y2
   unfold spec_Above.l0
   repeat' first
   | (with_reducible first | exact ih0 _ _ _ | exact spec_JoinLabels.mono _ _ | exact spec_Labels.mono _ _ | exact LeO.refl _ | exact LeO.none _ | refine LeO.ite ?_ ?_ | refine LeO.bind ?_ (fun _ => ?_))
   | exact ih0 _ _ _
   | exact spec_JoinLabels.mono _ _
   | exact spec_Labels.mono _ _
   | exact LeO.none _
   | refine LeO.ite ?_ ?_
   | refine LeO.bind ?_ (fun _ => ?_)
theorem spec_Above.mono : ∀ a0 k, LeO (spec_Above.f k a0) (spec_Above.f (k + 1) a0) := by
 intro a0 k
 have ih0 := spec_Above.mono_l k
 unfold spec_Above.f
 repeat' first
   | (with_reducible first | exact ih0 _ _ _ | exact spec_JoinLabels.mono _ _ | exact spec_Labels.mono _ _ | exact LeO.refl _ | exact LeO.none _ | refine LeO.ite ?_ ?_ | refine LeO.bind ?_ (fun _ => ?_))
   | exact ih0 _ _ _
   | exact spec_JoinLabels.mono _ _
   | exact spec_Labels.mono _ _
   | exact LeO.none _
   | refine LeO.ite ?_ ?_
   | refine LeO.bind ?_ (fun _ => ?_)
set_option maxHeartbeats 8000000 in
set_option maxRecDepth 100000 in
theorem spec_Above.calls (k : Nat) (a0 : ByteArray) (r : List ByteArray) (w : World) (h : spec_Above.f k a0 = some r) :
  Calls Tryd.prog 120 #[.string a0] w fun e w' => ∃ v0_ : Value, e = .returned (v0_) ∧ Kd.R Kd.string 9 w' w.heap.size (fun _ => True) v0_ r ∧ Below w.heap.size w w' := by
 have HB := aS (Below.refl w.heap.size w)
 have H : ((spec_Labels.f k a0).bind fun t616 => (spec_Above.l0 k (([a0] : List ByteArray)) t616 1)) = some r := h
 clear h
 obtain ⟨y613, hy_⟩ : ∃ y_ : List ByteArray, y_ = (([a0] : List ByteArray)) := ⟨_, rfl⟩
 replace H : ((spec_Labels.f k a0).bind fun t616 => (spec_Above.l0 k y613 t616 1)) = some r := jD
 have Ny613 := aS hy_
 clear hy_
 obtain ⟨t616, A2, H⟩ := bM H
 try dsimp only at H
 have H' := aS H
 clear H
 go_enter Tryd.func120, Tryd.ntmps120
 go_wp2_with (first | ((with_reducible refine gate_dst (N := 7) rfl ?_); refine Kd.R_lit Kd.string _ 9 ?hg (N := 7) ?hd (xs := ([a0] : List ByteArray)) (inner := [.string a0]) (ok := fun _ => True) (okp := fun _ => True) ?hr ?hp (fun _ hk => hk) trivial (Below.refl _ _) (Nat.le_refl _) (by simp) ?_; (case hd => rfl); (case hg => rfl); (case hr => first | (go_simp; done) | (go_simp; rfl)); (case hp => exact (Reps.one (show Kd.M Kd.string _ _ _ a0 [.string a0] from rfl) (Reps.none _ _))); intro v614 w3 ho4 hb hg_ hnew_; clear hg_ hnew_; (first | rw [← Ny613.out] at ho4 | (simp only [Int.reduceToNat] at ho4; rw [← Ny613.out] at ho4)); have HO615 := aS (Kd.R_lower ho4 (below_size (wU HB.out))); replace HB := aS (below_step (wU HB.out) hb); clear hb ho4) | ((with_reducible refine gate_callee (f := 121) rfl ?_); refine goesL_ (some 9) rfl rfl Tryd.func121 jK rfl #[.string a0] rfl jA ?_; (with_reducible refine (spec_Labels.calls k a0 t616 _ A2.out).mono ?_); rintro e w5 ⟨v617, rfl, ho0, hb⟩; refine ⟨_, rfl, ?_⟩; have HO618 := aS (Kd.R_lower (Kd.R_new' ho0 (Kd.R_lt (rU HO615.out))) (below_size (wU HB.out))); replace HO615 := aS (Kd.R_elder' (rU HO615.out) (Kd.R_base ho0) hb); replace HB := aS (below_step (wU HB.out) hb); clear hb; (try clear ho0)))
 go_loopg [3, 5] k (fun kq v3 v5 w' => ∃ (x3_1 : List ByteArray) (x5_1 : Int), v5 = .int .i64 x5_1 ∧ Aside0 (spec_Above.l0 kq x3_1 t616 x5_1 = some r) ∧ Aside0 (kq ≤ k) ∧ Aside0 (Kd.R Kd.string 9 w' w.heap.size (fun k_ => some k_ ≠ (v617 : Value).ownBlock) v3 x3_1) ∧ Aside0 (Kd.R Kd.string 9 w' w.heap.size (fun k_ => some k_ ≠ (v3 : Value).ownBlock) v617 t616) ∧ Aside0 (Below w.heap.size w w'))
 case atStart => exact ⟨(y613), (1), jB, H', ⟨Nat.le_refl _⟩, ⟨by (with_reducible repeat (first | apply Kd.R_alloc | apply Kd.R_drewN | apply Kd.R_drew)); exact Kd.R_mono HO615.out (fun _ hk => hk.2)⟩, ⟨by (with_reducible repeat (first | apply Kd.R_alloc | apply Kd.R_drewN | apply Kd.R_drew)); exact Kd.R_mono HO618.out (fun _ hk => hk.2)⟩, ⟨by exact wU HB.out⟩⟩
 case round =>
  clear H'
  try clear c1
  try clear p2
  obtain ⟨x3_1, x5_1, rfl, HA, HK1, HO_3, HO_4, HB⟩ := hrel
  cases gk with
  | zero => exact absurd HA.out (by simp [spec_Above.l0])
  | succ k1 =>
   have H := HA.out
   clear HA
   simp only [spec_Above.l0] at H
   by_cases c6 : x5_1 ≤ (t616.length : Int)
   ·rw [if_pos c6] at H
    have c6b0 := decide_eq_true c6
    clear c6
    by_cases c7 : 0 ≤ x5_1
    ·rw [if_pos c7] at H
     have c7b0 := eq_true c7
     have c7b1 := decide_eq_true c7
     clear c7
     have c8b0 := eq_true (of_decide_eq_true jC : x5_1 ≤ (t616.length : Int))
     obtain ⟨y619, hy_⟩ : ∃ y_ : List ByteArray, y_ = (t616.drop (x5_1 : Int).toNat) := ⟨_, rfl⟩
     replace H : ((spec_JoinLabels.f k1 y619).bind fun t623 => (if x3_1.length < 8796093022208 then (spec_Above.l0 k1 (x3_1 ++ [t623]) t616 (wrap64 (x5_1 + 1))) else (none))) = some r := jD
     have Ny619 := aS hy_
     clear hy_
     obtain ⟨t623, A9, H⟩ := bM H
     try dsimp only at H
     by_cases c10 : x3_1.length < 8796093022208
     ·rw [if_pos c10] at H
      have LMc10 := aS c10
      clear c10
      obtain ⟨y624, hy_⟩ : ∃ y_ : List ByteArray, y_ = (x3_1 ++ [t623]) := ⟨_, rfl⟩
      replace H : (spec_Above.l0 k1 y624 t616 (wrap64 (x5_1 + 1))) = some r := jD
      have Ny624 := aS hy_
      clear hy_
      have H' := aS H
      clear H
      obtain ⟨Ao11, co11, eo11⟩ := Kd.R_slice HO_4.out
      subst eo11
      have q12 : (x5_1 : Int) ≤ ((t616.length : Int) : Int) := of_decide_eq_true jC
      obtain ⟨i012, hi012, _, hsz12, _⟩ := info_parts info9
      have hroom12 : t616.length ≤ co11 := (Kd.R_reads' HO_4.out).2.1
      have hC12 : Kd.C Kd.string _ Ao11 t616.length t616 := (Kd.R_reads' HO_4.out).2.2
      have q012 : (0 : Int) ≤ (x5_1 : Int) := of_decide_eq_true jC
      have hcut12 := cut_from (P := Tryd.prog) 108 9 .i64 Tryd.underlying108 hi012 1 hsz12 Ao11 t616.length co11 x5_1 q012 q12
      have hr12 := Kd.C_drop (m := (x5_1 : Int).toNat) (c := co11) hC12 (by omega) hroom12
      obtain ⟨A12, hA12⟩ : ∃ A1, A1 = (if co11 = (x5_1 : Int).toNat then Ao11 else (Ao11 : Option Addr).map (·.add ((x5_1 : Int).toNat * 1))) := ⟨_, rfl⟩
      obtain ⟨c12, hc12⟩ : ∃ c1, c1 = co11 - (x5_1 : Int).toNat := ⟨_, rfl⟩
      have hy12 : y619.length = t616.length - (x5_1 : Int).toNat := (by rw [Ny619.out, List.length_drop] <;> omega)
      rw [show (t616).drop (x5_1 : Int).toNat = y619 from Ny619.out.symm] at hr12
      replace hr12 : Kd.C Kd.string _ A12 y619.length y619 := (by rw [hA12]; exact hr12)
      rw [← hy12, ← hA12, ← hc12] at hcut12
      have HR622 := aS hr12
      have HC622 := aS (show y619.length ≤ c12 from by rw [hy12, hc12]; exact Nat.sub_le_sub_right hroom12 _)
      clear hr12 hC12 hroom12 hi012 hsz12 hc12
      have KY12 := aS hy12
      have KA12 := aS hA12
      clear hy12 hA12
      have KL12 := aS (show (x5_1 : Int).toNat ≤ t616.length from by omega)
      replace q12 := eq_true q12
      go_wp2_with (first | ((with_reducible refine gate_callee (f := 147) rfl ?_); refine goesL_ (some 20) rfl rfl Tryd.func147 jK rfl #[.slice A12 y619.length c12] rfl jA ?_; (with_reducible refine (spec_JoinLabels.calls k1 _ _ y619 t623 _ ?side1 ?side2 A9.out).mono ?_); (case side1 => repeat (first | exact (by repeat (first | (with_reducible exact HR622.out) | (with_reducible refine Kd.C_alloc ?_ _) | (with_reducible refine Kd.C_drewN ?_ _) | (with_reducible refine Kd.C_drew ?_) | exact HR622.out)) | (with_reducible refine Kd.C_alloc ?_ _) | (with_reducible refine Kd.C_drewN ?_ _) | (with_reducible refine Kd.C_drew ?_))); (case side2 => exact HC622.out); rintro e w' ⟨rfl, ⟨nd, rfl⟩⟩; refine ⟨_, rfl, ?_⟩) | ((with_reducible refine gate_builtin (b := .append) (xs := #[.tmp 16, .tmp 21]) rfl ?_); at_builtin; refine Kd.R_append Kd.string (w0 := w) w.heap.size rfl (.tmp 16) (.tmp 21) 108 9 (.string ⟨#[]⟩) 16 rfl Tryd.underlying108 info9 rfl (by decide) (by omega) u3 x3_1 t623 [.string t623] (fun k_ => some k_ ≠ (.slice Ao11 t616.length co11 : Value).ownBlock) (fun _ => False) rfl rfl ?aP (fun _ hk => hk.elim) ?aF ?aO ?aB ?aS ?aL ?_; (case aP => exact rfl); (case aB => exact (wU HB.out)); (case aF => exact (fun k_ hk => Kd.fresh' (Kd.R_lt (rU HO_4.out)) k_ hk)); (case aO => exact (rU HO_3.out)); (case aS => exact (below_size (wU HB.out))); (case aL => have := LMc10.out; omega); intro v625 w13 ho hb hg hat; rw [← Ny624.out] at ho; replace HB := aS (hb); replace HR622 := aS ((show Kd.C Kd.string w13 A12 y619.length y619 from by rw [Ny619.out, KA12.out]; exact Kd.C_drop (m := (x5_1 : Int).toNat) (c := co11) ((Kd.R_reads' (Kd.R_after (ok := (fun _ => True)) (by (with_reducible repeat (first | apply Kd.R_alloc | apply Kd.R_drewN | apply Kd.R_drew)); exact Kd.R_mono HO_4.out (fun _ hk => ⟨trivial, hk⟩)) hg hat)).2.2) KL12.out ((Kd.R_reads' (Kd.R_after (ok := (fun _ => True)) (by (with_reducible repeat (first | apply Kd.R_alloc | apply Kd.R_drewN | apply Kd.R_drew)); exact Kd.R_mono HO_4.out (fun _ hk => ⟨trivial, hk⟩)) hg hat)).2.1))); replace HO_4 := aS (Kd.R_after (ok := (fun _ => True)) (by (with_reducible repeat (first | apply Kd.R_alloc | apply Kd.R_drewN | apply Kd.R_drew)); exact Kd.R_mono HO_4.out (fun _ hk => ⟨trivial, hk⟩)) hg hat); have HO626 := aS (ho); clear HO_3; clear ho hb hg hat))
      go_roundg k1
      case measure => have := HK1.out; omega
      case rel => exact ⟨(y624), (wrap64 (x5_1 + 1)), jB, H', ⟨by have := HK1.out; omega⟩, ⟨by exact rU HO626.out⟩, ⟨by (with_reducible repeat (first | apply Kd.R_alloc | apply Kd.R_drewN | apply Kd.R_drew)); exact Kd.R_mono HO_4.out (fun _ hk => hk.2)⟩, ⟨by exact wU HB.out⟩⟩
     ·rw [if_neg c10] at H
      exact absurd H (by simp)
    ·rw [if_neg c7] at H
     exact absurd H (by simp)
   ·rw [if_neg c6] at H
    have c6b0 := decide_eq_false c6
    clear c6
    obtain rfl := Option.some.inj H
    obtain ⟨Ao14, co14, eo14⟩ := Kd.R_slice HO_4.out
    subst eo14
    go_wp2
    go_ret
    exact ⟨_, jE, Kd.R_mono (rU HO_3.out) (fun _ hk => trivial), by exact wU HB.out⟩

/-! ### spec_Fold: function 162 -/
def spec_Fold.f (a0 : ByteArray) : Option (ByteArray) := if a0.size ≤ 140737488355328 then some (strOfNums ((bytesOf a0).map X.foldB)) else none
set_option maxHeartbeats 1000000 in
theorem spec_Fold.calls (a0 : ByteArray) (r : ByteArray) (w : World) (h : spec_Fold.f a0 = some r) :
  Calls Tryd.prog 162 #[.string a0] w fun e w' => e = .returned (.string r) ∧ Below w.heap.size w w' := by
 have hs : a0.size ≤ 140737488355328 := by
  rcases Nat.lt_or_ge 140737488355328 a0.size with q | q
  ·rw [spec_Fold.f, if_neg (by omega)] at h; cases h
  ·exact q
 have hr : strOfNums ((bytesOf a0).map X.foldB) = r := by rw [spec_Fold.f, if_pos hs] at h; exact Option.some.inj h
 clear h
 have hconv : ∀ (W : World) (s : ByteArray), (convert 9 22 (.string s)).run Tryd.prog W = .ok (.slice (some ⟨W.heap.size, 0, none⟩) s.size (grownCap W s.size 0 5)) (Lib.bytesWorld W 5 s) := fun W s => Lib.run_convert_string_bytes (P := Tryd.prog) W 9 22 5 s Tryd.underlying9 Tryd.underlying22 Tryd.underlying5
 have H1 := Aside0.mk (X.Row8.new w 5 a0)
 have HB := Aside0.mk (X.below_bytesWorld w 5 a0)
 have HR := Aside0.mk hr
 have HL := Aside0.mk (bytesOf_length a0)
 clear hr
 go_enter Tryd.func162, Tryd.ntmps162
 go_wp2
 go_loopw [4] (fun v10 wr => ∃ i : Nat, i ≤ a0.size ∧ v10 = .int .i64 i ∧ Aside0 (X.Row8 wr w.heap.size a0.size (X.foldTo (bytesOf a0) i)) ∧ Aside0 (Below w.heap.size w wr)) (fun v10 _ => a0.size - (intOf v10).toNat)
 case atStart => exact ⟨0, Nat.zero_le _, rfl, ⟨by simpa [X.foldTo] using H1.out⟩, HB⟩
 case round =>
  obtain ⟨i, hi, rfl, HI, HB⟩ := hrel
  by_cases hlt : i < a0.size
  ·obtain ⟨c, hc⟩ : ∃ c, rd (bytesOf a0) i = c := ⟨_, rfl⟩
   have hcell := HI.out.cell i hlt
   rw [X.foldTo_rd _ _ (by rw [HL.out]; exact hlt), hc] at hcell
   have hfree := HI.out.free i hlt
   have hcb := X.rd_byte (X.bytes_bytesOf a0) (i : Int)
   rw [hc] at hcb
   obtain ⟨hc0, hc1⟩ := hcb
   have HC := Aside0.mk hc
   clear hc
   by_cases h65 : 65 ≤ c
   ·by_cases h90 : c ≤ 90
    ·have HE := Aside0.mk (show X.foldB c = c + 32 from if_pos ⟨h65, h90⟩)
     have HS := Aside0.mk (show spec_l1In.f c 65 90 = some true by unfold spec_l1In.f; rw [if_pos h65, decide_eq_true h90])
     go_wp2_with (go_at_call 86; refine (spec_l1In.calls c 65 90 true _ HS.out).mono ?_; rintro e w' ⟨rfl, ⟨nd, rfl⟩⟩)
     go_roundw
     case rel => exact ⟨i + 1, by omega, by go_num, ⟨X.Row8.fold (X.Row8.drewN HI.out _) HL.out hlt HC.out HE.out⟩, ⟨(pw_below_drewN HB.out _).setCell (Nat.le_refl _) _⟩⟩
     case measure => simp [intOf]; omega
    ·have HE := Aside0.mk (X.foldTo_same (bytesOf a0) i (by rw [HL.out]; exact hlt) (by rw [HC.out]; exact if_neg (fun q => h90 q.2)))
     have HS := Aside0.mk (show spec_l1In.f c 65 90 = some false by unfold spec_l1In.f; rw [if_pos h65, decide_eq_false h90])
     go_wp2_with (go_at_call 86; refine (spec_l1In.calls c 65 90 false _ HS.out).mono ?_; rintro e w' ⟨rfl, ⟨nd, rfl⟩⟩)
     go_roundw
     case rel => exact ⟨i + 1, by omega, by go_num, ⟨by rw [← HE.out]; exact X.Row8.drewN HI.out _⟩, ⟨pw_below_drewN HB.out _⟩⟩
     case measure => simp [intOf]; omega
   ·have HE := Aside0.mk (X.foldTo_same (bytesOf a0) i (by rw [HL.out]; exact hlt) (by rw [HC.out]; exact if_neg (fun q => h65 q.1)))
    have HS := Aside0.mk (show spec_l1In.f c 65 90 = some false by unfold spec_l1In.f; rw [if_neg h65])
    go_wp2_with (go_at_call 86; refine (spec_l1In.calls c 65 90 false _ HS.out).mono ?_; rintro e w' ⟨rfl, ⟨nd, rfl⟩⟩)
    go_roundw
    case rel => exact ⟨i + 1, by omega, by go_num, ⟨by rw [← HE.out]; exact X.Row8.drewN HI.out _⟩, ⟨pw_below_drewN HB.out _⟩⟩
    case measure => simp [intOf]; omega
  ·obtain rfl : i = a0.size := by omega
   have hback := run_convert_bytes_arg (P := Tryd.prog) wr 22 5 Tryd.underlying22 Tryd.underlying5 w.heap.size 0 a0.size (grownCap w a0.size 0 5) (X.foldTo (bytesOf a0) a0.size) HI.out.len (fun j hj => by rw [Nat.zero_add, HI.out.cell j hj]; rfl) 9 Tryd.underlying9
   go_wp2
   go_ret
   exact ⟨by rw [← HR.out, ← HL.out, X.foldTo_all]; rfl, HB.out⟩


end Go.Proofs.YtdigilidomimdaaDoor.Pr
