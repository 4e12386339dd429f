-- Written for this claim by a program of this session (wip/tool/pr.py, over the kit's printer).
-- half
import Derived.Test.YtfmnofjijodgcaaDoorPrx0
import Derived.Test.YtfmnofjijodgcaaDoorPrx8
import Derived.Test.YtfmnofjijodgcaaDoorPrx9
namespace Go.Proofs.YtfmnofjijodgcaaDoor.Pr
open Go.RowKit Go.Proofs.YtfmnofjijodgcaaDoorW.PrintWords Go.Proofs.YtfmnofjijodgcaaDoorW.PrintLast Go.Proofs.YtfmnofjijodgcaaDoorW.PrintMore
attribute [local go_sem] max2_int min2_int max_two min_two max_three min_three max_four min_four   -- for this text's walks alone
set_option linter.unusedVariables false
set_option linter.unusedSimpArgs false

/-! ### impl_RecordText: function 24 -/
def impl_RecordText.j0 : Nat → List ByteArray → Int → Bool → ByteArray → Int → Int → Int → ByteArray → ByteArray → Option (ByteArray)
 | 0, _, _, _, _, _, _, _, _, _ => none
 | k + 1, x3, x18, x27, x246000, x246001, x246002, x246003, x246004, x246005 => if x27 = true then ((impl_nameText.f x246004).bind fun t258 => (if x3.length < 8796093022208 then ((strings_Join.f (x3 ++ [t258]) (⟨#[32]⟩ : ByteArray)).bind fun t262 => (some t262)) else (none))) else (if x18 = 6 then ((impl_nameText.f x246004).bind fun t263 => ((impl_NumText.f k x246003).bind fun t264 => ((some (([t263, t264] : List ByteArray) : List ByteArray)).bind fun y265 => (if x3.length + y265.length < 8796093022208 then ((strings_Join.f (x3 ++ y265) (⟨#[32]⟩ : ByteArray)).bind fun t271 => (some t271)) else (none))))) else (if x18 = 16 then (if 1 + x246005.size ≤ 9223372036854775807 then (if x3.length < 8796093022208 then ((strings_Join.f (x3 ++ [(⟨#[39]⟩ : ByteArray) ++ x246005]) (⟨#[32]⟩ : ByteArray)).bind fun t275 => (some t275)) else (none)) else (none)) else ((strings_Join.f x3 (⟨#[32]⟩ : ByteArray)).bind fun t276 => (some t276))))
def impl_RecordText.f (k : Nat) (a0_0 : ByteArray) (a0_1 : Int) (a0_2 : Int) (a0_3 : Int) (a0_4 : ByteArray) (a0_5 : ByteArray) : Option (ByteArray) := (impl_RecordOk.f k a0_0 a0_1 a0_2 a0_3 a0_4 a0_5).bind fun t246 => (if t246 = true then ((impl_nameText.f a0_0).bind fun t247 => ((impl_NumText.f k a0_2).bind fun t248 => ((impl_TypeText.f a0_1).bind fun t249 => ((some (([t247, t248, t249] : List ByteArray) : List ByteArray)).bind fun y250 => (if a0_1 = 1 then ((impl_NumText.f k a0_3).bind fun t253 => (if y250.length < 8796093022208 then ((strings_Join.f (y250 ++ [t253]) (⟨#[32]⟩ : ByteArray)).bind fun t257 => (some t257)) else (none))) else (if a0_1 = 2 then (impl_RecordText.j0 k y250 a0_1 (a0_1 == 2) a0_0 a0_1 a0_2 a0_3 a0_4 a0_5) else (impl_RecordText.j0 k y250 a0_1 (a0_1 == 5) a0_0 a0_1 a0_2 a0_3 a0_4 a0_5))))))) else (some (⟨#[]⟩ : ByteArray)))
theorem impl_RecordText.mono_l : ∀ k, (∀ y0 y1 y2 y3 y4 y5 y6 y7 y8, LeO (impl_RecordText.j0 k y0 y1 y2 y3 y4 y5 y6 y7 y8) (impl_RecordText.j0 (k + 1) y0 y1 y2 y3 y4 y5 y6 y7 y8))
 | 0 => fun _ _ _ _ _ _ _ _ _ r h => by simp [impl_RecordText.j0] at h
 | k + 1 => by
  have ih0 := impl_RecordText.mono_l k
  ·intro y0 y1 y2 y3 y4 y5 y6 y7 y8
   unfold impl_RecordText.j0
   repeat' first
   | (with_reducible first | exact ih0 _ _ _ _ _ _ _ _ _ | exact impl_NumText.mono _ _ | exact impl_RecordOk.mono _ _ _ _ _ _ _ | exact LeO.refl _ | exact LeO.none _ | refine LeO.ite ?_ ?_ | refine LeO.bind ?_ (fun _ => ?_))
   | exact ih0 _ _ _ _ _ _ _ _ _
   | exact impl_NumText.mono _ _
   | exact impl_RecordOk.mono _ _ _ _ _ _ _
   | exact LeO.none _
   | refine LeO.ite ?_ ?_
   | refine LeO.bind ?_ (fun _ => ?_)
theorem impl_RecordText.mono : ∀ a0 a1 a2 a3 a4 a5 k, LeO (impl_RecordText.f k a0 a1 a2 a3 a4 a5) (impl_RecordText.f (k + 1) a0 a1 a2 a3 a4 a5) := by
 intro a0 a1 a2 a3 a4 a5 k
 have ih0 := impl_RecordText.mono_l k
 unfold impl_RecordText.f
 repeat' first
   | (with_reducible first | exact ih0 _ _ _ _ _ _ _ _ _ | exact impl_NumText.mono _ _ | exact impl_RecordOk.mono _ _ _ _ _ _ _ | exact LeO.refl _ | exact LeO.none _ | refine LeO.ite ?_ ?_ | refine LeO.bind ?_ (fun _ => ?_))
   | exact ih0 _ _ _ _ _ _ _ _ _
   | exact impl_NumText.mono _ _
   | exact impl_RecordOk.mono _ _ _ _ _ _ _
   | exact LeO.none _
   | refine LeO.ite ?_ ?_
   | refine LeO.bind ?_ (fun _ => ?_)
def impl_RecordText.T3 : Bool × List (List Nat × List Nat) := (true, [([], []), ([0], [0]), ([1], [1]), ([], []), ([3], [3]), ([4, 2], [4]), ([], []), ([6], [6]), ([7, 5], [7]), ([2, 5, 8], [2, 5, 8]), ([9, 8, 0, 1, 2, 3, 4, 5, 6, 7, 8, 9], [9])])
def impl_RecordText.B3 : List Nat := [0, 1, 3, 0, 8, 31, 0, 64, 255, 511, 1023]
theorem impl_RecordText.tab3 : rtab .any (opsOf Tryd.f24 3) = impl_RecordText.T3 := by kernel_rfl
theorem impl_RecordText.bits3 : waitsOk impl_RecordText.T3.2 impl_RecordText.B3 = true := by kernel_rfl
def impl_RecordText.T11 : Bool × List (List Nat × List Nat) := (true, [([], []), ([], []), ([1], [1]), ([2], [2]), ([], []), ([4], [4]), ([5, 3], [5]), ([3, 6], [3, 6]), ([0, 7, 6], [0, 7]), ([8, 8, 0, 1, 2, 3, 4, 5, 6, 7, 8], [0, 8])])
def impl_RecordText.B11 : List Nat := [0, 0, 2, 6, 0, 16, 62, 126, 255, 511]
theorem impl_RecordText.tab11 : rtab .any (opsOf Tryd.f24 11) = impl_RecordText.T11 := by kernel_rfl
theorem impl_RecordText.bits11 : waitsOk impl_RecordText.T11.2 impl_RecordText.B11 = true := by kernel_rfl
set_option maxHeartbeats 8000000 in
set_option maxRecDepth 100000 in
theorem impl_RecordText.calls (k : Nat) (a0_0 : ByteArray) (a0_1 : Int) (a0_2 : Int) (a0_3 : Int) (a0_4 : ByteArray) (a0_5 : ByteArray) (r : ByteArray) (w : World) (h : impl_RecordText.f k a0_0 a0_1 a0_2 a0_3 a0_4 a0_5 = some r) :
  Calls Tryd.prog 24 #[.agg #[.string a0_0, .int .i64 a0_1, .int .i64 a0_2, .int .i64 a0_3, .string a0_4, .string a0_5]] w fun e w' => e = .returned (.string r) ∧ Below w.heap.size w w' := by
 have hu33 := Tryd.underlying33
 have HB := aS (Below.refl w.heap.size w)
 have H : ((impl_RecordOk.f k a0_0 a0_1 a0_2 a0_3 a0_4 a0_5).bind fun t246 => (if t246 = true then ((impl_nameText.f a0_0).bind fun t247 => ((impl_NumText.f k a0_2).bind fun t248 => ((impl_TypeText.f a0_1).bind fun t249 => ((some (([t247, t248, t249] : List ByteArray) : List ByteArray)).bind fun y250 => (if a0_1 = 1 then ((impl_NumText.f k a0_3).bind fun t253 => (if y250.length < 8796093022208 then ((strings_Join.f (y250 ++ [t253]) (⟨#[32]⟩ : ByteArray)).bind fun t257 => (some t257)) else (none))) else (if a0_1 = 2 then (impl_RecordText.j0 k y250 a0_1 (a0_1 == 2) a0_0 a0_1 a0_2 a0_3 a0_4 a0_5) else (impl_RecordText.j0 k y250 a0_1 (a0_1 == 5) a0_0 a0_1 a0_2 a0_3 a0_4 a0_5))))))) else (some (⟨#[]⟩ : ByteArray)))) = some r := h
 clear h
 replace H := Option.bind_eq_some_iff.mp H
 obtain ⟨t246, A2, H⟩ := H
 try dsimp only at H
 replace A2 := aS A2
 by_cases c3 : t246 = true
 ·subst c3
  have H1 : ((impl_nameText.f a0_0).bind fun t247 => ((impl_NumText.f k a0_2).bind fun t248 => ((impl_TypeText.f a0_1).bind fun t249 => ((some (([t247, t248, t249] : List ByteArray) : List ByteArray)).bind fun y250 => (if a0_1 = 1 then ((impl_NumText.f k a0_3).bind fun t253 => (if y250.length < 8796093022208 then ((strings_Join.f (y250 ++ [t253]) (⟨#[32]⟩ : ByteArray)).bind fun t257 => (some t257)) else (none))) else (if a0_1 = 2 then (impl_RecordText.j0 k y250 a0_1 (a0_1 == 2) a0_0 a0_1 a0_2 a0_3 a0_4 a0_5) else (impl_RecordText.j0 k y250 a0_1 (a0_1 == 5) a0_0 a0_1 a0_2 a0_3 a0_4 a0_5))))))) = some r := by rw [if_pos rfl] at H; exact H
  clear H
  have H := H1
  clear H1
  replace H := Option.bind_eq_some_iff.mp H
  obtain ⟨t247, A4, H⟩ := H
  try dsimp only at H
  replace A4 := aS A4
  replace H := Option.bind_eq_some_iff.mp H
  obtain ⟨t248, A5, H⟩ := H
  try dsimp only at H
  replace A5 := aS A5
  replace H := Option.bind_eq_some_iff.mp H
  obtain ⟨t249, A6, H⟩ := H
  try dsimp only at H
  replace A6 := aS A6
  obtain ⟨y250, hy_⟩ : ∃ y_ : List ByteArray, y_ = (([t247, t248, t249] : List ByteArray)) := ⟨_, rfl⟩
  replace H : (if a0_1 = 1 then ((impl_NumText.f k a0_3).bind fun t253 => (if y250.length < 8796093022208 then ((strings_Join.f (y250 ++ [t253]) (⟨#[32]⟩ : ByteArray)).bind fun t257 => (some t257)) else (none))) else (if a0_1 = 2 then (impl_RecordText.j0 k y250 a0_1 (a0_1 == 2) a0_0 a0_1 a0_2 a0_3 a0_4 a0_5) else (impl_RecordText.j0 k y250 a0_1 (a0_1 == 5) a0_0 a0_1 a0_2 a0_3 a0_4 a0_5))) = some r := jD
  have Ny250 := aS hy_
  clear hy_
  by_cases c7 : a0_1 = 1
  ·rw [if_pos c7] at H
   have c7b0 : (a0_1 == 1) = true := beq_iff_eq.mpr c7
   have c7b1 : (a0_1 != 1) = false := bne_eq_false_iff_eq.mpr c7
   clear c7
   replace H := Option.bind_eq_some_iff.mp H
   obtain ⟨t253, A8, H⟩ := H
   try dsimp only at H
   replace A8 := aS A8
   by_cases c9 : y250.length < 8796093022208
   ·rw [if_pos c9] at H
    have LMc9 := aS c9
    clear c9
    obtain ⟨y254, hy_⟩ : ∃ y_ : List ByteArray, y_ = (y250 ++ [t253]) := ⟨_, rfl⟩
    replace H : ((strings_Join.f y254 (⟨#[32]⟩ : ByteArray)).bind fun t257 => (some t257)) = some r := jD
    have Ny254 := aS hy_
    clear hy_
    replace H := Option.bind_eq_some_iff.mp H
    obtain ⟨t257, A10, H⟩ := H
    try dsimp only at H
    replace A10 := aS A10
    obtain rfl := Option.some.inj H
    go_enter Tryd.func24, Tryd.ntmps24
    try go_wp2_with (first | ((with_reducible refine gate_dst (N := 1) rfl ?_); refine box_event ?hg (N := 1) ?hd (cs := #[.string a0_0, .int .i64 a0_1, .int .i64 a0_2, .int .i64 a0_3, .string a0_4, .string a0_5]) (t := 33) ?hr ?_; (case hd => rfl); (case hg => rfl); (case hr => first | (go_simp; done) | (go_simp; rfl)); intro gb245 hg w11 hbox hb; have n0_ := aS (below_step (wU HB.out) hb); have n1_ := aS (hbox); have n2_ := aS ((by rw [hg]; exact (below_size (wU HB.out)) : w.heap.size ≤ gb245)); have n3_ := aS ((by rw [hg]; exact (below_size (wU HB.out)) : w.heap.size ≤ gb245)); clear HB; revert n0_ n1_ n2_ n3_; intro HB BK245 GW245 GE245; clear hb hbox hg; have hcz12 := cells6f BK245.out) | ((with_reducible refine gate_callee (f := 60) rfl ?_); refine goesL_ (some 5) rfl rfl Tryd.func60 jK rfl #[.agg #[.string a0_0, .int .i64 a0_1, .int .i64 a0_2, .int .i64 a0_3, .string a0_4, .string a0_5]] rfl jA ?_; (with_reducible refine (impl_RecordOk.calls k a0_0 a0_1 a0_2 a0_3 a0_4 a0_5 true _ A2.out).mono ?_); rintro e w13 ⟨rfl, hb⟩; refine ⟨_, rfl, ?_⟩; have n0_ := aS (blk_below (bU BK245.out) hb); have n1_ := aS (below_step (wS1 HB.out GE245.out) hb); clear BK245 HB; revert n0_ n1_; intro BK245 HB; clear hb))
    have n0_ := aS (blk_drew BK245.out)
    have n1_ := aS (below_drew1 HB.out)
    clear BK245
    clear HB
    have BK245 := n0_
    have HB := n1_
    clear n0_ n1_
    refine start_ (n := 11) (S := fun w' => w'.cell? ⟨gb245, 0, none⟩ = some (.string a0_0) ∧ w'.cell? ⟨gb245, 1, none⟩ = some (.int .i64 a0_1) ∧ w'.cell? ⟨gb245, 2, none⟩ = some (.int .i64 a0_2) ∧ w'.cell? ⟨gb245, 3, none⟩ = some (.int .i64 a0_3) ∧ w'.cell? ⟨gb245, 4, none⟩ = some (.string a0_4) ∧ w'.cell? ⟨gb245, 5, none⟩ = some (.string a0_5)) (ds := []) #[false, false, false, false, false, false, false, false, false, false, false] jK rfl rfl ⟨(blk_cell BK245.out 0).trans rfl, (blk_cell BK245.out 1).trans rfl, (blk_cell BK245.out 2).trans rfl, (blk_cell BK245.out 3).trans rfl, (blk_cell BK245.out 4).trans rfl, (blk_cell BK245.out 5).trans rfl⟩ (fun hHeld => ?_); refine with_tabW impl_RecordText.tab3 impl_RecordText.bits3 (fun HT_ HW_ => ?_)
    generalize w13.drew = w14 at BK245 HB hHeld ⊢
    refine pure_ (i := 0) (N := some 7) (v := ?_) (a' := ?_) #[true, false, false, false, false, false, false, false, false, false, false] rfl rfl (any_of HT_.out jK) (fun _ _ _ h => h) (Or.inl ⟨by rfl, ?_⟩) ?_ ?_
    rotate_left
    ·intro w'
     go_simp
     with_reducible rfl
    rotate_left
    ·simp only [Act.put, List.setIfInBounds_toArray, List.set_cons_zero, List.set_cons_succ, i64_w, i32_w]
     rfl
    refine pure_ (i := 3) (N := some 10) (v := ?_) (a' := ?_) #[true, false, false, true, false, false, false, false, false, false, false] rfl rfl (any_of HT_.out jK) (fun _ _ _ h => h) (Or.inl ⟨by rfl, ?_⟩) ?_ ?_
    rotate_left
    ·intro w'
     go_simp
     with_reducible rfl
    rotate_left
    ·simp only [Act.put, List.setIfInBounds_toArray, List.set_cons_zero, List.set_cons_succ, i64_w, i32_w]
     rfl
    refine pure_ (i := 6) (N := some 13) (v := ?_) (a' := ?_) #[true, false, false, true, false, false, true, false, false, false, false] rfl rfl (any_of HT_.out jK) (fun _ _ _ h => h) (Or.inl ⟨by rfl, ?_⟩) ?_ ?_
    rotate_left
    ·intro w'
     go_simp
     with_reducible rfl
    rotate_left
    ·simp only [Act.put, List.setIfInBounds_toArray, List.set_cons_zero, List.set_cons_succ, i64_w, i32_w]
     rfl
    refine take_ (i := 1) (N := some 8) (v := ?_) (a' := ?_) #[true, true, false, true, false, false, true, false, false, false, false] rfl rfl (take_ofW HT_.out HW_.out jK) (fun _ _ _ h => h) (Or.inl ⟨by rfl, ?_⟩) hHeld ?_ ?_
    rotate_left
    ·rintro w' ⟨s0, s1, s2, s3, s4, s5⟩
     go_simp
     with_reducible rfl
    rotate_left
    ·simp only [Act.put, List.setIfInBounds_toArray, List.set_cons_zero, List.set_cons_succ, i64_w, i32_w]
     rfl
    refine take_ (i := 4) (N := some 11) (v := ?_) (a' := ?_) #[true, true, false, true, true, false, true, false, false, false, false] rfl rfl (take_ofW HT_.out HW_.out jK) (fun _ _ _ h => h) (Or.inl ⟨by rfl, ?_⟩) hHeld ?_ ?_
    rotate_left
    ·rintro w' ⟨s0, s1, s2, s3, s4, s5⟩
     go_simp
     with_reducible rfl
    rotate_left
    ·simp only [Act.put, List.setIfInBounds_toArray, List.set_cons_zero, List.set_cons_succ, i64_w, i32_w]
     rfl
    refine take_ (i := 7) (N := some 14) (v := ?_) (a' := ?_) #[true, true, false, true, true, false, true, true, false, false, false] rfl rfl (take_ofW HT_.out HW_.out jK) (fun _ _ _ h => h) (Or.inl ⟨by rfl, ?_⟩) hHeld ?_ ?_
    rotate_left
    ·rintro w' ⟨s0, s1, s2, s3, s4, s5⟩
     go_simp
     with_reducible rfl
    rotate_left
    ·simp only [Act.put, List.setIfInBounds_toArray, List.set_cons_zero, List.set_cons_succ, i64_w, i32_w]
     rfl
    refine one_ (i := 2) (N := some 9) #[true, true, true, true, true, false, true, true, false, false, false] rfl rfl (one_of HT_.out jK) (by decide) (fun K hK => ?_)
    refine goes_ Tryd.func61 jK rfl #[.string a0_0] (by rfl) rfl rfl jA ?_
    with_reducible refine (impl_nameText.calls a0_0 t247 _ A4.out).mono ?_
    rintro e w' ⟨rfl, ⟨nd, rfl⟩⟩
    refine ⟨_, rfl, ?_⟩
    refine hK.out _ _ ⟨(blk_cell BK245.out 0).trans rfl, (blk_cell BK245.out 1).trans rfl, (blk_cell BK245.out 2).trans rfl, (blk_cell BK245.out 3).trans rfl, (blk_cell BK245.out 4).trans rfl, (blk_cell BK245.out 5).trans rfl⟩ (fun hHeld => ?_)
    clear hK K
    refine norm_ (a' := ?_) ?_ ?_
    rotate_left
    ·show Act.put _ (some 9) _ = _
     simp only [Act.put, List.setIfInBounds_toArray, List.set_cons_zero, List.set_cons_succ, i64_w, i32_w]
     rfl
    refine one_ (i := 5) (N := some 12) #[true, true, true, true, true, true, true, true, false, false, false] rfl rfl (one_of HT_.out jK) (by decide) (fun K hK => ?_)
    refine goes_ Tryd.func62 jK rfl #[.int .i64 a0_2] (by rfl) rfl rfl jA ?_
    with_reducible refine (impl_NumText.calls k a0_2 t248 _ A5.out).mono ?_
    rintro e w' ⟨rfl, ⟨nd, rfl⟩⟩
    refine ⟨_, rfl, ?_⟩
    refine hK.out _ _ ⟨(blk_cell BK245.out 0).trans rfl, (blk_cell BK245.out 1).trans rfl, (blk_cell BK245.out 2).trans rfl, (blk_cell BK245.out 3).trans rfl, (blk_cell BK245.out 4).trans rfl, (blk_cell BK245.out 5).trans rfl⟩ (fun hHeld => ?_)
    clear hK K
    refine norm_ (a' := ?_) ?_ ?_
    rotate_left
    ·show Act.put _ (some 12) _ = _
     simp only [Act.put, List.setIfInBounds_toArray, List.set_cons_zero, List.set_cons_succ, i64_w, i32_w]
     rfl
    refine one_ (i := 8) (N := some 15) #[true, true, true, true, true, true, true, true, true, false, false] rfl rfl (one_of HT_.out jK) (by decide) (fun K hK => ?_)
    refine goes_ Tryd.func63 jK rfl #[.int .i64 a0_1] (by rfl) rfl rfl jA ?_
    with_reducible refine (impl_TypeText.calls a0_1 t249 _ A6.out).mono ?_
    rintro e w' ⟨rfl, ⟨nd, rfl⟩⟩
    refine ⟨_, rfl, ?_⟩
    refine hK.out _ _ ⟨(blk_cell BK245.out 0).trans rfl, (blk_cell BK245.out 1).trans rfl, (blk_cell BK245.out 2).trans rfl, (blk_cell BK245.out 3).trans rfl, (blk_cell BK245.out 4).trans rfl, (blk_cell BK245.out 5).trans rfl⟩ (fun hHeld => ?_)
    clear hK K
    refine norm_ (a' := ?_) ?_ ?_
    rotate_left
    ·show Act.put _ (some 15) _ = _
     simp only [Act.put, List.setIfInBounds_toArray, List.set_cons_zero, List.set_cons_succ, i64_w, i32_w]
     rfl
    refine one_ (i := 9) (N := some 16) #[true, true, true, true, true, true, true, true, true, true, false] rfl rfl (one_of HT_.out jK) (by decide) (fun K hK => ?_)
    refine Kd.R_lit_step Kd.string _ 9 ?hg (N := 16) ?hd (xs := ([t247, t248, t249] : List ByteArray)) (inner := [.string t247, .string t248, .string t249]) (ok := fun _ => True) (okp := fun _ => True) ?hr ?hp (fun _ hk => hk) trivial (Below.refl _ _) (Nat.le_refl _) (by simp) ?_; (case hd => rfl); (case hg => rfl); (case hr => first | (go_simp; done) | (go_simp; rfl)); (case hp => exact (Reps.one (show Kd.M Kd.string _ _ _ t247 [.string t247] from rfl) (Reps.one (show Kd.M Kd.string _ _ _ t248 [.string t248] from rfl) (Reps.one (show Kd.M Kd.string _ _ _ t249 [.string t249] from rfl) (Reps.none _ _)))))
    intro v251 w15 ho16 hb hg_ hnew_
    clear hg_ hnew_
    (first | rw [← Ny250.out] at ho16 | (simp only [Int.reduceToNat] at ho16; rw [← Ny250.out] at ho16))
    have n0_ := aS (Kd.R_lower ho16 (below_size (wS1 HB.out GE245.out)))
    have n1_ := aS (blk_below (bU BK245.out) hb)
    have n2_ := aS (below_step (wS1 HB.out GE245.out) hb)
    clear BK245
    clear HB
    have HO252 := n0_
    have BK245 := n1_
    have HB := n2_
    clear n0_ n1_ n2_
    clear hb ho16
    refine hK.out _ _ ⟨(blk_cell BK245.out 0).trans rfl, (blk_cell BK245.out 1).trans rfl, (blk_cell BK245.out 2).trans rfl, (blk_cell BK245.out 3).trans rfl, (blk_cell BK245.out 4).trans rfl, (blk_cell BK245.out 5).trans rfl⟩ (fun hHeld => ?_)
    clear hK K
    refine norm_ (a' := ?_) ?_ ?_
    rotate_left
    ·show Act.put _ (some 16) _ = _
     simp only [Act.put, List.setIfInBounds_toArray, List.set_cons_zero, List.set_cons_succ, i64_w, i32_w]
     rfl
    refine pure_ (i := 10) (N := some 3) (v := ?_) (a' := ?_) #[true, true, true, true, true, true, true, true, true, true, true] rfl rfl (any_of HT_.out jK) (fun _ _ _ h => h) (Or.inl ⟨by rfl, ?_⟩) ?_ ?_
    rotate_left
    ·intro w'
     go_simp
     with_reducible rfl
    rotate_left
    ·simp only [Act.put, List.setIfInBounds_toArray, List.set_cons_zero, List.set_cons_succ, i64_w, i32_w]
     rfl
    refine done_ (done_of HT_.out jK) ?_
    have hcz17 := cells6f BK245.out
    try go_wp2_with (first | ((with_reducible refine gate_callee (f := 62) rfl ?_); refine goesL_ (some 24) rfl rfl Tryd.func62 jK rfl #[.int .i64 a0_3] rfl jA ?_; (with_reducible refine (impl_NumText.calls k a0_3 t253 _ A8.out).mono ?_); rintro e w' ⟨rfl, ⟨nd, rfl⟩⟩; refine ⟨_, rfl, ?_⟩) | ((with_reducible refine gate_builtin (b := .append) (xs := #[.tmp 21, .tmp 25]) rfl ?_); at_builtin; refine Kd.R_append Kd.string (w0 := w) w.heap.size rfl (.tmp 21) (.tmp 25) 76 9 (.string ⟨#[]⟩) 16 rfl Tryd.underlying76 info9 rfl (by decide) (by omega) v251 y250 t253 [.string t253] (fun _ => True) (fun _ => False) rfl rfl ?aP (fun _ hk => hk.elim) ?aF ?aO ?aB ?aS ?aL ?_; (case aP => exact rfl); (case aB => exact (wS1 HB.out GE245.out)); (case aF => exact (fun _ _ => trivial)); (case aO => exact (rU HO252.out)); (case aS => exact (below_size (wS1 HB.out GE245.out))); (case aL => have := LMc9.out; omega); intro v255 w18 ho hb hg hat; rw [← Ny254.out] at ho; have n0_ := aS (blk_grown (g := gb245) (o := .cells #[.string a0_0, .int .i64 a0_1, .int .i64 a0_2, .int .i64 a0_3, .string a0_4, .string a0_5] 33 (0, 0)) (bU BK245.out) hg (Kd.R_ne HO252.out BK245.out (by decide))); have n1_ := aS (hb); have n2_ := aS (ho); clear BK245 HB HO252; revert n0_ n1_ n2_; intro BK245 HB HO256; clear ho hb hg hat; obtain ⟨Ao19, co19, eo19⟩ := Kd.R_slice HO256.out; subst eo19) | ((with_reducible refine gate_callee (f := 64) rfl ?_); refine goesL_ (some 56) rfl rfl Tryd.func64 jK rfl #[.slice Ao19 y254.length co19, .string (⟨#[32]⟩ : ByteArray)] rfl jA ?_; (with_reducible refine (strings_Join.calls _ _ y254 (⟨#[32]⟩ : ByteArray) t257 _ ?side1 ?side2 A10.out).mono ?_); (case side1 => exact cU ((Kd.R_reads' HO256.out).2.2)); (case side2 => exact (Kd.R_reads' HO256.out).2.1); rintro e w20 ⟨rfl, hb⟩; refine ⟨_, rfl, ?_⟩; have n0_ := aS (Kd.R_below (rU HO256.out) hb); have n1_ := aS (blk_below (bU BK245.out) hb); have n2_ := aS (below_step (wS1 HB.out GE245.out) hb); clear HO256 BK245 HB; revert n0_ n1_ n2_; intro HO256 BK245 HB; clear hb))
    go_ret
    exact ⟨jE, by exact wS1 HB.out GE245.out⟩
   ·rw [if_neg c9] at H
    exact absurd H (by simp)
  ·rw [if_neg c7] at H
   have c7b0 : (a0_1 == 1) = false := beq_eq_false_iff_ne.mpr c7
   have c7b1 : (a0_1 != 1) = true := bne_iff_ne.mpr c7
   have HC21 := aS H
   clear H
   go_enter Tryd.func24, Tryd.ntmps24
   try go_wp2_with (first | ((with_reducible refine gate_dst (N := 1) rfl ?_); refine box_event ?hg (N := 1) ?hd (cs := #[.string a0_0, .int .i64 a0_1, .int .i64 a0_2, .int .i64 a0_3, .string a0_4, .string a0_5]) (t := 33) ?hr ?_; (case hd => rfl); (case hg => rfl); (case hr => first | (go_simp; done) | (go_simp; rfl)); intro gb245 hg w22 hbox hb; have n0_ := aS (below_step (wU HB.out) hb); have n1_ := aS (hbox); have n2_ := aS ((by rw [hg]; exact (below_size (wU HB.out)) : w.heap.size ≤ gb245)); have n3_ := aS ((by rw [hg]; exact (below_size (wU HB.out)) : w.heap.size ≤ gb245)); clear HB; revert n0_ n1_ n2_ n3_; intro HB BK245 GW245 GE245; clear hb hbox hg; have hcz23 := cells6f BK245.out) | ((with_reducible refine gate_callee (f := 60) rfl ?_); refine goesL_ (some 5) rfl rfl Tryd.func60 jK rfl #[.agg #[.string a0_0, .int .i64 a0_1, .int .i64 a0_2, .int .i64 a0_3, .string a0_4, .string a0_5]] rfl jA ?_; (with_reducible refine (impl_RecordOk.calls k a0_0 a0_1 a0_2 a0_3 a0_4 a0_5 true _ A2.out).mono ?_); rintro e w24 ⟨rfl, hb⟩; refine ⟨_, rfl, ?_⟩; have n0_ := aS (blk_below (bU BK245.out) hb); have n1_ := aS (below_step (wS1 HB.out GE245.out) hb); clear BK245 HB; revert n0_ n1_; intro BK245 HB; clear hb))
   have n0_ := aS (blk_drew BK245.out)
   have n1_ := aS (below_drew1 HB.out)
   clear BK245
   clear HB
   have BK245 := n0_
   have HB := n1_
   clear n0_ n1_
   refine start_ (n := 11) (S := fun w' => w'.cell? ⟨gb245, 0, none⟩ = some (.string a0_0) ∧ w'.cell? ⟨gb245, 1, none⟩ = some (.int .i64 a0_1) ∧ w'.cell? ⟨gb245, 2, none⟩ = some (.int .i64 a0_2) ∧ w'.cell? ⟨gb245, 3, none⟩ = some (.int .i64 a0_3) ∧ w'.cell? ⟨gb245, 4, none⟩ = some (.string a0_4) ∧ w'.cell? ⟨gb245, 5, none⟩ = some (.string a0_5)) (ds := []) #[false, false, false, false, false, false, false, false, false, false, false] jK rfl rfl ⟨(blk_cell BK245.out 0).trans rfl, (blk_cell BK245.out 1).trans rfl, (blk_cell BK245.out 2).trans rfl, (blk_cell BK245.out 3).trans rfl, (blk_cell BK245.out 4).trans rfl, (blk_cell BK245.out 5).trans rfl⟩ (fun hHeld => ?_); refine with_tabW impl_RecordText.tab3 impl_RecordText.bits3 (fun HT_ HW_ => ?_)
   generalize w24.drew = w25 at BK245 HB hHeld ⊢
   refine pure_ (i := 0) (N := some 7) (v := ?_) (a' := ?_) #[true, false, false, false, false, false, false, false, false, false, false] rfl rfl (any_of HT_.out jK) (fun _ _ _ h => h) (Or.inl ⟨by rfl, ?_⟩) ?_ ?_
   rotate_left
   ·intro w'
    go_simp
    with_reducible rfl
   rotate_left
   ·simp only [Act.put, List.setIfInBounds_toArray, List.set_cons_zero, List.set_cons_succ, i64_w, i32_w]
    rfl
   refine pure_ (i := 3) (N := some 10) (v := ?_) (a' := ?_) #[true, false, false, true, false, false, false, false, false, false, false] rfl rfl (any_of HT_.out jK) (fun _ _ _ h => h) (Or.inl ⟨by rfl, ?_⟩) ?_ ?_
   rotate_left
   ·intro w'
    go_simp
    with_reducible rfl
   rotate_left
   ·simp only [Act.put, List.setIfInBounds_toArray, List.set_cons_zero, List.set_cons_succ, i64_w, i32_w]
    rfl
   refine pure_ (i := 6) (N := some 13) (v := ?_) (a' := ?_) #[true, false, false, true, false, false, true, false, false, false, false] rfl rfl (any_of HT_.out jK) (fun _ _ _ h => h) (Or.inl ⟨by rfl, ?_⟩) ?_ ?_
   rotate_left
   ·intro w'
    go_simp
    with_reducible rfl
   rotate_left
   ·simp only [Act.put, List.setIfInBounds_toArray, List.set_cons_zero, List.set_cons_succ, i64_w, i32_w]
    rfl
   refine take_ (i := 1) (N := some 8) (v := ?_) (a' := ?_) #[true, true, false, true, false, false, true, false, false, false, false] rfl rfl (take_ofW HT_.out HW_.out jK) (fun _ _ _ h => h) (Or.inl ⟨by rfl, ?_⟩) hHeld ?_ ?_
   rotate_left
   ·rintro w' ⟨s0, s1, s2, s3, s4, s5⟩
    go_simp
    with_reducible rfl
   rotate_left
   ·simp only [Act.put, List.setIfInBounds_toArray, List.set_cons_zero, List.set_cons_succ, i64_w, i32_w]
    rfl
   refine take_ (i := 4) (N := some 11) (v := ?_) (a' := ?_) #[true, true, false, true, true, false, true, false, false, false, false] rfl rfl (take_ofW HT_.out HW_.out jK) (fun _ _ _ h => h) (Or.inl ⟨by rfl, ?_⟩) hHeld ?_ ?_
   rotate_left
   ·rintro w' ⟨s0, s1, s2, s3, s4, s5⟩
    go_simp
    with_reducible rfl
   rotate_left
   ·simp only [Act.put, List.setIfInBounds_toArray, List.set_cons_zero, List.set_cons_succ, i64_w, i32_w]
    rfl
   refine take_ (i := 7) (N := some 14) (v := ?_) (a' := ?_) #[true, true, false, true, true, false, true, true, false, false, false] rfl rfl (take_ofW HT_.out HW_.out jK) (fun _ _ _ h => h) (Or.inl ⟨by rfl, ?_⟩) hHeld ?_ ?_
   rotate_left
   ·rintro w' ⟨s0, s1, s2, s3, s4, s5⟩
    go_simp
    with_reducible rfl
   rotate_left
   ·simp only [Act.put, List.setIfInBounds_toArray, List.set_cons_zero, List.set_cons_succ, i64_w, i32_w]
    rfl
   refine one_ (i := 2) (N := some 9) #[true, true, true, true, true, false, true, true, false, false, false] rfl rfl (one_of HT_.out jK) (by decide) (fun K hK => ?_)
   refine goes_ Tryd.func61 jK rfl #[.string a0_0] (by rfl) rfl rfl jA ?_
   with_reducible refine (impl_nameText.calls a0_0 t247 _ A4.out).mono ?_
   rintro e w' ⟨rfl, ⟨nd, rfl⟩⟩
   refine ⟨_, rfl, ?_⟩
   refine hK.out _ _ ⟨(blk_cell BK245.out 0).trans rfl, (blk_cell BK245.out 1).trans rfl, (blk_cell BK245.out 2).trans rfl, (blk_cell BK245.out 3).trans rfl, (blk_cell BK245.out 4).trans rfl, (blk_cell BK245.out 5).trans rfl⟩ (fun hHeld => ?_)
   clear hK K
   refine norm_ (a' := ?_) ?_ ?_
   rotate_left
   ·show Act.put _ (some 9) _ = _
    simp only [Act.put, List.setIfInBounds_toArray, List.set_cons_zero, List.set_cons_succ, i64_w, i32_w]
    rfl
   refine one_ (i := 5) (N := some 12) #[true, true, true, true, true, true, true, true, false, false, false] rfl rfl (one_of HT_.out jK) (by decide) (fun K hK => ?_)
   refine goes_ Tryd.func62 jK rfl #[.int .i64 a0_2] (by rfl) rfl rfl jA ?_
   with_reducible refine (impl_NumText.calls k a0_2 t248 _ A5.out).mono ?_
   rintro e w' ⟨rfl, ⟨nd, rfl⟩⟩
   refine ⟨_, rfl, ?_⟩
   refine hK.out _ _ ⟨(blk_cell BK245.out 0).trans rfl, (blk_cell BK245.out 1).trans rfl, (blk_cell BK245.out 2).trans rfl, (blk_cell BK245.out 3).trans rfl, (blk_cell BK245.out 4).trans rfl, (blk_cell BK245.out 5).trans rfl⟩ (fun hHeld => ?_)
   clear hK K
   refine norm_ (a' := ?_) ?_ ?_
   rotate_left
   ·show Act.put _ (some 12) _ = _
    simp only [Act.put, List.setIfInBounds_toArray, List.set_cons_zero, List.set_cons_succ, i64_w, i32_w]
    rfl
   refine one_ (i := 8) (N := some 15) #[true, true, true, true, true, true, true, true, true, false, false] rfl rfl (one_of HT_.out jK) (by decide) (fun K hK => ?_)
   refine goes_ Tryd.func63 jK rfl #[.int .i64 a0_1] (by rfl) rfl rfl jA ?_
   with_reducible refine (impl_TypeText.calls a0_1 t249 _ A6.out).mono ?_
   rintro e w' ⟨rfl, ⟨nd, rfl⟩⟩
   refine ⟨_, rfl, ?_⟩
   refine hK.out _ _ ⟨(blk_cell BK245.out 0).trans rfl, (blk_cell BK245.out 1).trans rfl, (blk_cell BK245.out 2).trans rfl, (blk_cell BK245.out 3).trans rfl, (blk_cell BK245.out 4).trans rfl, (blk_cell BK245.out 5).trans rfl⟩ (fun hHeld => ?_)
   clear hK K
   refine norm_ (a' := ?_) ?_ ?_
   rotate_left
   ·show Act.put _ (some 15) _ = _
    simp only [Act.put, List.setIfInBounds_toArray, List.set_cons_zero, List.set_cons_succ, i64_w, i32_w]
    rfl
   refine one_ (i := 9) (N := some 16) #[true, true, true, true, true, true, true, true, true, true, false] rfl rfl (one_of HT_.out jK) (by decide) (fun K hK => ?_)
   refine Kd.R_lit_step Kd.string _ 9 ?hg (N := 16) ?hd (xs := ([t247, t248, t249] : List ByteArray)) (inner := [.string t247, .string t248, .string t249]) (ok := fun _ => True) (okp := fun _ => True) ?hr ?hp (fun _ hk => hk) trivial (Below.refl _ _) (Nat.le_refl _) (by simp) ?_; (case hd => rfl); (case hg => rfl); (case hr => first | (go_simp; done) | (go_simp; rfl)); (case hp => exact (Reps.one (show Kd.M Kd.string _ _ _ t247 [.string t247] from rfl) (Reps.one (show Kd.M Kd.string _ _ _ t248 [.string t248] from rfl) (Reps.one (show Kd.M Kd.string _ _ _ t249 [.string t249] from rfl) (Reps.none _ _)))))
   intro v251 w26 ho27 hb hg_ hnew_
   clear hg_ hnew_
   (first | rw [← Ny250.out] at ho27 | (simp only [Int.reduceToNat] at ho27; rw [← Ny250.out] at ho27))
   have n0_ := aS (Kd.R_lower ho27 (below_size (wS1 HB.out GE245.out)))
   have n1_ := aS (blk_below (bU BK245.out) hb)
   have n2_ := aS (below_step (wS1 HB.out GE245.out) hb)
   clear BK245
   clear HB
   have HO252 := n0_
   have BK245 := n1_
   have HB := n2_
   clear n0_ n1_ n2_
   clear hb ho27
   refine hK.out _ _ ⟨(blk_cell BK245.out 0).trans rfl, (blk_cell BK245.out 1).trans rfl, (blk_cell BK245.out 2).trans rfl, (blk_cell BK245.out 3).trans rfl, (blk_cell BK245.out 4).trans rfl, (blk_cell BK245.out 5).trans rfl⟩ (fun hHeld => ?_)
   clear hK K
   refine norm_ (a' := ?_) ?_ ?_
   rotate_left
   ·show Act.put _ (some 16) _ = _
    simp only [Act.put, List.setIfInBounds_toArray, List.set_cons_zero, List.set_cons_succ, i64_w, i32_w]
    rfl
   refine pure_ (i := 10) (N := some 3) (v := ?_) (a' := ?_) #[true, true, true, true, true, true, true, true, true, true, true] rfl rfl (any_of HT_.out jK) (fun _ _ _ h => h) (Or.inl ⟨by rfl, ?_⟩) ?_ ?_
   rotate_left
   ·intro w'
    go_simp
    with_reducible rfl
   rotate_left
   ·simp only [Act.put, List.setIfInBounds_toArray, List.set_cons_zero, List.set_cons_succ, i64_w, i32_w]
    rfl
   refine done_ (done_of HT_.out jK) ?_
   have hcz28 := cells6f BK245.out
   go_upto_if 27 with (fail)
   go_cut [27] (fun v27 wc => ∃ (kq : Nat) (x27_20 : Bool), v27 = .bool x27_20 ∧ Aside0 (impl_RecordText.j0 kq y250 a0_1 x27_20 a0_0 a0_1 a0_2 a0_3 a0_4 a0_5 = some r) ∧ Aside0 (kq ≤ k) ∧ Aside0 (Kd.R Kd.string 9 wc w.heap.size (fun _ => True) v251 y250) ∧ Aside0 (wc.heap[gb245]? = some (.cells #[.string a0_0, .int .i64 a0_1, .int .i64 a0_2, .int .i64 a0_3, .string a0_4, .string a0_5] 33 (0, 0))) ∧ Aside0 (Below w.heap.size w wc))
   case first =>
    have H := HC21.out
    clear HC21
    by_cases c29 : a0_1 = 2
    ·rw [if_pos c29] at H
     have c29b0 : (a0_1 == 2) = true := beq_iff_eq.mpr c29
     have c29b1 : (a0_1 != 2) = false := bne_eq_false_iff_eq.mpr c29
     clear c29
     (first | rw [c29b0] | (simp only [i64_w, i32_w]; rw [c29b0]) | skip)
     have H' := aS H
     clear H
     go_wp2
     go_meet
     case rel => exact ⟨_, ((a0_1 == 2)), jB, H', ⟨by first | omega | exact Nat.le_refl _⟩, ⟨by (with_reducible repeat (first | apply Kd.R_alloc | apply Kd.R_drewN | apply Kd.R_drew)); exact HO252.out⟩, ⟨by (with_reducible repeat (first | refine blk_drewN ?_ _ | refine blk_drew ?_ | refine blk_alloc ?_ _)); exact BK245.out⟩, ⟨by exact wS1 HB.out GE245.out⟩⟩
    ·rw [if_neg c29] at H
     have c29b0 : (a0_1 == 2) = false := beq_eq_false_iff_ne.mpr c29
     have c29b1 : (a0_1 != 2) = true := bne_iff_ne.mpr c29
     (first | rw [c29b0] | (simp only [i64_w, i32_w]; rw [c29b0]) | skip)
     have H' := aS H
     clear H
     go_wp2
     go_meet
     case rel => exact ⟨_, ((a0_1 == 5)), jB, H', ⟨by first | omega | exact Nat.le_refl _⟩, ⟨by (with_reducible repeat (first | apply Kd.R_alloc | apply Kd.R_drewN | apply Kd.R_drew)); exact HO252.out⟩, ⟨by (with_reducible repeat (first | refine blk_drewN ?_ _ | refine blk_drew ?_ | refine blk_alloc ?_ _)); exact BK245.out⟩, ⟨by exact wS1 HB.out GE245.out⟩⟩
   case rest =>
    clear HC21
    try clear c2
    try clear p2
    try clear c3
    try clear c6
    try clear c7
    try clear c7b0
    try clear c7b1
    try clear c9
    try clear c24
    try clear c29
    try clear c29b0
    try clear c29b1
    try clear hcz12
    try clear hcz17
    try clear hcz23
    try clear hcz28
    obtain ⟨kq, x27_20, rfl, HA, HJ20, HO_3, BK245, HB⟩ := hcut
    cases kq with
    | zero => exact absurd HA.out (by simp [impl_RecordText.j0])
    | succ kj20 =>
     have H := HA.out
     clear HA
     simp only [impl_RecordText.j0] at H
     by_cases c30 : x27_20 = true
     ·subst c30
      have H1 : ((impl_nameText.f a0_4).bind fun t258 => (if y250.length < 8796093022208 then ((strings_Join.f (y250 ++ [t258]) (⟨#[32]⟩ : ByteArray)).bind fun t262 => (some t262)) else (none))) = some r := by rw [if_pos rfl] at H; exact H
      clear H
      have H := H1
      clear H1
      replace H := Option.bind_eq_some_iff.mp H
      obtain ⟨t258, A31, H⟩ := H
      try dsimp only at H
      replace A31 := aS A31
      by_cases c32 : y250.length < 8796093022208
      ·rw [if_pos c32] at H
       have LMc32 := aS c32
       clear c32
       obtain ⟨y259, hy_⟩ : ∃ y_ : List ByteArray, y_ = (y250 ++ [t258]) := ⟨_, rfl⟩
       replace H : ((strings_Join.f y259 (⟨#[32]⟩ : ByteArray)).bind fun t262 => (some t262)) = some r := jD
       have Ny259 := aS hy_
       clear hy_
       replace H := Option.bind_eq_some_iff.mp H
       obtain ⟨t262, A33, H⟩ := H
       try dsimp only at H
       replace A33 := aS A33
       obtain rfl := Option.some.inj H
       have hcz34 := cells6f BK245.out
       go_wp2_with (first | ((with_reducible refine gate_callee (f := 61) rfl ?_); refine goesL_ (some 33) rfl rfl Tryd.func61 jK rfl #[.string a0_4] rfl jA ?_; (with_reducible refine (impl_nameText.calls a0_4 t258 _ A31.out).mono ?_); rintro e w' ⟨rfl, ⟨nd, rfl⟩⟩; refine ⟨_, rfl, ?_⟩) | ((with_reducible refine gate_builtin (b := .append) (xs := #[.tmp 30, .tmp 34]) rfl ?_); at_builtin; refine Kd.R_append Kd.string (w0 := w) w.heap.size rfl (.tmp 30) (.tmp 34) 76 9 (.string ⟨#[]⟩) 16 rfl Tryd.underlying76 info9 rfl (by decide) (by omega) v251 y250 t258 [.string t258] (fun _ => True) (fun _ => False) rfl rfl ?aP (fun _ hk => hk.elim) ?aF ?aO ?aB ?aS ?aL ?_; (case aP => exact rfl); (case aB => exact (wS1 HB.out GE245.out)); (case aF => exact (fun _ _ => trivial)); (case aO => exact (rU HO_3.out)); (case aS => exact (below_size (wS1 HB.out GE245.out))); (case aL => have := LMc32.out; omega); intro v260 w35 ho hb hg hat; rw [← Ny259.out] at ho; have n0_ := aS (blk_grown (g := gb245) (o := .cells #[.string a0_0, .int .i64 a0_1, .int .i64 a0_2, .int .i64 a0_3, .string a0_4, .string a0_5] 33 (0, 0)) (bU BK245.out) hg (Kd.R_ne HO_3.out BK245.out (by decide))); have n1_ := aS (hb); have n2_ := aS (ho); clear BK245 HB HO_3; revert n0_ n1_ n2_; intro BK245 HB HO261; clear ho hb hg hat; obtain ⟨Ao36, co36, eo36⟩ := Kd.R_slice HO261.out; subst eo36) | ((with_reducible refine gate_callee (f := 64) rfl ?_); refine goesL_ (some 56) rfl rfl Tryd.func64 jK rfl #[.slice Ao36 y259.length co36, .string (⟨#[32]⟩ : ByteArray)] rfl jA ?_; (with_reducible refine (strings_Join.calls _ _ y259 (⟨#[32]⟩ : ByteArray) t262 _ ?side1 ?side2 A33.out).mono ?_); (case side1 => exact cU ((Kd.R_reads' HO261.out).2.2)); (case side2 => exact (Kd.R_reads' HO261.out).2.1); rintro e w37 ⟨rfl, hb⟩; refine ⟨_, rfl, ?_⟩; have n0_ := aS (Kd.R_below (rU HO261.out) hb); have n1_ := aS (blk_below (bU BK245.out) hb); have n2_ := aS (below_step (wS1 HB.out GE245.out) hb); clear HO261 BK245 HB; revert n0_ n1_ n2_; intro HO261 BK245 HB; clear hb))
       go_ret
       exact ⟨jE, by exact wS1 HB.out GE245.out⟩
      ·rw [if_neg c32] at H
       exact absurd H (by simp)
     ·replace c30 := Bool.eq_false_iff.mpr c30
      subst c30
      have H1 : (if a0_1 = 6 then ((impl_nameText.f a0_4).bind fun t263 => ((impl_NumText.f kj20 a0_3).bind fun t264 => ((some (([t263, t264] : List ByteArray) : List ByteArray)).bind fun y265 => (if y250.length + y265.length < 8796093022208 then ((strings_Join.f (y250 ++ y265) (⟨#[32]⟩ : ByteArray)).bind fun t271 => (some t271)) else (none))))) else (if a0_1 = 16 then (if 1 + a0_5.size ≤ 9223372036854775807 then (if y250.length < 8796093022208 then ((strings_Join.f (y250 ++ [(⟨#[39]⟩ : ByteArray) ++ a0_5]) (⟨#[32]⟩ : ByteArray)).bind fun t275 => (some t275)) else (none)) else (none)) else ((strings_Join.f y250 (⟨#[32]⟩ : ByteArray)).bind fun t276 => (some t276)))) = some r := by rw [if_neg (show ¬ (false = true) by decide)] at H; exact H
      clear H
      have H := H1
      clear H1
      by_cases c38 : a0_1 = 6
      ·rw [if_pos c38] at H
       have c38b0 : (a0_1 == 6) = true := beq_iff_eq.mpr c38
       have c38b1 : (a0_1 != 6) = false := bne_eq_false_iff_eq.mpr c38
       clear c38
       replace H := Option.bind_eq_some_iff.mp H
       obtain ⟨t263, A39, H⟩ := H
       try dsimp only at H
       replace A39 := aS A39
       replace H := Option.bind_eq_some_iff.mp H
       obtain ⟨t264, A40, H⟩ := H
       try dsimp only at H
       replace A40 := aS A40
       obtain ⟨y265, hy_⟩ : ∃ y_ : List ByteArray, y_ = (([t263, t264] : List ByteArray)) := ⟨_, rfl⟩
       replace H : (if y250.length + y265.length < 8796093022208 then ((strings_Join.f (y250 ++ y265) (⟨#[32]⟩ : ByteArray)).bind fun t271 => (some t271)) else (none)) = some r := jD
       have Ny265 := aS hy_
       clear hy_
       by_cases c41 : y250.length + y265.length < 8796093022208
       ·rw [if_pos c41] at H
        have LMc41 := aS c41
        clear c41
        obtain ⟨y268, hy_⟩ : ∃ y_ : List ByteArray, y_ = (y250 ++ y265) := ⟨_, rfl⟩
        replace H : ((strings_Join.f y268 (⟨#[32]⟩ : ByteArray)).bind fun t271 => (some t271)) = some r := jD
        have Ny268 := aS hy_
        clear hy_
        replace H := Option.bind_eq_some_iff.mp H
        obtain ⟨t271, A42, H⟩ := H
        try dsimp only at H
        replace A42 := aS A42
        obtain rfl := Option.some.inj H
        try go_wp2
        have n0_ := aS (Kd.R_drew HO_3.out)
        have n1_ := aS (blk_drew BK245.out)
        have n2_ := aS (below_drew1 HB.out)
        clear HO_3
        clear BK245
        clear HB
        have HO_3 := n0_
        have BK245 := n1_
        have HB := n2_
        clear n0_ n1_ n2_
        refine start_ (n := 10) (S := fun w' => w'.cell? ⟨gb245, 0, none⟩ = some (.string a0_0) ∧ w'.cell? ⟨gb245, 1, none⟩ = some (.int .i64 a0_1) ∧ w'.cell? ⟨gb245, 2, none⟩ = some (.int .i64 a0_2) ∧ w'.cell? ⟨gb245, 3, none⟩ = some (.int .i64 a0_3) ∧ w'.cell? ⟨gb245, 4, none⟩ = some (.string a0_4) ∧ w'.cell? ⟨gb245, 5, none⟩ = some (.string a0_5)) (ds := []) #[false, false, false, false, false, false, false, false, false, false] jK rfl rfl ⟨(blk_cell BK245.out 0).trans rfl, (blk_cell BK245.out 1).trans rfl, (blk_cell BK245.out 2).trans rfl, (blk_cell BK245.out 3).trans rfl, (blk_cell BK245.out 4).trans rfl, (blk_cell BK245.out 5).trans rfl⟩ (fun hHeld => ?_); refine with_tabW impl_RecordText.tab11 impl_RecordText.bits11 (fun HT_ HW_ => ?_)
        generalize wc.drew = w43 at HO_3 BK245 HB hHeld ⊢
        refine pure_ (i := 0) (N := some 38) (v := ?_) (a' := ?_) #[true, false, false, false, false, false, false, false, false, false] rfl rfl (any_of HT_.out jK) (fun _ _ _ h => h) (Or.inl ⟨by rfl, ?_⟩) ?_ ?_
        rotate_left
        ·intro w'
         go_simp
         with_reducible rfl
        rotate_left
        ·simp only [Act.put, List.setIfInBounds_toArray, List.set_cons_zero, List.set_cons_succ, i64_w, i32_w]
         rfl
        refine pure_ (i := 1) (N := some 39) (v := ?_) (a' := ?_) #[true, true, false, false, false, false, false, false, false, false] rfl rfl (any_of HT_.out jK) (fun _ _ _ h => h) (Or.inl ⟨by rfl, ?_⟩) ?_ ?_
        rotate_left
        ·intro w'
         go_simp
         with_reducible rfl
        rotate_left
        ·simp only [Act.put, List.setIfInBounds_toArray, List.set_cons_zero, List.set_cons_succ, i64_w, i32_w]
         rfl
        refine pure_ (i := 4) (N := some 42) (v := ?_) (a' := ?_) #[true, true, false, false, true, false, false, false, false, false] rfl rfl (any_of HT_.out jK) (fun _ _ _ h => h) (Or.inl ⟨by rfl, ?_⟩) ?_ ?_
        rotate_left
        ·intro w'
         go_simp
         with_reducible rfl
        rotate_left
        ·simp only [Act.put, List.setIfInBounds_toArray, List.set_cons_zero, List.set_cons_succ, i64_w, i32_w]
         rfl
        refine take_ (i := 2) (N := some 40) (v := ?_) (a' := ?_) #[true, true, true, false, true, false, false, false, false, false] rfl rfl (take_ofW HT_.out HW_.out jK) (fun _ _ _ h => h) (Or.inl ⟨by rfl, ?_⟩) hHeld ?_ ?_
        rotate_left
        ·rintro w' ⟨s0, s1, s2, s3, s4, s5⟩
         go_simp
         with_reducible rfl
        rotate_left
        ·simp only [Act.put, List.setIfInBounds_toArray, List.set_cons_zero, List.set_cons_succ, i64_w, i32_w]
         rfl
        refine take_ (i := 5) (N := some 43) (v := ?_) (a' := ?_) #[true, true, true, false, true, true, false, false, false, false] rfl rfl (take_ofW HT_.out HW_.out jK) (fun _ _ _ h => h) (Or.inl ⟨by rfl, ?_⟩) hHeld ?_ ?_
        rotate_left
        ·rintro w' ⟨s0, s1, s2, s3, s4, s5⟩
         go_simp
         with_reducible rfl
        rotate_left
        ·simp only [Act.put, List.setIfInBounds_toArray, List.set_cons_zero, List.set_cons_succ, i64_w, i32_w]
         rfl
        refine one_ (i := 3) (N := some 41) #[true, true, true, true, true, true, false, false, false, false] rfl rfl (one_of HT_.out jK) (by decide) (fun K hK => ?_)
        refine goes_ Tryd.func61 jK rfl #[.string a0_4] (by rfl) rfl rfl jA ?_
        with_reducible refine (impl_nameText.calls a0_4 t263 _ A39.out).mono ?_
        rintro e w' ⟨rfl, ⟨nd, rfl⟩⟩
        refine ⟨_, rfl, ?_⟩
        refine hK.out _ _ ⟨(blk_cell BK245.out 0).trans rfl, (blk_cell BK245.out 1).trans rfl, (blk_cell BK245.out 2).trans rfl, (blk_cell BK245.out 3).trans rfl, (blk_cell BK245.out 4).trans rfl, (blk_cell BK245.out 5).trans rfl⟩ (fun hHeld => ?_)
        clear hK K
        refine norm_ (a' := ?_) ?_ ?_
        rotate_left
        ·show Act.put _ (some 41) _ = _
         simp only [Act.put, List.setIfInBounds_toArray, List.set_cons_zero, List.set_cons_succ, i64_w, i32_w]
         rfl
        refine one_ (i := 6) (N := some 44) #[true, true, true, true, true, true, true, false, false, false] rfl rfl (one_of HT_.out jK) (by decide) (fun K hK => ?_)
        refine goes_ Tryd.func62 jK rfl #[.int .i64 a0_3] (by rfl) rfl rfl jA ?_
        with_reducible refine (impl_NumText.calls kj20 a0_3 t264 _ A40.out).mono ?_
        rintro e w' ⟨rfl, ⟨nd, rfl⟩⟩
        refine ⟨_, rfl, ?_⟩
        refine hK.out _ _ ⟨(blk_cell BK245.out 0).trans rfl, (blk_cell BK245.out 1).trans rfl, (blk_cell BK245.out 2).trans rfl, (blk_cell BK245.out 3).trans rfl, (blk_cell BK245.out 4).trans rfl, (blk_cell BK245.out 5).trans rfl⟩ (fun hHeld => ?_)
        clear hK K
        refine norm_ (a' := ?_) ?_ ?_
        rotate_left
        ·show Act.put _ (some 44) _ = _
         simp only [Act.put, List.setIfInBounds_toArray, List.set_cons_zero, List.set_cons_succ, i64_w, i32_w]
         rfl
        refine one_ (i := 7) (N := some 45) #[true, true, true, true, true, true, true, true, false, false] rfl rfl (one_of HT_.out jK) (by decide) (fun K hK => ?_)
        refine Kd.R_lit_step Kd.string _ 9 ?hg (N := 45) ?hd (xs := ([t263, t264] : List ByteArray)) (inner := [.string t263, .string t264]) (ok := fun _ => True) (okp := fun _ => True) ?hr ?hp (fun _ hk => hk) trivial (Below.refl _ _) (Nat.le_refl _) (by simp) ?_; (case hd => rfl); (case hg => rfl); (case hr => first | (go_simp; done) | (go_simp; rfl)); (case hp => exact (Reps.one (show Kd.M Kd.string _ _ _ t263 [.string t263] from rfl) (Reps.one (show Kd.M Kd.string _ _ _ t264 [.string t264] from rfl) (Reps.none _ _))))
        intro v266 w44 ho45 hb hg_ hnew_
        clear hg_ hnew_
        (first | rw [← Ny265.out] at ho45 | (simp only [Int.reduceToNat] at ho45; rw [← Ny265.out] at ho45))
        have n0_ := aS (Kd.R_elder' (rU HO_3.out) (Kd.R_base ho45) hb)
        have n1_ := aS (Kd.R_lower (Kd.R_new' ho45 (Kd.R_lt (rU HO_3.out))) (below_size (wS1 HB.out GE245.out)))
        have n2_ := aS (blk_below (bU BK245.out) hb)
        have n3_ := aS (below_step (wS1 HB.out GE245.out) hb)
        clear HO_3
        clear BK245
        clear HB
        have HO_3 := n0_
        have HO267 := n1_
        have BK245 := n2_
        have HB := n3_
        clear n0_ n1_ n2_ n3_
        clear hb ho45
        obtain ⟨Ao47, co47, eo47⟩ := Kd.R_slice HO267.out
        (first | subst eo47 | (injection eo47 with f1_ f2_ f3_; have f4_ := f1_.symm; have f5_ := f3_.symm; clear f1_ f2_ f3_; subst f4_; subst f5_))
        refine hK.out _ _ ⟨(blk_cell BK245.out 0).trans rfl, (blk_cell BK245.out 1).trans rfl, (blk_cell BK245.out 2).trans rfl, (blk_cell BK245.out 3).trans rfl, (blk_cell BK245.out 4).trans rfl, (blk_cell BK245.out 5).trans rfl⟩ (fun hHeld => ?_)
        clear hK K
        refine norm_ (a' := ?_) ?_ ?_
        rotate_left
        ·show Act.put _ (some 45) _ = _
         simp only [Act.put, List.setIfInBounds_toArray, List.set_cons_zero, List.set_cons_succ, i64_w, i32_w]
         rfl
        refine one_ (i := 8) (N := some 46) #[true, true, true, true, true, true, true, true, true, false] rfl rfl (one_of HT_.out jK) (by decide) (fun K hK => ?_)
        refine Kd.R_append_rows_step Kd.string (w0 := w) w.heap.size (by rfl) (.tmp 38) (.tmp 45) 76 9 (.string ⟨#[]⟩) 16 rfl Tryd.underlying76 info9 rfl (by decide) (by omega) v251 y250 y265 _ _ _ (fun k_ => some k_ ≠ (.slice Ao47 y265.length co47 : Value).ownBlock) (fun _ => False) rfl rfl ?aO ?aR (fun _ _ h => h) (fun _ h => h.elim) ?aF ?aB ?aS ?aL ?_
        (case aR => exact cU ((Kd.R_reads' HO267.out).2.2))
        (case aB => exact (wS1 HB.out GE245.out))
        (case aF => exact (fun k_ hk => Kd.fresh' (Kd.R_lt (rU HO267.out)) k_ hk))
        (case aO => exact (by (with_reducible repeat (first | apply Kd.R_alloc | apply Kd.R_drewN | apply Kd.R_drew)); exact Kd.R_mono HO_3.out (fun _ hk => hk.2)))
        (case aS => exact (below_size (wS1 HB.out GE245.out)))
        (case aL => have := LMc41.out; omega)
        intro v269 w46 ho hb hg hat
        rw [← Ny268.out] at ho
        have n0_ := aS (blk_grown (g := gb245) (o := .cells #[.string a0_0, .int .i64 a0_1, .int .i64 a0_2, .int .i64 a0_3, .string a0_4, .string a0_5] 33 (0, 0)) (bU BK245.out) hg (Kd.R_ne HO_3.out BK245.out (by decide)))
        have n1_ := aS (Kd.R_after (ok := (fun _ => True)) (rU HO267.out) hg hat)
        have n2_ := aS (hb)
        have n3_ := aS (ho)
        clear BK245
        clear HO267
        clear HB
        clear HO_3
        have BK245 := n0_
        have HO267 := n1_
        have HB := n2_
        have HO270 := n3_
        clear n0_ n1_ n2_ n3_
        clear ho hb hg hat
        refine hK.out _ _ ⟨(blk_cell BK245.out 0).trans rfl, (blk_cell BK245.out 1).trans rfl, (blk_cell BK245.out 2).trans rfl, (blk_cell BK245.out 3).trans rfl, (blk_cell BK245.out 4).trans rfl, (blk_cell BK245.out 5).trans rfl⟩ (fun hHeld => ?_)
        clear hK K
        refine norm_ (a' := ?_) ?_ ?_
        rotate_left
        ·show Act.put _ (some 46) _ = _
         simp only [Act.put, List.setIfInBounds_toArray, List.set_cons_zero, List.set_cons_succ, i64_w, i32_w]
         rfl
        refine pure_ (i := 9) (N := some 3) (v := ?_) (a' := ?_) #[true, true, true, true, true, true, true, true, true, true] rfl rfl (any_of HT_.out jK) (fun _ _ _ h => h) (Or.inl ⟨by rfl, ?_⟩) ?_ ?_
        rotate_left
        ·intro w'
         go_simp
         with_reducible rfl
        rotate_left
        ·simp only [Act.put, List.setIfInBounds_toArray, List.set_cons_zero, List.set_cons_succ, i64_w, i32_w]
         rfl
        refine done_ (done_of HT_.out jK) ?_
        obtain ⟨Ao48, co48, eo48⟩ := Kd.R_slice HO270.out
        subst eo48
        try go_wp2_with (first | ((with_reducible refine gate_callee (f := 64) rfl ?_); refine goesL_ (some 56) rfl rfl Tryd.func64 jK rfl #[.slice Ao48 y268.length co48, .string (⟨#[32]⟩ : ByteArray)] rfl jA ?_; (with_reducible refine (strings_Join.calls _ _ y268 (⟨#[32]⟩ : ByteArray) t271 _ ?side1 ?side2 A42.out).mono ?_); (case side1 => exact cU ((Kd.R_reads' HO270.out).2.2)); (case side2 => exact (Kd.R_reads' HO270.out).2.1); rintro e w49 ⟨rfl, hb⟩; refine ⟨_, rfl, ?_⟩; have n0_ := aS (Kd.R_below (rU HO267.out) hb); have n1_ := aS (Kd.R_below (rU HO270.out) hb); have n2_ := aS (blk_below (bU BK245.out) hb); have n3_ := aS (below_step (wS1 HB.out GE245.out) hb); clear HO267 HO270 BK245 HB; revert n0_ n1_ n2_ n3_; intro HO267 HO270 BK245 HB; clear hb))
        go_ret
        exact ⟨jE, by exact wS1 HB.out GE245.out⟩
       ·rw [if_neg c41] at H
        exact absurd H (by simp)
      ·rw [if_neg c38] at H
       have c38b0 : (a0_1 == 6) = false := beq_eq_false_iff_ne.mpr c38
       have c38b1 : (a0_1 != 6) = true := bne_iff_ne.mpr c38
       by_cases c50 : a0_1 = 16
       ·rw [if_pos c50] at H
        have c50b0 : (a0_1 == 16) = true := beq_iff_eq.mpr c50
        have c50b1 : (a0_1 != 16) = false := bne_eq_false_iff_eq.mpr c50
        clear c50
        by_cases c51 : 1 + a0_5.size ≤ 9223372036854775807
        ·rw [if_pos c51] at H
         have c51b0 := eq_true c51
         have c51b1 : decide (1 + a0_5.size ≤ 9223372036854775807) = true := decide_eq_true c51
         try have c51b2 : (9223372036854775807 < 1 + a0_5.size) = False := eq_false (Nat.not_lt.2 c51)
         by_cases c52 : y250.length < 8796093022208
         ·rw [if_pos c52] at H
          have LMc52 := aS c52
          clear c52
          obtain ⟨y272, hy_⟩ : ∃ y_ : List ByteArray, y_ = (y250 ++ [(⟨#[39]⟩ : ByteArray) ++ a0_5]) := ⟨_, rfl⟩
          replace H : ((strings_Join.f y272 (⟨#[32]⟩ : ByteArray)).bind fun t275 => (some t275)) = some r := jD
          have Ny272 := aS hy_
          clear hy_
          replace H := Option.bind_eq_some_iff.mp H
          obtain ⟨t275, A53, H⟩ := H
          try dsimp only at H
          replace A53 := aS A53
          obtain rfl := Option.some.inj H
          have hcz54 := cells6f BK245.out
          go_wp2_with (first | ((with_reducible refine gate_builtin (b := .append) (xs := #[.tmp 49, .tmp 53]) rfl ?_); at_builtin; refine Kd.R_append Kd.string (w0 := w) w.heap.size rfl (.tmp 49) (.tmp 53) 76 9 (.string ⟨#[]⟩) 16 rfl Tryd.underlying76 info9 rfl (by decide) (by omega) v251 y250 ((⟨#[39]⟩ : ByteArray) ++ a0_5) [.string ((⟨#[39]⟩ : ByteArray) ++ a0_5)] (fun _ => True) (fun _ => False) rfl rfl ?aP (fun _ hk => hk.elim) ?aF ?aO ?aB ?aS ?aL ?_; (case aP => exact rfl); (case aB => exact (wS1 HB.out GE245.out)); (case aF => exact (fun _ _ => trivial)); (case aO => exact (rU HO_3.out)); (case aS => exact (below_size (wS1 HB.out GE245.out))); (case aL => have := LMc52.out; omega); intro v273 w55 ho hb hg hat; rw [← Ny272.out] at ho; have n0_ := aS (blk_grown (g := gb245) (o := .cells #[.string a0_0, .int .i64 a0_1, .int .i64 a0_2, .int .i64 a0_3, .string a0_4, .string a0_5] 33 (0, 0)) (bU BK245.out) hg (Kd.R_ne HO_3.out BK245.out (by decide))); have n1_ := aS (hb); have n2_ := aS (ho); clear BK245 HB HO_3; revert n0_ n1_ n2_; intro BK245 HB HO274; clear ho hb hg hat; obtain ⟨Ao56, co56, eo56⟩ := Kd.R_slice HO274.out; subst eo56) | ((with_reducible refine gate_callee (f := 64) rfl ?_); refine goesL_ (some 56) rfl rfl Tryd.func64 jK rfl #[.slice Ao56 y272.length co56, .string (⟨#[32]⟩ : ByteArray)] rfl jA ?_; (with_reducible refine (strings_Join.calls _ _ y272 (⟨#[32]⟩ : ByteArray) t275 _ ?side1 ?side2 A53.out).mono ?_); (case side1 => exact cU ((Kd.R_reads' HO274.out).2.2)); (case side2 => exact (Kd.R_reads' HO274.out).2.1); rintro e w57 ⟨rfl, hb⟩; refine ⟨_, rfl, ?_⟩; have n0_ := aS (Kd.R_below (rU HO274.out) hb); have n1_ := aS (blk_below (bU BK245.out) hb); have n2_ := aS (below_step (wS1 HB.out GE245.out) hb); clear HO274 BK245 HB; revert n0_ n1_ n2_; intro HO274 BK245 HB; clear hb))
          go_ret
          exact ⟨jE, by exact wS1 HB.out GE245.out⟩
         ·rw [if_neg c52] at H
          exact absurd H (by simp)
        ·rw [if_neg c51] at H
         exact absurd H (by simp)
       ·rw [if_neg c50] at H
        have c50b0 : (a0_1 == 16) = false := beq_eq_false_iff_ne.mpr c50
        have c50b1 : (a0_1 != 16) = true := bne_iff_ne.mpr c50
        replace H := Option.bind_eq_some_iff.mp H
        obtain ⟨t276, A58, H⟩ := H
        try dsimp only at H
        replace A58 := aS A58
        obtain rfl := Option.some.inj H
        obtain ⟨Ao59, co59, eo59⟩ := Kd.R_slice HO_3.out
        subst eo59
        go_wp2_with (first | ((with_reducible refine gate_callee (f := 64) rfl ?_); refine goesL_ (some 56) rfl rfl Tryd.func64 jK rfl #[.slice Ao59 y250.length co59, .string (⟨#[32]⟩ : ByteArray)] rfl jA ?_; (with_reducible refine (strings_Join.calls _ _ y250 (⟨#[32]⟩ : ByteArray) t276 _ ?side1 ?side2 A58.out).mono ?_); (case side1 => exact cU ((Kd.R_reads' HO_3.out).2.2)); (case side2 => exact (Kd.R_reads' HO_3.out).2.1); rintro e w60 ⟨rfl, hb⟩; refine ⟨_, rfl, ?_⟩; have n0_ := aS (Kd.R_below (rU HO_3.out) hb); have n1_ := aS (blk_below (bU BK245.out) hb); have n2_ := aS (below_step (wS1 HB.out GE245.out) hb); clear HO_3 BK245 HB; revert n0_ n1_ n2_; intro HO_3 BK245 HB; clear hb))
        go_ret
        exact ⟨jE, by exact wS1 HB.out GE245.out⟩
 ·replace c3 := Bool.eq_false_iff.mpr c3
  subst c3
  have H1 : (some (⟨#[]⟩ : ByteArray)) = some r := by rw [if_neg (show ¬ (false = true) by decide)] at H; exact H
  clear H
  have H := H1
  clear H1
  obtain rfl := Option.some.inj H
  go_enter Tryd.func24, Tryd.ntmps24
  go_wp2_with (first | ((with_reducible refine gate_dst (N := 1) rfl ?_); refine box_event ?hg (N := 1) ?hd (cs := #[.string a0_0, .int .i64 a0_1, .int .i64 a0_2, .int .i64 a0_3, .string a0_4, .string a0_5]) (t := 33) ?hr ?_; (case hd => rfl); (case hg => rfl); (case hr => first | (go_simp; done) | (go_simp; rfl)); intro gb245 hg w61 hbox hb; have n0_ := aS (below_step (wU HB.out) hb); have n1_ := aS (hbox); have n2_ := aS ((by rw [hg]; exact (below_size (wU HB.out)) : w.heap.size ≤ gb245)); have n3_ := aS ((by rw [hg]; exact (below_size (wU HB.out)) : w.heap.size ≤ gb245)); clear HB; revert n0_ n1_ n2_ n3_; intro HB BK245 GW245 GE245; clear hb hbox hg; have hcz62 := cells6f BK245.out) | ((with_reducible refine gate_callee (f := 60) rfl ?_); refine goesL_ (some 5) rfl rfl Tryd.func60 jK rfl #[.agg #[.string a0_0, .int .i64 a0_1, .int .i64 a0_2, .int .i64 a0_3, .string a0_4, .string a0_5]] rfl jA ?_; (with_reducible refine (impl_RecordOk.calls k a0_0 a0_1 a0_2 a0_3 a0_4 a0_5 false _ A2.out).mono ?_); rintro e w63 ⟨rfl, hb⟩; refine ⟨_, rfl, ?_⟩; have n0_ := aS (blk_below (bU BK245.out) hb); have n1_ := aS (below_step (wS1 HB.out GE245.out) hb); clear BK245 HB; revert n0_ n1_; intro BK245 HB; clear hb))
  go_ret
  exact ⟨jE, by exact wS1 HB.out GE245.out⟩

/-! ### impl_TypeOk: function 91 -/
def impl_TypeOk.f (a0 : Int) : Option (Bool) := (impl_TypeText.f a0).bind fun t277 => (some (t277.toList != ([] : List UInt8)))
set_option maxHeartbeats 8000000 in
set_option maxRecDepth 100000 in
theorem impl_TypeOk.calls (a0 : Int) (r : Bool) (w : World) (h : impl_TypeOk.f a0 = some r) :
  Calls Tryd.prog 91 #[.int .i64 a0] w fun e w' => e = .returned (.bool r) ∧ Drawn0 w w' := by
 have H : ((impl_TypeText.f a0).bind fun t277 => (some (t277.toList != ([] : List UInt8)))) = some r := h
 clear h
 replace H := Option.bind_eq_some_iff.mp H
 obtain ⟨t277, A2, H⟩ := H
 try dsimp only at H
 replace A2 := aS A2
 obtain rfl := Option.some.inj H
 go_enter Tryd.func91, Tryd.ntmps91
 go_wp2_with (first | ((with_reducible refine gate_callee (f := 63) rfl ?_); refine goesL_ (some 4) rfl rfl Tryd.func63 jK rfl #[.int .i64 a0] rfl jA ?_; (with_reducible refine (impl_TypeText.calls a0 t277 _ A2.out).mono ?_); rintro e w' ⟨rfl, ⟨nd, rfl⟩⟩; refine ⟨_, rfl, ?_⟩))
 go_ret
 exact ⟨by first | rfl | (simp; done) | (simp [*]; done) | (simp [X.bne_nil, X.beq_nil]; done) | (simp [*, X.bne_nil, X.beq_nil]; done) | (simp [X.bne_nil, X.beq_nil]; done), by repeat (first | exact Drawn0.refl _ | apply Drawn0.step)⟩

/-! ### impl_QuestOk: function 70 -/
def impl_QuestOk.f (k : Nat) (a0_0 : ByteArray) (a0_1 : Int) : Option (Bool) := (impl_NameOk.f k a0_0).bind fun t279 => (if t279 = true then ((impl_TypeOk.f a0_1).bind fun t280 => (some t280)) else (some false))
theorem impl_QuestOk.mono : ∀ a0 a1 k, LeO (impl_QuestOk.f k a0 a1) (impl_QuestOk.f (k + 1) a0 a1) := by
 intro a0 a1 k
 unfold impl_QuestOk.f
 repeat' first
   | (with_reducible first | exact impl_NameOk.mono _ _ | exact LeO.refl _ | exact LeO.none _ | refine LeO.ite ?_ ?_ | refine LeO.bind ?_ (fun _ => ?_))
   | exact impl_NameOk.mono _ _
   | exact LeO.none _
   | refine LeO.ite ?_ ?_
   | refine LeO.bind ?_ (fun _ => ?_)
set_option maxHeartbeats 8000000 in
set_option maxRecDepth 100000 in
theorem impl_QuestOk.calls (k : Nat) (a0_0 : ByteArray) (a0_1 : Int) (r : Bool) (w : World) (h : impl_QuestOk.f k a0_0 a0_1 = some r) :
  Calls Tryd.prog 70 #[.agg #[.string a0_0, .int .i64 a0_1]] w fun e w' => e = .returned (.bool r) ∧ Below w.heap.size w w' := by
 have hu45 := Tryd.underlying45
 have HB := aS (Below.refl w.heap.size w)
 have H : ((impl_NameOk.f k a0_0).bind fun t279 => (if t279 = true then ((impl_TypeOk.f a0_1).bind fun t280 => (some t280)) else (some false))) = some r := h
 clear h
 replace H := Option.bind_eq_some_iff.mp H
 obtain ⟨t279, A2, H⟩ := H
 try dsimp only at H
 replace A2 := aS A2
 by_cases c3 : t279 = true
 ·subst c3
  have H1 : ((impl_TypeOk.f a0_1).bind fun t280 => (some t280)) = some r := by rw [if_pos rfl] at H; exact H
  clear H
  have H := H1
  clear H1
  replace H := Option.bind_eq_some_iff.mp H
  obtain ⟨t280, A4, H⟩ := H
  try dsimp only at H
  replace A4 := aS A4
  obtain rfl := Option.some.inj H
  go_enter Tryd.func70, Tryd.ntmps70
  go_wp2_with (first | ((with_reducible refine gate_dst (N := 1) rfl ?_); refine box_event ?hg (N := 1) ?hd (cs := #[.string a0_0, .int .i64 a0_1]) (t := 45) ?hr ?_; (case hd => rfl); (case hg => rfl); (case hr => first | (go_simp; done) | (go_simp; rfl)); intro gb278 hg w5 hbox hb; have n0_ := aS (below_step (wU HB.out) hb); have n1_ := aS (hbox); have n2_ := aS ((by rw [hg]; exact (below_size (wU HB.out)) : w.heap.size ≤ gb278)); have n3_ := aS ((by rw [hg]; exact (below_size (wU HB.out)) : w.heap.size ≤ gb278)); clear HB; revert n0_ n1_ n2_ n3_; intro HB BK278 GW278 GE278; clear hb hbox hg; have hcz6 := cells2f BK278.out) | ((with_reducible refine gate_callee (f := 83) rfl ?_); refine goesL_ (some 5) rfl rfl Tryd.func83 jK rfl #[.string a0_0] rfl jA ?_; (with_reducible refine (impl_NameOk.calls k a0_0 true _ A2.out).mono ?_); rintro e w7 ⟨rfl, hb⟩; refine ⟨_, rfl, ?_⟩; have n0_ := aS (blk_below (bU BK278.out) hb); have n1_ := aS (below_step (wS1 HB.out GE278.out) hb); clear BK278 HB; revert n0_ n1_; intro BK278 HB; clear hb; have hcz8 := cells2f BK278.out) | (go_at_call 91; (with_reducible refine (impl_TypeOk.calls a0_1 t280 _ A4.out).mono ?_); rintro e w' ⟨rfl, ⟨nd, rfl⟩⟩))
  go_ret
  exact ⟨jE, by exact wS1 HB.out GE278.out⟩
 ·replace c3 := Bool.eq_false_iff.mpr c3
  subst c3
  have H1 : (some false) = some r := by rw [if_neg (show ¬ (false = true) by decide)] at H; exact H
  clear H
  have H := H1
  clear H1
  obtain rfl := Option.some.inj H
  go_enter Tryd.func70, Tryd.ntmps70
  go_wp2_with (first | ((with_reducible refine gate_dst (N := 1) rfl ?_); refine box_event ?hg (N := 1) ?hd (cs := #[.string a0_0, .int .i64 a0_1]) (t := 45) ?hr ?_; (case hd => rfl); (case hg => rfl); (case hr => first | (go_simp; done) | (go_simp; rfl)); intro gb278 hg w9 hbox hb; have n0_ := aS (below_step (wU HB.out) hb); have n1_ := aS (hbox); have n2_ := aS ((by rw [hg]; exact (below_size (wU HB.out)) : w.heap.size ≤ gb278)); have n3_ := aS ((by rw [hg]; exact (below_size (wU HB.out)) : w.heap.size ≤ gb278)); clear HB; revert n0_ n1_ n2_ n3_; intro HB BK278 GW278 GE278; clear hb hbox hg; have hcz10 := cells2f BK278.out) | ((with_reducible refine gate_callee (f := 83) rfl ?_); refine goesL_ (some 5) rfl rfl Tryd.func83 jK rfl #[.string a0_0] rfl jA ?_; (with_reducible refine (impl_NameOk.calls k a0_0 false _ A2.out).mono ?_); rintro e w11 ⟨rfl, hb⟩; refine ⟨_, rfl, ?_⟩; have n0_ := aS (blk_below (bU BK278.out) hb); have n1_ := aS (below_step (wS1 HB.out GE278.out) hb); clear BK278 HB; revert n0_ n1_; intro BK278 HB; clear hb))
  go_ret
  exact ⟨jE, by exact wS1 HB.out GE278.out⟩

/-! ### impl_allOk_1: function 113 -/
def impl_allOk_1.f (k : Nat) (a0_0 : ByteArray) (a0_1 : Int) (a0_2 : Int) (a0_3 : Int) (a0_4 : ByteArray) (a0_5 : ByteArray) : Option (Bool) := (impl_RecordOk.f k a0_0 a0_1 a0_2 a0_3 a0_4 a0_5).bind fun t282 => (some (!t282))
theorem impl_allOk_1.mono : ∀ a0 a1 a2 a3 a4 a5 k, LeO (impl_allOk_1.f k a0 a1 a2 a3 a4 a5) (impl_allOk_1.f (k + 1) a0 a1 a2 a3 a4 a5) := by
 intro a0 a1 a2 a3 a4 a5 k
 unfold impl_allOk_1.f
 repeat' first
   | (with_reducible first | exact impl_RecordOk.mono _ _ _ _ _ _ _ | exact LeO.refl _ | exact LeO.none _ | refine LeO.ite ?_ ?_ | refine LeO.bind ?_ (fun _ => ?_))
   | exact impl_RecordOk.mono _ _ _ _ _ _ _
   | exact LeO.none _
   | refine LeO.ite ?_ ?_
   | refine LeO.bind ?_ (fun _ => ?_)
set_option maxHeartbeats 8000000 in
set_option maxRecDepth 100000 in
theorem impl_allOk_1.calls (k : Nat) (a0_0 : ByteArray) (a0_1 : Int) (a0_2 : Int) (a0_3 : Int) (a0_4 : ByteArray) (a0_5 : ByteArray) (r : Bool) (w : World) (h : impl_allOk_1.f k a0_0 a0_1 a0_2 a0_3 a0_4 a0_5 = some r) :
  Calls Tryd.prog 113 #[.agg #[.string a0_0, .int .i64 a0_1, .int .i64 a0_2, .int .i64 a0_3, .string a0_4, .string a0_5]] w fun e w' => e = .returned (.bool r) ∧ Below w.heap.size w w' := by
 have hu33 := Tryd.underlying33
 have HB := aS (Below.refl w.heap.size w)
 have H : ((impl_RecordOk.f k a0_0 a0_1 a0_2 a0_3 a0_4 a0_5).bind fun t282 => (some (!t282))) = some r := h
 clear h
 replace H := Option.bind_eq_some_iff.mp H
 obtain ⟨t282, A2, H⟩ := H
 try dsimp only at H
 replace A2 := aS A2
 obtain rfl := Option.some.inj H
 go_enter Tryd.func113, Tryd.ntmps113
 go_wp2_with (first | ((with_reducible refine gate_dst (N := 1) rfl ?_); refine box_event ?hg (N := 1) ?hd (cs := #[.string a0_0, .int .i64 a0_1, .int .i64 a0_2, .int .i64 a0_3, .string a0_4, .string a0_5]) (t := 33) ?hr ?_; (case hd => rfl); (case hg => rfl); (case hr => first | (go_simp; done) | (go_simp; rfl)); intro gb281 hg w3 hbox hb; have n0_ := aS (below_step (wU HB.out) hb); have n1_ := aS (hbox); have n2_ := aS ((by rw [hg]; exact (below_size (wU HB.out)) : w.heap.size ≤ gb281)); have n3_ := aS ((by rw [hg]; exact (below_size (wU HB.out)) : w.heap.size ≤ gb281)); clear HB; revert n0_ n1_ n2_ n3_; intro HB BK281 GW281 GE281; clear hb hbox hg; have hcz4 := cells6f BK281.out) | ((with_reducible refine gate_callee (f := 60) rfl ?_); refine goesL_ (some 4) rfl rfl Tryd.func60 jK rfl #[.agg #[.string a0_0, .int .i64 a0_1, .int .i64 a0_2, .int .i64 a0_3, .string a0_4, .string a0_5]] rfl jA ?_; (with_reducible refine (impl_RecordOk.calls k a0_0 a0_1 a0_2 a0_3 a0_4 a0_5 t282 _ A2.out).mono ?_); rintro e w5 ⟨rfl, hb⟩; refine ⟨_, rfl, ?_⟩; have n0_ := aS (blk_below (bU BK281.out) hb); have n1_ := aS (below_step (wS1 HB.out GE281.out) hb); clear BK281 HB; revert n0_ n1_; intro BK281 HB; clear hb))
 go_ret
 exact ⟨jE, by exact wS1 HB.out GE281.out⟩

end Go.Proofs.YtfmnofjijodgcaaDoor.Pr
