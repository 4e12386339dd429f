-- Written for this claim by a program of this session (wip/tool/pr.py, over the kit's printer).
-- half
import Derived.Test.YtdigilidomimdaaDoorPrx0
import Derived.Test.YtdigilidomimdaaDoorPrx3
import Derived.Test.YtdigilidomimdaaDoorPrx14
namespace Go.Proofs.YtdigilidomimdaaDoor.Pr
open Go.RowKit Go.Proofs.YtdigilidomimdaaDoorW.PrintWords Go.Proofs.YtdigilidomimdaaDoorW.PrintLast Go.Proofs.YtdigilidomimdaaDoorW.PrintMore
attribute [local go_sem] max2_int min2_int max_two min_two max_three min_three max_four min_four   -- for this text's walks alone
set_option linter.unusedVariables false
set_option linter.unusedSimpArgs false

/-! ### impl_RecordText: function 52 -/
def impl_RecordText.j0 : Nat → List ByteArray → Int → Bool → ByteArray → Int → Int → Int → ByteArray → ByteArray → Option (ByteArray)
 | 0, _, _, _, _, _, _, _, _, _ => none
 | k + 1, x3, x18, x27, x518000, x518001, x518002, x518003, x518004, x518005 => if x27 = true then ((impl_nameText.f x518004).bind fun t530 => (if x3.length < 8796093022208 then ((strings_Join.f (x3 ++ [t530]) (⟨#[32]⟩ : ByteArray)).bind fun t534 => (some t534)) else (none))) else (if x18 = 6 then ((impl_nameText.f x518004).bind fun t535 => ((impl_NumText.f k x518003).bind fun t536 => ((some (([t535, t536] : List ByteArray) : List ByteArray)).bind fun y537 => (if x3.length + y537.length < 8796093022208 then ((strings_Join.f (x3 ++ y537) (⟨#[32]⟩ : ByteArray)).bind fun t543 => (some t543)) else (none))))) else (if x18 = 16 then (if 1 + x518005.size ≤ 9223372036854775807 then (if x3.length < 8796093022208 then ((strings_Join.f (x3 ++ [(⟨#[39]⟩ : ByteArray) ++ x518005]) (⟨#[32]⟩ : ByteArray)).bind fun t547 => (some t547)) else (none)) else (none)) else ((strings_Join.f x3 (⟨#[32]⟩ : ByteArray)).bind fun t548 => (some t548))))
def impl_RecordText.f (k : Nat) (a0_0 : ByteArray) (a0_1 : Int) (a0_2 : Int) (a0_3 : Int) (a0_4 : ByteArray) (a0_5 : ByteArray) : Option (ByteArray) := (impl_RecordOk.f k a0_0 a0_1 a0_2 a0_3 a0_4 a0_5).bind fun t518 => (if t518 = true then ((impl_nameText.f a0_0).bind fun t519 => ((impl_NumText.f k a0_2).bind fun t520 => ((impl_TypeText.f a0_1).bind fun t521 => ((some (([t519, t520, t521] : List ByteArray) : List ByteArray)).bind fun y522 => (if a0_1 = 1 then ((impl_NumText.f k a0_3).bind fun t525 => (if y522.length < 8796093022208 then ((strings_Join.f (y522 ++ [t525]) (⟨#[32]⟩ : ByteArray)).bind fun t529 => (some t529)) else (none))) else (if a0_1 = 2 then (impl_RecordText.j0 k y522 a0_1 (a0_1 == 2) a0_0 a0_1 a0_2 a0_3 a0_4 a0_5) else (impl_RecordText.j0 k y522 a0_1 (a0_1 == 5) a0_0 a0_1 a0_2 a0_3 a0_4 a0_5))))))) else (some (⟨#[]⟩ : ByteArray)))
theorem impl_RecordText.mono_l : ∀ k, (∀ y0 y1 y2 y3 y4 y5 y6 y7 y8, LeO (impl_RecordText.j0 k y0 y1 y2 y3 y4 y5 y6 y7 y8) (impl_RecordText.j0 (k + 1) y0 y1 y2 y3 y4 y5 y6 y7 y8))
 | 0 => fun _ _ _ _ _ _ _ _ _ r h => by simp [impl_RecordText.j0] at h
 | k + 1 => by
  have ih0 := impl_RecordText.mono_l k
  ·intro y0 y1 y2 y3 y4 y5 y6 y7 y8
   unfold impl_RecordText.j0
   repeat' first
   | (with_reducible first | exact ih0 _ _ _ _ _ _ _ _ _ | exact impl_NumText.mono _ _ | exact impl_RecordOk.mono _ _ _ _ _ _ _ | exact LeO.refl _ | exact LeO.none _ | refine LeO.ite ?_ ?_ | refine LeO.bind ?_ (fun _ => ?_))
   | refine LeO.ite ?_ ?_
   | refine LeO.bind ?_ (fun _ => ?_)
theorem impl_RecordText.mono : ∀ a0 a1 a2 a3 a4 a5 k, LeO (impl_RecordText.f k a0 a1 a2 a3 a4 a5) (impl_RecordText.f (k + 1) a0 a1 a2 a3 a4 a5) := by
 intro a0 a1 a2 a3 a4 a5 k
 have ih0 := impl_RecordText.mono_l k
 unfold impl_RecordText.f
 repeat' first
   | (with_reducible first | exact ih0 _ _ _ _ _ _ _ _ _ | exact impl_NumText.mono _ _ | exact impl_RecordOk.mono _ _ _ _ _ _ _ | exact LeO.refl _ | exact LeO.none _ | refine LeO.ite ?_ ?_ | refine LeO.bind ?_ (fun _ => ?_))
   | refine LeO.ite ?_ ?_
   | refine LeO.bind ?_ (fun _ => ?_)
def impl_RecordText.T3 : Bool × List (List Nat × List Nat) := (true, [([], []), ([0], [0]), ([1], [1]), ([], []), ([3], [3]), ([4, 2], [4]), ([], []), ([6], [6]), ([7, 5], [7]), ([2, 5, 8], [2, 5, 8]), ([9, 8, 0, 1, 2, 3, 4, 5, 6, 7, 8, 9], [9])])
def impl_RecordText.B3 : List Nat := [0, 1, 3, 0, 8, 31, 0, 64, 255, 511, 1023]
theorem impl_RecordText.tab3 : rtab .any (opsOf Tryd.f52 3) = impl_RecordText.T3 := by kernel_rfl
theorem impl_RecordText.bits3 : waitsOk impl_RecordText.T3.2 impl_RecordText.B3 = true := by kernel_rfl
def impl_RecordText.T11 : Bool × List (List Nat × List Nat) := (true, [([], []), ([], []), ([1], [1]), ([2], [2]), ([], []), ([4], [4]), ([5, 3], [5]), ([3, 6], [3, 6]), ([0, 7, 6], [0, 7]), ([8, 8, 0, 1, 2, 3, 4, 5, 6, 7, 8], [0, 8])])
def impl_RecordText.B11 : List Nat := [0, 0, 2, 6, 0, 16, 62, 126, 255, 511]
theorem impl_RecordText.tab11 : rtab .any (opsOf Tryd.f52 11) = impl_RecordText.T11 := by kernel_rfl
theorem impl_RecordText.bits11 : waitsOk impl_RecordText.T11.2 impl_RecordText.B11 = true := by kernel_rfl
set_option maxHeartbeats 8000000 in
set_option maxRecDepth 100000 in
theorem impl_RecordText.calls (k : Nat) (a0_0 : ByteArray) (a0_1 : Int) (a0_2 : Int) (a0_3 : Int) (a0_4 : ByteArray) (a0_5 : ByteArray) (r : ByteArray) (w : World) (h : impl_RecordText.f k a0_0 a0_1 a0_2 a0_3 a0_4 a0_5 = some r) :
  Calls Tryd.prog 52 #[.agg #[.string a0_0, .int .i64 a0_1, .int .i64 a0_2, .int .i64 a0_3, .string a0_4, .string a0_5]] w fun e w' => e = .returned (.string r) ∧ Below w.heap.size w w' := by
 have hu25 := Tryd.underlying25
 have HB := aS (Below.refl w.heap.size w)
 have H : ((impl_RecordOk.f k a0_0 a0_1 a0_2 a0_3 a0_4 a0_5).bind fun t518 => (if t518 = true then ((impl_nameText.f a0_0).bind fun t519 => ((impl_NumText.f k a0_2).bind fun t520 => ((impl_TypeText.f a0_1).bind fun t521 => ((some (([t519, t520, t521] : List ByteArray) : List ByteArray)).bind fun y522 => (if a0_1 = 1 then ((impl_NumText.f k a0_3).bind fun t525 => (if y522.length < 8796093022208 then ((strings_Join.f (y522 ++ [t525]) (⟨#[32]⟩ : ByteArray)).bind fun t529 => (some t529)) else (none))) else (if a0_1 = 2 then (impl_RecordText.j0 k y522 a0_1 (a0_1 == 2) a0_0 a0_1 a0_2 a0_3 a0_4 a0_5) else (impl_RecordText.j0 k y522 a0_1 (a0_1 == 5) a0_0 a0_1 a0_2 a0_3 a0_4 a0_5))))))) else (some (⟨#[]⟩ : ByteArray)))) = some r := h
 clear h
 obtain ⟨t518, A2, H⟩ := bM H
 try dsimp only at H
 by_cases c3 : t518 = true
 ·subst c3
  rw [if_pos rfl] at H
  obtain ⟨t519, A4, H⟩ := bM H
  try dsimp only at H
  obtain ⟨t520, A5, H⟩ := bM H
  try dsimp only at H
  obtain ⟨t521, A6, H⟩ := bM H
  try dsimp only at H
  obtain ⟨y522, hy_⟩ : ∃ y_ : List ByteArray, y_ = (([t519, t520, t521] : List ByteArray)) := ⟨_, rfl⟩
  replace H : (if a0_1 = 1 then ((impl_NumText.f k a0_3).bind fun t525 => (if y522.length < 8796093022208 then ((strings_Join.f (y522 ++ [t525]) (⟨#[32]⟩ : ByteArray)).bind fun t529 => (some t529)) else (none))) else (if a0_1 = 2 then (impl_RecordText.j0 k y522 a0_1 (a0_1 == 2) a0_0 a0_1 a0_2 a0_3 a0_4 a0_5) else (impl_RecordText.j0 k y522 a0_1 (a0_1 == 5) a0_0 a0_1 a0_2 a0_3 a0_4 a0_5))) = some r := jD
  have Ny522 := aS hy_
  clear hy_
  by_cases c7 : a0_1 = 1
  ·rw [if_pos c7] at H
   have c7b0 := beq_iff_eq.mpr c7
   have c7b1 := bne_eq_false_iff_eq.mpr c7
   clear c7
   obtain ⟨t525, A8, H⟩ := bM H
   try dsimp only at H
   by_cases c9 : y522.length < 8796093022208
   ·rw [if_pos c9] at H
    have LMc9 := aS c9
    clear c9
    obtain ⟨y526, hy_⟩ : ∃ y_ : List ByteArray, y_ = (y522 ++ [t525]) := ⟨_, rfl⟩
    replace H : ((strings_Join.f y526 (⟨#[32]⟩ : ByteArray)).bind fun t529 => (some t529)) = some r := jD
    have Ny526 := aS hy_
    clear hy_
    obtain ⟨t529, A10, H⟩ := bM H
    try dsimp only at H
    obtain rfl := Option.some.inj H
    go_enter Tryd.func52, Tryd.ntmps52
    try go_wp2_with (first | ((with_reducible refine gate_dst (N := 1) rfl ?_); refine xB 1 #[.string a0_0, .int .i64 a0_1, .int .i64 a0_2, .int .i64 a0_3, .string a0_4, .string a0_5] 25 ?_; intro gb517 hg w11 hbox hb; have BK517 := aS (hbox); have GW517 := gW hg (wU HB.out); have GE517 := gW hg (wU HB.out); replace HB := aS (below_step (wU HB.out) hb); clear hb hbox hg; have hcz12 := cells6f BK517.out) | ((with_reducible refine gate_callee (f := 15) rfl ?_); refine gL (some 5) Tryd.func15 #[.agg #[.string a0_0, .int .i64 a0_1, .int .i64 a0_2, .int .i64 a0_3, .string a0_4, .string a0_5]] ?_; (with_reducible refine (impl_RecordOk.calls k a0_0 a0_1 a0_2 a0_3 a0_4 a0_5 true _ A2.out).mono ?_); rintro e w13 ⟨rfl, hb⟩; refine ⟨_, rfl, ?_⟩; replace BK517 := bB BK517 hb; replace HB := aS (below_step (wS1 HB.out GE517.out) hb); clear hb))
    replace BK517 := aS (blk_drew BK517.out)
    replace HB := aS (below_drew1 HB.out)
    refine start_ (n := 11) (S := fun w' => w'.cell? ⟨gb517, 0, none⟩ = some (.string a0_0) ∧ w'.cell? ⟨gb517, 1, none⟩ = some (.int .i64 a0_1) ∧ w'.cell? ⟨gb517, 2, none⟩ = some (.int .i64 a0_2) ∧ w'.cell? ⟨gb517, 3, none⟩ = some (.int .i64 a0_3) ∧ w'.cell? ⟨gb517, 4, none⟩ = some (.string a0_4) ∧ w'.cell? ⟨gb517, 5, none⟩ = some (.string a0_5)) (ds := []) #[false, false, false, false, false, false, false, false, false, false, false] jK rfl rfl (c6 BK517.out) (fun hHeld => ?_); refine with_tabW impl_RecordText.tab3 impl_RecordText.bits3 (fun HT_ HW_ => ?_)
    generalize w13.drew = w14 at BK517 HB hHeld ⊢
    refine pA HT_ 0 (some 7) (tf 1 10) ?_
    refine pA HT_ 3 (some 10) #[true, false, false, true, false, false, false, false, false, false, false] ?_
    refine pA HT_ 6 (some 13) #[true, false, false, true, false, false, true, false, false, false, false] ?_
    refine tA HT_ HW_ hHeld 1 (some 8) #[true, true, false, true, false, false, true, false, false, false, false] ?_
    refine tA HT_ HW_ hHeld 4 (some 11) #[true, true, false, true, true, false, true, false, false, false, false] ?_
    refine tA HT_ HW_ hHeld 7 (some 14) #[true, true, false, true, true, false, true, true, false, false, false] ?_
    refine one_ (i := 2) (N := some 9) #[true, true, true, true, true, false, true, true, false, false, false] rfl rfl (one_of HT_.out jK) (by decide) (fun K hK => ?_)
    refine goes_ Tryd.func98 jK rfl #[.string a0_0] (by rfl) rfl rfl jA ?_
    with_reducible refine (impl_nameText.calls a0_0 t519 _ A4.out).mono ?_
    rintro e w' ⟨rfl, ⟨nd, rfl⟩⟩
    refine ⟨_, rfl, ?_⟩
    refine hK.out _ _ (c6 BK517.out) (fun hHeld => ?_)
    clear hK K
    refine nA (some 9) ?_
    refine one_ (i := 5) (N := some 12) (tf 8 3) rfl rfl (one_of HT_.out jK) (by decide) (fun K hK => ?_)
    refine goes_ Tryd.func97 jK rfl #[.int .i64 a0_2] (by rfl) rfl rfl jA ?_
    with_reducible refine (impl_NumText.calls k a0_2 t520 _ A5.out).mono ?_
    rintro e w' ⟨rfl, ⟨nd, rfl⟩⟩
    refine ⟨_, rfl, ?_⟩
    refine hK.out _ _ (c6 BK517.out) (fun hHeld => ?_)
    clear hK K
    refine nA (some 12) ?_
    refine one_ (i := 8) (N := some 15) (tf 9 2) rfl rfl (one_of HT_.out jK) (by decide) (fun K hK => ?_)
    refine goes_ Tryd.func99 jK rfl #[.int .i64 a0_1] (by rfl) rfl rfl jA ?_
    with_reducible refine (impl_TypeText.calls a0_1 t521 _ A6.out).mono ?_
    rintro e w' ⟨rfl, ⟨nd, rfl⟩⟩
    refine ⟨_, rfl, ?_⟩
    refine hK.out _ _ (c6 BK517.out) (fun hHeld => ?_)
    clear hK K
    refine nA (some 15) ?_
    refine one_ (i := 9) (N := some 16) (tf 10 1) rfl rfl (one_of HT_.out jK) (by decide) (fun K hK => ?_)
    refine Kd.R_lit_step Kd.string _ 9 ?hg (N := 16) ?hd (xs := ([t519, t520, t521] : List ByteArray)) (inner := [.string t519, .string t520, .string t521]) (ok := fun _ => True) (okp := fun _ => True) ?hr ?hp (fun _ hk => hk) trivial (Below.refl _ _) (Nat.le_refl _) (by simp) ?_; (case hd => rfl); (case hg => rfl); (case hr => first | (go_simp; done) | (go_simp; rfl)); (case hp => exact (Reps.one (show Kd.M Kd.string _ _ _ t519 [.string t519] from rfl) (Reps.one (show Kd.M Kd.string _ _ _ t520 [.string t520] from rfl) (Reps.one (show Kd.M Kd.string _ _ _ t521 [.string t521] from rfl) (Reps.none _ _)))))
    intro v523 w15 ho16 hb hg_ hnew_
    clear hg_ hnew_
    (first | rw [← Ny522.out] at ho16 | (simp only [Int.reduceToNat] at ho16; rw [← Ny522.out] at ho16))
    have HO524 := aS (Kd.R_lower ho16 (below_size (wS1 HB.out GE517.out)))
    replace BK517 := bB BK517 hb
    replace HB := aS (below_step (wS1 HB.out GE517.out) hb)
    clear hb ho16
    refine hK.out _ _ (c6 BK517.out) (fun hHeld => ?_)
    clear hK K
    refine nA (some 16) ?_
    refine pA HT_ 10 (some 3) (tf 11 0) ?_
    refine done_ (done_of HT_.out jK) ?_
    have hcz17 := cells6f BK517.out
    try go_wp2_with (first | ((with_reducible refine gate_callee (f := 97) rfl ?_); refine gL (some 24) Tryd.func97 #[.int .i64 a0_3] ?_; (with_reducible refine (impl_NumText.calls k a0_3 t525 _ A8.out).mono ?_); rintro e w' ⟨rfl, ⟨nd, rfl⟩⟩; refine ⟨_, rfl, ?_⟩) | ((with_reducible refine gate_builtin (b := .append) (xs := #[.tmp 21, .tmp 25]) rfl ?_); at_builtin; refine Kd.R_append Kd.string (w0 := w) w.heap.size rfl (.tmp 21) (.tmp 25) 108 9 (.string ⟨#[]⟩) 16 rfl Tryd.underlying108 info9 rfl (by decide) (by omega) v523 y522 t525 [.string t525] (fun _ => True) (fun _ => False) rfl rfl ?aP (fun _ hk => hk.elim) ?aF ?aO ?aB ?aS ?aL ?_; (case aP => exact rfl); (case aB => exact (wS1 HB.out GE517.out)); (case aF => exact (fun _ _ => trivial)); (case aO => exact (rU HO524.out)); (case aS => exact (below_size (wS1 HB.out GE517.out))); (case aL => have := LMc9.out; omega); intro v527 w18 ho hb hg hat; rw [← Ny526.out] at ho; replace BK517 := aS (blk_grown (g := gb517) (o := .cells #[.string a0_0, .int .i64 a0_1, .int .i64 a0_2, .int .i64 a0_3, .string a0_4, .string a0_5] 25 (0, 0)) (bU BK517.out) hg (Kd.R_ne HO524.out BK517.out (by decide))); replace HB := aS (hb); have HO528 := aS (ho); clear HO524; clear ho hb hg hat; obtain ⟨Ao19, co19, eo19⟩ := Kd.R_slice HO528.out; subst eo19) | ((with_reducible refine gate_callee (f := 109) rfl ?_); refine gL (some 56) Tryd.func109 #[.slice Ao19 y526.length co19, .string (⟨#[32]⟩ : ByteArray)] ?_; (with_reducible refine (strings_Join.calls _ _ y526 (⟨#[32]⟩ : ByteArray) t529 _ ?side1 ?side2 A10.out).mono ?_); (case side1 => exact cU ((Kd.R_reads' HO528.out).2.2)); (case side2 => exact (Kd.R_reads' HO528.out).2.1); rintro e w20 ⟨rfl, hb⟩; refine ⟨_, rfl, ?_⟩; replace HO528 := rB HO528 hb; replace BK517 := bB BK517 hb; replace HB := aS (below_step (wS1 HB.out GE517.out) hb); clear hb))
    go_ret
    exact ⟨jE, by exact wS1 HB.out GE517.out⟩
   ·rw [if_neg c9] at H
    exact absurd H (by simp)
  ·rw [if_neg c7] at H
   have c7b0 := beq_eq_false_iff_ne.mpr c7
   have c7b1 := bne_iff_ne.mpr c7
   have HC21 := aS H
   clear H
   go_enter Tryd.func52, Tryd.ntmps52
   try go_wp2_with (first | ((with_reducible refine gate_dst (N := 1) rfl ?_); refine xB 1 #[.string a0_0, .int .i64 a0_1, .int .i64 a0_2, .int .i64 a0_3, .string a0_4, .string a0_5] 25 ?_; intro gb517 hg w22 hbox hb; have BK517 := aS (hbox); have GW517 := gW hg (wU HB.out); have GE517 := gW hg (wU HB.out); replace HB := aS (below_step (wU HB.out) hb); clear hb hbox hg; have hcz23 := cells6f BK517.out) | ((with_reducible refine gate_callee (f := 15) rfl ?_); refine gL (some 5) Tryd.func15 #[.agg #[.string a0_0, .int .i64 a0_1, .int .i64 a0_2, .int .i64 a0_3, .string a0_4, .string a0_5]] ?_; (with_reducible refine (impl_RecordOk.calls k a0_0 a0_1 a0_2 a0_3 a0_4 a0_5 true _ A2.out).mono ?_); rintro e w24 ⟨rfl, hb⟩; refine ⟨_, rfl, ?_⟩; replace BK517 := bB BK517 hb; replace HB := aS (below_step (wS1 HB.out GE517.out) hb); clear hb))
   replace BK517 := aS (blk_drew BK517.out)
   replace HB := aS (below_drew1 HB.out)
   refine start_ (n := 11) (S := fun w' => w'.cell? ⟨gb517, 0, none⟩ = some (.string a0_0) ∧ w'.cell? ⟨gb517, 1, none⟩ = some (.int .i64 a0_1) ∧ w'.cell? ⟨gb517, 2, none⟩ = some (.int .i64 a0_2) ∧ w'.cell? ⟨gb517, 3, none⟩ = some (.int .i64 a0_3) ∧ w'.cell? ⟨gb517, 4, none⟩ = some (.string a0_4) ∧ w'.cell? ⟨gb517, 5, none⟩ = some (.string a0_5)) (ds := []) #[false, false, false, false, false, false, false, false, false, false, false] jK rfl rfl (c6 BK517.out) (fun hHeld => ?_); refine with_tabW impl_RecordText.tab3 impl_RecordText.bits3 (fun HT_ HW_ => ?_)
   generalize w24.drew = w25 at BK517 HB hHeld ⊢
   refine pA HT_ 0 (some 7) (tf 1 10) ?_
   refine pA HT_ 3 (some 10) #[true, false, false, true, false, false, false, false, false, false, false] ?_
   refine pA HT_ 6 (some 13) #[true, false, false, true, false, false, true, false, false, false, false] ?_
   refine tA HT_ HW_ hHeld 1 (some 8) #[true, true, false, true, false, false, true, false, false, false, false] ?_
   refine tA HT_ HW_ hHeld 4 (some 11) #[true, true, false, true, true, false, true, false, false, false, false] ?_
   refine tA HT_ HW_ hHeld 7 (some 14) #[true, true, false, true, true, false, true, true, false, false, false] ?_
   refine one_ (i := 2) (N := some 9) #[true, true, true, true, true, false, true, true, false, false, false] rfl rfl (one_of HT_.out jK) (by decide) (fun K hK => ?_)
   refine goes_ Tryd.func98 jK rfl #[.string a0_0] (by rfl) rfl rfl jA ?_
   with_reducible refine (impl_nameText.calls a0_0 t519 _ A4.out).mono ?_
   rintro e w' ⟨rfl, ⟨nd, rfl⟩⟩
   refine ⟨_, rfl, ?_⟩
   refine hK.out _ _ (c6 BK517.out) (fun hHeld => ?_)
   clear hK K
   refine nA (some 9) ?_
   refine one_ (i := 5) (N := some 12) (tf 8 3) rfl rfl (one_of HT_.out jK) (by decide) (fun K hK => ?_)
   refine goes_ Tryd.func97 jK rfl #[.int .i64 a0_2] (by rfl) rfl rfl jA ?_
   with_reducible refine (impl_NumText.calls k a0_2 t520 _ A5.out).mono ?_
   rintro e w' ⟨rfl, ⟨nd, rfl⟩⟩
   refine ⟨_, rfl, ?_⟩
   refine hK.out _ _ (c6 BK517.out) (fun hHeld => ?_)
   clear hK K
   refine nA (some 12) ?_
   refine one_ (i := 8) (N := some 15) (tf 9 2) rfl rfl (one_of HT_.out jK) (by decide) (fun K hK => ?_)
   refine goes_ Tryd.func99 jK rfl #[.int .i64 a0_1] (by rfl) rfl rfl jA ?_
   with_reducible refine (impl_TypeText.calls a0_1 t521 _ A6.out).mono ?_
   rintro e w' ⟨rfl, ⟨nd, rfl⟩⟩
   refine ⟨_, rfl, ?_⟩
   refine hK.out _ _ (c6 BK517.out) (fun hHeld => ?_)
   clear hK K
   refine nA (some 15) ?_
   refine one_ (i := 9) (N := some 16) (tf 10 1) rfl rfl (one_of HT_.out jK) (by decide) (fun K hK => ?_)
   refine Kd.R_lit_step Kd.string _ 9 ?hg (N := 16) ?hd (xs := ([t519, t520, t521] : List ByteArray)) (inner := [.string t519, .string t520, .string t521]) (ok := fun _ => True) (okp := fun _ => True) ?hr ?hp (fun _ hk => hk) trivial (Below.refl _ _) (Nat.le_refl _) (by simp) ?_; (case hd => rfl); (case hg => rfl); (case hr => first | (go_simp; done) | (go_simp; rfl)); (case hp => exact (Reps.one (show Kd.M Kd.string _ _ _ t519 [.string t519] from rfl) (Reps.one (show Kd.M Kd.string _ _ _ t520 [.string t520] from rfl) (Reps.one (show Kd.M Kd.string _ _ _ t521 [.string t521] from rfl) (Reps.none _ _)))))
   intro v523 w26 ho27 hb hg_ hnew_
   clear hg_ hnew_
   (first | rw [← Ny522.out] at ho27 | (simp only [Int.reduceToNat] at ho27; rw [← Ny522.out] at ho27))
   have HO524 := aS (Kd.R_lower ho27 (below_size (wS1 HB.out GE517.out)))
   replace BK517 := bB BK517 hb
   replace HB := aS (below_step (wS1 HB.out GE517.out) hb)
   clear hb ho27
   refine hK.out _ _ (c6 BK517.out) (fun hHeld => ?_)
   clear hK K
   refine nA (some 16) ?_
   refine pA HT_ 10 (some 3) (tf 11 0) ?_
   refine done_ (done_of HT_.out jK) ?_
   have hcz28 := cells6f BK517.out
   go_upto_if 27 with (fail)
   go_cut [27] (fun v27 wc => ∃ (kq : Nat) (x27_20 : Bool), v27 = .bool x27_20 ∧ Aside0 (impl_RecordText.j0 kq y522 a0_1 x27_20 a0_0 a0_1 a0_2 a0_3 a0_4 a0_5 = some r) ∧ Aside0 (kq ≤ k) ∧ Aside0 (Kd.R Kd.string 9 wc w.heap.size (fun _ => True) v523 y522) ∧ Aside0 (wc.heap[gb517]? = some (.cells #[.string a0_0, .int .i64 a0_1, .int .i64 a0_2, .int .i64 a0_3, .string a0_4, .string a0_5] 25 (0, 0))) ∧ Aside0 (Below w.heap.size w wc))
   case first =>
    have H := HC21.out
    clear HC21
    by_cases c29 : a0_1 = 2
    ·rw [if_pos c29] at H
     have c29b0 := beq_iff_eq.mpr c29
     have c29b1 := bne_eq_false_iff_eq.mpr c29
     clear c29
     (first | rw [c29b0] | (simp only [i64_w, i32_w]; rw [c29b0]) | skip)
     have H' := aS H
     clear H
     go_wp2
     go_meet
     case rel => exact ⟨_, ((a0_1 == 2)), jB, H', ⟨by first | omega | exact Nat.le_refl _⟩, ⟨by exact rU HO524.out⟩, ⟨by exact bU BK517.out⟩, ⟨by exact wS1 HB.out GE517.out⟩⟩
    ·rw [if_neg c29] at H
     have c29b0 := beq_eq_false_iff_ne.mpr c29
     have c29b1 := bne_iff_ne.mpr c29
     (first | rw [c29b0] | (simp only [i64_w, i32_w]; rw [c29b0]) | skip)
     have H' := aS H
     clear H
     go_wp2
     go_meet
     case rel => exact ⟨_, ((a0_1 == 5)), jB, H', ⟨by first | omega | exact Nat.le_refl _⟩, ⟨by exact rU HO524.out⟩, ⟨by exact bU BK517.out⟩, ⟨by exact wS1 HB.out GE517.out⟩⟩
   case rest =>
    clear HC21
    try clear c1
    try clear c2
    try clear p2
    try clear c3
    try clear c5
    try clear c7
    try clear c7b0
    try clear c7b1
    try clear c9
    try clear c10
    try clear c15
    try clear c29
    try clear c29b0
    try clear c29b1
    try clear hcz12
    try clear hcz17
    try clear hcz23
    try clear hcz28
    obtain ⟨kq, x27_20, rfl, HA, HJ20, HO_3, BK517, HB⟩ := hcut
    cases kq with
    | zero => exact absurd HA.out (by simp [impl_RecordText.j0])
    | succ kj20 =>
     have H := HA.out
     clear HA
     simp only [impl_RecordText.j0] at H
     by_cases c30 : x27_20 = true
     ·subst c30
      rw [if_pos rfl] at H
      obtain ⟨t530, A31, H⟩ := bM H
      try dsimp only at H
      by_cases c32 : y522.length < 8796093022208
      ·rw [if_pos c32] at H
       have LMc32 := aS c32
       clear c32
       obtain ⟨y531, hy_⟩ : ∃ y_ : List ByteArray, y_ = (y522 ++ [t530]) := ⟨_, rfl⟩
       replace H : ((strings_Join.f y531 (⟨#[32]⟩ : ByteArray)).bind fun t534 => (some t534)) = some r := jD
       have Ny531 := aS hy_
       clear hy_
       obtain ⟨t534, A33, H⟩ := bM H
       try dsimp only at H
       obtain rfl := Option.some.inj H
       have hcz34 := cells6f BK517.out
       go_wp2_with (first | ((with_reducible refine gate_callee (f := 98) rfl ?_); refine gL (some 33) Tryd.func98 #[.string a0_4] ?_; (with_reducible refine (impl_nameText.calls a0_4 t530 _ A31.out).mono ?_); rintro e w' ⟨rfl, ⟨nd, rfl⟩⟩; refine ⟨_, rfl, ?_⟩) | ((with_reducible refine gate_builtin (b := .append) (xs := #[.tmp 30, .tmp 34]) rfl ?_); at_builtin; refine Kd.R_append Kd.string (w0 := w) w.heap.size rfl (.tmp 30) (.tmp 34) 108 9 (.string ⟨#[]⟩) 16 rfl Tryd.underlying108 info9 rfl (by decide) (by omega) v523 y522 t530 [.string t530] (fun _ => True) (fun _ => False) rfl rfl ?aP (fun _ hk => hk.elim) ?aF ?aO ?aB ?aS ?aL ?_; (case aP => exact rfl); (case aB => exact (wS1 HB.out GE517.out)); (case aF => exact (fun _ _ => trivial)); (case aO => exact (rU HO_3.out)); (case aS => exact (below_size (wS1 HB.out GE517.out))); (case aL => have := LMc32.out; omega); intro v532 w35 ho hb hg hat; rw [← Ny531.out] at ho; replace BK517 := aS (blk_grown (g := gb517) (o := .cells #[.string a0_0, .int .i64 a0_1, .int .i64 a0_2, .int .i64 a0_3, .string a0_4, .string a0_5] 25 (0, 0)) (bU BK517.out) hg (Kd.R_ne HO_3.out BK517.out (by decide))); replace HB := aS (hb); have HO533 := aS (ho); clear HO_3; clear ho hb hg hat; obtain ⟨Ao36, co36, eo36⟩ := Kd.R_slice HO533.out; subst eo36) | ((with_reducible refine gate_callee (f := 109) rfl ?_); refine gL (some 56) Tryd.func109 #[.slice Ao36 y531.length co36, .string (⟨#[32]⟩ : ByteArray)] ?_; (with_reducible refine (strings_Join.calls _ _ y531 (⟨#[32]⟩ : ByteArray) t534 _ ?side1 ?side2 A33.out).mono ?_); (case side1 => exact cU ((Kd.R_reads' HO533.out).2.2)); (case side2 => exact (Kd.R_reads' HO533.out).2.1); rintro e w37 ⟨rfl, hb⟩; refine ⟨_, rfl, ?_⟩; replace HO533 := rB HO533 hb; replace BK517 := bB BK517 hb; replace HB := aS (below_step (wS1 HB.out GE517.out) hb); clear hb))
       go_ret
       exact ⟨jE, by exact wS1 HB.out GE517.out⟩
      ·rw [if_neg c32] at H
       exact absurd H (by simp)
     ·replace c30 := Bool.eq_false_iff.mpr c30
      subst c30
      rw [if_neg Bool.false_ne_true] at H
      by_cases c38 : a0_1 = 6
      ·rw [if_pos c38] at H
       have c38b0 := beq_iff_eq.mpr c38
       have c38b1 := bne_eq_false_iff_eq.mpr c38
       clear c38
       obtain ⟨t535, A39, H⟩ := bM H
       try dsimp only at H
       obtain ⟨t536, A40, H⟩ := bM H
       try dsimp only at H
       obtain ⟨y537, hy_⟩ : ∃ y_ : List ByteArray, y_ = (([t535, t536] : List ByteArray)) := ⟨_, rfl⟩
       replace H : (if y522.length + y537.length < 8796093022208 then ((strings_Join.f (y522 ++ y537) (⟨#[32]⟩ : ByteArray)).bind fun t543 => (some t543)) else (none)) = some r := jD
       have Ny537 := aS hy_
       clear hy_
       by_cases c41 : y522.length + y537.length < 8796093022208
       ·rw [if_pos c41] at H
        have LMc41 := aS c41
        clear c41
        obtain ⟨y540, hy_⟩ : ∃ y_ : List ByteArray, y_ = (y522 ++ y537) := ⟨_, rfl⟩
        replace H : ((strings_Join.f y540 (⟨#[32]⟩ : ByteArray)).bind fun t543 => (some t543)) = some r := jD
        have Ny540 := aS hy_
        clear hy_
        obtain ⟨t543, A42, H⟩ := bM H
        try dsimp only at H
        obtain rfl := Option.some.inj H
        try go_wp2
        replace HO_3 := aS (Kd.R_drew HO_3.out)
        replace BK517 := aS (blk_drew BK517.out)
        replace HB := aS (below_drew1 HB.out)
        refine start_ (n := 10) (S := fun w' => w'.cell? ⟨gb517, 0, none⟩ = some (.string a0_0) ∧ w'.cell? ⟨gb517, 1, none⟩ = some (.int .i64 a0_1) ∧ w'.cell? ⟨gb517, 2, none⟩ = some (.int .i64 a0_2) ∧ w'.cell? ⟨gb517, 3, none⟩ = some (.int .i64 a0_3) ∧ w'.cell? ⟨gb517, 4, none⟩ = some (.string a0_4) ∧ w'.cell? ⟨gb517, 5, none⟩ = some (.string a0_5)) (ds := []) #[false, false, false, false, false, false, false, false, false, false] jK rfl rfl (c6 BK517.out) (fun hHeld => ?_); refine with_tabW impl_RecordText.tab11 impl_RecordText.bits11 (fun HT_ HW_ => ?_)
        generalize wc.drew = w43 at HO_3 BK517 HB hHeld ⊢
        refine pA HT_ 0 (some 38) (tf 1 9) ?_
        refine pA HT_ 1 (some 39) (tf 2 8) ?_
        refine pA HT_ 4 (some 42) #[true, true, false, false, true, false, false, false, false, false] ?_
        refine tA HT_ HW_ hHeld 2 (some 40) #[true, true, true, false, true, false, false, false, false, false] ?_
        refine tA HT_ HW_ hHeld 5 (some 43) #[true, true, true, false, true, true, false, false, false, false] ?_
        refine one_ (i := 3) (N := some 41) (tf 6 4) rfl rfl (one_of HT_.out jK) (by decide) (fun K hK => ?_)
        refine goes_ Tryd.func98 jK rfl #[.string a0_4] (by rfl) rfl rfl jA ?_
        with_reducible refine (impl_nameText.calls a0_4 t535 _ A39.out).mono ?_
        rintro e w' ⟨rfl, ⟨nd, rfl⟩⟩
        refine ⟨_, rfl, ?_⟩
        refine hK.out _ _ (c6 BK517.out) (fun hHeld => ?_)
        clear hK K
        refine nA (some 41) ?_
        refine one_ (i := 6) (N := some 44) (tf 7 3) rfl rfl (one_of HT_.out jK) (by decide) (fun K hK => ?_)
        refine goes_ Tryd.func97 jK rfl #[.int .i64 a0_3] (by rfl) rfl rfl jA ?_
        with_reducible refine (impl_NumText.calls kj20 a0_3 t536 _ A40.out).mono ?_
        rintro e w' ⟨rfl, ⟨nd, rfl⟩⟩
        refine ⟨_, rfl, ?_⟩
        refine hK.out _ _ (c6 BK517.out) (fun hHeld => ?_)
        clear hK K
        refine nA (some 44) ?_
        refine one_ (i := 7) (N := some 45) (tf 8 2) rfl rfl (one_of HT_.out jK) (by decide) (fun K hK => ?_)
        refine Kd.R_lit_step Kd.string _ 9 ?hg (N := 45) ?hd (xs := ([t535, t536] : List ByteArray)) (inner := [.string t535, .string t536]) (ok := fun _ => True) (okp := fun _ => True) ?hr ?hp (fun _ hk => hk) trivial (Below.refl _ _) (Nat.le_refl _) (by simp) ?_; (case hd => rfl); (case hg => rfl); (case hr => first | (go_simp; done) | (go_simp; rfl)); (case hp => exact (Reps.one (show Kd.M Kd.string _ _ _ t535 [.string t535] from rfl) (Reps.one (show Kd.M Kd.string _ _ _ t536 [.string t536] from rfl) (Reps.none _ _))))
        intro v538 w44 ho45 hb hg_ hnew_
        clear hg_ hnew_
        (first | rw [← Ny537.out] at ho45 | (simp only [Int.reduceToNat] at ho45; rw [← Ny537.out] at ho45))
        have HO539 := aS (Kd.R_lower (Kd.R_new' ho45 (Kd.R_lt (rU HO_3.out))) (below_size (wS1 HB.out GE517.out)))
        replace HO_3 := aS (Kd.R_elder' (rU HO_3.out) (Kd.R_base ho45) hb)
        replace BK517 := bB BK517 hb
        replace HB := aS (below_step (wS1 HB.out GE517.out) hb)
        clear hb ho45
        obtain ⟨Ao47, co47, eo47⟩ := Kd.R_slice HO539.out
        (first | subst eo47 | (injection eo47 with f1_ f2_ f3_; have f4_ := f1_.symm; have f5_ := f3_.symm; clear f1_ f2_ f3_; subst f4_; subst f5_))
        refine hK.out _ _ (c6 BK517.out) (fun hHeld => ?_)
        clear hK K
        refine nA (some 45) ?_
        refine one_ (i := 8) (N := some 46) (tf 9 1) rfl rfl (one_of HT_.out jK) (by decide) (fun K hK => ?_)
        refine Kd.R_append_rows_step Kd.string (w0 := w) w.heap.size (by rfl) (.tmp 38) (.tmp 45) 108 9 (.string ⟨#[]⟩) 16 rfl Tryd.underlying108 info9 rfl (by decide) (by omega) v523 y522 y537 _ _ _ (fun k_ => some k_ ≠ (.slice Ao47 y537.length co47 : Value).ownBlock) (fun _ => False) rfl rfl ?aO ?aR (fun _ _ h => h) (fun _ h => h.elim) ?aF ?aB ?aS ?aL ?_
        (case aR => exact cU ((Kd.R_reads' HO539.out).2.2))
        (case aB => exact (wS1 HB.out GE517.out))
        (case aF => exact (fun k_ hk => Kd.fresh' (Kd.R_lt (rU HO539.out)) k_ hk))
        (case aO => exact (by (with_reducible repeat (first | apply Kd.R_alloc | apply Kd.R_drewN | apply Kd.R_drew)); exact Kd.R_mono HO_3.out (fun _ hk => hk.2)))
        (case aS => exact (below_size (wS1 HB.out GE517.out)))
        (case aL => have := LMc41.out; omega)
        intro v541 w46 ho hb hg hat
        rw [← Ny540.out] at ho
        replace BK517 := aS (blk_grown (g := gb517) (o := .cells #[.string a0_0, .int .i64 a0_1, .int .i64 a0_2, .int .i64 a0_3, .string a0_4, .string a0_5] 25 (0, 0)) (bU BK517.out) hg (Kd.R_ne HO_3.out BK517.out (by decide)))
        replace HO539 := aS (Kd.R_after (ok := (fun _ => True)) (rU HO539.out) hg hat)
        replace HB := aS (hb)
        have HO542 := aS (ho)
        clear HO_3
        clear ho hb hg hat
        refine hK.out _ _ (c6 BK517.out) (fun hHeld => ?_)
        clear hK K
        refine nA (some 46) ?_
        refine pA HT_ 9 (some 3) (tf 10 0) ?_
        refine done_ (done_of HT_.out jK) ?_
        obtain ⟨Ao48, co48, eo48⟩ := Kd.R_slice HO542.out
        subst eo48
        try go_wp2_with (first | ((with_reducible refine gate_callee (f := 109) rfl ?_); refine gL (some 56) Tryd.func109 #[.slice Ao48 y540.length co48, .string (⟨#[32]⟩ : ByteArray)] ?_; (with_reducible refine (strings_Join.calls _ _ y540 (⟨#[32]⟩ : ByteArray) t543 _ ?side1 ?side2 A42.out).mono ?_); (case side1 => exact cU ((Kd.R_reads' HO542.out).2.2)); (case side2 => exact (Kd.R_reads' HO542.out).2.1); rintro e w49 ⟨rfl, hb⟩; refine ⟨_, rfl, ?_⟩; replace HO539 := rB HO539 hb; replace HO542 := rB HO542 hb; replace BK517 := bB BK517 hb; replace HB := aS (below_step (wS1 HB.out GE517.out) hb); clear hb))
        go_ret
        exact ⟨jE, by exact wS1 HB.out GE517.out⟩
       ·rw [if_neg c41] at H
        exact absurd H (by simp)
      ·rw [if_neg c38] at H
       have c38b0 := beq_eq_false_iff_ne.mpr c38
       have c38b1 := bne_iff_ne.mpr c38
       by_cases c50 : a0_1 = 16
       ·rw [if_pos c50] at H
        have c50b0 := beq_iff_eq.mpr c50
        have c50b1 := bne_eq_false_iff_eq.mpr c50
        clear c50
        by_cases c51 : 1 + a0_5.size ≤ 9223372036854775807
        ·rw [if_pos c51] at H
         have c51b0 := eq_true c51
         have c51b1 := decide_eq_true c51
         try have c51b2 : (9223372036854775807 < 1 + a0_5.size) = False := eq_false (Nat.not_lt.2 c51)
         by_cases c52 : y522.length < 8796093022208
         ·rw [if_pos c52] at H
          have LMc52 := aS c52
          clear c52
          obtain ⟨y544, hy_⟩ : ∃ y_ : List ByteArray, y_ = (y522 ++ [(⟨#[39]⟩ : ByteArray) ++ a0_5]) := ⟨_, rfl⟩
          replace H : ((strings_Join.f y544 (⟨#[32]⟩ : ByteArray)).bind fun t547 => (some t547)) = some r := jD
          have Ny544 := aS hy_
          clear hy_
          obtain ⟨t547, A53, H⟩ := bM H
          try dsimp only at H
          obtain rfl := Option.some.inj H
          have hcz54 := cells6f BK517.out
          go_wp2_with (first | ((with_reducible refine gate_builtin (b := .append) (xs := #[.tmp 49, .tmp 53]) rfl ?_); at_builtin; refine Kd.R_append Kd.string (w0 := w) w.heap.size rfl (.tmp 49) (.tmp 53) 108 9 (.string ⟨#[]⟩) 16 rfl Tryd.underlying108 info9 rfl (by decide) (by omega) v523 y522 ((⟨#[39]⟩ : ByteArray) ++ a0_5) [.string ((⟨#[39]⟩ : ByteArray) ++ a0_5)] (fun _ => True) (fun _ => False) rfl rfl ?aP (fun _ hk => hk.elim) ?aF ?aO ?aB ?aS ?aL ?_; (case aP => exact rfl); (case aB => exact (wS1 HB.out GE517.out)); (case aF => exact (fun _ _ => trivial)); (case aO => exact (rU HO_3.out)); (case aS => exact (below_size (wS1 HB.out GE517.out))); (case aL => have := LMc52.out; omega); intro v545 w55 ho hb hg hat; rw [← Ny544.out] at ho; replace BK517 := aS (blk_grown (g := gb517) (o := .cells #[.string a0_0, .int .i64 a0_1, .int .i64 a0_2, .int .i64 a0_3, .string a0_4, .string a0_5] 25 (0, 0)) (bU BK517.out) hg (Kd.R_ne HO_3.out BK517.out (by decide))); replace HB := aS (hb); have HO546 := aS (ho); clear HO_3; clear ho hb hg hat; obtain ⟨Ao56, co56, eo56⟩ := Kd.R_slice HO546.out; subst eo56) | ((with_reducible refine gate_callee (f := 109) rfl ?_); refine gL (some 56) Tryd.func109 #[.slice Ao56 y544.length co56, .string (⟨#[32]⟩ : ByteArray)] ?_; (with_reducible refine (strings_Join.calls _ _ y544 (⟨#[32]⟩ : ByteArray) t547 _ ?side1 ?side2 A53.out).mono ?_); (case side1 => exact cU ((Kd.R_reads' HO546.out).2.2)); (case side2 => exact (Kd.R_reads' HO546.out).2.1); rintro e w57 ⟨rfl, hb⟩; refine ⟨_, rfl, ?_⟩; replace HO546 := rB HO546 hb; replace BK517 := bB BK517 hb; replace HB := aS (below_step (wS1 HB.out GE517.out) hb); clear hb))
          go_ret
          exact ⟨jE, by exact wS1 HB.out GE517.out⟩
         ·rw [if_neg c52] at H
          exact absurd H (by simp)
        ·rw [if_neg c51] at H
         exact absurd H (by simp)
       ·rw [if_neg c50] at H
        have c50b0 := beq_eq_false_iff_ne.mpr c50
        have c50b1 := bne_iff_ne.mpr c50
        obtain ⟨t548, A58, H⟩ := bM H
        try dsimp only at H
        obtain rfl := Option.some.inj H
        obtain ⟨Ao59, co59, eo59⟩ := Kd.R_slice HO_3.out
        subst eo59
        go_wp2_with (first | ((with_reducible refine gate_callee (f := 109) rfl ?_); refine gL (some 56) Tryd.func109 #[.slice Ao59 y522.length co59, .string (⟨#[32]⟩ : ByteArray)] ?_; (with_reducible refine (strings_Join.calls _ _ y522 (⟨#[32]⟩ : ByteArray) t548 _ ?side1 ?side2 A58.out).mono ?_); (case side1 => exact cU ((Kd.R_reads' HO_3.out).2.2)); (case side2 => exact (Kd.R_reads' HO_3.out).2.1); rintro e w60 ⟨rfl, hb⟩; refine ⟨_, rfl, ?_⟩; replace HO_3 := rB HO_3 hb; replace BK517 := bB BK517 hb; replace HB := aS (below_step (wS1 HB.out GE517.out) hb); clear hb))
        go_ret
        exact ⟨jE, by exact wS1 HB.out GE517.out⟩
 ·replace c3 := Bool.eq_false_iff.mpr c3
  subst c3
  rw [if_neg Bool.false_ne_true] at H
  obtain rfl := Option.some.inj H
  go_enter Tryd.func52, Tryd.ntmps52
  go_wp2_with (first | ((with_reducible refine gate_dst (N := 1) rfl ?_); refine xB 1 #[.string a0_0, .int .i64 a0_1, .int .i64 a0_2, .int .i64 a0_3, .string a0_4, .string a0_5] 25 ?_; intro gb517 hg w61 hbox hb; have BK517 := aS (hbox); have GW517 := gW hg (wU HB.out); have GE517 := gW hg (wU HB.out); replace HB := aS (below_step (wU HB.out) hb); clear hb hbox hg; have hcz62 := cells6f BK517.out) | ((with_reducible refine gate_callee (f := 15) rfl ?_); refine gL (some 5) Tryd.func15 #[.agg #[.string a0_0, .int .i64 a0_1, .int .i64 a0_2, .int .i64 a0_3, .string a0_4, .string a0_5]] ?_; (with_reducible refine (impl_RecordOk.calls k a0_0 a0_1 a0_2 a0_3 a0_4 a0_5 false _ A2.out).mono ?_); rintro e w63 ⟨rfl, hb⟩; refine ⟨_, rfl, ?_⟩; replace BK517 := bB BK517 hb; replace HB := aS (below_step (wS1 HB.out GE517.out) hb); clear hb))
  go_ret
  exact ⟨jE, by exact wS1 HB.out GE517.out⟩

/-! ### spec_l1In: function 86 -/
def spec_l1In.f (a0 : Int) (a1 : Int) (a2 : Int) : Option (Bool) := if a0 ≥ a1 then (some (decide (a0 ≤ a2))) else (some false)
set_option maxHeartbeats 8000000 in
set_option maxRecDepth 100000 in
theorem spec_l1In.calls (a0 : Int) (a1 : Int) (a2 : Int) (r : Bool) (w : World) (h : spec_l1In.f a0 a1 a2 = some r) :
  Calls Tryd.prog 86 #[.int .i64 a0, .int .i64 a1, .int .i64 a2] w fun e w' => e = .returned (.bool r) ∧ Drawn0 w w' := by
 have H : (if a0 ≥ a1 then (some (decide (a0 ≤ a2))) else (some false)) = some r := h
 clear h
 by_cases c4 : a0 ≥ a1
 ·rw [if_pos c4] at H
  have c4b0 := decide_eq_true c4
  clear c4
  obtain rfl := Option.some.inj H
  go_enter Tryd.func86, Tryd.ntmps86
  go_wp2
  go_ret
  exact ⟨by first | rfl | (simp; done) | (simp [*]; done) | (simp [X.bne_nil, X.beq_nil]; done) | (simp [*, X.bne_nil, X.beq_nil]; done) | (simp [X.bne_nil, X.beq_nil]; done), by repeat (first | exact Drawn0.refl _ | apply Drawn0.step)⟩
 ·rw [if_neg c4] at H
  have c4b0 := decide_eq_false c4
  clear c4
  obtain rfl := Option.some.inj H
  go_enter Tryd.func86, Tryd.ntmps86
  go_wp2
  go_ret
  exact ⟨by first | rfl | (simp; done) | (simp [*]; done) | (simp [X.bne_nil, X.beq_nil]; done) | (simp [*, X.bne_nil, X.beq_nil]; done) | (simp [X.bne_nil, X.beq_nil]; done), by repeat (first | exact Drawn0.refl _ | apply Drawn0.step)⟩

/-! ### spec_l5Text: function 88 -/
def spec_l5Text.l0 : Nat → ByteArray → Int → Option (Bool)
 | 0, _, _ => none
 | k + 1, x0, x3 => if x3 < (x0.size : Int) then (if 0 ≤ x3 then ((spec_l1In.f (wrap64 (bt x0 x3)) 33 126).bind fun t549 => (if t549 = true then (spec_l5Text.l0 k x0 (wrap64 (x3 + 1))) else (some false))) else (none)) else (some (decide ((x0.size : Int) ≤ 12)))
def spec_l5Text.f (k : Nat) (a0 : ByteArray) : Option (Bool) := spec_l5Text.l0 k a0 0
theorem spec_l5Text.mono_l : ∀ k, (∀ y0 y1, LeO (spec_l5Text.l0 k y0 y1) (spec_l5Text.l0 (k + 1) y0 y1))
 | 0 => fun _ _ r h => by simp [spec_l5Text.l0] at h
 | k + 1 => by
  have ih0 := spec_l5Text.mono_l k
  ·intro y0 y1
   unfold spec_l5Text.l0
   repeat' first
   | (with_reducible first | exact ih0 _ _ | exact LeO.refl _ | exact LeO.none _ | refine LeO.ite ?_ ?_ | refine LeO.bind ?_ (fun _ => ?_))
   | refine LeO.ite ?_ ?_
   | refine LeO.bind ?_ (fun _ => ?_)
theorem spec_l5Text.mono : ∀ a0 k, LeO (spec_l5Text.f k a0) (spec_l5Text.f (k + 1) a0) := by
 intro a0 k
 have ih0 := spec_l5Text.mono_l k
 unfold spec_l5Text.f
 repeat' first
   | (with_reducible first | exact ih0 _ _ | exact LeO.refl _ | exact LeO.none _ | refine LeO.ite ?_ ?_ | refine LeO.bind ?_ (fun _ => ?_))
   | refine LeO.ite ?_ ?_
   | refine LeO.bind ?_ (fun _ => ?_)
set_option maxHeartbeats 8000000 in
set_option maxRecDepth 100000 in
theorem spec_l5Text.calls (k : Nat) (a0 : ByteArray) (r : Bool) (w : World) (h : spec_l5Text.f k a0 = some r) :
  Calls Tryd.prog 88 #[.string a0] w fun e w' => e = .returned (.bool r) ∧ Drawn0 w w' := by
 have H : (spec_l5Text.l0 k a0 0) = some r := h
 clear h
 have H' := aS H
 clear H
 go_enter Tryd.func88, Tryd.ntmps88
 go_wp2
 go_loopg [3] k (fun kq v3 w' => ∃ (x3_1 : Int), v3 = .int .i64 x3_1 ∧ Aside0 (spec_l5Text.l0 kq a0 x3_1 = some r) ∧ Aside0 (kq ≤ k) ∧ Drawn0 w w')
 case atStart => exact ⟨(0), jB, H', ⟨Nat.le_refl _⟩, by repeat (first | exact Drawn0.refl _ | apply Drawn0.step)⟩
 case round =>
  clear H'
  obtain ⟨x3_1, rfl, HA, HK1, ⟨m1, rfl⟩⟩ := hrel
  cases gk with
  | zero => exact absurd HA.out (by simp [spec_l5Text.l0])
  | succ k1 =>
   have H := HA.out
   clear HA
   simp only [spec_l5Text.l0] at H
   by_cases c2 : x3_1 < (a0.size : Int)
   ·rw [if_pos c2] at H
    have c2b0 := decide_eq_true c2
    clear c2
    by_cases c3 : 0 ≤ x3_1
    ·rw [if_pos c3] at H
     have c3b0 := decide_eq_true c3
     clear c3
     obtain ⟨t549, A5, H⟩ := bM H
     try dsimp only at H
     by_cases c6 : t549 = true
     ·subst c6
      rw [if_pos rfl] at H
      have H' := aS H
      clear H
      have p4 : 0 ≤ (x3_1 : Int) := of_decide_eq_true jC
      have q4 : x3_1 < (a0.size : Int) := of_decide_eq_true jC
      have hx4 := bt_at a0 x3_1
      replace p4 := eq_true p4
      replace q4 := eq_true q4
      go_wp2_with (first | ((with_reducible refine gate_callee (f := 86) rfl ?_); refine gL (some 14) Tryd.func86 #[.int .i64 (wrap64 (bt a0 x3_1)), .int .i64 33, .int .i64 126] ?_; (with_reducible refine (spec_l1In.calls (wrap64 (bt a0 x3_1)) 33 126 true _ A5.out).mono ?_); rintro e w' ⟨rfl, ⟨nd, rfl⟩⟩; refine ⟨_, rfl, ?_⟩))
      go_roundg k1
      case measure => have := HK1.out; omega
      case rel => exact ⟨(wrap64 (x3_1 + 1)), jB, H', ⟨by have := HK1.out; omega⟩, by repeat (first | exact Drawn0.refl _ | apply Drawn0.step)⟩
     ·replace c6 := Bool.eq_false_iff.mpr c6
      subst c6
      rw [if_neg Bool.false_ne_true] at H
      obtain rfl := Option.some.inj H
      have p4 : 0 ≤ (x3_1 : Int) := of_decide_eq_true jC
      have q4 : x3_1 < (a0.size : Int) := of_decide_eq_true jC
      have hx4 := bt_at a0 x3_1
      replace p4 := eq_true p4
      replace q4 := eq_true q4
      go_wp2_with (first | ((with_reducible refine gate_callee (f := 86) rfl ?_); refine gL (some 14) Tryd.func86 #[.int .i64 (wrap64 (bt a0 x3_1)), .int .i64 33, .int .i64 126] ?_; (with_reducible refine (spec_l1In.calls (wrap64 (bt a0 x3_1)) 33 126 false _ A5.out).mono ?_); rintro e w' ⟨rfl, ⟨nd, rfl⟩⟩; refine ⟨_, rfl, ?_⟩))
      go_ret
      exact ⟨by first | rfl | (simp; done) | (simp [*]; done) | (simp [X.bne_nil, X.beq_nil]; done) | (simp [*, X.bne_nil, X.beq_nil]; done) | (simp [X.bne_nil, X.beq_nil]; done), by repeat (first | exact Drawn0.refl _ | apply Drawn0.step)⟩
    ·rw [if_neg c3] at H
     exact absurd H (by simp)
   ·rw [if_neg c2] at H
    have c2b0 := decide_eq_false c2
    clear c2
    obtain rfl := Option.some.inj H
    go_wp2
    go_ret
    exact ⟨by first | rfl | (simp; done) | (simp [*]; done) | (simp [X.bne_nil, X.beq_nil]; done) | (simp [*, X.bne_nil, X.beq_nil]; done) | (simp [X.bne_nil, X.beq_nil]; done), by repeat (first | exact Drawn0.refl _ | apply Drawn0.step)⟩

/-! ### spec_l2Byte: function 159 -/
def spec_l2Byte.f (a0 : Int) : Option (Bool) := (spec_l1In.f (wrap64 (a0)) 97 122).bind fun t550 => (if t550 = true then (some true) else ((spec_l1In.f (wrap64 (a0)) 48 57).bind fun t551 => (if t551 = true then (some true) else (if a0 = 45 then (some true) else (some (a0 == 95))))))
set_option maxHeartbeats 8000000 in
set_option maxRecDepth 100000 in
theorem spec_l2Byte.calls (a0 : Int) (r : Bool) (w : World) (h : spec_l2Byte.f a0 = some r) :
  Calls Tryd.prog 159 #[.int .u8 a0] w fun e w' => e = .returned (.bool r) ∧ Drawn0 w w' := by
 have H : ((spec_l1In.f (wrap64 (a0)) 97 122).bind fun t550 => (if t550 = true then (some true) else ((spec_l1In.f (wrap64 (a0)) 48 57).bind fun t551 => (if t551 = true then (some true) else (if a0 = 45 then (some true) else (some (a0 == 95))))))) = some r := h
 clear h
 obtain ⟨t550, A2, H⟩ := bM H
 try dsimp only at H
 by_cases c3 : t550 = true
 ·subst c3
  rw [if_pos rfl] at H
  obtain rfl := Option.some.inj H
  go_enter Tryd.func159, Tryd.ntmps159
  go_wp2_with (first | ((with_reducible refine gate_callee (f := 86) rfl ?_); refine gL (some 5) Tryd.func86 #[.int .i64 (wrap64 (a0)), .int .i64 97, .int .i64 122] ?_; (with_reducible refine (spec_l1In.calls (wrap64 (a0)) 97 122 true _ A2.out).mono ?_); rintro e w' ⟨rfl, ⟨nd, rfl⟩⟩; refine ⟨_, rfl, ?_⟩))
  go_ret
  exact ⟨by first | rfl | (simp; done) | (simp [*]; done) | (simp [X.bne_nil, X.beq_nil]; done) | (simp [*, X.bne_nil, X.beq_nil]; done) | (simp [X.bne_nil, X.beq_nil]; done), by repeat (first | exact Drawn0.refl _ | apply Drawn0.step)⟩
 ·replace c3 := Bool.eq_false_iff.mpr c3
  subst c3
  rw [if_neg Bool.false_ne_true] at H
  obtain ⟨t551, A4, H⟩ := bM H
  try dsimp only at H
  by_cases c5 : t551 = true
  ·subst c5
   rw [if_pos rfl] at H
   obtain rfl := Option.some.inj H
   go_enter Tryd.func159, Tryd.ntmps159
   go_wp2_with (first | ((with_reducible refine gate_callee (f := 86) rfl ?_); refine gL (some 5) Tryd.func86 #[.int .i64 (wrap64 (a0)), .int .i64 97, .int .i64 122] ?_; (with_reducible refine (spec_l1In.calls (wrap64 (a0)) 97 122 false _ A2.out).mono ?_); rintro e w' ⟨rfl, ⟨nd, rfl⟩⟩; refine ⟨_, rfl, ?_⟩) | (go_at_call 86; (with_reducible refine (spec_l1In.calls (wrap64 (a0)) 48 57 true _ A4.out).mono ?_); rintro e w' ⟨rfl, ⟨nd, rfl⟩⟩))
   go_ret
   exact ⟨by first | rfl | (simp; done) | (simp [*]; done) | (simp [X.bne_nil, X.beq_nil]; done) | (simp [*, X.bne_nil, X.beq_nil]; done) | (simp [X.bne_nil, X.beq_nil]; done), by repeat (first | exact Drawn0.refl _ | apply Drawn0.step)⟩
  ·replace c5 := Bool.eq_false_iff.mpr c5
   subst c5
   rw [if_neg Bool.false_ne_true] at H
   by_cases c6 : a0 = 45
   ·rw [if_pos c6] at H
    have c6b0 := beq_iff_eq.mpr c6
    have c6b1 := bne_eq_false_iff_eq.mpr c6
    clear c6
    obtain rfl := Option.some.inj H
    go_enter Tryd.func159, Tryd.ntmps159
    go_wp2_with (first | ((with_reducible refine gate_callee (f := 86) rfl ?_); refine gL (some 5) Tryd.func86 #[.int .i64 (wrap64 (a0)), .int .i64 97, .int .i64 122] ?_; (with_reducible refine (spec_l1In.calls (wrap64 (a0)) 97 122 false _ A2.out).mono ?_); rintro e w' ⟨rfl, ⟨nd, rfl⟩⟩; refine ⟨_, rfl, ?_⟩) | (go_at_call 86; (with_reducible refine (spec_l1In.calls (wrap64 (a0)) 48 57 false _ A4.out).mono ?_); rintro e w' ⟨rfl, ⟨nd, rfl⟩⟩))
    go_ret
    exact ⟨by first | rfl | (simp; done) | (simp [*]; done) | (simp [X.bne_nil, X.beq_nil]; done) | (simp [*, X.bne_nil, X.beq_nil]; done) | (simp [X.bne_nil, X.beq_nil]; done), by repeat (first | exact Drawn0.refl _ | apply Drawn0.step)⟩
   ·rw [if_neg c6] at H
    have c6b0 := beq_eq_false_iff_ne.mpr c6
    have c6b1 := bne_iff_ne.mpr c6
    obtain rfl := Option.some.inj H
    go_enter Tryd.func159, Tryd.ntmps159
    go_wp2_with (first | ((with_reducible refine gate_callee (f := 86) rfl ?_); refine gL (some 5) Tryd.func86 #[.int .i64 (wrap64 (a0)), .int .i64 97, .int .i64 122] ?_; (with_reducible refine (spec_l1In.calls (wrap64 (a0)) 97 122 false _ A2.out).mono ?_); rintro e w' ⟨rfl, ⟨nd, rfl⟩⟩; refine ⟨_, rfl, ?_⟩) | (go_at_call 86; (with_reducible refine (spec_l1In.calls (wrap64 (a0)) 48 57 false _ A4.out).mono ?_); rintro e w' ⟨rfl, ⟨nd, rfl⟩⟩))
    go_ret
    exact ⟨by first | rfl | (simp; done) | (simp [*]; done) | (simp [X.bne_nil, X.beq_nil]; done) | (simp [*, X.bne_nil, X.beq_nil]; done) | (simp [X.bne_nil, X.beq_nil]; done), by repeat (first | exact Drawn0.refl _ | apply Drawn0.step)⟩

end Go.Proofs.YtdigilidomimdaaDoor.Pr
