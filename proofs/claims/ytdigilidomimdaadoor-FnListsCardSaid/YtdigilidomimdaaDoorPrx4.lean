-- Written for this claim by a program of this session (wip/tool/pr.py, over the kit's printer).
-- half
import Derived.Test.YtdigilidomimdaaDoorPrx0
import Derived.Test.YtdigilidomimdaaDoorPrx3
namespace Go.Proofs.YtdigilidomimdaaDoor.Pr
open Go.RowKit Go.Proofs.YtdigilidomimdaaDoorW.PrintWords Go.Proofs.YtdigilidomimdaaDoorW.PrintLast Go.Proofs.YtdigilidomimdaaDoorW.PrintMore
attribute [local go_sem] max2_int min2_int max_two min_two max_three min_three max_four min_four   -- for this text's walks alone
set_option linter.unusedVariables false
set_option linter.unusedSimpArgs false

/-! ### spec_l1Str: function 113 -/
def spec_l1Str.f (s0_0 : List Int) (s0_1 : Int) (s0_2 : Int) (l1 : List ByteArray) : Option (ByteArray × Int × Int) := (spec_l1Below.f s0_0 s0_1 s0_2 (l1.length : Int)).bind fun bt142 => (if 0 ≤ bt142.1 then (if bt142.1 < (l1.length : Int) then (some (rdOf ByteArray.empty l1 bt142.1, bt142.2.1, bt142.2.2)) else (none)) else (none))
set_option maxHeartbeats 8000000 in
set_option maxRecDepth 100000 in
theorem spec_l1Str.calls (g : Nat) (s0_0 : List Int) (s0_1 : Int) (s0_2 : Int) (A1 : Option Addr) (c1 : Nat) (l1 : List ByteArray) (r1 : ByteArray) (r2 : Int) (r3 : Int) (w0 w : World) (hI : IsS111 w0 w g s0_0 s0_1 s0_2) (hB : Below w0.heap.size w0 w) (hr1 : Kd.C Kd.string w A1 l1.length l1) (hc1 : l1.length ≤ c1) (hf1 : ∀ ad, A1 = some ad → 0 < l1.length → ad.block ≠ g) (h : spec_l1Str.f s0_0 s0_1 s0_2 l1 = some (r1, r2, r3)) :
  Calls Tryd.prog 113 #[.pointer (some ⟨g, 0, none⟩), .slice A1 l1.length c1] w fun e w' => e = .returned (.string r1) ∧ IsS111 w0 w' g s0_0 r2 r3 ∧ Below w0.heap.size w0 w' ∧ KeepBut w w' g none := by
 have HR1 := aS hr1
 have HC1 := aS hc1
 clear hr1 hc1
 have HI0 := aS hI
 have HK := aS (KeepBut.refl w g none)
 have HL := aS hB.size
 clear hI
 have HW0 := aS hB.size
 have HB := aS hB
 clear hB
 have H : ((spec_l1Below.f s0_0 s0_1 s0_2 (l1.length : Int)).bind fun bt142 => (if 0 ≤ bt142.1 then (if bt142.1 < (l1.length : Int) then (some (rdOf ByteArray.empty l1 bt142.1, bt142.2.1, bt142.2.2)) else (none)) else (none))) = some (r1, r2, r3) := h
 clear h
 obtain ⟨⟨t142, t143, t144⟩, A3, H⟩ := bM H
 try dsimp only at H
 by_cases c4 : 0 ≤ t142
 ·rw [if_pos c4] at H
  have c4b0 := decide_eq_true c4
  clear c4
  by_cases c5 : t142 < (l1.length : Int)
  ·rw [if_pos c5] at H
   have c5b0 := decide_eq_true c5
   clear c5
   simp only [Option.some.injEq, Prod.mk.injEq] at H
   obtain ⟨rfl, rfl, rfl⟩ := H
   go_enter Tryd.func113, Tryd.ntmps113
   go_wp2_with (first | ((with_reducible refine gate_callee (f := 78) rfl ?_); refine goesL_ (some 9) rfl rfl Tryd.func78 jK rfl #[.pointer (some ⟨g, 0, none⟩), .int .i64 (l1.length : Int)] rfl jA ?_; (with_reducible refine (spec_l1Below.calls g s0_0 s0_1 s0_2 (l1.length : Int) t142 t143 t144 w0 _ ?side1 ?side2 A3.out).mono ?_); (case side1 => exact IsS111.iS0 HI0.out); (case side2 => exact wS1 HB.out (IsS111.ge HI0.out)); rintro e w6 ⟨rfl, hi, hb, hk⟩; refine ⟨_, rfl, ?_⟩; replace HK := aS (KeepBut.trans (kS0 HK.out) hk (.inl rfl)); replace HB := aS (hb); replace HI0 := aS (hi); clear hi hb hk; have p145 : 0 ≤ (t142 : Int) := of_decide_eq_true jC; have q145 : t142 < (l1.length : Int) := of_decide_eq_true jC; obtain ⟨ad145, e145, hx145_0⟩ := Kd.at_string HR1.out t142 p145 q145; cases e145; replace hx145_0 := keep_cell HK.out hx145_0 (by first | (rw [add_block]; exact hf1 _ rfl (by omega)) | exact hf1 _ rfl (by omega) | exact hf1 ad145 rfl (by omega)); replace p145 := eq_true p145; replace q145 := eq_true q145))
   go_ret
   exact ⟨jE, by exact IsS111.iS0 HI0.out, by exact wS1 HB.out (IsS111.ge HI0.out), by exact kS0 HK.out⟩
  ·rw [if_neg c5] at H
   exact absurd H (by simp)
 ·rw [if_neg c4] at H
  exact absurd H (by simp)

/-! ### spec_l3Name: function 85 -/
def spec_l3Name.f (s0_0 : List Int) (s0_1 : Int) (s0_2 : Int) : Option (ByteArray × Int × Int) := (spec_l1Str.f s0_0 s0_1 s0_2 (([(⟨#[]⟩ : ByteArray), (⟨#[99, 111, 109]⟩ : ByteArray), (⟨#[101, 120, 46, 99, 111, 109]⟩ : ByteArray), (⟨#[119, 119, 119, 46, 101, 120, 46, 99, 111, 109]⟩ : ByteArray), (⟨#[110, 115, 46, 101, 120, 46, 99, 111, 109]⟩ : ByteArray), (⟨#[111, 114, 103]⟩ : ByteArray), (⟨#[97, 46, 111, 114, 103]⟩ : ByteArray), (⟨#[98, 46, 97, 46, 111, 114, 103]⟩ : ByteArray), (⟨#[110, 115, 49, 46, 111, 114, 103]⟩ : ByteArray), (⟨#[120, 46, 121, 46, 122, 46, 101, 120, 46, 99, 111, 109]⟩ : ByteArray)] : List ByteArray))).bind fun bt149 => (some (bt149.1, bt149.2.1, bt149.2.2))
set_option maxHeartbeats 8000000 in
set_option maxRecDepth 100000 in
theorem spec_l3Name.calls (g : Nat) (s0_0 : List Int) (s0_1 : Int) (s0_2 : Int) (r1 : ByteArray) (r2 : Int) (r3 : Int) (w0 w : World) (hI : IsS111 w0 w g s0_0 s0_1 s0_2) (hB : Below w0.heap.size w0 w) (h : spec_l3Name.f s0_0 s0_1 s0_2 = some (r1, r2, r3)) :
  Calls Tryd.prog 85 #[.pointer (some ⟨g, 0, none⟩)] w fun e w' => e = .returned (.string r1) ∧ IsS111 w0 w' g s0_0 r2 r3 ∧ Below w0.heap.size w0 w' ∧ KeepBut w w' g none := by
 have HI0 := aS hI
 have HK := aS (KeepBut.refl w g none)
 have HL := aS hB.size
 clear hI
 have HW0 := aS hB.size
 have HB := aS hB
 clear hB
 have H : ((spec_l1Str.f s0_0 s0_1 s0_2 (([(⟨#[]⟩ : ByteArray), (⟨#[99, 111, 109]⟩ : ByteArray), (⟨#[101, 120, 46, 99, 111, 109]⟩ : ByteArray), (⟨#[119, 119, 119, 46, 101, 120, 46, 99, 111, 109]⟩ : ByteArray), (⟨#[110, 115, 46, 101, 120, 46, 99, 111, 109]⟩ : ByteArray), (⟨#[111, 114, 103]⟩ : ByteArray), (⟨#[97, 46, 111, 114, 103]⟩ : ByteArray), (⟨#[98, 46, 97, 46, 111, 114, 103]⟩ : ByteArray), (⟨#[110, 115, 49, 46, 111, 114, 103]⟩ : ByteArray), (⟨#[120, 46, 121, 46, 122, 46, 101, 120, 46, 99, 111, 109]⟩ : ByteArray)] : List ByteArray))).bind fun bt149 => (some (bt149.1, bt149.2.1, bt149.2.2))) = some (r1, r2, r3) := h
 clear h
 obtain ⟨y146, hy_⟩ : ∃ y_ : List ByteArray, y_ = (([(⟨#[]⟩ : ByteArray), (⟨#[99, 111, 109]⟩ : ByteArray), (⟨#[101, 120, 46, 99, 111, 109]⟩ : ByteArray), (⟨#[119, 119, 119, 46, 101, 120, 46, 99, 111, 109]⟩ : ByteArray), (⟨#[110, 115, 46, 101, 120, 46, 99, 111, 109]⟩ : ByteArray), (⟨#[111, 114, 103]⟩ : ByteArray), (⟨#[97, 46, 111, 114, 103]⟩ : ByteArray), (⟨#[98, 46, 97, 46, 111, 114, 103]⟩ : ByteArray), (⟨#[110, 115, 49, 46, 111, 114, 103]⟩ : ByteArray), (⟨#[120, 46, 121, 46, 122, 46, 101, 120, 46, 99, 111, 109]⟩ : ByteArray)] : List ByteArray)) := ⟨_, rfl⟩
 replace H : ((spec_l1Str.f s0_0 s0_1 s0_2 y146).bind fun bt149 => (some (bt149.1, bt149.2.1, bt149.2.2))) = some (r1, r2, r3) := jD
 have Ny146 := aS hy_
 clear hy_
 obtain ⟨⟨t149, t150, t151⟩, A2, H⟩ := bM H
 try dsimp only at H
 simp only [Option.some.injEq, Prod.mk.injEq] at H
 obtain ⟨rfl, rfl, rfl⟩ := H
 go_enter Tryd.func85, Tryd.ntmps85
 go_wp2_with (first | ((with_reducible refine gate_dst (N := 4) rfl ?_); refine Kd.R_lit Kd.string _ 9 ?hg (N := 4) ?hd (xs := ([(⟨#[]⟩ : ByteArray), (⟨#[99, 111, 109]⟩ : ByteArray), (⟨#[101, 120, 46, 99, 111, 109]⟩ : ByteArray), (⟨#[119, 119, 119, 46, 101, 120, 46, 99, 111, 109]⟩ : ByteArray), (⟨#[110, 115, 46, 101, 120, 46, 99, 111, 109]⟩ : ByteArray), (⟨#[111, 114, 103]⟩ : ByteArray), (⟨#[97, 46, 111, 114, 103]⟩ : ByteArray), (⟨#[98, 46, 97, 46, 111, 114, 103]⟩ : ByteArray), (⟨#[110, 115, 49, 46, 111, 114, 103]⟩ : ByteArray), (⟨#[120, 46, 121, 46, 122, 46, 101, 120, 46, 99, 111, 109]⟩ : ByteArray)] : List ByteArray)) (inner := [.string (⟨#[]⟩ : ByteArray), .string (⟨#[99, 111, 109]⟩ : ByteArray), .string (⟨#[101, 120, 46, 99, 111, 109]⟩ : ByteArray), .string (⟨#[119, 119, 119, 46, 101, 120, 46, 99, 111, 109]⟩ : ByteArray), .string (⟨#[110, 115, 46, 101, 120, 46, 99, 111, 109]⟩ : ByteArray), .string (⟨#[111, 114, 103]⟩ : ByteArray), .string (⟨#[97, 46, 111, 114, 103]⟩ : ByteArray), .string (⟨#[98, 46, 97, 46, 111, 114, 103]⟩ : ByteArray), .string (⟨#[110, 115, 49, 46, 111, 114, 103]⟩ : ByteArray), .string (⟨#[120, 46, 121, 46, 122, 46, 101, 120, 46, 99, 111, 109]⟩ : ByteArray)]) (ok := fun _ => True) (okp := fun _ => True) ?hr ?hp (fun _ hk => hk) trivial (Below.refl _ _) (Nat.le_refl _) (by simp) ?_; (case hd => rfl); (case hg => rfl); (case hr => first | (go_simp; done) | (go_simp; rfl)); (case hp => exact (Reps.one (show Kd.M Kd.string _ _ _ (⟨#[]⟩ : ByteArray) [.string (⟨#[]⟩ : ByteArray)] from rfl) (Reps.one (show Kd.M Kd.string _ _ _ (⟨#[99, 111, 109]⟩ : ByteArray) [.string (⟨#[99, 111, 109]⟩ : ByteArray)] from rfl) (Reps.one (show Kd.M Kd.string _ _ _ (⟨#[101, 120, 46, 99, 111, 109]⟩ : ByteArray) [.string (⟨#[101, 120, 46, 99, 111, 109]⟩ : ByteArray)] from rfl) (Reps.one (show Kd.M Kd.string _ _ _ (⟨#[119, 119, 119, 46, 101, 120, 46, 99, 111, 109]⟩ : ByteArray) [.string (⟨#[119, 119, 119, 46, 101, 120, 46, 99, 111, 109]⟩ : ByteArray)] from rfl) (Reps.one (show Kd.M Kd.string _ _ _ (⟨#[110, 115, 46, 101, 120, 46, 99, 111, 109]⟩ : ByteArray) [.string (⟨#[110, 115, 46, 101, 120, 46, 99, 111, 109]⟩ : ByteArray)] from rfl) (Reps.one (show Kd.M Kd.string _ _ _ (⟨#[111, 114, 103]⟩ : ByteArray) [.string (⟨#[111, 114, 103]⟩ : ByteArray)] from rfl) (Reps.one (show Kd.M Kd.string _ _ _ (⟨#[97, 46, 111, 114, 103]⟩ : ByteArray) [.string (⟨#[97, 46, 111, 114, 103]⟩ : ByteArray)] from rfl) (Reps.one (show Kd.M Kd.string _ _ _ (⟨#[98, 46, 97, 46, 111, 114, 103]⟩ : ByteArray) [.string (⟨#[98, 46, 97, 46, 111, 114, 103]⟩ : ByteArray)] from rfl) (Reps.one (show Kd.M Kd.string _ _ _ (⟨#[110, 115, 49, 46, 111, 114, 103]⟩ : ByteArray) [.string (⟨#[110, 115, 49, 46, 111, 114, 103]⟩ : ByteArray)] from rfl) (Reps.one (show Kd.M Kd.string _ _ _ (⟨#[120, 46, 121, 46, 122, 46, 101, 120, 46, 99, 111, 109]⟩ : ByteArray) [.string (⟨#[120, 46, 121, 46, 122, 46, 101, 120, 46, 99, 111, 109]⟩ : ByteArray)] from rfl) (Reps.none _ _)))))))))))); intro v147 w3 ho4 hb hg_ hnew_; clear hg_ hnew_; (first | rw [← Ny146.out] at ho4 | (simp only [Int.reduceToNat] at ho4; rw [← Ny146.out] at ho4)); have HO148 := aS (Kd.R_lower ho4 (keep_size (w := w) (g := g) (row := none) (kS0 HK.out))); replace HK := aS (KeepBut.trans (kS0 HK.out) (KeepBut.of_below hb g none) (.inl rfl)); replace HB := aS (below_step (by exact wS1 HB.out (IsS111.ge HI0.out)) hb); replace HI0 := aS (IsS111.below (IsS111.iS0 HI0.out) hb); clear hb ho4; obtain ⟨Ao5, co5, eo5⟩ := Kd.R_slice HO148.out; subst eo5) | ((with_reducible refine gate_callee (f := 113) rfl ?_); refine goesL_ (some 5) rfl rfl Tryd.func113 jK rfl #[.pointer (some ⟨g, 0, none⟩), .slice Ao5 y146.length co5] rfl jA ?_; (with_reducible refine (spec_l1Str.calls g s0_0 s0_1 s0_2 _ _ y146 t149 t150 t151 w0 _ ?side1 ?side2 ?side3 ?side4 ?side5 A2.out).mono ?_); (case side1 => exact IsS111.iS0 HI0.out); (case side2 => exact wS1 HB.out (IsS111.ge HI0.out)); (case side3 => exact cU ((Kd.R_reads' HO148.out).2.2)); (case side4 => exact (Kd.R_reads' HO148.out).2.1); (case side5 => exact far_slice (IsS111.own_ne HI0.out HO148.out (by decide))); rintro e w6 ⟨rfl, hi, hb, hk⟩; refine ⟨_, rfl, ?_⟩; replace HO148 := aS (Kd.R_mono (Kd.R_keep (IsS111.apart (show IsS111 w0 _ g s0_0 s0_1 s0_2 from by exact IsS111.iS0 HI0.out) (rU HO148.out) (by decide)) hk (fun _ h => h.2)) (fun _ h => h.1)); replace HK := aS (KeepBut.trans (kS0 HK.out) hk (.inl rfl)); replace HB := aS (hb); replace HI0 := aS (hi); clear hi hb hk))
 go_ret
 exact ⟨jE, by exact IsS111.iS0 HI0.out, by exact wS1 HB.out (IsS111.ge HI0.out), by exact kS0 HK.out⟩

/-! ### spec_l5Type: function 130 -/
def spec_l5Type.f (s0_0 : List Int) (s0_1 : Int) (s0_2 : Int) : Option (Int × Int × Int) := (spec_l1Int.f s0_0 s0_1 s0_2 (([1, 1, 1, 2, 2, 5, 6, 16] : List Int))).bind fun bt155 => (some (bt155.1, bt155.2.1, bt155.2.2))
set_option maxHeartbeats 8000000 in
set_option maxRecDepth 100000 in
theorem spec_l5Type.calls (g : Nat) (s0_0 : List Int) (s0_1 : Int) (s0_2 : Int) (r1 : Int) (r2 : Int) (r3 : Int) (w0 w : World) (hI : IsS111 w0 w g s0_0 s0_1 s0_2) (hB : Below w0.heap.size w0 w) (h : spec_l5Type.f s0_0 s0_1 s0_2 = some (r1, r2, r3)) :
  Calls Tryd.prog 130 #[.pointer (some ⟨g, 0, none⟩)] w fun e w' => e = .returned (.int .i64 r1) ∧ IsS111 w0 w' g s0_0 r2 r3 ∧ Below w0.heap.size w0 w' ∧ KeepBut w w' g none := by
 have HI0 := aS hI
 have HK := aS (KeepBut.refl w g none)
 have HL := aS hB.size
 clear hI
 have HW0 := aS hB.size
 have HB := aS hB
 clear hB
 have H : ((spec_l1Int.f s0_0 s0_1 s0_2 (([1, 1, 1, 2, 2, 5, 6, 16] : List Int))).bind fun bt155 => (some (bt155.1, bt155.2.1, bt155.2.2))) = some (r1, r2, r3) := h
 clear h
 obtain ⟨y152, hy_⟩ : ∃ y_ : List Int, y_ = (([1, 1, 1, 2, 2, 5, 6, 16] : List Int)) := ⟨_, rfl⟩
 rw [← hy_] at H
 have Ny152 := aS hy_
 clear hy_
 obtain ⟨⟨t155, t156, t157⟩, A2, H⟩ := bM H
 try dsimp only at H
 simp only [Option.some.injEq, Prod.mk.injEq] at H
 obtain ⟨rfl, rfl, rfl⟩ := H
 go_enter Tryd.func130, Tryd.ntmps130
 go_wp2_with (first | ((with_reducible refine gate_dst (N := 4) rfl ?_); refine Kd.R_lit (Kd.int .i64) _ 3 ?hg (N := 4) ?hd (xs := ([1, 1, 1, 2, 2, 5, 6, 16] : List Int)) (inner := [.int .i64 1, .int .i64 1, .int .i64 1, .int .i64 2, .int .i64 2, .int .i64 5, .int .i64 6, .int .i64 16]) (ok := fun _ => True) (okp := fun _ => True) ?hr ?hp (fun _ hk => hk) trivial (Below.refl _ _) (Nat.le_refl _) (by simp) ?_; (case hd => rfl); (case hg => rfl); (case hr => first | (go_simp; done) | (go_simp; rfl)); (case hp => exact (Reps.one (show Kd.M (Kd.int .i64) _ _ _ 1 [.int .i64 1] from rfl) (Reps.one (show Kd.M (Kd.int .i64) _ _ _ 1 [.int .i64 1] from rfl) (Reps.one (show Kd.M (Kd.int .i64) _ _ _ 1 [.int .i64 1] from rfl) (Reps.one (show Kd.M (Kd.int .i64) _ _ _ 2 [.int .i64 2] from rfl) (Reps.one (show Kd.M (Kd.int .i64) _ _ _ 2 [.int .i64 2] from rfl) (Reps.one (show Kd.M (Kd.int .i64) _ _ _ 5 [.int .i64 5] from rfl) (Reps.one (show Kd.M (Kd.int .i64) _ _ _ 6 [.int .i64 6] from rfl) (Reps.one (show Kd.M (Kd.int .i64) _ _ _ 16 [.int .i64 16] from rfl) (Reps.none _ _)))))))))); intro v153 w3 ho4 hb hg_ hnew_; clear hg_ hnew_; (first | rw [← Ny152.out] at ho4 | (simp only [Int.reduceToNat] at ho4; rw [← Ny152.out] at ho4)); have HO154 := aS (Kd.R_lower ho4 (keep_size (w := w) (g := g) (row := none) (kS0 HK.out))); replace HK := aS (KeepBut.trans (kS0 HK.out) (KeepBut.of_below hb g none) (.inl rfl)); replace HB := aS (below_step (by exact wS1 HB.out (IsS111.ge HI0.out)) hb); replace HI0 := aS (IsS111.below (IsS111.iS0 HI0.out) hb); clear hb ho4; obtain ⟨Ao5, co5, eo5⟩ := Kd.R_slice HO154.out; subst eo5) | ((with_reducible refine gate_callee (f := 81) rfl ?_); refine goesL_ (some 5) rfl rfl Tryd.func81 jK rfl #[.pointer (some ⟨g, 0, none⟩), .slice Ao5 y152.length co5] rfl jA ?_; (with_reducible refine (spec_l1Int.calls g s0_0 s0_1 s0_2 _ _ y152 t155 t156 t157 w0 _ ?side1 ?side2 ?side3 ?side4 ?side5 A2.out).mono ?_); (case side1 => exact IsS111.iS0 HI0.out); (case side2 => exact wS1 HB.out (IsS111.ge HI0.out)); (case side3 => exact cU ((Kd.R_reads' HO154.out).2.2)); (case side4 => exact (Kd.R_reads' HO154.out).2.1); (case side5 => exact far_slice (IsS111.own_ne HI0.out HO154.out (by decide))); rintro e w6 ⟨rfl, hi, hb, hk⟩; refine ⟨_, rfl, ?_⟩; replace HO154 := aS (Kd.R_mono (Kd.R_keep (IsS111.apart (show IsS111 w0 _ g s0_0 s0_1 s0_2 from by exact IsS111.iS0 HI0.out) (rU HO154.out) (by decide)) hk (fun _ h => h.2)) (fun _ h => h.1)); replace HK := aS (KeepBut.trans (kS0 HK.out) hk (.inl rfl)); replace HB := aS (hb); replace HI0 := aS (hi); clear hi hb hk))
 go_ret
 exact ⟨jE, by exact IsS111.iS0 HI0.out, by exact wS1 HB.out (IsS111.ge HI0.out), by exact kS0 HK.out⟩

/-! ### spec_l5Draw: function 79 -/
def spec_l5Draw.j0 : Nat → Int → Bool → List Int → Int → Int → ByteArray → Int → Int → Int → ByteArray → ByteArray → Option (ByteArray × Int × Int × Int × ByteArray × ByteArray × Int × Int)
 | 0, _, _, _, _, _, _, _, _, _, _, _ => none
 | k + 1, x13, x20, x1000, x1001, x1002, x172000, x172001, x172002, x172003, x172004, x172005 => if x20 = true then ((spec_l3Name.f x1000 x1001 x1002).bind fun bt175 => (some (x172000, x172001, x172002, x172003, bt175.1, x172005, bt175.2.1, bt175.2.2))) else (if x13 = 6 then ((spec_l3Name.f x1000 x1001 x1002).bind fun bt178 => ((spec_l1Int.f x1000 bt178.2.1 bt178.2.2 (([0, 5, 60] : List Int))).bind fun bt184 => (some (x172000, x172001, x172002, bt184.1, bt178.1, x172005, bt184.2.1, bt184.2.2)))) else (if x13 = 16 then ((spec_l1Str.f x1000 x1001 x1002 (([(⟨#[]⟩ : ByteArray), (⟨#[104, 105]⟩ : ByteArray), (⟨#[116, 119, 101, 108, 118, 101, 98, 121, 116, 101, 115, 33]⟩ : ByteArray)] : List ByteArray))).bind fun bt190 => (some (x172000, x172001, x172002, x172003, x172004, bt190.1, bt190.2.1, bt190.2.2))) else (some (x172000, x172001, x172002, x172003, x172004, x172005, x1001, x1002))))
def spec_l5Draw.f (k : Nat) (s0_0 : List Int) (s0_1 : Int) (s0_2 : Int) : Option (ByteArray × Int × Int × Int × ByteArray × ByteArray × Int × Int) := (spec_l3Name.f s0_0 s0_1 s0_2).bind fun bt159 => ((spec_l5Type.f s0_0 bt159.2.1 bt159.2.2).bind fun bt162 => ((spec_l1Int.f s0_0 bt162.2.1 bt162.2.2 (([0, 1, 5, 60, 300, 100000] : List Int))).bind fun bt168 => (if bt162.1 = 1 then ((spec_l1Below.f s0_0 bt168.2.1 bt168.2.2 9).bind fun bt172 => (some (bt159.1, bt162.1, bt168.1, wrap64 (1 + bt172.1), (⟨#[]⟩ : ByteArray), (⟨#[]⟩ : ByteArray), bt172.2.1, bt172.2.2))) else (if bt162.1 = 2 then (spec_l5Draw.j0 k bt162.1 (bt162.1 == 2) s0_0 bt168.2.1 bt168.2.2 bt159.1 bt162.1 bt168.1 0 (⟨#[]⟩ : ByteArray) (⟨#[]⟩ : ByteArray)) else (spec_l5Draw.j0 k bt162.1 (bt162.1 == 5) s0_0 bt168.2.1 bt168.2.2 bt159.1 bt162.1 bt168.1 0 (⟨#[]⟩ : ByteArray) (⟨#[]⟩ : ByteArray))))))
theorem spec_l5Draw.mono_l : ∀ k, (∀ y0 y1 y2 y3 y4 y5 y6 y7 y8 y9 y10, LeO (spec_l5Draw.j0 k y0 y1 y2 y3 y4 y5 y6 y7 y8 y9 y10) (spec_l5Draw.j0 (k + 1) y0 y1 y2 y3 y4 y5 y6 y7 y8 y9 y10))
 | 0 => fun _ _ _ _ _ _ _ _ _ _ _ r h => by simp [spec_l5Draw.j0] at h
 | k + 1 => by
  have ih0 := spec_l5Draw.mono_l k
  ·intro y0 y1 y2 y3 y4 y5 y6 y7 y8 y9 y10
   unfold spec_l5Draw.j0
   repeat' first
   | (with_reducible first | exact ih0 _ _ _ _ _ _ _ _ _ _ _ | exact LeO.refl _ | exact LeO.none _ | refine LeO.ite ?_ ?_ | refine LeO.bind ?_ (fun _ => ?_))
   | exact ih0 _ _ _ _ _ _ _ _ _ _ _
   | exact LeO.none _
   | refine LeO.ite ?_ ?_
   | refine LeO.bind ?_ (fun _ => ?_)
theorem spec_l5Draw.mono : ∀ a0 a1 a2 k, LeO (spec_l5Draw.f k a0 a1 a2) (spec_l5Draw.f (k + 1) a0 a1 a2) := by
 intro a0 a1 a2 k
 have ih0 := spec_l5Draw.mono_l k
 unfold spec_l5Draw.f
 repeat' first
   | (with_reducible first | exact ih0 _ _ _ _ _ _ _ _ _ _ _ | exact LeO.refl _ | exact LeO.none _ | refine LeO.ite ?_ ?_ | refine LeO.bind ?_ (fun _ => ?_))
   | exact ih0 _ _ _ _ _ _ _ _ _ _ _
   | exact LeO.none _
   | refine LeO.ite ?_ ?_
   | refine LeO.bind ?_ (fun _ => ?_)
set_option maxHeartbeats 8000000 in
set_option maxRecDepth 100000 in
theorem spec_l5Draw.calls (k : Nat) (g : Nat) (s0_0 : List Int) (s0_1 : Int) (s0_2 : Int) (r1 : ByteArray) (r2 : Int) (r3 : Int) (r4 : Int) (r5 : ByteArray) (r6 : ByteArray) (r7 : Int) (r8 : Int) (w0 w : World) (hI : IsS111 w0 w g s0_0 s0_1 s0_2) (hB : Below w0.heap.size w0 w) (h : spec_l5Draw.f k s0_0 s0_1 s0_2 = some (r1, r2, r3, r4, r5, r6, r7, r8)) :
  Calls Tryd.prog 79 #[.pointer (some ⟨g, 0, none⟩)] w fun e w' => e = .returned (.agg #[.string r1, .int .i64 r2, .int .i64 r3, .int .i64 r4, .string r5, .string r6]) ∧ IsS111 w0 w' g s0_0 r7 r8 ∧ Below w0.heap.size w0 w' ∧ KeepBut w w' g none := by
 have hu25 := Tryd.underlying25
 have HI0 := aS hI
 have HK := aS (KeepBut.refl w g none)
 have HL := aS hB.size
 clear hI
 have HW0 := aS hB.size
 have HB := aS hB
 clear hB
 have H : ((spec_l3Name.f s0_0 s0_1 s0_2).bind fun bt159 => ((spec_l5Type.f s0_0 bt159.2.1 bt159.2.2).bind fun bt162 => ((spec_l1Int.f s0_0 bt162.2.1 bt162.2.2 (([0, 1, 5, 60, 300, 100000] : List Int))).bind fun bt168 => (if bt162.1 = 1 then ((spec_l1Below.f s0_0 bt168.2.1 bt168.2.2 9).bind fun bt172 => (some (bt159.1, bt162.1, bt168.1, wrap64 (1 + bt172.1), (⟨#[]⟩ : ByteArray), (⟨#[]⟩ : ByteArray), bt172.2.1, bt172.2.2))) else (if bt162.1 = 2 then (spec_l5Draw.j0 k bt162.1 (bt162.1 == 2) s0_0 bt168.2.1 bt168.2.2 bt159.1 bt162.1 bt168.1 0 (⟨#[]⟩ : ByteArray) (⟨#[]⟩ : ByteArray)) else (spec_l5Draw.j0 k bt162.1 (bt162.1 == 5) s0_0 bt168.2.1 bt168.2.2 bt159.1 bt162.1 bt168.1 0 (⟨#[]⟩ : ByteArray) (⟨#[]⟩ : ByteArray))))))) = some (r1, r2, r3, r4, r5, r6, r7, r8) := h
 clear h
 obtain ⟨⟨t159, t160, t161⟩, A2, H⟩ := bM H
 try dsimp only at H
 obtain ⟨⟨t162, t163, t164⟩, A3, H⟩ := bM H
 try dsimp only at H
 obtain ⟨y165, hy_⟩ : ∃ y_ : List Int, y_ = (([0, 1, 5, 60, 300, 100000] : List Int)) := ⟨_, rfl⟩
 rw [← hy_] at H
 have Ny165 := aS hy_
 clear hy_
 obtain ⟨⟨t168, t169, t170⟩, A4, H⟩ := bM H
 try dsimp only at H
 have HC5 := aS H
 clear H
 go_enter Tryd.func79, Tryd.ntmps79
 go_upto_if 14 with (first | ((with_reducible refine gate_dst (N := 2) rfl ?_); refine box_event ?hg (N := 2) ?hd (cs := #[.string (⟨#[]⟩ : ByteArray), .int .i64 0, .int .i64 0, .int .i64 0, .string (⟨#[]⟩ : ByteArray), .string (⟨#[]⟩ : ByteArray)]) (t := 25) ?hr ?_; (case hd => rfl); (case hg => rfl); (case hr => first | (go_simp; done) | (go_simp; rfl)); intro gb158 hg w6 hbox hb; replace HB := aS (below_step (by exact wS1 HB.out (IsS111.ge HI0.out)) hb); have BK158 := aS (hbox); have GW158 := aS ((by rw [hg]; exact (keep_size (w := w) (g := g) (row := none) (kS0 HK.out)) : w.heap.size ≤ gb158)); have GE158 := aS ((Nat.le_trans HW0.out (by rw [hg]; exact (keep_size (w := w) (g := g) (row := none) (kS0 HK.out)) : w.heap.size ≤ gb158) : w0.heap.size ≤ gb158)); replace HK := aS (KeepBut.trans (kS0 HK.out) (KeepBut.of_below hb g none) (.inl rfl)); have NB0_158 := aS ((by rw [hg]; exact Nat.ne_of_lt (IsS111.lt (show IsS111 w0 _ g s0_0 s0_1 s0_2 from by exact IsS111.iS0 HI0.out)) : g ≠ gb158)); have NB158_0 := aS ((by rw [hg]; exact Nat.ne_of_gt (IsS111.lt (show IsS111 w0 _ g s0_0 s0_1 s0_2 from by exact IsS111.iS0 HI0.out)) : gb158 ≠ g)); replace HI0 := aS (IsS111.below (IsS111.iS0 HI0.out) hb); clear hb hbox hg) | ((with_reducible refine gate_callee (f := 85) rfl ?_); refine goesL_ (some 5) rfl rfl Tryd.func85 jK rfl #[.pointer (some ⟨g, 0, none⟩)] rfl jA ?_; (with_reducible refine (spec_l3Name.calls g s0_0 s0_1 s0_2 t159 t160 t161 w0 _ ?side1 ?side2 A2.out).mono ?_); (case side1 => exact IsS111.iS1 HI0.out NB0_158.out); (case side2 => exact wS2 HB.out (IsS111.ge HI0.out) GE158.out); rintro e w7 ⟨rfl, hi, hb, hk⟩; refine ⟨_, rfl, ?_⟩; replace BK158 := aS (KeepBut.blk hk (g' := gb158) (o := .cells #[.string (⟨#[]⟩ : ByteArray), .int .i64 0, .int .i64 0, .int .i64 0, .string (⟨#[]⟩ : ByteArray), .string (⟨#[]⟩ : ByteArray)] 25 (0, 0)) (bU BK158.out) NB158_0.out (by simp)); replace HK := aS (KeepBut.trans (kS1 HK.out GW158.out) hk (.inl rfl)); replace HB := aS (hb); replace HI0 := aS (hi); clear hi hb hk) | ((with_reducible refine gate_callee (f := 130) rfl ?_); refine goesL_ (some 7) rfl rfl Tryd.func130 jK rfl #[.pointer (some ⟨g, 0, none⟩)] rfl jA ?_; (with_reducible refine (spec_l5Type.calls g s0_0 t160 t161 t162 t163 t164 w0 _ ?side1 ?side2 A3.out).mono ?_); (case side1 => exact IsS111.iS1 HI0.out NB0_158.out); (case side2 => exact wS2 HB.out (IsS111.ge HI0.out) GE158.out); rintro e w8 ⟨rfl, hi, hb, hk⟩; refine ⟨_, rfl, ?_⟩; replace BK158 := aS (KeepBut.blk hk (g' := gb158) (o := .cells #[.string (⟨#[]⟩ : ByteArray), .int .i64 0, .int .i64 0, .int .i64 0, .string (⟨#[]⟩ : ByteArray), .string (⟨#[]⟩ : ByteArray)] 25 (0, 0)) (bU BK158.out) NB158_0.out (by simp)); replace HK := aS (KeepBut.trans (kS1 HK.out GW158.out) hk (.inl rfl)); replace HB := aS (hb); replace HI0 := aS (hi); clear hi hb hk) | ((with_reducible refine gate_dst (N := 9) rfl ?_); refine Kd.R_lit (Kd.int .i64) _ 3 ?hg (N := 9) ?hd (xs := ([0, 1, 5, 60, 300, 100000] : List Int)) (inner := [.int .i64 0, .int .i64 1, .int .i64 5, .int .i64 60, .int .i64 300, .int .i64 100000]) (ok := fun _ => True) (okp := fun _ => True) ?hr ?hp (fun _ hk => hk) trivial (Below.refl _ _) (Nat.le_refl _) (by simp) ?_; (case hd => rfl); (case hg => rfl); (case hr => first | (go_simp; done) | (go_simp; rfl)); (case hp => exact (Reps.one (show Kd.M (Kd.int .i64) _ _ _ 0 [.int .i64 0] from rfl) (Reps.one (show Kd.M (Kd.int .i64) _ _ _ 1 [.int .i64 1] from rfl) (Reps.one (show Kd.M (Kd.int .i64) _ _ _ 5 [.int .i64 5] from rfl) (Reps.one (show Kd.M (Kd.int .i64) _ _ _ 60 [.int .i64 60] from rfl) (Reps.one (show Kd.M (Kd.int .i64) _ _ _ 300 [.int .i64 300] from rfl) (Reps.one (show Kd.M (Kd.int .i64) _ _ _ 100000 [.int .i64 100000] from rfl) (Reps.none _ _)))))))); intro v166 w9 ho10 hb hg_ hnew_; clear hg_ hnew_; (first | rw [← Ny165.out] at ho10 | (simp only [Int.reduceToNat] at ho10; rw [← Ny165.out] at ho10)); have HO167 := aS (Kd.R_lower ho10 (keep_size (w := w) (g := g) (row := none) (kS1 HK.out GW158.out))); replace BK158 := aS (blk_below (bU BK158.out) hb); replace HK := aS (KeepBut.trans (kS1 HK.out GW158.out) (KeepBut.of_below hb g none) (.inl rfl)); replace HB := aS (below_step (by exact wS2 HB.out (IsS111.ge HI0.out) GE158.out) hb); replace HI0 := aS (IsS111.below (IsS111.iS1 HI0.out NB0_158.out) hb); clear hb ho10; obtain ⟨Ao11, co11, eo11⟩ := Kd.R_slice HO167.out; subst eo11) | ((with_reducible refine gate_callee (f := 81) rfl ?_); refine goesL_ (some 10) rfl rfl Tryd.func81 jK rfl #[.pointer (some ⟨g, 0, none⟩), .slice Ao11 y165.length co11] rfl jA ?_; (with_reducible refine (spec_l1Int.calls g s0_0 t163 t164 _ _ y165 t168 t169 t170 w0 _ ?side1 ?side2 ?side3 ?side4 ?side5 A4.out).mono ?_); (case side1 => exact IsS111.iS1 HI0.out NB0_158.out); (case side2 => exact wS2 HB.out (IsS111.ge HI0.out) GE158.out); (case side3 => exact cU ((Kd.R_reads' HO167.out).2.2)); (case side4 => exact (Kd.R_reads' HO167.out).2.1); (case side5 => exact far_slice (IsS111.own_ne HI0.out HO167.out (by decide))); rintro e w12 ⟨rfl, hi, hb, hk⟩; refine ⟨_, rfl, ?_⟩; replace BK158 := aS (KeepBut.blk hk (g' := gb158) (o := .cells #[.string (⟨#[]⟩ : ByteArray), .int .i64 0, .int .i64 0, .int .i64 0, .string (⟨#[]⟩ : ByteArray), .string (⟨#[]⟩ : ByteArray)] 25 (0, 0)) (bU BK158.out) NB158_0.out (by simp)); replace HO167 := aS (Kd.R_mono (Kd.R_keep (IsS111.apart (show IsS111 w0 _ g s0_0 t163 t164 from by exact IsS111.iS1 HI0.out NB0_158.out) (rU HO167.out) (by decide)) hk (fun _ h => h.2)) (fun _ h => h.1)); replace HK := aS (KeepBut.trans (kS1 HK.out GW158.out) hk (.inl rfl)); replace HB := aS (hb); replace HI0 := aS (hi); clear hi hb hk) | ((with_reducible refine gate_dst (N := 3) rfl ?_); refine box_event ?hg (N := 3) ?hd (cs := #[.string (⟨#[]⟩ : ByteArray), .int .i64 0, .int .i64 0, .int .i64 0, .string (⟨#[]⟩ : ByteArray), .string (⟨#[]⟩ : ByteArray)]) (t := 25) ?hr ?_; (case hd => rfl); (case hg => rfl); (case hr => first | (go_simp; done) | (go_simp; rfl)); intro gb171 hg w13 hbox hb; replace HO167 := aS (Kd.R_below (rU HO167.out) hb); replace HB := aS (below_step (by exact wS2 HB.out (IsS111.ge HI0.out) GE158.out) hb); have BK171 := aS (hbox); have GW171 := aS ((by rw [hg]; exact (keep_size (w := w) (g := g) (row := none) (kS1 HK.out GW158.out)) : w.heap.size ≤ gb171)); have GE171 := aS ((Nat.le_trans HW0.out (by rw [hg]; exact (keep_size (w := w) (g := g) (row := none) (kS1 HK.out GW158.out)) : w.heap.size ≤ gb171) : w0.heap.size ≤ gb171)); replace HK := aS (KeepBut.trans (kS1 HK.out GW158.out) (KeepBut.of_below hb g none) (.inl rfl)); have NB158_171 := aS ((by rw [hg]; exact Nat.ne_of_lt (blk_lt (bU BK158.out)) : gb158 ≠ gb171)); have NB171_158 := aS ((by rw [hg]; exact Nat.ne_of_gt (blk_lt (bU BK158.out)) : gb171 ≠ gb158)); replace BK158 := aS (blk_below (bU BK158.out) hb); have NB0_171 := aS ((by rw [hg]; exact Nat.ne_of_lt (IsS111.lt (show IsS111 w0 _ g s0_0 t169 t170 from by exact IsS111.iS1 HI0.out NB0_158.out)) : g ≠ gb171)); have NB171_0 := aS ((by rw [hg]; exact Nat.ne_of_gt (IsS111.lt (show IsS111 w0 _ g s0_0 t169 t170 from by exact IsS111.iS1 HI0.out NB0_158.out)) : gb171 ≠ g)); replace HI0 := aS (IsS111.below (IsS111.iS1 HI0.out NB0_158.out) hb); clear hb hbox hg; have hnb14 := NB171_158.out; have hnc14 := NB158_171.out; have hnb15 := NB171_0.out; have hnc15 := NB0_171.out; have hcz16 := cells6f BK171.out))
 (try simp only [Act.put, List.setIfInBounds_toArray, List.set_cons_zero, List.set_cons_succ])
 have H := HC5.out
 clear HC5
 by_cases c17 : t162 = 1
 ·rw [if_pos c17] at H
  have c17b0 := beq_iff_eq.mpr c17
  have c17b1 := bne_eq_false_iff_eq.mpr c17
  clear c17
  (first | rw [c17b0] | (simp only [i64_w, i32_w]; rw [c17b0]) | skip)
  obtain ⟨⟨t172, t173, t174⟩, A18, H⟩ := bM H
  try dsimp only at H
  simp only [Option.some.injEq, Prod.mk.injEq] at H
  obtain ⟨rfl, rfl, rfl, rfl, rfl, rfl, rfl, rfl⟩ := H
  go_wp2_with (first | ((with_reducible refine gate_callee (f := 78) rfl ?_); refine goesL_ (some 17) rfl rfl Tryd.func78 jK rfl #[.pointer (some ⟨g, 0, none⟩), .int .i64 9] rfl jA ?_; (with_reducible refine (spec_l1Below.calls g s0_0 t169 t170 9 t172 t173 t174 w0 _ ?side1 ?side2 A18.out).mono ?_); (case side1 => exact IsS111.iS2 HI0.out NB0_158.out NB0_171.out); (case side2 => exact wS3 HB.out (IsS111.ge HI0.out) GE158.out GE171.out); rintro e w19 ⟨rfl, hi, hb, hk⟩; refine ⟨_, rfl, ?_⟩; replace BK158 := aS (KeepBut.blk hk (g' := gb158) (o := .cells #[.string (⟨#[]⟩ : ByteArray), .int .i64 0, .int .i64 0, .int .i64 0, .string (⟨#[]⟩ : ByteArray), .string (⟨#[]⟩ : ByteArray)] 25 (0, 0)) (by (iterate 6 ((with_reducible repeat (first | refine blk_drewN ?_ _ | refine blk_drew ?_ | refine blk_alloc ?_ _)); refine blk_far ?_ NB158_171.out _)); exact bU BK158.out) NB158_0.out (by simp)); replace HO167 := aS (Kd.R_mono (Kd.R_keep (IsS111.apart (show IsS111 w0 _ g s0_0 t169 t170 from by exact IsS111.iS2 HI0.out NB0_158.out NB0_171.out) (by (with_reducible repeat (first | apply Kd.R_alloc | apply Kd.R_drewN | apply Kd.R_drew)); exact (Kd.R_mono (Kd.R_far (p := ⟨gb171, 5, none⟩) (Kd.R_far (p := ⟨gb171, 4, none⟩) (Kd.R_far (p := ⟨gb171, 3, none⟩) (Kd.R_far (p := ⟨gb171, 2, none⟩) (Kd.R_far (p := ⟨gb171, 1, none⟩) (Kd.R_far (p := ⟨gb171, 0, none⟩) (Kd.R_types HO167.out BK171.out (by decide)) (fun _ hk => hk.2) (.string t159)) (fun _ hk => hk.2) (.int .i64 t162)) (fun _ hk => hk.2) (.int .i64 t168)) (fun _ hk => hk.2) (.int .i64 0)) (fun _ hk => hk.2) (.string (⟨#[]⟩ : ByteArray))) (fun _ hk => hk.2) (.string (⟨#[]⟩ : ByteArray))) (fun _ h_ => h_.1))) (by decide)) hk (fun _ h => h.2)) (fun _ h => h.1)); replace BK171 := aS (KeepBut.blk hk (g' := gb171) (o := .cells #[.string t159, .int .i64 t162, .int .i64 t168, .int .i64 0, .string (⟨#[]⟩ : ByteArray), .string (⟨#[]⟩ : ByteArray)] 25 (0, 0)) (by (with_reducible repeat (first | refine blk_drewN ?_ _ | refine blk_drew ?_ | refine blk_alloc ?_ _)); refine blk_put_6 (.string (⟨#[]⟩ : ByteArray)) (.int .i64 0) (.int .i64 0) (.int .i64 0) (.string (⟨#[]⟩ : ByteArray)) (.string (⟨#[]⟩ : ByteArray)) ?_; exact bU BK171.out) NB171_0.out (by simp)); replace HK := aS (KeepBut.trans (kS2 HK.out GW158.out GW171.out) hk (.inl rfl)); replace HB := aS (hb); replace HI0 := aS (hi); clear hi hb hk; have hnb20 := NB171_158.out; have hnc20 := NB158_171.out; have hnb21 := NB171_0.out; have hnc21 := NB0_171.out; have hcz22 := cells6f BK171.out; have hnb23 := NB158_0.out; have hnc23 := NB0_158.out; have hcz24 := cells6f BK158.out))
  refine bodyPost_ret (results_cell_row rfl _ _ gb158 25 #[.string t159, .int .i64 t162, .int .i64 t168, .int .i64 (wrap64 (1 + t172)), .string (⟨#[]⟩ : ByteArray), .string (⟨#[]⟩ : ByteArray)] (0, 0) _ rfl (by (with_reducible repeat (first | refine blk_drewN ?_ _ | refine blk_drew ?_ | refine blk_alloc ?_ _)); refine blk_put_6 (.string (⟨#[]⟩ : ByteArray)) (.int .i64 0) (.int .i64 0) (.int .i64 0) (.string (⟨#[]⟩ : ByteArray)) (.string (⟨#[]⟩ : ByteArray)) ?_; (with_reducible repeat (first | refine blk_drewN ?_ _ | refine blk_drew ?_ | refine blk_alloc ?_ _)); refine blk_far ?_ NB158_171.out _; exact bU BK158.out) Tryd.underlying25 rfl jK) rfl ?_
  exact ⟨jE, by exact IsS111.iS2 HI0.out NB0_158.out NB0_171.out, by exact wS3 HB.out (IsS111.ge HI0.out) GE158.out GE171.out, by exact kS2 HK.out GW158.out GW171.out⟩
 ·rw [if_neg c17] at H
  have c17b0 := beq_eq_false_iff_ne.mpr c17
  have c17b1 := bne_iff_ne.mpr c17
  (first | rw [c17b0] | (simp only [i64_w, i32_w]; rw [c17b0]) | skip)
  have HC25 := aS H
  clear H
  go_upto_if 20 with (fail)
  go_cut [20] (fun v20 wc => ∃ (kq : Nat) (x20_24 : Bool), v20 = .bool x20_24 ∧ Aside0 (spec_l5Draw.j0 kq t162 x20_24 s0_0 t169 t170 t159 t162 t168 0 (⟨#[]⟩ : ByteArray) (⟨#[]⟩ : ByteArray) = some (r1, r2, r3, r4, r5, r6, r7, r8)) ∧ Aside0 (kq ≤ k) ∧ Aside0 (wc.heap[gb158]? = some (.cells #[.string (⟨#[]⟩ : ByteArray), .int .i64 0, .int .i64 0, .int .i64 0, .string (⟨#[]⟩ : ByteArray), .string (⟨#[]⟩ : ByteArray)] 25 (0, 0))) ∧ Aside0 (wc.heap[gb171]? = some (.cells #[.string t159, .int .i64 t162, .int .i64 t168, .int .i64 0, .string (⟨#[]⟩ : ByteArray), .string (⟨#[]⟩ : ByteArray)] 25 (0, 0))) ∧ Aside0 (IsS111 w0 wc g s0_0 t169 t170) ∧ Aside0 (KeepBut w wc g none) ∧ Aside0 (Below w0.heap.size w0 wc))
  case first =>
   have H := HC25.out
   clear HC25
   by_cases c26 : t162 = 2
   ·rw [if_pos c26] at H
    have c26b0 := beq_iff_eq.mpr c26
    have c26b1 := bne_eq_false_iff_eq.mpr c26
    clear c26
    (first | rw [c26b0] | (simp only [i64_w, i32_w]; rw [c26b0]) | skip)
    have H' := aS H
    clear H
    go_wp2
    go_meet
    case rel => exact ⟨_, ((t162 == 2)), jB, H', ⟨by first | omega | exact Nat.le_refl _⟩, ⟨by (iterate 6 ((with_reducible repeat (first | refine blk_drewN ?_ _ | refine blk_drew ?_ | refine blk_alloc ?_ _)); refine blk_far ?_ NB158_171.out _)); exact bU BK158.out⟩, ⟨by (with_reducible repeat (first | refine blk_drewN ?_ _ | refine blk_drew ?_ | refine blk_alloc ?_ _)); refine blk_put_6 (.string (⟨#[]⟩ : ByteArray)) (.int .i64 0) (.int .i64 0) (.int .i64 0) (.string (⟨#[]⟩ : ByteArray)) (.string (⟨#[]⟩ : ByteArray)) ?_; exact bU BK171.out⟩, ⟨by exact IsS111.iS2 HI0.out NB0_158.out NB0_171.out⟩, ⟨by exact kS2 HK.out GW158.out GW171.out⟩, ⟨by exact wS3 HB.out (IsS111.ge HI0.out) GE158.out GE171.out⟩⟩
   ·rw [if_neg c26] at H
    have c26b0 := beq_eq_false_iff_ne.mpr c26
    have c26b1 := bne_iff_ne.mpr c26
    (first | rw [c26b0] | (simp only [i64_w, i32_w]; rw [c26b0]) | skip)
    have H' := aS H
    clear H
    go_wp2
    go_meet
    case rel => exact ⟨_, ((t162 == 5)), jB, H', ⟨by first | omega | exact Nat.le_refl _⟩, ⟨by (iterate 6 ((with_reducible repeat (first | refine blk_drewN ?_ _ | refine blk_drew ?_ | refine blk_alloc ?_ _)); refine blk_far ?_ NB158_171.out _)); exact bU BK158.out⟩, ⟨by (with_reducible repeat (first | refine blk_drewN ?_ _ | refine blk_drew ?_ | refine blk_alloc ?_ _)); refine blk_put_6 (.string (⟨#[]⟩ : ByteArray)) (.int .i64 0) (.int .i64 0) (.int .i64 0) (.string (⟨#[]⟩ : ByteArray)) (.string (⟨#[]⟩ : ByteArray)) ?_; exact bU BK171.out⟩, ⟨by exact IsS111.iS2 HI0.out NB0_158.out NB0_171.out⟩, ⟨by exact kS2 HK.out GW158.out GW171.out⟩, ⟨by exact wS3 HB.out (IsS111.ge HI0.out) GE158.out GE171.out⟩⟩
  case rest =>
   clear HC25
   try clear c1
   try clear c2
   try clear p2
   try clear p6
   try clear c7
   try clear c8
   try clear c13
   try clear c14
   try clear c15
   try clear c17
   try clear c17b0
   try clear c17b1
   try clear c20
   try clear c21
   try clear c23
   try clear c26
   try clear c26b0
   try clear c26b1
   try clear hcz16
   try clear hcz22
   try clear hcz24
   obtain ⟨kq, x20_24, rfl, HA, HJ24, BK158, BK171, HI0, HK, HB⟩ := hcut
   cases kq with
   | zero => exact absurd HA.out (by simp [spec_l5Draw.j0])
   | succ kj24 =>
    have H := HA.out
    clear HA
    simp only [spec_l5Draw.j0] at H
    by_cases c27 : x20_24 = true
    ·subst c27
     rw [if_pos rfl] at H
     obtain ⟨⟨t175, t176, t177⟩, A28, H⟩ := bM H
     try dsimp only at H
     simp only [Option.some.injEq, Prod.mk.injEq] at H
     obtain ⟨rfl, rfl, rfl, rfl, rfl, rfl, rfl, rfl⟩ := H
     go_wp2_with (first | ((with_reducible refine gate_callee (f := 85) rfl ?_); refine goesL_ (some 24) rfl rfl Tryd.func85 jK rfl #[.pointer (some ⟨g, 0, none⟩)] rfl jA ?_; (with_reducible refine (spec_l3Name.calls g s0_0 t169 t170 t175 t176 t177 w0 _ ?side1 ?side2 A28.out).mono ?_); (case side1 => exact IsS111.iS2 HI0.out NB0_158.out NB0_171.out); (case side2 => exact wS3 HB.out (IsS111.ge HI0.out) GE158.out GE171.out); rintro e w29 ⟨rfl, hi, hb, hk⟩; refine ⟨_, rfl, ?_⟩; replace BK158 := aS (KeepBut.blk hk (g' := gb158) (o := .cells #[.string (⟨#[]⟩ : ByteArray), .int .i64 0, .int .i64 0, .int .i64 0, .string (⟨#[]⟩ : ByteArray), .string (⟨#[]⟩ : ByteArray)] 25 (0, 0)) (bU BK158.out) NB158_0.out (by simp)); replace BK171 := aS (KeepBut.blk hk (g' := gb171) (o := .cells #[.string t159, .int .i64 t162, .int .i64 t168, .int .i64 0, .string (⟨#[]⟩ : ByteArray), .string (⟨#[]⟩ : ByteArray)] 25 (0, 0)) (bU BK171.out) NB171_0.out (by simp)); replace HK := aS (KeepBut.trans (kS2 HK.out GW158.out GW171.out) hk (.inl rfl)); replace HB := aS (hb); replace HI0 := aS (hi); clear hi hb hk; have hnb30 := NB171_158.out; have hnc30 := NB158_171.out; have hnb31 := NB171_0.out; have hnc31 := NB0_171.out; have hcz32 := cells6f BK171.out; have hnb33 := NB158_0.out; have hnc33 := NB0_158.out; have hcz34 := cells6f BK158.out))
     refine bodyPost_ret (results_cell_row rfl _ _ gb158 25 #[.string t159, .int .i64 t162, .int .i64 t168, .int .i64 0, .string t175, .string (⟨#[]⟩ : ByteArray)] (0, 0) _ rfl (by (with_reducible repeat (first | refine blk_drewN ?_ _ | refine blk_drew ?_ | refine blk_alloc ?_ _)); refine blk_put_6 (.string (⟨#[]⟩ : ByteArray)) (.int .i64 0) (.int .i64 0) (.int .i64 0) (.string (⟨#[]⟩ : ByteArray)) (.string (⟨#[]⟩ : ByteArray)) ?_; (with_reducible repeat (first | refine blk_drewN ?_ _ | refine blk_drew ?_ | refine blk_alloc ?_ _)); refine blk_far ?_ NB158_171.out _; exact bU BK158.out) Tryd.underlying25 rfl jK) rfl ?_
     exact ⟨jE, by exact IsS111.iS2 HI0.out NB0_158.out NB0_171.out, by exact wS3 HB.out (IsS111.ge HI0.out) GE158.out GE171.out, by exact kS2 HK.out GW158.out GW171.out⟩
    ·replace c27 := Bool.eq_false_iff.mpr c27
     subst c27
     rw [if_neg Bool.false_ne_true] at H
     by_cases c35 : t162 = 6
     ·rw [if_pos c35] at H
      have c35b0 := beq_iff_eq.mpr c35
      have c35b1 := bne_eq_false_iff_eq.mpr c35
      clear c35
      obtain ⟨⟨t178, t179, t180⟩, A36, H⟩ := bM H
      try dsimp only at H
      obtain ⟨y181, hy_⟩ : ∃ y_ : List Int, y_ = (([0, 5, 60] : List Int)) := ⟨_, rfl⟩
      rw [← hy_] at H
      have Ny181 := aS hy_
      clear hy_
      obtain ⟨⟨t184, t185, t186⟩, A37, H⟩ := bM H
      try dsimp only at H
      simp only [Option.some.injEq, Prod.mk.injEq] at H
      obtain ⟨rfl, rfl, rfl, rfl, rfl, rfl, rfl, rfl⟩ := H
      go_wp2_with (first | ((with_reducible refine gate_callee (f := 85) rfl ?_); refine goesL_ (some 29) rfl rfl Tryd.func85 jK rfl #[.pointer (some ⟨g, 0, none⟩)] rfl jA ?_; (with_reducible refine (spec_l3Name.calls g s0_0 t169 t170 t178 t179 t180 w0 _ ?side1 ?side2 A36.out).mono ?_); (case side1 => exact IsS111.iS2 HI0.out NB0_158.out NB0_171.out); (case side2 => exact wS3 HB.out (IsS111.ge HI0.out) GE158.out GE171.out); rintro e w38 ⟨rfl, hi, hb, hk⟩; refine ⟨_, rfl, ?_⟩; replace BK158 := aS (KeepBut.blk hk (g' := gb158) (o := .cells #[.string (⟨#[]⟩ : ByteArray), .int .i64 0, .int .i64 0, .int .i64 0, .string (⟨#[]⟩ : ByteArray), .string (⟨#[]⟩ : ByteArray)] 25 (0, 0)) (bU BK158.out) NB158_0.out (by simp)); replace BK171 := aS (KeepBut.blk hk (g' := gb171) (o := .cells #[.string t159, .int .i64 t162, .int .i64 t168, .int .i64 0, .string (⟨#[]⟩ : ByteArray), .string (⟨#[]⟩ : ByteArray)] 25 (0, 0)) (bU BK171.out) NB171_0.out (by simp)); replace HK := aS (KeepBut.trans (kS2 HK.out GW158.out GW171.out) hk (.inl rfl)); replace HB := aS (hb); replace HI0 := aS (hi); clear hi hb hk; have hnb39 := NB171_158.out; have hnc39 := NB158_171.out; have hnb40 := NB171_0.out; have hnc40 := NB0_171.out; have hcz41 := cells6f BK171.out) | ((with_reducible refine gate_dst (N := 32) rfl ?_); refine Kd.R_lit (Kd.int .i64) _ 3 ?hg (N := 32) ?hd (xs := ([0, 5, 60] : List Int)) (inner := [.int .i64 0, .int .i64 5, .int .i64 60]) (ok := fun _ => True) (okp := fun _ => True) ?hr ?hp (fun _ hk => hk) trivial (Below.refl _ _) (Nat.le_refl _) (by simp) ?_; (case hd => rfl); (case hg => rfl); (case hr => first | (go_simp; done) | (go_simp; rfl)); (case hp => exact (Reps.one (show Kd.M (Kd.int .i64) _ _ _ 0 [.int .i64 0] from rfl) (Reps.one (show Kd.M (Kd.int .i64) _ _ _ 5 [.int .i64 5] from rfl) (Reps.one (show Kd.M (Kd.int .i64) _ _ _ 60 [.int .i64 60] from rfl) (Reps.none _ _))))); intro v182 w42 ho43 hb hg_ hnew_; clear hg_ hnew_; (first | rw [← Ny181.out] at ho43 | (simp only [Int.reduceToNat] at ho43; rw [← Ny181.out] at ho43)); have HO183 := aS (Kd.R_lower ho43 (keep_size (w := w) (g := g) (row := none) (kS2 HK.out GW158.out GW171.out))); replace BK158 := aS (blk_below (g := gb158) (o := .cells #[.string (⟨#[]⟩ : ByteArray), .int .i64 0, .int .i64 0, .int .i64 0, .string (⟨#[]⟩ : ByteArray), .string (⟨#[]⟩ : ByteArray)] 25 (0, 0)) (by (with_reducible repeat (first | refine blk_drewN ?_ _ | refine blk_drew ?_ | refine blk_alloc ?_ _)); refine blk_far ?_ NB158_171.out _; exact bU BK158.out) hb); replace BK171 := aS (blk_below (g := gb171) (o := .cells #[.string t159, .int .i64 t162, .int .i64 t168, .int .i64 0, .string t178, .string (⟨#[]⟩ : ByteArray)] 25 (0, 0)) (by (with_reducible repeat (first | refine blk_drewN ?_ _ | refine blk_drew ?_ | refine blk_alloc ?_ _)); refine blk_put (cs := #[.string t159, .int .i64 t162, .int .i64 t168, .int .i64 0, .string (⟨#[]⟩ : ByteArray), .string (⟨#[]⟩ : ByteArray)]) ?_ 4 _ rfl; exact bU BK171.out) hb); replace HK := aS (KeepBut.trans (kS2 HK.out GW158.out GW171.out) (KeepBut.of_below hb g none) (.inl rfl)); replace HB := aS (below_step (by exact wS3 HB.out (IsS111.ge HI0.out) GE158.out GE171.out) hb); replace HI0 := aS (IsS111.below (show IsS111 w0 (w38.setCell ⟨gb171, 4, none⟩ (.string t178)) g s0_0 t179 t180 from by exact IsS111.iS2 HI0.out NB0_158.out NB0_171.out) hb); clear hb ho43; obtain ⟨Ao44, co44, eo44⟩ := Kd.R_slice HO183.out; subst eo44) | ((with_reducible refine gate_callee (f := 81) rfl ?_); refine goesL_ (some 33) rfl rfl Tryd.func81 jK rfl #[.pointer (some ⟨g, 0, none⟩), .slice Ao44 y181.length co44] rfl jA ?_; (with_reducible refine (spec_l1Int.calls g s0_0 t179 t180 _ _ y181 t184 t185 t186 w0 _ ?side1 ?side2 ?side3 ?side4 ?side5 A37.out).mono ?_); (case side1 => exact IsS111.iS2 HI0.out NB0_158.out NB0_171.out); (case side2 => exact wS3 HB.out (IsS111.ge HI0.out) GE158.out GE171.out); (case side3 => exact cU ((Kd.R_reads' HO183.out).2.2)); (case side4 => exact (Kd.R_reads' HO183.out).2.1); (case side5 => exact far_slice (IsS111.own_ne HI0.out HO183.out (by decide))); rintro e w45 ⟨rfl, hi, hb, hk⟩; refine ⟨_, rfl, ?_⟩; replace BK158 := aS (KeepBut.blk hk (g' := gb158) (o := .cells #[.string (⟨#[]⟩ : ByteArray), .int .i64 0, .int .i64 0, .int .i64 0, .string (⟨#[]⟩ : ByteArray), .string (⟨#[]⟩ : ByteArray)] 25 (0, 0)) (bU BK158.out) NB158_0.out (by simp)); replace BK171 := aS (KeepBut.blk hk (g' := gb171) (o := .cells #[.string t159, .int .i64 t162, .int .i64 t168, .int .i64 0, .string t178, .string (⟨#[]⟩ : ByteArray)] 25 (0, 0)) (bU BK171.out) NB171_0.out (by simp)); replace HO183 := aS (Kd.R_mono (Kd.R_keep (IsS111.apart (show IsS111 w0 _ g s0_0 t179 t180 from by exact IsS111.iS2 HI0.out NB0_158.out NB0_171.out) (rU HO183.out) (by decide)) hk (fun _ h => h.2)) (fun _ h => h.1)); replace HK := aS (KeepBut.trans (kS2 HK.out GW158.out GW171.out) hk (.inl rfl)); replace HB := aS (hb); replace HI0 := aS (hi); clear hi hb hk; have hcz46 := cells6f BK171.out; have hnb47 := NB158_0.out; have hnc47 := NB0_158.out; have hcz48 := cells6f BK158.out))
      refine bodyPost_ret (results_cell_row rfl _ _ gb158 25 #[.string t159, .int .i64 t162, .int .i64 t168, .int .i64 t184, .string t178, .string (⟨#[]⟩ : ByteArray)] (0, 0) _ rfl (by (with_reducible repeat (first | refine blk_drewN ?_ _ | refine blk_drew ?_ | refine blk_alloc ?_ _)); refine blk_put_6 (.string (⟨#[]⟩ : ByteArray)) (.int .i64 0) (.int .i64 0) (.int .i64 0) (.string (⟨#[]⟩ : ByteArray)) (.string (⟨#[]⟩ : ByteArray)) ?_; (with_reducible repeat (first | refine blk_drewN ?_ _ | refine blk_drew ?_ | refine blk_alloc ?_ _)); refine blk_far ?_ NB158_171.out _; exact bU BK158.out) Tryd.underlying25 rfl jK) rfl ?_
      exact ⟨jE, by exact IsS111.iS2 HI0.out NB0_158.out NB0_171.out, by exact wS3 HB.out (IsS111.ge HI0.out) GE158.out GE171.out, by exact kS2 HK.out GW158.out GW171.out⟩
     ·rw [if_neg c35] at H
      have c35b0 := beq_eq_false_iff_ne.mpr c35
      have c35b1 := bne_iff_ne.mpr c35
      by_cases c49 : t162 = 16
      ·rw [if_pos c49] at H
       have c49b0 := beq_iff_eq.mpr c49
       have c49b1 := bne_eq_false_iff_eq.mpr c49
       clear c49
       obtain ⟨y187, hy_⟩ : ∃ y_ : List ByteArray, y_ = (([(⟨#[]⟩ : ByteArray), (⟨#[104, 105]⟩ : ByteArray), (⟨#[116, 119, 101, 108, 118, 101, 98, 121, 116, 101, 115, 33]⟩ : ByteArray)] : List ByteArray)) := ⟨_, rfl⟩
       replace H : ((spec_l1Str.f s0_0 t169 t170 y187).bind fun bt190 => (some (t159, t162, t168, 0, (⟨#[]⟩ : ByteArray), bt190.1, bt190.2.1, bt190.2.2))) = some (r1, r2, r3, r4, r5, r6, r7, r8) := jD
       have Ny187 := aS hy_
       clear hy_
       obtain ⟨⟨t190, t191, t192⟩, A50, H⟩ := bM H
       try dsimp only at H
       simp only [Option.some.injEq, Prod.mk.injEq] at H
       obtain ⟨rfl, rfl, rfl, rfl, rfl, rfl, rfl, rfl⟩ := H
       go_wp2_with (first | ((with_reducible refine gate_dst (N := 38) rfl ?_); refine Kd.R_lit Kd.string _ 9 ?hg (N := 38) ?hd (xs := ([(⟨#[]⟩ : ByteArray), (⟨#[104, 105]⟩ : ByteArray), (⟨#[116, 119, 101, 108, 118, 101, 98, 121, 116, 101, 115, 33]⟩ : ByteArray)] : List ByteArray)) (inner := [.string (⟨#[]⟩ : ByteArray), .string (⟨#[104, 105]⟩ : ByteArray), .string (⟨#[116, 119, 101, 108, 118, 101, 98, 121, 116, 101, 115, 33]⟩ : ByteArray)]) (ok := fun _ => True) (okp := fun _ => True) ?hr ?hp (fun _ hk => hk) trivial (Below.refl _ _) (Nat.le_refl _) (by simp) ?_; (case hd => rfl); (case hg => rfl); (case hr => first | (go_simp; done) | (go_simp; rfl)); (case hp => exact (Reps.one (show Kd.M Kd.string _ _ _ (⟨#[]⟩ : ByteArray) [.string (⟨#[]⟩ : ByteArray)] from rfl) (Reps.one (show Kd.M Kd.string _ _ _ (⟨#[104, 105]⟩ : ByteArray) [.string (⟨#[104, 105]⟩ : ByteArray)] from rfl) (Reps.one (show Kd.M Kd.string _ _ _ (⟨#[116, 119, 101, 108, 118, 101, 98, 121, 116, 101, 115, 33]⟩ : ByteArray) [.string (⟨#[116, 119, 101, 108, 118, 101, 98, 121, 116, 101, 115, 33]⟩ : ByteArray)] from rfl) (Reps.none _ _))))); intro v188 w51 ho52 hb hg_ hnew_; clear hg_ hnew_; (first | rw [← Ny187.out] at ho52 | (simp only [Int.reduceToNat] at ho52; rw [← Ny187.out] at ho52)); have HO189 := aS (Kd.R_lower ho52 (keep_size (w := w) (g := g) (row := none) (kS2 HK.out GW158.out GW171.out))); replace BK158 := aS (blk_below (bU BK158.out) hb); replace BK171 := aS (blk_below (bU BK171.out) hb); replace HK := aS (KeepBut.trans (kS2 HK.out GW158.out GW171.out) (KeepBut.of_below hb g none) (.inl rfl)); replace HB := aS (below_step (by exact wS3 HB.out (IsS111.ge HI0.out) GE158.out GE171.out) hb); replace HI0 := aS (IsS111.below (IsS111.iS2 HI0.out NB0_158.out NB0_171.out) hb); clear hb ho52; obtain ⟨Ao53, co53, eo53⟩ := Kd.R_slice HO189.out; subst eo53) | ((with_reducible refine gate_callee (f := 113) rfl ?_); refine goesL_ (some 39) rfl rfl Tryd.func113 jK rfl #[.pointer (some ⟨g, 0, none⟩), .slice Ao53 y187.length co53] rfl jA ?_; (with_reducible refine (spec_l1Str.calls g s0_0 t169 t170 _ _ y187 t190 t191 t192 w0 _ ?side1 ?side2 ?side3 ?side4 ?side5 A50.out).mono ?_); (case side1 => exact IsS111.iS2 HI0.out NB0_158.out NB0_171.out); (case side2 => exact wS3 HB.out (IsS111.ge HI0.out) GE158.out GE171.out); (case side3 => exact cU ((Kd.R_reads' HO189.out).2.2)); (case side4 => exact (Kd.R_reads' HO189.out).2.1); (case side5 => exact far_slice (IsS111.own_ne HI0.out HO189.out (by decide))); rintro e w54 ⟨rfl, hi, hb, hk⟩; refine ⟨_, rfl, ?_⟩; replace BK158 := aS (KeepBut.blk hk (g' := gb158) (o := .cells #[.string (⟨#[]⟩ : ByteArray), .int .i64 0, .int .i64 0, .int .i64 0, .string (⟨#[]⟩ : ByteArray), .string (⟨#[]⟩ : ByteArray)] 25 (0, 0)) (bU BK158.out) NB158_0.out (by simp)); replace BK171 := aS (KeepBut.blk hk (g' := gb171) (o := .cells #[.string t159, .int .i64 t162, .int .i64 t168, .int .i64 0, .string (⟨#[]⟩ : ByteArray), .string (⟨#[]⟩ : ByteArray)] 25 (0, 0)) (bU BK171.out) NB171_0.out (by simp)); replace HO189 := aS (Kd.R_mono (Kd.R_keep (IsS111.apart (show IsS111 w0 _ g s0_0 t169 t170 from by exact IsS111.iS2 HI0.out NB0_158.out NB0_171.out) (rU HO189.out) (by decide)) hk (fun _ h => h.2)) (fun _ h => h.1)); replace HK := aS (KeepBut.trans (kS2 HK.out GW158.out GW171.out) hk (.inl rfl)); replace HB := aS (hb); replace HI0 := aS (hi); clear hi hb hk; have hnb55 := NB171_158.out; have hnc55 := NB158_171.out; have hnb56 := NB171_0.out; have hnc56 := NB0_171.out; have hcz57 := cells6f BK171.out; have hnb58 := NB158_0.out; have hnc58 := NB0_158.out; have hcz59 := cells6f BK158.out))
       refine bodyPost_ret (results_cell_row rfl _ _ gb158 25 #[.string t159, .int .i64 t162, .int .i64 t168, .int .i64 0, .string (⟨#[]⟩ : ByteArray), .string t190] (0, 0) _ rfl (by (with_reducible repeat (first | refine blk_drewN ?_ _ | refine blk_drew ?_ | refine blk_alloc ?_ _)); refine blk_put_6 (.string (⟨#[]⟩ : ByteArray)) (.int .i64 0) (.int .i64 0) (.int .i64 0) (.string (⟨#[]⟩ : ByteArray)) (.string (⟨#[]⟩ : ByteArray)) ?_; (with_reducible repeat (first | refine blk_drewN ?_ _ | refine blk_drew ?_ | refine blk_alloc ?_ _)); refine blk_far ?_ NB158_171.out _; exact bU BK158.out) Tryd.underlying25 rfl jK) rfl ?_
       exact ⟨jE, by exact IsS111.iS2 HI0.out NB0_158.out NB0_171.out, by exact wS3 HB.out (IsS111.ge HI0.out) GE158.out GE171.out, by exact kS2 HK.out GW158.out GW171.out⟩
      ·rw [if_neg c49] at H
       have c49b0 := beq_eq_false_iff_ne.mpr c49
       have c49b1 := bne_iff_ne.mpr c49
       simp only [Option.some.injEq, Prod.mk.injEq] at H
       obtain ⟨rfl, rfl, rfl, rfl, rfl, rfl, rfl, rfl⟩ := H
       have hnb60 := NB171_158.out
       have hnc60 := NB158_171.out
       have hnb61 := NB171_0.out
       have hnc61 := NB0_171.out
       have hcz62 := cells6f BK171.out
       have hnb63 := NB158_0.out
       have hnc63 := NB0_158.out
       have hcz64 := cells6f BK158.out
       go_wp2
       refine bodyPost_ret (results_cell_row rfl _ _ gb158 25 #[.string t159, .int .i64 t162, .int .i64 t168, .int .i64 0, .string (⟨#[]⟩ : ByteArray), .string (⟨#[]⟩ : ByteArray)] (0, 0) _ rfl (by (with_reducible repeat (first | refine blk_drewN ?_ _ | refine blk_drew ?_ | refine blk_alloc ?_ _)); refine blk_put_6 (.string (⟨#[]⟩ : ByteArray)) (.int .i64 0) (.int .i64 0) (.int .i64 0) (.string (⟨#[]⟩ : ByteArray)) (.string (⟨#[]⟩ : ByteArray)) ?_; exact bU BK158.out) Tryd.underlying25 rfl jK) rfl ?_
       exact ⟨jE, by exact IsS111.iS2 HI0.out NB0_158.out NB0_171.out, by exact wS3 HB.out (IsS111.ge HI0.out) GE158.out GE171.out, by exact kS2 HK.out GW158.out GW171.out⟩

/-! ### spec_l1Once: function 76 -/
def spec_l1Once.f (s0_0 : List Int) (s0_1 : Int) (s0_2 : Int) (a1 : Int) : Option (Bool × Int × Int) := (spec_l1Below.f s0_0 s0_1 s0_2 a1).bind fun bt193 => (some ((bt193.1 == 0), bt193.2.1, bt193.2.2))
set_option maxHeartbeats 8000000 in
set_option maxRecDepth 100000 in
theorem spec_l1Once.calls (g : Nat) (s0_0 : List Int) (s0_1 : Int) (s0_2 : Int) (a1 : Int) (r1 : Bool) (r2 : Int) (r3 : Int) (w0 w : World) (hI : IsS111 w0 w g s0_0 s0_1 s0_2) (hB : Below w0.heap.size w0 w) (h : spec_l1Once.f s0_0 s0_1 s0_2 a1 = some (r1, r2, r3)) :
  Calls Tryd.prog 76 #[.pointer (some ⟨g, 0, none⟩), .int .i64 a1] w fun e w' => e = .returned (.bool r1) ∧ IsS111 w0 w' g s0_0 r2 r3 ∧ Below w0.heap.size w0 w' ∧ KeepBut w w' g none := by
 have HI0 := aS hI
 have HK := aS (KeepBut.refl w g none)
 have HL := aS hB.size
 clear hI
 have HW0 := aS hB.size
 have HB := aS hB
 clear hB
 have H : ((spec_l1Below.f s0_0 s0_1 s0_2 a1).bind fun bt193 => (some ((bt193.1 == 0), bt193.2.1, bt193.2.2))) = some (r1, r2, r3) := h
 clear h
 obtain ⟨⟨t193, t194, t195⟩, A3, H⟩ := bM H
 try dsimp only at H
 simp only [Option.some.injEq, Prod.mk.injEq] at H
 obtain ⟨rfl, rfl, rfl⟩ := H
 go_enter Tryd.func76, Tryd.ntmps76
 go_wp2_with (first | ((with_reducible refine gate_callee (f := 78) rfl ?_); refine goesL_ (some 7) rfl rfl Tryd.func78 jK rfl #[.pointer (some ⟨g, 0, none⟩), .int .i64 a1] rfl jA ?_; (with_reducible refine (spec_l1Below.calls g s0_0 s0_1 s0_2 a1 t193 t194 t195 w0 _ ?side1 ?side2 A3.out).mono ?_); (case side1 => exact IsS111.iS0 HI0.out); (case side2 => exact wS1 HB.out (IsS111.ge HI0.out)); rintro e w4 ⟨rfl, hi, hb, hk⟩; refine ⟨_, rfl, ?_⟩; replace HK := aS (KeepBut.trans (kS0 HK.out) hk (.inl rfl)); replace HB := aS (hb); replace HI0 := aS (hi); clear hi hb hk))
 go_ret
 exact ⟨jE, by exact IsS111.iS0 HI0.out, by exact wS1 HB.out (IsS111.ge HI0.out), by exact kS0 HK.out⟩

/-! ### spec_l3Any: function 112 -/
def spec_l3Any.f (s0_0 : List Int) (s0_1 : Int) (s0_2 : Int) : Option (ByteArray × Int × Int) := (spec_l1Once.f s0_0 s0_1 s0_2 5).bind fun bt196 => (if bt196.1 = true then ((spec_l1Str.f s0_0 bt196.2.1 bt196.2.2 (([(⟨#[46]⟩ : ByteArray), (⟨#[97, 46]⟩ : ByteArray), (⟨#[65, 46, 99, 111, 109]⟩ : ByteArray), (⟨#[97, 46, 46, 98]⟩ : ByteArray), (⟨#[97, 46, 98, 46, 99, 46, 100, 46, 101, 46, 102]⟩ : ByteArray), (⟨#[97, 46, 98, 46, 99, 46, 100, 46, 101, 46, 102, 46, 103]⟩ : ByteArray), (⟨#[116, 119, 101, 108, 118, 101, 98, 121, 116, 101, 115, 48, 46, 116, 119, 101, 108, 118, 101, 98, 121, 116, 101, 115, 48, 46, 116, 119, 101, 108, 118, 101, 98, 121, 116, 101, 115, 48, 46, 116, 119, 101, 108, 118, 101, 98, 121, 116, 101, 115, 48]⟩ : ByteArray), (⟨#[116, 104, 105, 114, 116, 101, 101, 110, 98, 121, 116, 101, 115, 46, 97]⟩ : ByteArray)] : List ByteArray))).bind fun bt202 => (some (bt202.1, bt202.2.1, bt202.2.2))) else ((spec_l3Name.f s0_0 bt196.2.1 bt196.2.2).bind fun bt205 => (some (bt205.1, bt205.2.1, bt205.2.2))))
set_option maxHeartbeats 8000000 in
set_option maxRecDepth 100000 in
theorem spec_l3Any.calls (g : Nat) (s0_0 : List Int) (s0_1 : Int) (s0_2 : Int) (r1 : ByteArray) (r2 : Int) (r3 : Int) (w0 w : World) (hI : IsS111 w0 w g s0_0 s0_1 s0_2) (hB : Below w0.heap.size w0 w) (h : spec_l3Any.f s0_0 s0_1 s0_2 = some (r1, r2, r3)) :
  Calls Tryd.prog 112 #[.pointer (some ⟨g, 0, none⟩)] w fun e w' => e = .returned (.string r1) ∧ IsS111 w0 w' g s0_0 r2 r3 ∧ Below w0.heap.size w0 w' ∧ KeepBut w w' g none := by
 have HI0 := aS hI
 have HK := aS (KeepBut.refl w g none)
 have HL := aS hB.size
 clear hI
 have HW0 := aS hB.size
 have HB := aS hB
 clear hB
 have H : ((spec_l1Once.f s0_0 s0_1 s0_2 5).bind fun bt196 => (if bt196.1 = true then ((spec_l1Str.f s0_0 bt196.2.1 bt196.2.2 (([(⟨#[46]⟩ : ByteArray), (⟨#[97, 46]⟩ : ByteArray), (⟨#[65, 46, 99, 111, 109]⟩ : ByteArray), (⟨#[97, 46, 46, 98]⟩ : ByteArray), (⟨#[97, 46, 98, 46, 99, 46, 100, 46, 101, 46, 102]⟩ : ByteArray), (⟨#[97, 46, 98, 46, 99, 46, 100, 46, 101, 46, 102, 46, 103]⟩ : ByteArray), (⟨#[116, 119, 101, 108, 118, 101, 98, 121, 116, 101, 115, 48, 46, 116, 119, 101, 108, 118, 101, 98, 121, 116, 101, 115, 48, 46, 116, 119, 101, 108, 118, 101, 98, 121, 116, 101, 115, 48, 46, 116, 119, 101, 108, 118, 101, 98, 121, 116, 101, 115, 48]⟩ : ByteArray), (⟨#[116, 104, 105, 114, 116, 101, 101, 110, 98, 121, 116, 101, 115, 46, 97]⟩ : ByteArray)] : List ByteArray))).bind fun bt202 => (some (bt202.1, bt202.2.1, bt202.2.2))) else ((spec_l3Name.f s0_0 bt196.2.1 bt196.2.2).bind fun bt205 => (some (bt205.1, bt205.2.1, bt205.2.2))))) = some (r1, r2, r3) := h
 clear h
 obtain ⟨⟨t196, t197, t198⟩, A2, H⟩ := bM H
 try dsimp only at H
 by_cases c3 : t196 = true
 ·subst c3
  rw [if_pos rfl] at H
  obtain ⟨y199, hy_⟩ : ∃ y_ : List ByteArray, y_ = (([(⟨#[46]⟩ : ByteArray), (⟨#[97, 46]⟩ : ByteArray), (⟨#[65, 46, 99, 111, 109]⟩ : ByteArray), (⟨#[97, 46, 46, 98]⟩ : ByteArray), (⟨#[97, 46, 98, 46, 99, 46, 100, 46, 101, 46, 102]⟩ : ByteArray), (⟨#[97, 46, 98, 46, 99, 46, 100, 46, 101, 46, 102, 46, 103]⟩ : ByteArray), (⟨#[116, 119, 101, 108, 118, 101, 98, 121, 116, 101, 115, 48, 46, 116, 119, 101, 108, 118, 101, 98, 121, 116, 101, 115, 48, 46, 116, 119, 101, 108, 118, 101, 98, 121, 116, 101, 115, 48, 46, 116, 119, 101, 108, 118, 101, 98, 121, 116, 101, 115, 48]⟩ : ByteArray), (⟨#[116, 104, 105, 114, 116, 101, 101, 110, 98, 121, 116, 101, 115, 46, 97]⟩ : ByteArray)] : List ByteArray)) := ⟨_, rfl⟩
  replace H : ((spec_l1Str.f s0_0 t197 t198 y199).bind fun bt202 => (some (bt202.1, bt202.2.1, bt202.2.2))) = some (r1, r2, r3) := jD
  have Ny199 := aS hy_
  clear hy_
  obtain ⟨⟨t202, t203, t204⟩, A4, H⟩ := bM H
  try dsimp only at H
  simp only [Option.some.injEq, Prod.mk.injEq] at H
  obtain ⟨rfl, rfl, rfl⟩ := H
  go_enter Tryd.func112, Tryd.ntmps112
  go_wp2_with (first | ((with_reducible refine gate_callee (f := 76) rfl ?_); refine goesL_ (some 4) rfl rfl Tryd.func76 jK rfl #[.pointer (some ⟨g, 0, none⟩), .int .i64 5] rfl jA ?_; (with_reducible refine (spec_l1Once.calls g s0_0 s0_1 s0_2 5 true t197 t198 w0 _ ?side1 ?side2 A2.out).mono ?_); (case side1 => exact IsS111.iS0 HI0.out); (case side2 => exact wS1 HB.out (IsS111.ge HI0.out)); rintro e w5 ⟨rfl, hi, hb, hk⟩; refine ⟨_, rfl, ?_⟩; replace HK := aS (KeepBut.trans (kS0 HK.out) hk (.inl rfl)); replace HB := aS (hb); replace HI0 := aS (hi); clear hi hb hk) | ((with_reducible refine gate_dst (N := 6) rfl ?_); refine Kd.R_lit Kd.string _ 9 ?hg (N := 6) ?hd (xs := ([(⟨#[46]⟩ : ByteArray), (⟨#[97, 46]⟩ : ByteArray), (⟨#[65, 46, 99, 111, 109]⟩ : ByteArray), (⟨#[97, 46, 46, 98]⟩ : ByteArray), (⟨#[97, 46, 98, 46, 99, 46, 100, 46, 101, 46, 102]⟩ : ByteArray), (⟨#[97, 46, 98, 46, 99, 46, 100, 46, 101, 46, 102, 46, 103]⟩ : ByteArray), (⟨#[116, 119, 101, 108, 118, 101, 98, 121, 116, 101, 115, 48, 46, 116, 119, 101, 108, 118, 101, 98, 121, 116, 101, 115, 48, 46, 116, 119, 101, 108, 118, 101, 98, 121, 116, 101, 115, 48, 46, 116, 119, 101, 108, 118, 101, 98, 121, 116, 101, 115, 48]⟩ : ByteArray), (⟨#[116, 104, 105, 114, 116, 101, 101, 110, 98, 121, 116, 101, 115, 46, 97]⟩ : ByteArray)] : List ByteArray)) (inner := [.string (⟨#[46]⟩ : ByteArray), .string (⟨#[97, 46]⟩ : ByteArray), .string (⟨#[65, 46, 99, 111, 109]⟩ : ByteArray), .string (⟨#[97, 46, 46, 98]⟩ : ByteArray), .string (⟨#[97, 46, 98, 46, 99, 46, 100, 46, 101, 46, 102]⟩ : ByteArray), .string (⟨#[97, 46, 98, 46, 99, 46, 100, 46, 101, 46, 102, 46, 103]⟩ : ByteArray), .string (⟨#[116, 119, 101, 108, 118, 101, 98, 121, 116, 101, 115, 48, 46, 116, 119, 101, 108, 118, 101, 98, 121, 116, 101, 115, 48, 46, 116, 119, 101, 108, 118, 101, 98, 121, 116, 101, 115, 48, 46, 116, 119, 101, 108, 118, 101, 98, 121, 116, 101, 115, 48]⟩ : ByteArray), .string (⟨#[116, 104, 105, 114, 116, 101, 101, 110, 98, 121, 116, 101, 115, 46, 97]⟩ : ByteArray)]) (ok := fun _ => True) (okp := fun _ => True) ?hr ?hp (fun _ hk => hk) trivial (Below.refl _ _) (Nat.le_refl _) (by simp) ?_; (case hd => rfl); (case hg => rfl); (case hr => first | (go_simp; done) | (go_simp; rfl)); (case hp => exact (Reps.one (show Kd.M Kd.string _ _ _ (⟨#[46]⟩ : ByteArray) [.string (⟨#[46]⟩ : ByteArray)] from rfl) (Reps.one (show Kd.M Kd.string _ _ _ (⟨#[97, 46]⟩ : ByteArray) [.string (⟨#[97, 46]⟩ : ByteArray)] from rfl) (Reps.one (show Kd.M Kd.string _ _ _ (⟨#[65, 46, 99, 111, 109]⟩ : ByteArray) [.string (⟨#[65, 46, 99, 111, 109]⟩ : ByteArray)] from rfl) (Reps.one (show Kd.M Kd.string _ _ _ (⟨#[97, 46, 46, 98]⟩ : ByteArray) [.string (⟨#[97, 46, 46, 98]⟩ : ByteArray)] from rfl) (Reps.one (show Kd.M Kd.string _ _ _ (⟨#[97, 46, 98, 46, 99, 46, 100, 46, 101, 46, 102]⟩ : ByteArray) [.string (⟨#[97, 46, 98, 46, 99, 46, 100, 46, 101, 46, 102]⟩ : ByteArray)] from rfl) (Reps.one (show Kd.M Kd.string _ _ _ (⟨#[97, 46, 98, 46, 99, 46, 100, 46, 101, 46, 102, 46, 103]⟩ : ByteArray) [.string (⟨#[97, 46, 98, 46, 99, 46, 100, 46, 101, 46, 102, 46, 103]⟩ : ByteArray)] from rfl) (Reps.one (show Kd.M Kd.string _ _ _ (⟨#[116, 119, 101, 108, 118, 101, 98, 121, 116, 101, 115, 48, 46, 116, 119, 101, 108, 118, 101, 98, 121, 116, 101, 115, 48, 46, 116, 119, 101, 108, 118, 101, 98, 121, 116, 101, 115, 48, 46, 116, 119, 101, 108, 118, 101, 98, 121, 116, 101, 115, 48]⟩ : ByteArray) [.string (⟨#[116, 119, 101, 108, 118, 101, 98, 121, 116, 101, 115, 48, 46, 116, 119, 101, 108, 118, 101, 98, 121, 116, 101, 115, 48, 46, 116, 119, 101, 108, 118, 101, 98, 121, 116, 101, 115, 48, 46, 116, 119, 101, 108, 118, 101, 98, 121, 116, 101, 115, 48]⟩ : ByteArray)] from rfl) (Reps.one (show Kd.M Kd.string _ _ _ (⟨#[116, 104, 105, 114, 116, 101, 101, 110, 98, 121, 116, 101, 115, 46, 97]⟩ : ByteArray) [.string (⟨#[116, 104, 105, 114, 116, 101, 101, 110, 98, 121, 116, 101, 115, 46, 97]⟩ : ByteArray)] from rfl) (Reps.none _ _)))))))))); intro v200 w6 ho7 hb hg_ hnew_; clear hg_ hnew_; (first | rw [← Ny199.out] at ho7 | (simp only [Int.reduceToNat] at ho7; rw [← Ny199.out] at ho7)); have HO201 := aS (Kd.R_lower ho7 (keep_size (w := w) (g := g) (row := none) (kS0 HK.out))); replace HK := aS (KeepBut.trans (kS0 HK.out) (KeepBut.of_below hb g none) (.inl rfl)); replace HB := aS (below_step (by exact wS1 HB.out (IsS111.ge HI0.out)) hb); replace HI0 := aS (IsS111.below (IsS111.iS0 HI0.out) hb); clear hb ho7; obtain ⟨Ao8, co8, eo8⟩ := Kd.R_slice HO201.out; subst eo8) | ((with_reducible refine gate_callee (f := 113) rfl ?_); refine goesL_ (some 7) rfl rfl Tryd.func113 jK rfl #[.pointer (some ⟨g, 0, none⟩), .slice Ao8 y199.length co8] rfl jA ?_; (with_reducible refine (spec_l1Str.calls g s0_0 t197 t198 _ _ y199 t202 t203 t204 w0 _ ?side1 ?side2 ?side3 ?side4 ?side5 A4.out).mono ?_); (case side1 => exact IsS111.iS0 HI0.out); (case side2 => exact wS1 HB.out (IsS111.ge HI0.out)); (case side3 => exact cU ((Kd.R_reads' HO201.out).2.2)); (case side4 => exact (Kd.R_reads' HO201.out).2.1); (case side5 => exact far_slice (IsS111.own_ne HI0.out HO201.out (by decide))); rintro e w9 ⟨rfl, hi, hb, hk⟩; refine ⟨_, rfl, ?_⟩; replace HO201 := aS (Kd.R_mono (Kd.R_keep (IsS111.apart (show IsS111 w0 _ g s0_0 t197 t198 from by exact IsS111.iS0 HI0.out) (rU HO201.out) (by decide)) hk (fun _ h => h.2)) (fun _ h => h.1)); replace HK := aS (KeepBut.trans (kS0 HK.out) hk (.inl rfl)); replace HB := aS (hb); replace HI0 := aS (hi); clear hi hb hk))
  go_ret
  exact ⟨jE, by exact IsS111.iS0 HI0.out, by exact wS1 HB.out (IsS111.ge HI0.out), by exact kS0 HK.out⟩
 ·replace c3 := Bool.eq_false_iff.mpr c3
  subst c3
  rw [if_neg Bool.false_ne_true] at H
  obtain ⟨⟨t205, t206, t207⟩, A10, H⟩ := bM H
  try dsimp only at H
  simp only [Option.some.injEq, Prod.mk.injEq] at H
  obtain ⟨rfl, rfl, rfl⟩ := H
  go_enter Tryd.func112, Tryd.ntmps112
  go_wp2_with (first | ((with_reducible refine gate_callee (f := 76) rfl ?_); refine goesL_ (some 4) rfl rfl Tryd.func76 jK rfl #[.pointer (some ⟨g, 0, none⟩), .int .i64 5] rfl jA ?_; (with_reducible refine (spec_l1Once.calls g s0_0 s0_1 s0_2 5 false t197 t198 w0 _ ?side1 ?side2 A2.out).mono ?_); (case side1 => exact IsS111.iS0 HI0.out); (case side2 => exact wS1 HB.out (IsS111.ge HI0.out)); rintro e w11 ⟨rfl, hi, hb, hk⟩; refine ⟨_, rfl, ?_⟩; replace HK := aS (KeepBut.trans (kS0 HK.out) hk (.inl rfl)); replace HB := aS (hb); replace HI0 := aS (hi); clear hi hb hk) | ((with_reducible refine gate_callee (f := 85) rfl ?_); refine goesL_ (some 9) rfl rfl Tryd.func85 jK rfl #[.pointer (some ⟨g, 0, none⟩)] rfl jA ?_; (with_reducible refine (spec_l3Name.calls g s0_0 t197 t198 t205 t206 t207 w0 _ ?side1 ?side2 A10.out).mono ?_); (case side1 => exact IsS111.iS0 HI0.out); (case side2 => exact wS1 HB.out (IsS111.ge HI0.out)); rintro e w12 ⟨rfl, hi, hb, hk⟩; refine ⟨_, rfl, ?_⟩; replace HK := aS (KeepBut.trans (kS0 HK.out) hk (.inl rfl)); replace HB := aS (hb); replace HI0 := aS (hi); clear hi hb hk))
  go_ret
  exact ⟨jE, by exact IsS111.iS0 HI0.out, by exact wS1 HB.out (IsS111.ge HI0.out), by exact kS0 HK.out⟩

/-! ### spec_l5Any: function 58 -/
def spec_l5Any.f (k : Nat) (s0_0 : List Int) (s0_1 : Int) (s0_2 : Int) : Option (ByteArray × Int × Int × Int × ByteArray × ByteArray × Int × Int) := (spec_l5Draw.f k s0_0 s0_1 s0_2).bind fun bt209 => ((spec_l1Below.f s0_0 bt209.2.2.2.2.2.2.1 bt209.2.2.2.2.2.2.2 12).bind fun bt218 => (if bt218.1 = 0 then ((spec_l3Any.f s0_0 bt218.2.1 bt218.2.2).bind fun bt221 => (some (bt221.1, bt209.2.1, bt209.2.2.1, bt209.2.2.2.1, bt209.2.2.2.2.1, bt209.2.2.2.2.2.1, bt221.2.1, bt221.2.2))) else (if bt218.1 = 1 then ((spec_l1Int.f s0_0 bt218.2.1 bt218.2.2 (([0, 3, 15, 1, 2, 6] : List Int))).bind fun bt227 => (some (bt209.1, bt227.1, bt209.2.2.1, bt209.2.2.2.1, bt209.2.2.2.2.1, bt209.2.2.2.2.2.1, bt227.2.1, bt227.2.2))) else (if bt218.1 = 2 then ((spec_l1Int.f s0_0 bt218.2.1 bt218.2.2 (([(-1), 100000, 100001] : List Int))).bind fun bt233 => (some (bt209.1, bt209.2.1, bt233.1, bt209.2.2.2.1, bt209.2.2.2.2.1, bt209.2.2.2.2.2.1, bt233.2.1, bt233.2.2))) else (if bt218.1 = 3 then ((spec_l1Int.f s0_0 bt218.2.1 bt218.2.2 (([(-1), 2147483647, 2147483648, 100001, 0] : List Int))).bind fun bt239 => (some (bt209.1, bt209.2.1, bt209.2.2.1, bt239.1, bt209.2.2.2.2.1, bt209.2.2.2.2.2.1, bt239.2.1, bt239.2.2))) else (if bt218.1 = 4 then ((spec_l3Any.f s0_0 bt218.2.1 bt218.2.2).bind fun bt242 => (some (bt209.1, bt209.2.1, bt209.2.2.1, bt209.2.2.2.1, bt242.1, bt209.2.2.2.2.2.1, bt242.2.1, bt242.2.2))) else (if bt218.1 = 5 then ((spec_l1Str.f s0_0 bt218.2.1 bt218.2.2 (([(⟨#[32]⟩ : ByteArray), (⟨#[127]⟩ : ByteArray), (⟨#[116, 104, 105, 114, 116, 101, 101, 110, 98, 121, 116, 101, 115]⟩ : ByteArray), (⟨#[120]⟩ : ByteArray)] : List ByteArray))).bind fun bt248 => (some (bt209.1, bt209.2.1, bt209.2.2.1, bt209.2.2.2.1, bt209.2.2.2.2.1, bt248.1, bt248.2.1, bt248.2.2))) else (some (bt209.1, bt209.2.1, bt209.2.2.1, bt209.2.2.2.1, bt209.2.2.2.2.1, bt209.2.2.2.2.2.1, bt218.2.1, bt218.2.2)))))))))
theorem spec_l5Any.mono : ∀ a0 a1 a2 k, LeO (spec_l5Any.f k a0 a1 a2) (spec_l5Any.f (k + 1) a0 a1 a2) := by
 intro a0 a1 a2 k
 unfold spec_l5Any.f
 repeat' first
   | (with_reducible first | exact spec_l5Draw.mono _ _ _ _ | exact LeO.refl _ | exact LeO.none _ | refine LeO.ite ?_ ?_ | refine LeO.bind ?_ (fun _ => ?_))
   | exact spec_l5Draw.mono _ _ _ _
   | exact LeO.none _
   | refine LeO.ite ?_ ?_
   | refine LeO.bind ?_ (fun _ => ?_)
set_option maxHeartbeats 8000000 in
set_option maxRecDepth 100000 in
theorem spec_l5Any.calls (k : Nat) (g : Nat) (s0_0 : List Int) (s0_1 : Int) (s0_2 : Int) (r1 : ByteArray) (r2 : Int) (r3 : Int) (r4 : Int) (r5 : ByteArray) (r6 : ByteArray) (r7 : Int) (r8 : Int) (w0 w : World) (hI : IsS111 w0 w g s0_0 s0_1 s0_2) (hB : Below w0.heap.size w0 w) (h : spec_l5Any.f k s0_0 s0_1 s0_2 = some (r1, r2, r3, r4, r5, r6, r7, r8)) :
  Calls Tryd.prog 58 #[.pointer (some ⟨g, 0, none⟩)] w fun e w' => e = .returned (.agg #[.string r1, .int .i64 r2, .int .i64 r3, .int .i64 r4, .string r5, .string r6]) ∧ IsS111 w0 w' g s0_0 r7 r8 ∧ Below w0.heap.size w0 w' ∧ KeepBut w w' g none := by
 have hu25 := Tryd.underlying25
 have HI0 := aS hI
 have HK := aS (KeepBut.refl w g none)
 have HL := aS hB.size
 clear hI
 have HW0 := aS hB.size
 have HB := aS hB
 clear hB
 have H : ((spec_l5Draw.f k s0_0 s0_1 s0_2).bind fun bt209 => ((spec_l1Below.f s0_0 bt209.2.2.2.2.2.2.1 bt209.2.2.2.2.2.2.2 12).bind fun bt218 => (if bt218.1 = 0 then ((spec_l3Any.f s0_0 bt218.2.1 bt218.2.2).bind fun bt221 => (some (bt221.1, bt209.2.1, bt209.2.2.1, bt209.2.2.2.1, bt209.2.2.2.2.1, bt209.2.2.2.2.2.1, bt221.2.1, bt221.2.2))) else (if bt218.1 = 1 then ((spec_l1Int.f s0_0 bt218.2.1 bt218.2.2 (([0, 3, 15, 1, 2, 6] : List Int))).bind fun bt227 => (some (bt209.1, bt227.1, bt209.2.2.1, bt209.2.2.2.1, bt209.2.2.2.2.1, bt209.2.2.2.2.2.1, bt227.2.1, bt227.2.2))) else (if bt218.1 = 2 then ((spec_l1Int.f s0_0 bt218.2.1 bt218.2.2 (([(-1), 100000, 100001] : List Int))).bind fun bt233 => (some (bt209.1, bt209.2.1, bt233.1, bt209.2.2.2.1, bt209.2.2.2.2.1, bt209.2.2.2.2.2.1, bt233.2.1, bt233.2.2))) else (if bt218.1 = 3 then ((spec_l1Int.f s0_0 bt218.2.1 bt218.2.2 (([(-1), 2147483647, 2147483648, 100001, 0] : List Int))).bind fun bt239 => (some (bt209.1, bt209.2.1, bt209.2.2.1, bt239.1, bt209.2.2.2.2.1, bt209.2.2.2.2.2.1, bt239.2.1, bt239.2.2))) else (if bt218.1 = 4 then ((spec_l3Any.f s0_0 bt218.2.1 bt218.2.2).bind fun bt242 => (some (bt209.1, bt209.2.1, bt209.2.2.1, bt209.2.2.2.1, bt242.1, bt209.2.2.2.2.2.1, bt242.2.1, bt242.2.2))) else (if bt218.1 = 5 then ((spec_l1Str.f s0_0 bt218.2.1 bt218.2.2 (([(⟨#[32]⟩ : ByteArray), (⟨#[127]⟩ : ByteArray), (⟨#[116, 104, 105, 114, 116, 101, 101, 110, 98, 121, 116, 101, 115]⟩ : ByteArray), (⟨#[120]⟩ : ByteArray)] : List ByteArray))).bind fun bt248 => (some (bt209.1, bt209.2.1, bt209.2.2.1, bt209.2.2.2.1, bt209.2.2.2.2.1, bt248.1, bt248.2.1, bt248.2.2))) else (some (bt209.1, bt209.2.1, bt209.2.2.1, bt209.2.2.2.1, bt209.2.2.2.2.1, bt209.2.2.2.2.2.1, bt218.2.1, bt218.2.2)))))))))) = some (r1, r2, r3, r4, r5, r6, r7, r8) := h
 clear h
 obtain ⟨⟨t209, t210, t211, t212, t213, t214, t215, t216⟩, A2, H⟩ := bM H
 try dsimp only at H
 obtain ⟨⟨t218, t219, t220⟩, A3, H⟩ := bM H
 try dsimp only at H
 have HC4 := aS H
 clear H
 go_enter Tryd.func58, Tryd.ntmps58
 go_upto_if 8 with (first | ((with_reducible refine gate_dst (N := 2) rfl ?_); refine box_event ?hg (N := 2) ?hd (cs := #[.string (⟨#[]⟩ : ByteArray), .int .i64 0, .int .i64 0, .int .i64 0, .string (⟨#[]⟩ : ByteArray), .string (⟨#[]⟩ : ByteArray)]) (t := 25) ?hr ?_; (case hd => rfl); (case hg => rfl); (case hr => first | (go_simp; done) | (go_simp; rfl)); intro gb208 hg w5 hbox hb; replace HB := aS (below_step (by exact wS1 HB.out (IsS111.ge HI0.out)) hb); have BK208 := aS (hbox); have GW208 := aS ((by rw [hg]; exact (keep_size (w := w) (g := g) (row := none) (kS0 HK.out)) : w.heap.size ≤ gb208)); have GE208 := aS ((Nat.le_trans HW0.out (by rw [hg]; exact (keep_size (w := w) (g := g) (row := none) (kS0 HK.out)) : w.heap.size ≤ gb208) : w0.heap.size ≤ gb208)); replace HK := aS (KeepBut.trans (kS0 HK.out) (KeepBut.of_below hb g none) (.inl rfl)); have NB0_208 := aS ((by rw [hg]; exact Nat.ne_of_lt (IsS111.lt (show IsS111 w0 _ g s0_0 s0_1 s0_2 from by exact IsS111.iS0 HI0.out)) : g ≠ gb208)); have NB208_0 := aS ((by rw [hg]; exact Nat.ne_of_gt (IsS111.lt (show IsS111 w0 _ g s0_0 s0_1 s0_2 from by exact IsS111.iS0 HI0.out)) : gb208 ≠ g)); replace HI0 := aS (IsS111.below (IsS111.iS0 HI0.out) hb); clear hb hbox hg) | ((with_reducible refine gate_callee (f := 79) rfl ?_); refine goesL_ (some 5) rfl rfl Tryd.func79 jK rfl #[.pointer (some ⟨g, 0, none⟩)] rfl jA ?_; (with_reducible refine (spec_l5Draw.calls k g s0_0 s0_1 s0_2 t209 t210 t211 t212 t213 t214 t215 t216 w0 _ ?side1 ?side2 A2.out).mono ?_); (case side1 => exact IsS111.iS1 HI0.out NB0_208.out); (case side2 => exact wS2 HB.out (IsS111.ge HI0.out) GE208.out); rintro e w6 ⟨rfl, hi, hb, hk⟩; refine ⟨_, rfl, ?_⟩; replace BK208 := aS (KeepBut.blk hk (g' := gb208) (o := .cells #[.string (⟨#[]⟩ : ByteArray), .int .i64 0, .int .i64 0, .int .i64 0, .string (⟨#[]⟩ : ByteArray), .string (⟨#[]⟩ : ByteArray)] 25 (0, 0)) (bU BK208.out) NB208_0.out (by simp)); replace HK := aS (KeepBut.trans (kS1 HK.out GW208.out) hk (.inl rfl)); replace HB := aS (hb); replace HI0 := aS (hi); clear hi hb hk) | ((with_reducible refine gate_dst (N := 3) rfl ?_); refine box_event ?hg (N := 3) ?hd (cs := #[.string (⟨#[]⟩ : ByteArray), .int .i64 0, .int .i64 0, .int .i64 0, .string (⟨#[]⟩ : ByteArray), .string (⟨#[]⟩ : ByteArray)]) (t := 25) ?hr ?_; (case hd => rfl); (case hg => rfl); (case hr => first | (go_simp; done) | (go_simp; rfl)); intro gb217 hg w7 hbox hb; replace HB := aS (below_step (by exact wS2 HB.out (IsS111.ge HI0.out) GE208.out) hb); have BK217 := aS (hbox); have GW217 := aS ((by rw [hg]; exact (keep_size (w := w) (g := g) (row := none) (kS1 HK.out GW208.out)) : w.heap.size ≤ gb217)); have GE217 := aS ((Nat.le_trans HW0.out (by rw [hg]; exact (keep_size (w := w) (g := g) (row := none) (kS1 HK.out GW208.out)) : w.heap.size ≤ gb217) : w0.heap.size ≤ gb217)); replace HK := aS (KeepBut.trans (kS1 HK.out GW208.out) (KeepBut.of_below hb g none) (.inl rfl)); have NB208_217 := aS ((by rw [hg]; exact Nat.ne_of_lt (blk_lt (bU BK208.out)) : gb208 ≠ gb217)); have NB217_208 := aS ((by rw [hg]; exact Nat.ne_of_gt (blk_lt (bU BK208.out)) : gb217 ≠ gb208)); replace BK208 := aS (blk_below (bU BK208.out) hb); have NB0_217 := aS ((by rw [hg]; exact Nat.ne_of_lt (IsS111.lt (show IsS111 w0 _ g s0_0 t215 t216 from by exact IsS111.iS1 HI0.out NB0_208.out)) : g ≠ gb217)); have NB217_0 := aS ((by rw [hg]; exact Nat.ne_of_gt (IsS111.lt (show IsS111 w0 _ g s0_0 t215 t216 from by exact IsS111.iS1 HI0.out NB0_208.out)) : gb217 ≠ g)); replace HI0 := aS (IsS111.below (IsS111.iS1 HI0.out NB0_208.out) hb); clear hb hbox hg; have hnb8 := NB217_208.out; have hnc8 := NB208_217.out; have hnb9 := NB217_0.out; have hnc9 := NB0_217.out; have hcz10 := cells6f BK217.out) | ((with_reducible refine gate_callee (f := 78) rfl ?_); refine goesL_ (some 7) rfl rfl Tryd.func78 jK rfl #[.pointer (some ⟨g, 0, none⟩), .int .i64 12] rfl jA ?_; (with_reducible refine (spec_l1Below.calls g s0_0 t215 t216 12 t218 t219 t220 w0 _ ?side1 ?side2 A3.out).mono ?_); (case side1 => exact IsS111.iS2 HI0.out NB0_208.out NB0_217.out); (case side2 => exact wS3 HB.out (IsS111.ge HI0.out) GE208.out GE217.out); rintro e w11 ⟨rfl, hi, hb, hk⟩; refine ⟨_, rfl, ?_⟩; replace BK208 := aS (KeepBut.blk hk (g' := gb208) (o := .cells #[.string (⟨#[]⟩ : ByteArray), .int .i64 0, .int .i64 0, .int .i64 0, .string (⟨#[]⟩ : ByteArray), .string (⟨#[]⟩ : ByteArray)] 25 (0, 0)) (by (iterate 6 ((with_reducible repeat (first | refine blk_drewN ?_ _ | refine blk_drew ?_ | refine blk_alloc ?_ _)); refine blk_far ?_ NB208_217.out _)); exact bU BK208.out) NB208_0.out (by simp)); replace BK217 := aS (KeepBut.blk hk (g' := gb217) (o := .cells #[.string t209, .int .i64 t210, .int .i64 t211, .int .i64 t212, .string t213, .string t214] 25 (0, 0)) (by (with_reducible repeat (first | refine blk_drewN ?_ _ | refine blk_drew ?_ | refine blk_alloc ?_ _)); refine blk_put_6 (.string (⟨#[]⟩ : ByteArray)) (.int .i64 0) (.int .i64 0) (.int .i64 0) (.string (⟨#[]⟩ : ByteArray)) (.string (⟨#[]⟩ : ByteArray)) ?_; exact bU BK217.out) NB217_0.out (by simp)); replace HK := aS (KeepBut.trans (kS2 HK.out GW208.out GW217.out) hk (.inl rfl)); replace HB := aS (hb); replace HI0 := aS (hi); clear hi hb hk))
 (try simp only [Act.put, List.setIfInBounds_toArray, List.set_cons_zero, List.set_cons_succ])
 have H := HC4.out
 clear HC4
 by_cases c12 : t218 = 0
 ·rw [if_pos c12] at H
  have c12b0 := beq_iff_eq.mpr c12
  have c12b1 := bne_eq_false_iff_eq.mpr c12
  clear c12
  (first | rw [c12b0] | (simp only [i64_w, i32_w]; rw [c12b0]) | skip)
  obtain ⟨⟨t221, t222, t223⟩, A13, H⟩ := bM H
  try dsimp only at H
  simp only [Option.some.injEq, Prod.mk.injEq] at H
  obtain ⟨rfl, rfl, rfl, rfl, rfl, rfl, rfl, rfl⟩ := H
  go_wp2_with (first | ((with_reducible refine gate_callee (f := 112) rfl ?_); refine goesL_ (some 11) rfl rfl Tryd.func112 jK rfl #[.pointer (some ⟨g, 0, none⟩)] rfl jA ?_; (with_reducible refine (spec_l3Any.calls g s0_0 t219 t220 t221 t222 t223 w0 _ ?side1 ?side2 A13.out).mono ?_); (case side1 => exact IsS111.iS2 HI0.out NB0_208.out NB0_217.out); (case side2 => exact wS3 HB.out (IsS111.ge HI0.out) GE208.out GE217.out); rintro e w14 ⟨rfl, hi, hb, hk⟩; refine ⟨_, rfl, ?_⟩; replace BK208 := aS (KeepBut.blk hk (g' := gb208) (o := .cells #[.string (⟨#[]⟩ : ByteArray), .int .i64 0, .int .i64 0, .int .i64 0, .string (⟨#[]⟩ : ByteArray), .string (⟨#[]⟩ : ByteArray)] 25 (0, 0)) (bU BK208.out) NB208_0.out (by simp)); replace BK217 := aS (KeepBut.blk hk (g' := gb217) (o := .cells #[.string t209, .int .i64 t210, .int .i64 t211, .int .i64 t212, .string t213, .string t214] 25 (0, 0)) (bU BK217.out) NB217_0.out (by simp)); replace HK := aS (KeepBut.trans (kS2 HK.out GW208.out GW217.out) hk (.inl rfl)); replace HB := aS (hb); replace HI0 := aS (hi); clear hi hb hk; have hnb15 := NB217_208.out; have hnc15 := NB208_217.out; have hnb16 := NB217_0.out; have hnc16 := NB0_217.out; have hcz17 := cells6f BK217.out; have hnb18 := NB208_0.out; have hnc18 := NB0_208.out; have hcz19 := cells6f BK208.out))
  refine bodyPost_ret (results_cell_row rfl _ _ gb208 25 #[.string t221, .int .i64 t210, .int .i64 t211, .int .i64 t212, .string t213, .string t214] (0, 0) _ rfl (by (with_reducible repeat (first | refine blk_drewN ?_ _ | refine blk_drew ?_ | refine blk_alloc ?_ _)); refine blk_put_6 (.string (⟨#[]⟩ : ByteArray)) (.int .i64 0) (.int .i64 0) (.int .i64 0) (.string (⟨#[]⟩ : ByteArray)) (.string (⟨#[]⟩ : ByteArray)) ?_; (with_reducible repeat (first | refine blk_drewN ?_ _ | refine blk_drew ?_ | refine blk_alloc ?_ _)); refine blk_far ?_ NB208_217.out _; exact bU BK208.out) Tryd.underlying25 rfl jK) rfl ?_
  exact ⟨jE, by exact IsS111.iS2 HI0.out NB0_208.out NB0_217.out, by exact wS3 HB.out (IsS111.ge HI0.out) GE208.out GE217.out, by exact kS2 HK.out GW208.out GW217.out⟩
 ·rw [if_neg c12] at H
  have c12b0 := beq_eq_false_iff_ne.mpr c12
  have c12b1 := bne_iff_ne.mpr c12
  (first | rw [c12b0] | (simp only [i64_w, i32_w]; rw [c12b0]) | skip)
  by_cases c20 : t218 = 1
  ·rw [if_pos c20] at H
   have c20b0 := beq_iff_eq.mpr c20
   have c20b1 := bne_eq_false_iff_eq.mpr c20
   clear c20
   obtain ⟨y224, hy_⟩ : ∃ y_ : List Int, y_ = (([0, 3, 15, 1, 2, 6] : List Int)) := ⟨_, rfl⟩
   rw [← hy_] at H
   have Ny224 := aS hy_
   clear hy_
   obtain ⟨⟨t227, t228, t229⟩, A21, H⟩ := bM H
   try dsimp only at H
   simp only [Option.some.injEq, Prod.mk.injEq] at H
   obtain ⟨rfl, rfl, rfl, rfl, rfl, rfl, rfl, rfl⟩ := H
   go_wp2_with (first | ((with_reducible refine gate_dst (N := 16) rfl ?_); refine Kd.R_lit (Kd.int .i64) _ 3 ?hg (N := 16) ?hd (xs := ([0, 3, 15, 1, 2, 6] : List Int)) (inner := [.int .i64 0, .int .i64 3, .int .i64 15, .int .i64 1, .int .i64 2, .int .i64 6]) (ok := fun _ => True) (okp := fun _ => True) ?hr ?hp (fun _ hk => hk) trivial (Below.refl _ _) (Nat.le_refl _) (by simp) ?_; (case hd => rfl); (case hg => rfl); (case hr => first | (go_simp; done) | (go_simp; rfl)); (case hp => exact (Reps.one (show Kd.M (Kd.int .i64) _ _ _ 0 [.int .i64 0] from rfl) (Reps.one (show Kd.M (Kd.int .i64) _ _ _ 3 [.int .i64 3] from rfl) (Reps.one (show Kd.M (Kd.int .i64) _ _ _ 15 [.int .i64 15] from rfl) (Reps.one (show Kd.M (Kd.int .i64) _ _ _ 1 [.int .i64 1] from rfl) (Reps.one (show Kd.M (Kd.int .i64) _ _ _ 2 [.int .i64 2] from rfl) (Reps.one (show Kd.M (Kd.int .i64) _ _ _ 6 [.int .i64 6] from rfl) (Reps.none _ _)))))))); intro v225 w22 ho23 hb hg_ hnew_; clear hg_ hnew_; (first | rw [← Ny224.out] at ho23 | (simp only [Int.reduceToNat] at ho23; rw [← Ny224.out] at ho23)); have HO226 := aS (Kd.R_lower ho23 (keep_size (w := w) (g := g) (row := none) (kS2 HK.out GW208.out GW217.out))); replace BK208 := aS (blk_below (bU BK208.out) hb); replace BK217 := aS (blk_below (bU BK217.out) hb); replace HK := aS (KeepBut.trans (kS2 HK.out GW208.out GW217.out) (KeepBut.of_below hb g none) (.inl rfl)); replace HB := aS (below_step (by exact wS3 HB.out (IsS111.ge HI0.out) GE208.out GE217.out) hb); replace HI0 := aS (IsS111.below (IsS111.iS2 HI0.out NB0_208.out NB0_217.out) hb); clear hb ho23; obtain ⟨Ao24, co24, eo24⟩ := Kd.R_slice HO226.out; subst eo24) | ((with_reducible refine gate_callee (f := 81) rfl ?_); refine goesL_ (some 17) rfl rfl Tryd.func81 jK rfl #[.pointer (some ⟨g, 0, none⟩), .slice Ao24 y224.length co24] rfl jA ?_; (with_reducible refine (spec_l1Int.calls g s0_0 t219 t220 _ _ y224 t227 t228 t229 w0 _ ?side1 ?side2 ?side3 ?side4 ?side5 A21.out).mono ?_); (case side1 => exact IsS111.iS2 HI0.out NB0_208.out NB0_217.out); (case side2 => exact wS3 HB.out (IsS111.ge HI0.out) GE208.out GE217.out); (case side3 => exact cU ((Kd.R_reads' HO226.out).2.2)); (case side4 => exact (Kd.R_reads' HO226.out).2.1); (case side5 => exact far_slice (IsS111.own_ne HI0.out HO226.out (by decide))); rintro e w25 ⟨rfl, hi, hb, hk⟩; refine ⟨_, rfl, ?_⟩; replace BK208 := aS (KeepBut.blk hk (g' := gb208) (o := .cells #[.string (⟨#[]⟩ : ByteArray), .int .i64 0, .int .i64 0, .int .i64 0, .string (⟨#[]⟩ : ByteArray), .string (⟨#[]⟩ : ByteArray)] 25 (0, 0)) (bU BK208.out) NB208_0.out (by simp)); replace BK217 := aS (KeepBut.blk hk (g' := gb217) (o := .cells #[.string t209, .int .i64 t210, .int .i64 t211, .int .i64 t212, .string t213, .string t214] 25 (0, 0)) (bU BK217.out) NB217_0.out (by simp)); replace HO226 := aS (Kd.R_mono (Kd.R_keep (IsS111.apart (show IsS111 w0 _ g s0_0 t219 t220 from by exact IsS111.iS2 HI0.out NB0_208.out NB0_217.out) (rU HO226.out) (by decide)) hk (fun _ h => h.2)) (fun _ h => h.1)); replace HK := aS (KeepBut.trans (kS2 HK.out GW208.out GW217.out) hk (.inl rfl)); replace HB := aS (hb); replace HI0 := aS (hi); clear hi hb hk; have hnb26 := NB217_208.out; have hnc26 := NB208_217.out; have hnb27 := NB217_0.out; have hnc27 := NB0_217.out; have hcz28 := cells6f BK217.out; have hnb29 := NB208_0.out; have hnc29 := NB0_208.out; have hcz30 := cells6f BK208.out))
   refine bodyPost_ret (results_cell_row rfl _ _ gb208 25 #[.string t209, .int .i64 t227, .int .i64 t211, .int .i64 t212, .string t213, .string t214] (0, 0) _ rfl (by (with_reducible repeat (first | refine blk_drewN ?_ _ | refine blk_drew ?_ | refine blk_alloc ?_ _)); refine blk_put_6 (.string (⟨#[]⟩ : ByteArray)) (.int .i64 0) (.int .i64 0) (.int .i64 0) (.string (⟨#[]⟩ : ByteArray)) (.string (⟨#[]⟩ : ByteArray)) ?_; (with_reducible repeat (first | refine blk_drewN ?_ _ | refine blk_drew ?_ | refine blk_alloc ?_ _)); refine blk_far ?_ NB208_217.out _; exact bU BK208.out) Tryd.underlying25 rfl jK) rfl ?_
   exact ⟨jE, by exact IsS111.iS2 HI0.out NB0_208.out NB0_217.out, by exact wS3 HB.out (IsS111.ge HI0.out) GE208.out GE217.out, by exact kS2 HK.out GW208.out GW217.out⟩
  ·rw [if_neg c20] at H
   have c20b0 := beq_eq_false_iff_ne.mpr c20
   have c20b1 := bne_iff_ne.mpr c20
   by_cases c31 : t218 = 2
   ·rw [if_pos c31] at H
    have c31b0 := beq_iff_eq.mpr c31
    have c31b1 := bne_eq_false_iff_eq.mpr c31
    clear c31
    obtain ⟨y230, hy_⟩ : ∃ y_ : List Int, y_ = (([(-1), 100000, 100001] : List Int)) := ⟨_, rfl⟩
    rw [← hy_] at H
    have Ny230 := aS hy_
    clear hy_
    obtain ⟨⟨t233, t234, t235⟩, A32, H⟩ := bM H
    try dsimp only at H
    simp only [Option.some.injEq, Prod.mk.injEq] at H
    obtain ⟨rfl, rfl, rfl, rfl, rfl, rfl, rfl, rfl⟩ := H
    go_wp2_with (first | ((with_reducible refine gate_dst (N := 22) rfl ?_); refine Kd.R_lit (Kd.int .i64) _ 3 ?hg (N := 22) ?hd (xs := ([(-1), 100000, 100001] : List Int)) (inner := [.int .i64 (-1), .int .i64 100000, .int .i64 100001]) (ok := fun _ => True) (okp := fun _ => True) ?hr ?hp (fun _ hk => hk) trivial (Below.refl _ _) (Nat.le_refl _) (by simp) ?_; (case hd => rfl); (case hg => rfl); (case hr => first | (go_simp; done) | (go_simp; rfl)); (case hp => exact (Reps.one (show Kd.M (Kd.int .i64) _ _ _ (-1) [.int .i64 (-1)] from rfl) (Reps.one (show Kd.M (Kd.int .i64) _ _ _ 100000 [.int .i64 100000] from rfl) (Reps.one (show Kd.M (Kd.int .i64) _ _ _ 100001 [.int .i64 100001] from rfl) (Reps.none _ _))))); intro v231 w33 ho34 hb hg_ hnew_; clear hg_ hnew_; (first | rw [← Ny230.out] at ho34 | (simp only [Int.reduceToNat] at ho34; rw [← Ny230.out] at ho34)); have HO232 := aS (Kd.R_lower ho34 (keep_size (w := w) (g := g) (row := none) (kS2 HK.out GW208.out GW217.out))); replace BK208 := aS (blk_below (bU BK208.out) hb); replace BK217 := aS (blk_below (bU BK217.out) hb); replace HK := aS (KeepBut.trans (kS2 HK.out GW208.out GW217.out) (KeepBut.of_below hb g none) (.inl rfl)); replace HB := aS (below_step (by exact wS3 HB.out (IsS111.ge HI0.out) GE208.out GE217.out) hb); replace HI0 := aS (IsS111.below (IsS111.iS2 HI0.out NB0_208.out NB0_217.out) hb); clear hb ho34; obtain ⟨Ao35, co35, eo35⟩ := Kd.R_slice HO232.out; subst eo35) | ((with_reducible refine gate_callee (f := 81) rfl ?_); refine goesL_ (some 23) rfl rfl Tryd.func81 jK rfl #[.pointer (some ⟨g, 0, none⟩), .slice Ao35 y230.length co35] rfl jA ?_; (with_reducible refine (spec_l1Int.calls g s0_0 t219 t220 _ _ y230 t233 t234 t235 w0 _ ?side1 ?side2 ?side3 ?side4 ?side5 A32.out).mono ?_); (case side1 => exact IsS111.iS2 HI0.out NB0_208.out NB0_217.out); (case side2 => exact wS3 HB.out (IsS111.ge HI0.out) GE208.out GE217.out); (case side3 => exact cU ((Kd.R_reads' HO232.out).2.2)); (case side4 => exact (Kd.R_reads' HO232.out).2.1); (case side5 => exact far_slice (IsS111.own_ne HI0.out HO232.out (by decide))); rintro e w36 ⟨rfl, hi, hb, hk⟩; refine ⟨_, rfl, ?_⟩; replace BK208 := aS (KeepBut.blk hk (g' := gb208) (o := .cells #[.string (⟨#[]⟩ : ByteArray), .int .i64 0, .int .i64 0, .int .i64 0, .string (⟨#[]⟩ : ByteArray), .string (⟨#[]⟩ : ByteArray)] 25 (0, 0)) (bU BK208.out) NB208_0.out (by simp)); replace BK217 := aS (KeepBut.blk hk (g' := gb217) (o := .cells #[.string t209, .int .i64 t210, .int .i64 t211, .int .i64 t212, .string t213, .string t214] 25 (0, 0)) (bU BK217.out) NB217_0.out (by simp)); replace HO232 := aS (Kd.R_mono (Kd.R_keep (IsS111.apart (show IsS111 w0 _ g s0_0 t219 t220 from by exact IsS111.iS2 HI0.out NB0_208.out NB0_217.out) (rU HO232.out) (by decide)) hk (fun _ h => h.2)) (fun _ h => h.1)); replace HK := aS (KeepBut.trans (kS2 HK.out GW208.out GW217.out) hk (.inl rfl)); replace HB := aS (hb); replace HI0 := aS (hi); clear hi hb hk; have hnb37 := NB217_208.out; have hnc37 := NB208_217.out; have hnb38 := NB217_0.out; have hnc38 := NB0_217.out; have hcz39 := cells6f BK217.out; have hnb40 := NB208_0.out; have hnc40 := NB0_208.out; have hcz41 := cells6f BK208.out))
    refine bodyPost_ret (results_cell_row rfl _ _ gb208 25 #[.string t209, .int .i64 t210, .int .i64 t233, .int .i64 t212, .string t213, .string t214] (0, 0) _ rfl (by (with_reducible repeat (first | refine blk_drewN ?_ _ | refine blk_drew ?_ | refine blk_alloc ?_ _)); refine blk_put_6 (.string (⟨#[]⟩ : ByteArray)) (.int .i64 0) (.int .i64 0) (.int .i64 0) (.string (⟨#[]⟩ : ByteArray)) (.string (⟨#[]⟩ : ByteArray)) ?_; (with_reducible repeat (first | refine blk_drewN ?_ _ | refine blk_drew ?_ | refine blk_alloc ?_ _)); refine blk_far ?_ NB208_217.out _; exact bU BK208.out) Tryd.underlying25 rfl jK) rfl ?_
    exact ⟨jE, by exact IsS111.iS2 HI0.out NB0_208.out NB0_217.out, by exact wS3 HB.out (IsS111.ge HI0.out) GE208.out GE217.out, by exact kS2 HK.out GW208.out GW217.out⟩
   ·rw [if_neg c31] at H
    have c31b0 := beq_eq_false_iff_ne.mpr c31
    have c31b1 := bne_iff_ne.mpr c31
    by_cases c42 : t218 = 3
    ·rw [if_pos c42] at H
     have c42b0 := beq_iff_eq.mpr c42
     have c42b1 := bne_eq_false_iff_eq.mpr c42
     clear c42
     obtain ⟨y236, hy_⟩ : ∃ y_ : List Int, y_ = (([(-1), 2147483647, 2147483648, 100001, 0] : List Int)) := ⟨_, rfl⟩
     rw [← hy_] at H
     have Ny236 := aS hy_
     clear hy_
     obtain ⟨⟨t239, t240, t241⟩, A43, H⟩ := bM H
     try dsimp only at H
     simp only [Option.some.injEq, Prod.mk.injEq] at H
     obtain ⟨rfl, rfl, rfl, rfl, rfl, rfl, rfl, rfl⟩ := H
     go_wp2_with (first | ((with_reducible refine gate_dst (N := 28) rfl ?_); refine Kd.R_lit (Kd.int .i64) _ 3 ?hg (N := 28) ?hd (xs := ([(-1), 2147483647, 2147483648, 100001, 0] : List Int)) (inner := [.int .i64 (-1), .int .i64 2147483647, .int .i64 2147483648, .int .i64 100001, .int .i64 0]) (ok := fun _ => True) (okp := fun _ => True) ?hr ?hp (fun _ hk => hk) trivial (Below.refl _ _) (Nat.le_refl _) (by simp) ?_; (case hd => rfl); (case hg => rfl); (case hr => first | (go_simp; done) | (go_simp; rfl)); (case hp => exact (Reps.one (show Kd.M (Kd.int .i64) _ _ _ (-1) [.int .i64 (-1)] from rfl) (Reps.one (show Kd.M (Kd.int .i64) _ _ _ 2147483647 [.int .i64 2147483647] from rfl) (Reps.one (show Kd.M (Kd.int .i64) _ _ _ 2147483648 [.int .i64 2147483648] from rfl) (Reps.one (show Kd.M (Kd.int .i64) _ _ _ 100001 [.int .i64 100001] from rfl) (Reps.one (show Kd.M (Kd.int .i64) _ _ _ 0 [.int .i64 0] from rfl) (Reps.none _ _))))))); intro v237 w44 ho45 hb hg_ hnew_; clear hg_ hnew_; (first | rw [← Ny236.out] at ho45 | (simp only [Int.reduceToNat] at ho45; rw [← Ny236.out] at ho45)); have HO238 := aS (Kd.R_lower ho45 (keep_size (w := w) (g := g) (row := none) (kS2 HK.out GW208.out GW217.out))); replace BK208 := aS (blk_below (bU BK208.out) hb); replace BK217 := aS (blk_below (bU BK217.out) hb); replace HK := aS (KeepBut.trans (kS2 HK.out GW208.out GW217.out) (KeepBut.of_below hb g none) (.inl rfl)); replace HB := aS (below_step (by exact wS3 HB.out (IsS111.ge HI0.out) GE208.out GE217.out) hb); replace HI0 := aS (IsS111.below (IsS111.iS2 HI0.out NB0_208.out NB0_217.out) hb); clear hb ho45; obtain ⟨Ao46, co46, eo46⟩ := Kd.R_slice HO238.out; subst eo46) | ((with_reducible refine gate_callee (f := 81) rfl ?_); refine goesL_ (some 29) rfl rfl Tryd.func81 jK rfl #[.pointer (some ⟨g, 0, none⟩), .slice Ao46 y236.length co46] rfl jA ?_; (with_reducible refine (spec_l1Int.calls g s0_0 t219 t220 _ _ y236 t239 t240 t241 w0 _ ?side1 ?side2 ?side3 ?side4 ?side5 A43.out).mono ?_); (case side1 => exact IsS111.iS2 HI0.out NB0_208.out NB0_217.out); (case side2 => exact wS3 HB.out (IsS111.ge HI0.out) GE208.out GE217.out); (case side3 => exact cU ((Kd.R_reads' HO238.out).2.2)); (case side4 => exact (Kd.R_reads' HO238.out).2.1); (case side5 => exact far_slice (IsS111.own_ne HI0.out HO238.out (by decide))); rintro e w47 ⟨rfl, hi, hb, hk⟩; refine ⟨_, rfl, ?_⟩; replace BK208 := aS (KeepBut.blk hk (g' := gb208) (o := .cells #[.string (⟨#[]⟩ : ByteArray), .int .i64 0, .int .i64 0, .int .i64 0, .string (⟨#[]⟩ : ByteArray), .string (⟨#[]⟩ : ByteArray)] 25 (0, 0)) (bU BK208.out) NB208_0.out (by simp)); replace BK217 := aS (KeepBut.blk hk (g' := gb217) (o := .cells #[.string t209, .int .i64 t210, .int .i64 t211, .int .i64 t212, .string t213, .string t214] 25 (0, 0)) (bU BK217.out) NB217_0.out (by simp)); replace HO238 := aS (Kd.R_mono (Kd.R_keep (IsS111.apart (show IsS111 w0 _ g s0_0 t219 t220 from by exact IsS111.iS2 HI0.out NB0_208.out NB0_217.out) (rU HO238.out) (by decide)) hk (fun _ h => h.2)) (fun _ h => h.1)); replace HK := aS (KeepBut.trans (kS2 HK.out GW208.out GW217.out) hk (.inl rfl)); replace HB := aS (hb); replace HI0 := aS (hi); clear hi hb hk; have hnb48 := NB217_208.out; have hnc48 := NB208_217.out; have hnb49 := NB217_0.out; have hnc49 := NB0_217.out; have hcz50 := cells6f BK217.out; have hnb51 := NB208_0.out; have hnc51 := NB0_208.out; have hcz52 := cells6f BK208.out))
     refine bodyPost_ret (results_cell_row rfl _ _ gb208 25 #[.string t209, .int .i64 t210, .int .i64 t211, .int .i64 t239, .string t213, .string t214] (0, 0) _ rfl (by (with_reducible repeat (first | refine blk_drewN ?_ _ | refine blk_drew ?_ | refine blk_alloc ?_ _)); refine blk_put_6 (.string (⟨#[]⟩ : ByteArray)) (.int .i64 0) (.int .i64 0) (.int .i64 0) (.string (⟨#[]⟩ : ByteArray)) (.string (⟨#[]⟩ : ByteArray)) ?_; (with_reducible repeat (first | refine blk_drewN ?_ _ | refine blk_drew ?_ | refine blk_alloc ?_ _)); refine blk_far ?_ NB208_217.out _; exact bU BK208.out) Tryd.underlying25 rfl jK) rfl ?_
     exact ⟨jE, by exact IsS111.iS2 HI0.out NB0_208.out NB0_217.out, by exact wS3 HB.out (IsS111.ge HI0.out) GE208.out GE217.out, by exact kS2 HK.out GW208.out GW217.out⟩
    ·rw [if_neg c42] at H
     have c42b0 := beq_eq_false_iff_ne.mpr c42
     have c42b1 := bne_iff_ne.mpr c42
     by_cases c53 : t218 = 4
     ·rw [if_pos c53] at H
      have c53b0 := beq_iff_eq.mpr c53
      have c53b1 := bne_eq_false_iff_eq.mpr c53
      clear c53
      obtain ⟨⟨t242, t243, t244⟩, A54, H⟩ := bM H
      try dsimp only at H
      simp only [Option.some.injEq, Prod.mk.injEq] at H
      obtain ⟨rfl, rfl, rfl, rfl, rfl, rfl, rfl, rfl⟩ := H
      go_wp2_with (first | ((with_reducible refine gate_callee (f := 112) rfl ?_); refine goesL_ (some 34) rfl rfl Tryd.func112 jK rfl #[.pointer (some ⟨g, 0, none⟩)] rfl jA ?_; (with_reducible refine (spec_l3Any.calls g s0_0 t219 t220 t242 t243 t244 w0 _ ?side1 ?side2 A54.out).mono ?_); (case side1 => exact IsS111.iS2 HI0.out NB0_208.out NB0_217.out); (case side2 => exact wS3 HB.out (IsS111.ge HI0.out) GE208.out GE217.out); rintro e w55 ⟨rfl, hi, hb, hk⟩; refine ⟨_, rfl, ?_⟩; replace BK208 := aS (KeepBut.blk hk (g' := gb208) (o := .cells #[.string (⟨#[]⟩ : ByteArray), .int .i64 0, .int .i64 0, .int .i64 0, .string (⟨#[]⟩ : ByteArray), .string (⟨#[]⟩ : ByteArray)] 25 (0, 0)) (bU BK208.out) NB208_0.out (by simp)); replace BK217 := aS (KeepBut.blk hk (g' := gb217) (o := .cells #[.string t209, .int .i64 t210, .int .i64 t211, .int .i64 t212, .string t213, .string t214] 25 (0, 0)) (bU BK217.out) NB217_0.out (by simp)); replace HK := aS (KeepBut.trans (kS2 HK.out GW208.out GW217.out) hk (.inl rfl)); replace HB := aS (hb); replace HI0 := aS (hi); clear hi hb hk; have hnb56 := NB217_208.out; have hnc56 := NB208_217.out; have hnb57 := NB217_0.out; have hnc57 := NB0_217.out; have hcz58 := cells6f BK217.out; have hnb59 := NB208_0.out; have hnc59 := NB0_208.out; have hcz60 := cells6f BK208.out))
      refine bodyPost_ret (results_cell_row rfl _ _ gb208 25 #[.string t209, .int .i64 t210, .int .i64 t211, .int .i64 t212, .string t242, .string t214] (0, 0) _ rfl (by (with_reducible repeat (first | refine blk_drewN ?_ _ | refine blk_drew ?_ | refine blk_alloc ?_ _)); refine blk_put_6 (.string (⟨#[]⟩ : ByteArray)) (.int .i64 0) (.int .i64 0) (.int .i64 0) (.string (⟨#[]⟩ : ByteArray)) (.string (⟨#[]⟩ : ByteArray)) ?_; (with_reducible repeat (first | refine blk_drewN ?_ _ | refine blk_drew ?_ | refine blk_alloc ?_ _)); refine blk_far ?_ NB208_217.out _; exact bU BK208.out) Tryd.underlying25 rfl jK) rfl ?_
      exact ⟨jE, by exact IsS111.iS2 HI0.out NB0_208.out NB0_217.out, by exact wS3 HB.out (IsS111.ge HI0.out) GE208.out GE217.out, by exact kS2 HK.out GW208.out GW217.out⟩
     ·rw [if_neg c53] at H
      have c53b0 := beq_eq_false_iff_ne.mpr c53
      have c53b1 := bne_iff_ne.mpr c53
      by_cases c61 : t218 = 5
      ·rw [if_pos c61] at H
       have c61b0 := beq_iff_eq.mpr c61
       have c61b1 := bne_eq_false_iff_eq.mpr c61
       clear c61
       obtain ⟨y245, hy_⟩ : ∃ y_ : List ByteArray, y_ = (([(⟨#[32]⟩ : ByteArray), (⟨#[127]⟩ : ByteArray), (⟨#[116, 104, 105, 114, 116, 101, 101, 110, 98, 121, 116, 101, 115]⟩ : ByteArray), (⟨#[120]⟩ : ByteArray)] : List ByteArray)) := ⟨_, rfl⟩
       replace H : ((spec_l1Str.f s0_0 t219 t220 y245).bind fun bt248 => (some (t209, t210, t211, t212, t213, bt248.1, bt248.2.1, bt248.2.2))) = some (r1, r2, r3, r4, r5, r6, r7, r8) := jD
       have Ny245 := aS hy_
       clear hy_
       obtain ⟨⟨t248, t249, t250⟩, A62, H⟩ := bM H
       try dsimp only at H
       simp only [Option.some.injEq, Prod.mk.injEq] at H
       obtain ⟨rfl, rfl, rfl, rfl, rfl, rfl, rfl, rfl⟩ := H
       go_wp2_with (first | ((with_reducible refine gate_dst (N := 39) rfl ?_); refine Kd.R_lit Kd.string _ 9 ?hg (N := 39) ?hd (xs := ([(⟨#[32]⟩ : ByteArray), (⟨#[127]⟩ : ByteArray), (⟨#[116, 104, 105, 114, 116, 101, 101, 110, 98, 121, 116, 101, 115]⟩ : ByteArray), (⟨#[120]⟩ : ByteArray)] : List ByteArray)) (inner := [.string (⟨#[32]⟩ : ByteArray), .string (⟨#[127]⟩ : ByteArray), .string (⟨#[116, 104, 105, 114, 116, 101, 101, 110, 98, 121, 116, 101, 115]⟩ : ByteArray), .string (⟨#[120]⟩ : ByteArray)]) (ok := fun _ => True) (okp := fun _ => True) ?hr ?hp (fun _ hk => hk) trivial (Below.refl _ _) (Nat.le_refl _) (by simp) ?_; (case hd => rfl); (case hg => rfl); (case hr => first | (go_simp; done) | (go_simp; rfl)); (case hp => exact (Reps.one (show Kd.M Kd.string _ _ _ (⟨#[32]⟩ : ByteArray) [.string (⟨#[32]⟩ : ByteArray)] from rfl) (Reps.one (show Kd.M Kd.string _ _ _ (⟨#[127]⟩ : ByteArray) [.string (⟨#[127]⟩ : ByteArray)] from rfl) (Reps.one (show Kd.M Kd.string _ _ _ (⟨#[116, 104, 105, 114, 116, 101, 101, 110, 98, 121, 116, 101, 115]⟩ : ByteArray) [.string (⟨#[116, 104, 105, 114, 116, 101, 101, 110, 98, 121, 116, 101, 115]⟩ : ByteArray)] from rfl) (Reps.one (show Kd.M Kd.string _ _ _ (⟨#[120]⟩ : ByteArray) [.string (⟨#[120]⟩ : ByteArray)] from rfl) (Reps.none _ _)))))); intro v246 w63 ho64 hb hg_ hnew_; clear hg_ hnew_; (first | rw [← Ny245.out] at ho64 | (simp only [Int.reduceToNat] at ho64; rw [← Ny245.out] at ho64)); have HO247 := aS (Kd.R_lower ho64 (keep_size (w := w) (g := g) (row := none) (kS2 HK.out GW208.out GW217.out))); replace BK208 := aS (blk_below (bU BK208.out) hb); replace BK217 := aS (blk_below (bU BK217.out) hb); replace HK := aS (KeepBut.trans (kS2 HK.out GW208.out GW217.out) (KeepBut.of_below hb g none) (.inl rfl)); replace HB := aS (below_step (by exact wS3 HB.out (IsS111.ge HI0.out) GE208.out GE217.out) hb); replace HI0 := aS (IsS111.below (IsS111.iS2 HI0.out NB0_208.out NB0_217.out) hb); clear hb ho64; obtain ⟨Ao65, co65, eo65⟩ := Kd.R_slice HO247.out; subst eo65) | ((with_reducible refine gate_callee (f := 113) rfl ?_); refine goesL_ (some 40) rfl rfl Tryd.func113 jK rfl #[.pointer (some ⟨g, 0, none⟩), .slice Ao65 y245.length co65] rfl jA ?_; (with_reducible refine (spec_l1Str.calls g s0_0 t219 t220 _ _ y245 t248 t249 t250 w0 _ ?side1 ?side2 ?side3 ?side4 ?side5 A62.out).mono ?_); (case side1 => exact IsS111.iS2 HI0.out NB0_208.out NB0_217.out); (case side2 => exact wS3 HB.out (IsS111.ge HI0.out) GE208.out GE217.out); (case side3 => exact cU ((Kd.R_reads' HO247.out).2.2)); (case side4 => exact (Kd.R_reads' HO247.out).2.1); (case side5 => exact far_slice (IsS111.own_ne HI0.out HO247.out (by decide))); rintro e w66 ⟨rfl, hi, hb, hk⟩; refine ⟨_, rfl, ?_⟩; replace BK208 := aS (KeepBut.blk hk (g' := gb208) (o := .cells #[.string (⟨#[]⟩ : ByteArray), .int .i64 0, .int .i64 0, .int .i64 0, .string (⟨#[]⟩ : ByteArray), .string (⟨#[]⟩ : ByteArray)] 25 (0, 0)) (bU BK208.out) NB208_0.out (by simp)); replace BK217 := aS (KeepBut.blk hk (g' := gb217) (o := .cells #[.string t209, .int .i64 t210, .int .i64 t211, .int .i64 t212, .string t213, .string t214] 25 (0, 0)) (bU BK217.out) NB217_0.out (by simp)); replace HO247 := aS (Kd.R_mono (Kd.R_keep (IsS111.apart (show IsS111 w0 _ g s0_0 t219 t220 from by exact IsS111.iS2 HI0.out NB0_208.out NB0_217.out) (rU HO247.out) (by decide)) hk (fun _ h => h.2)) (fun _ h => h.1)); replace HK := aS (KeepBut.trans (kS2 HK.out GW208.out GW217.out) hk (.inl rfl)); replace HB := aS (hb); replace HI0 := aS (hi); clear hi hb hk; have hnb67 := NB217_208.out; have hnc67 := NB208_217.out; have hnb68 := NB217_0.out; have hnc68 := NB0_217.out; have hcz69 := cells6f BK217.out; have hnb70 := NB208_0.out; have hnc70 := NB0_208.out; have hcz71 := cells6f BK208.out))
       refine bodyPost_ret (results_cell_row rfl _ _ gb208 25 #[.string t209, .int .i64 t210, .int .i64 t211, .int .i64 t212, .string t213, .string t248] (0, 0) _ rfl (by (with_reducible repeat (first | refine blk_drewN ?_ _ | refine blk_drew ?_ | refine blk_alloc ?_ _)); refine blk_put_6 (.string (⟨#[]⟩ : ByteArray)) (.int .i64 0) (.int .i64 0) (.int .i64 0) (.string (⟨#[]⟩ : ByteArray)) (.string (⟨#[]⟩ : ByteArray)) ?_; (with_reducible repeat (first | refine blk_drewN ?_ _ | refine blk_drew ?_ | refine blk_alloc ?_ _)); refine blk_far ?_ NB208_217.out _; exact bU BK208.out) Tryd.underlying25 rfl jK) rfl ?_
       exact ⟨jE, by exact IsS111.iS2 HI0.out NB0_208.out NB0_217.out, by exact wS3 HB.out (IsS111.ge HI0.out) GE208.out GE217.out, by exact kS2 HK.out GW208.out GW217.out⟩
      ·rw [if_neg c61] at H
       have c61b0 := beq_eq_false_iff_ne.mpr c61
       have c61b1 := bne_iff_ne.mpr c61
       simp only [Option.some.injEq, Prod.mk.injEq] at H
       obtain ⟨rfl, rfl, rfl, rfl, rfl, rfl, rfl, rfl⟩ := H
       have hnb72 := NB217_208.out
       have hnc72 := NB208_217.out
       have hnb73 := NB217_0.out
       have hnc73 := NB0_217.out
       have hcz74 := cells6f BK217.out
       have hnb75 := NB208_0.out
       have hnc75 := NB0_208.out
       have hcz76 := cells6f BK208.out
       go_wp2
       refine bodyPost_ret (results_cell_row rfl _ _ gb208 25 #[.string t209, .int .i64 t210, .int .i64 t211, .int .i64 t212, .string t213, .string t214] (0, 0) _ rfl (by (with_reducible repeat (first | refine blk_drewN ?_ _ | refine blk_drew ?_ | refine blk_alloc ?_ _)); refine blk_put_6 (.string (⟨#[]⟩ : ByteArray)) (.int .i64 0) (.int .i64 0) (.int .i64 0) (.string (⟨#[]⟩ : ByteArray)) (.string (⟨#[]⟩ : ByteArray)) ?_; exact bU BK208.out) Tryd.underlying25 rfl jK) rfl ?_
       exact ⟨jE, by exact IsS111.iS2 HI0.out NB0_208.out NB0_217.out, by exact wS3 HB.out (IsS111.ge HI0.out) GE208.out GE217.out, by exact kS2 HK.out GW208.out GW217.out⟩

/-! ### spec_l5List: function 75 -/
def spec_l5List.l0 : Nat → List (S25) → Int → List Int → Int → Int → Option ((List (S25)) × Int × Int)
 | 0, _, _, _, _, _ => none
 | k + 1, x5, x6, x1000, x1001, x1002 => if x6 > 0 then ((spec_l5Draw.f k x1000 x1001 x1002).bind fun bt257 => (if x5.length < 1954687338268 then (spec_l5List.l0 k (x5 ++ [(⟨bt257.1, bt257.2.1, bt257.2.2.1, bt257.2.2.2.1, bt257.2.2.2.2.1, bt257.2.2.2.2.2.1⟩ : S25)]) (wrap64 (x6 - 1)) x1000 bt257.2.2.2.2.2.2.1 bt257.2.2.2.2.2.2.2) else (none))) else (some (x5, x1001, x1002))
def spec_l5List.f (k : Nat) (s0_0 : List Int) (s0_1 : Int) (s0_2 : Int) (a1 : Int) : Option ((List (S25)) × Int × Int) := (spec_l1Below.f s0_0 s0_1 s0_2 (wrap64 (a1 + 1))).bind fun bt254 => (spec_l5List.l0 k (([] : List (S25))) bt254.1 s0_0 bt254.2.1 bt254.2.2)
theorem spec_l5List.mono_l : ∀ k, (∀ y0 y1 y2 y3 y4, LeO (spec_l5List.l0 k y0 y1 y2 y3 y4) (spec_l5List.l0 (k + 1) y0 y1 y2 y3 y4))
 | 0 => fun _ _ _ _ _ r h => by simp [spec_l5List.l0] at h
 | k + 1 => by
  have ih0 := spec_l5List.mono_l k
  ·intro y0 y1 y2 y3 y4
   unfold spec_l5List.l0
   repeat' first
   | (with_reducible first | exact ih0 _ _ _ _ _ | exact spec_l5Draw.mono _ _ _ _ | exact LeO.refl _ | exact LeO.none _ | refine LeO.ite ?_ ?_ | refine LeO.bind ?_ (fun _ => ?_))
   | exact ih0 _ _ _ _ _
   | exact spec_l5Draw.mono _ _ _ _
   | exact LeO.none _
   | refine LeO.ite ?_ ?_
   | refine LeO.bind ?_ (fun _ => ?_)
theorem spec_l5List.mono : ∀ a0 a1 a2 a3 k, LeO (spec_l5List.f k a0 a1 a2 a3) (spec_l5List.f (k + 1) a0 a1 a2 a3) := by
 intro a0 a1 a2 a3 k
 have ih0 := spec_l5List.mono_l k
 unfold spec_l5List.f
 repeat' first
   | (with_reducible first | exact ih0 _ _ _ _ _ | exact spec_l5Draw.mono _ _ _ _ | exact LeO.refl _ | exact LeO.none _ | refine LeO.ite ?_ ?_ | refine LeO.bind ?_ (fun _ => ?_))
   | exact ih0 _ _ _ _ _
   | exact spec_l5Draw.mono _ _ _ _
   | exact LeO.none _
   | refine LeO.ite ?_ ?_
   | refine LeO.bind ?_ (fun _ => ?_)
set_option maxHeartbeats 8000000 in
set_option maxRecDepth 100000 in
theorem spec_l5List.calls (k : Nat) (g : Nat) (s0_0 : List Int) (s0_1 : Int) (s0_2 : Int) (a1 : Int) (r1 : List (S25)) (r2 : Int) (r3 : Int) (w0 w : World) (hI : IsS111 w0 w g s0_0 s0_1 s0_2) (hB : Below w0.heap.size w0 w) (h : spec_l5List.f k s0_0 s0_1 s0_2 a1 = some (r1, r2, r3)) :
  Calls Tryd.prog 75 #[.pointer (some ⟨g, 0, none⟩), .int .i64 a1] w fun e w' => ∃ v0_ : Value, e = .returned (v0_) ∧ Kd.R k25 25 w' w.heap.size (fun _ => True) v0_ r1 ∧ IsS111 w0 w' g s0_0 r2 r3 ∧ Below w0.heap.size w0 w' ∧ KeepBut w w' g none := by
 have HI0 := aS hI
 have HK := aS (KeepBut.refl w g none)
 have HL := aS hB.size
 clear hI
 have HW0 := aS hB.size
 have HB := aS hB
 clear hB
 have H : ((spec_l1Below.f s0_0 s0_1 s0_2 (wrap64 (a1 + 1))).bind fun bt254 => (spec_l5List.l0 k (([] : List (S25))) bt254.1 s0_0 bt254.2.1 bt254.2.2)) = some (r1, r2, r3) := h
 clear h
 obtain ⟨y251, hy_⟩ : ∃ y_ : List (S25), y_ = (([] : List (S25))) := ⟨_, rfl⟩
 replace H : ((spec_l1Below.f s0_0 s0_1 s0_2 (wrap64 (a1 + 1))).bind fun bt254 => (spec_l5List.l0 k y251 bt254.1 s0_0 bt254.2.1 bt254.2.2)) = some (r1, r2, r3) := jD
 have Ny251 := aS hy_
 clear hy_
 obtain ⟨⟨t254, t255, t256⟩, A3, H⟩ := bM H
 try dsimp only at H
 have H' := aS H
 clear H
 go_enter Tryd.func75, Tryd.ntmps75
 go_wp2_with (first | ((with_reducible refine gate_dst (N := 7) rfl ?_); refine Kd.R_lit k25 _ 25 ?hg (N := 7) ?hd (xs := ([] : List (S25))) (inner := []) (ok := fun _ => True) (okp := fun _ => True) ?hr ?hp (fun _ hk => hk) trivial (Below.refl _ _) (Nat.le_refl _) (by simp) ?_; (case hd => rfl); (case hg => rfl); (case hr => first | (go_simp; done) | (go_simp; rfl)); (case hp => exact (Reps.none _ _)); intro v252 w4 ho5 hb hg_ hnew_; clear hg_ hnew_; (first | rw [← Ny251.out] at ho5 | (simp only [Int.reduceToNat] at ho5; rw [← Ny251.out] at ho5)); have HO253 := aS (Kd.R_lower ho5 (keep_size (w := w) (g := g) (row := none) (kS0 HK.out))); replace HK := aS (KeepBut.trans (kS0 HK.out) (KeepBut.of_below hb g none) (.inl rfl)); replace HB := aS (below_step (by exact wS1 HB.out (IsS111.ge HI0.out)) hb); replace HI0 := aS (IsS111.below (IsS111.iS0 HI0.out) hb); clear hb ho5) | ((with_reducible refine gate_callee (f := 78) rfl ?_); refine goesL_ (some 11) rfl rfl Tryd.func78 jK rfl #[.pointer (some ⟨g, 0, none⟩), .int .i64 (wrap64 (a1 + 1))] rfl jA ?_; (with_reducible refine (spec_l1Below.calls g s0_0 s0_1 s0_2 (wrap64 (a1 + 1)) t254 t255 t256 w0 _ ?side1 ?side2 A3.out).mono ?_); (case side1 => exact IsS111.iS0 HI0.out); (case side2 => exact wS1 HB.out (IsS111.ge HI0.out)); rintro e w6 ⟨rfl, hi, hb, hk⟩; refine ⟨_, rfl, ?_⟩; replace HO253 := aS (Kd.R_mono (Kd.R_keep (IsS111.apart (show IsS111 w0 _ g s0_0 s0_1 s0_2 from by exact IsS111.iS0 HI0.out) (rU HO253.out) (by decide)) hk (fun _ h => h.2)) (fun _ h => h.1)); replace HK := aS (KeepBut.trans (kS0 HK.out) hk (.inl rfl)); replace HB := aS (hb); replace HI0 := aS (hi); clear hi hb hk))
 go_loopg [5, 6] k (fun kq v5 v6 w' => ∃ (x5_1 : List (S25)) (x6_1 : Int) (x1001_1 : Int) (x1002_1 : Int), v6 = .int .i64 x6_1 ∧ Aside0 (spec_l5List.l0 kq x5_1 x6_1 s0_0 x1001_1 x1002_1 = some (r1, r2, r3)) ∧ Aside0 (kq ≤ k) ∧ Aside0 (Kd.R k25 25 w' w.heap.size (fun _ => True) v5 x5_1) ∧ Aside0 (IsS111 w0 w' g s0_0 x1001_1 x1002_1) ∧ Aside0 (KeepBut w w' g none) ∧ Aside0 (Below w0.heap.size w0 w'))
 case atStart => exact ⟨(y251), (t254), (t255), (t256), jB, H', ⟨Nat.le_refl _⟩, ⟨by exact rU HO253.out⟩, ⟨by exact IsS111.iS0 HI0.out⟩, ⟨by exact kS0 HK.out⟩, ⟨by exact wS1 HB.out (IsS111.ge HI0.out)⟩⟩
 case round =>
  clear H'
  try clear p2
  try clear p6
  obtain ⟨x5_1, x6_1, x1001_1, x1002_1, rfl, HA, HK1, HO_5, HI0, HK, HB⟩ := hrel
  cases gk with
  | zero => exact absurd HA.out (by simp [spec_l5List.l0])
  | succ k1 =>
   have H := HA.out
   clear HA
   simp only [spec_l5List.l0] at H
   by_cases c7 : x6_1 > 0
   ·rw [if_pos c7] at H
    have c7b0 := decide_eq_true c7
    clear c7
    obtain ⟨⟨t257, t258, t259, t260, t261, t262, t263, t264⟩, A8, H⟩ := bM H
    try dsimp only at H
    by_cases c9 : x5_1.length < 1954687338268
    ·rw [if_pos c9] at H
     have LMc9 := aS c9
     clear c9
     obtain ⟨y265, hy_⟩ : ∃ y_ : List (S25), y_ = (x5_1 ++ [(⟨t257, t258, t259, t260, t261, t262⟩ : S25)]) := ⟨_, rfl⟩
     replace H : (spec_l5List.l0 k1 y265 (wrap64 (x6_1 - 1)) s0_0 t263 t264) = some (r1, r2, r3) := jD
     have Ny265 := aS hy_
     clear hy_
     have H' := aS H
     clear H
     go_wp2_with (first | ((with_reducible refine gate_callee (f := 79) rfl ?_); refine goesL_ (some 18) rfl rfl Tryd.func79 jK rfl #[.pointer (some ⟨g, 0, none⟩)] rfl jA ?_; (with_reducible refine (spec_l5Draw.calls k1 g s0_0 x1001_1 x1002_1 t257 t258 t259 t260 t261 t262 t263 t264 w0 _ ?side1 ?side2 A8.out).mono ?_); (case side1 => exact IsS111.iS0 HI0.out); (case side2 => exact wS1 HB.out (IsS111.ge HI0.out)); rintro e w10 ⟨rfl, hi, hb, hk⟩; refine ⟨_, rfl, ?_⟩; replace HO_5 := aS (Kd.R_mono (Kd.R_keep (IsS111.apart (show IsS111 w0 _ g s0_0 x1001_1 x1002_1 from by exact IsS111.iS0 HI0.out) (rU HO_5.out) (by decide)) hk (fun _ h => h.2)) (fun _ h => h.1)); replace HK := aS (KeepBut.trans (kS0 HK.out) hk (.inl rfl)); replace HB := aS (hb); replace HI0 := aS (hi); clear hi hb hk) | ((with_reducible refine gate_builtin (b := .append) (xs := #[.tmp 16, .tmp 19]) rfl ?_); at_builtin; refine Kd.R_append k25 w.heap.size rfl (.tmp 16) (.tmp 19) 36 25 (.agg #[(.string ⟨#[]⟩), (.int .i64 0), (.int .i64 0), (.int .i64 0), (.string ⟨#[]⟩), (.string ⟨#[]⟩)]) 72 rfl Tryd.underlying36 info25 rfl (by decide) (by omega) u5 x5_1 (⟨t257, t258, t259, t260, t261, t262⟩ : S25) [.string t257, .int .i64 t258, .int .i64 t259, .int .i64 t260, .string t261, .string t262] (fun _ => True) (fun _ => False) rfl rfl ?aP (fun _ hk => hk.elim) ?aF ?aO (Below.refl _ _) ?aS ?aL ?_; (case aP => exact k25_mkM _ _ _ (⟨t257, t258, t259, t260, t261, t262⟩ : S25)); (case aF => exact (fun _ _ => trivial)); (case aO => exact (rU HO_5.out)); (case aS => exact (keep_size (w := w) (g := g) (row := none) (kS0 HK.out))); (case aL => have := LMc9.out; omega); intro v266 w11 ho hb hg hat; rw [← Ny265.out] at ho; replace HB := aS (below_weaken (by exact wS1 HB.out (IsS111.ge HI0.out)) HL.out hb); replace HI0 := aS (IsS111.grown (IsS111.iS0 HI0.out) hg (IsS111.own_ne HI0.out HO_5.out (by decide))); replace HK := aS (KeepBut.trans (kS0 HK.out) (KeepBut.of_grown hg g) (Kd.R_base2 HO_5.out)); have HO267 := aS (ho); clear HO_5; clear ho hb hg hat))
     go_roundg k1
     case measure => have := HK1.out; omega
     case rel => exact ⟨(y265), (wrap64 (x6_1 - 1)), (t263), (t264), jB, H', ⟨by have := HK1.out; omega⟩, ⟨by exact rU HO267.out⟩, ⟨by exact IsS111.iS0 HI0.out⟩, ⟨by exact kS0 HK.out⟩, ⟨by exact wS1 HB.out (IsS111.ge HI0.out)⟩⟩
    ·rw [if_neg c9] at H
     exact absurd H (by simp)
   ·rw [if_neg c7] at H
    have c7b0 := decide_eq_false c7
    clear c7
    simp only [Option.some.injEq, Prod.mk.injEq] at H
    obtain ⟨rfl, rfl, rfl⟩ := H
    go_wp2
    go_ret
    exact ⟨_, jE, by exact rU HO_5.out, by exact IsS111.iS0 HI0.out, by exact wS1 HB.out (IsS111.ge HI0.out), by exact kS0 HK.out⟩

/-! ### spec_l1Bytes: function 77 -/
def spec_l1Bytes.l0 : Nat → Int → List Int → Int → List Int → Int → Int → Option (List Int × Int × Int)
 | 0, _, _, _, _, _, _ => none
 | k + 1, x1, x5, x6, x1000, x1001, x1002 => if x6 < x1 then ((spec_l1Byte.f x1000 x1001 x1002).bind fun bt271 => (if x5.length < 140737488355328 then (spec_l1Bytes.l0 k x1 (x5 ++ [(bt271.1) % 256]) (wrap64 (x6 + 1)) x1000 bt271.2.1 bt271.2.2) else (none))) else (some (x5, x1001, x1002))
def spec_l1Bytes.f (k : Nat) (s0_0 : List Int) (s0_1 : Int) (s0_2 : Int) (a1 : Int) : Option (List Int × Int × Int) := spec_l1Bytes.l0 k a1 (([] : List Int)) 0 s0_0 s0_1 s0_2
theorem spec_l1Bytes.mono_l : ∀ k, (∀ y0 y1 y2 y3 y4 y5, LeO (spec_l1Bytes.l0 k y0 y1 y2 y3 y4 y5) (spec_l1Bytes.l0 (k + 1) y0 y1 y2 y3 y4 y5))
 | 0 => fun _ _ _ _ _ _ r h => by simp [spec_l1Bytes.l0] at h
 | k + 1 => by
  have ih0 := spec_l1Bytes.mono_l k
  ·intro y0 y1 y2 y3 y4 y5
   unfold spec_l1Bytes.l0
   repeat' first
   | (with_reducible first | exact ih0 _ _ _ _ _ _ | exact LeO.refl _ | exact LeO.none _ | refine LeO.ite ?_ ?_ | refine LeO.bind ?_ (fun _ => ?_))
   | exact ih0 _ _ _ _ _ _
   | exact LeO.none _
   | refine LeO.ite ?_ ?_
   | refine LeO.bind ?_ (fun _ => ?_)
theorem spec_l1Bytes.mono : ∀ a0 a1 a2 a3 k, LeO (spec_l1Bytes.f k a0 a1 a2 a3) (spec_l1Bytes.f (k + 1) a0 a1 a2 a3) := by
 intro a0 a1 a2 a3 k
 have ih0 := spec_l1Bytes.mono_l k
 unfold spec_l1Bytes.f
 repeat' first
   | (with_reducible first | exact ih0 _ _ _ _ _ _ | exact LeO.refl _ | exact LeO.none _ | refine LeO.ite ?_ ?_ | refine LeO.bind ?_ (fun _ => ?_))
   | exact ih0 _ _ _ _ _ _
   | exact LeO.none _
   | refine LeO.ite ?_ ?_
   | refine LeO.bind ?_ (fun _ => ?_)
set_option maxHeartbeats 8000000 in
set_option maxRecDepth 100000 in
theorem spec_l1Bytes.calls (k : Nat) (g : Nat) (s0_0 : List Int) (s0_1 : Int) (s0_2 : Int) (a1 : Int) (r1 : List Int) (r2 : Int) (r3 : Int) (w0 w : World) (hI : IsS111 w0 w g s0_0 s0_1 s0_2) (hB : Below w0.heap.size w0 w) (h : spec_l1Bytes.f k s0_0 s0_1 s0_2 a1 = some (r1, r2, r3)) :
  Calls Tryd.prog 77 #[.pointer (some ⟨g, 0, none⟩), .int .i64 a1] w fun e w' => ∃ v0_ : Value, e = .returned (v0_) ∧ Kd.R (Kd.int .u8) 5 w' w.heap.size (fun _ => True) v0_ r1 ∧ IsS111 w0 w' g s0_0 r2 r3 ∧ Below w0.heap.size w0 w' ∧ KeepBut w w' g none := by
 have HI0 := aS hI
 have HK := aS (KeepBut.refl w g none)
 have HL := aS hB.size
 clear hI
 have HW0 := aS hB.size
 have HB := aS hB
 clear hB
 have H : (spec_l1Bytes.l0 k a1 (([] : List Int)) 0 s0_0 s0_1 s0_2) = some (r1, r2, r3) := h
 clear h
 obtain ⟨y268, hy_⟩ : ∃ y_ : List Int, y_ = (([] : List Int)) := ⟨_, rfl⟩
 replace H : (spec_l1Bytes.l0 k a1 y268 0 s0_0 s0_1 s0_2) = some (r1, r2, r3) := jD
 have Ny268 := aS hy_
 clear hy_
 have H' := aS H
 clear H
 go_enter Tryd.func77, Tryd.ntmps77
 go_wp2_with (first | ((with_reducible refine gate_dst (N := 7) rfl ?_); refine Kd.R_lit (Kd.int .u8) _ 5 ?hg (N := 7) ?hd (xs := ([] : List Int)) (inner := []) (ok := fun _ => True) (okp := fun _ => True) ?hr ?hp (fun _ hk => hk) trivial (Below.refl _ _) (Nat.le_refl _) (by simp) ?_; (case hd => rfl); (case hg => rfl); (case hr => first | (go_simp; done) | (go_simp; rfl)); (case hp => exact (Reps.none _ _)); intro v269 w3 ho4 hb hg_ hnew_; clear hg_ hnew_; (first | rw [← Ny268.out] at ho4 | (simp only [Int.reduceToNat] at ho4; rw [← Ny268.out] at ho4)); have HO270 := aS (Kd.R_lower ho4 (keep_size (w := w) (g := g) (row := none) (kS0 HK.out))); replace HK := aS (KeepBut.trans (kS0 HK.out) (KeepBut.of_below hb g none) (.inl rfl)); replace HB := aS (below_step (by exact wS1 HB.out (IsS111.ge HI0.out)) hb); replace HI0 := aS (IsS111.below (IsS111.iS0 HI0.out) hb); clear hb ho4))
 go_loopg [5, 6] k (fun kq v5 v6 w' => ∃ (x5_1 : List Int) (x6_1 : Int) (x1001_1 : Int) (x1002_1 : Int), v6 = .int .i64 x6_1 ∧ Aside0 (spec_l1Bytes.l0 kq a1 x5_1 x6_1 s0_0 x1001_1 x1002_1 = some (r1, r2, r3)) ∧ Aside0 (kq ≤ k) ∧ Aside0 (Kd.R (Kd.int .u8) 5 w' w.heap.size (fun _ => True) v5 x5_1) ∧ Aside0 (IsS111 w0 w' g s0_0 x1001_1 x1002_1) ∧ Aside0 (KeepBut w w' g none) ∧ Aside0 (Below w0.heap.size w0 w'))
 case atStart => exact ⟨(y268), (0), (s0_1), (s0_2), jB, H', ⟨Nat.le_refl _⟩, ⟨by exact rU HO270.out⟩, ⟨by exact IsS111.iS0 HI0.out⟩, ⟨by exact kS0 HK.out⟩, ⟨by exact wS1 HB.out (IsS111.ge HI0.out)⟩⟩
 case round =>
  clear H'
  try clear p2
  obtain ⟨x5_1, x6_1, x1001_1, x1002_1, rfl, HA, HK1, HO_5, HI0, HK, HB⟩ := hrel
  cases gk with
  | zero => exact absurd HA.out (by simp [spec_l1Bytes.l0])
  | succ k1 =>
   have H := HA.out
   clear HA
   simp only [spec_l1Bytes.l0] at H
   by_cases c5 : x6_1 < a1
   ·rw [if_pos c5] at H
    have c5b0 := decide_eq_true c5
    clear c5
    obtain ⟨⟨t271, t272, t273⟩, A6, H⟩ := bM H
    try dsimp only at H
    by_cases c7 : x5_1.length < 140737488355328
    ·rw [if_pos c7] at H
     have LMc7 := aS c7
     clear c7
     obtain ⟨y274, hy_⟩ : ∃ y_ : List Int, y_ = (x5_1 ++ [(t271) % 256]) := ⟨_, rfl⟩
     replace H : (spec_l1Bytes.l0 k1 a1 y274 (wrap64 (x6_1 + 1)) s0_0 t272 t273) = some (r1, r2, r3) := jD
     have Ny274 := aS hy_
     clear hy_
     have H' := aS H
     clear H
     go_wp2_with (first | ((with_reducible refine gate_callee (f := 129) rfl ?_); refine goesL_ (some 15) rfl rfl Tryd.func129 jK rfl #[.pointer (some ⟨g, 0, none⟩)] rfl jA ?_; (with_reducible refine (spec_l1Byte.calls g s0_0 x1001_1 x1002_1 t271 t272 t273 w0 _ ?side1 ?side2 A6.out).mono ?_); (case side1 => exact IsS111.iS0 HI0.out); (case side2 => exact wS1 HB.out (IsS111.ge HI0.out)); rintro e w8 ⟨rfl, hi, hb, hk⟩; refine ⟨_, rfl, ?_⟩; replace HO_5 := aS (Kd.R_mono (Kd.R_keep (IsS111.apart (show IsS111 w0 _ g s0_0 x1001_1 x1002_1 from by exact IsS111.iS0 HI0.out) (rU HO_5.out) (by decide)) hk (fun _ h => h.2)) (fun _ h => h.1)); replace HK := aS (KeepBut.trans (kS0 HK.out) hk (.inl rfl)); replace HB := aS (hb); replace HI0 := aS (hi); clear hi hb hk) | ((with_reducible refine gate_builtin (b := .append) (xs := #[.tmp 13, .tmp 17]) rfl ?_); at_builtin; refine Kd.R_append (Kd.int .u8) w.heap.size rfl (.tmp 13) (.tmp 17) 22 5 (.int .u8 0) 1 rfl Tryd.underlying22 info5 rfl (by decide) (by omega) u5 x5_1 ((t271) % 256) [.int .u8 ((t271) % 256)] (fun _ => True) (fun _ => False) rfl rfl ?aP (fun _ hk => hk.elim) ?aF ?aO (Below.refl _ _) ?aS ?aL ?_; (case aP => exact rfl); (case aF => exact (fun _ _ => trivial)); (case aO => exact (rU HO_5.out)); (case aS => exact (keep_size (w := w) (g := g) (row := none) (kS0 HK.out))); (case aL => have := LMc7.out; omega); intro v275 w9 ho hb hg hat; rw [← Ny274.out] at ho; replace HB := aS (below_weaken (by exact wS1 HB.out (IsS111.ge HI0.out)) HL.out hb); replace HI0 := aS (IsS111.grown (IsS111.iS0 HI0.out) hg (IsS111.own_ne HI0.out HO_5.out (by decide))); replace HK := aS (KeepBut.trans (kS0 HK.out) (KeepBut.of_grown hg g) (Kd.R_base2 HO_5.out)); have HO276 := aS (ho); clear HO_5; clear ho hb hg hat))
     go_roundg k1
     case measure => have := HK1.out; omega
     case rel => exact ⟨(y274), (wrap64 (x6_1 + 1)), (t272), (t273), jB, H', ⟨by have := HK1.out; omega⟩, ⟨by exact rU HO276.out⟩, ⟨by exact IsS111.iS0 HI0.out⟩, ⟨by exact kS0 HK.out⟩, ⟨by exact wS1 HB.out (IsS111.ge HI0.out)⟩⟩
    ·rw [if_neg c7] at H
     exact absurd H (by simp)
   ·rw [if_neg c5] at H
    have c5b0 := decide_eq_false c5
    clear c5
    simp only [Option.some.injEq, Prod.mk.injEq] at H
    obtain ⟨rfl, rfl, rfl⟩ := H
    go_wp2
    go_ret
    exact ⟨_, jE, by exact rU HO_5.out, by exact IsS111.iS0 HI0.out, by exact wS1 HB.out (IsS111.ge HI0.out), by exact kS0 HK.out⟩

/-! ### spec_DrawPutRecords: function 18 -/
def spec_DrawPutRecords.f (k : Nat) (l0 : List Int) : Option (List Int × (List (S25))) := (spec_l1New.f k l0).bind fun bt277 => ((spec_l5List.f k bt277.1 bt277.2.1 bt277.2.2 4).bind fun bt281 => ((spec_l1Once.f bt277.1 bt281.2.1 bt281.2.2 5).bind fun bt286 => (if bt286.1 = true then ((spec_l5Any.f k bt277.1 bt286.2.1 bt286.2.2).bind fun bt289 => (if bt281.1.length < 1954687338268 then ((spec_l1Below.f bt277.1 bt289.2.2.2.2.2.2.1 bt289.2.2.2.2.2.2.2 3).bind fun bt300 => ((spec_l1Bytes.f k bt277.1 bt300.2.1 bt300.2.2 bt300.1).bind fun bt303 => (some (bt303.1, (bt281.1 ++ [(⟨bt289.1, bt289.2.1, bt289.2.2.1, bt289.2.2.2.1, bt289.2.2.2.2.1, bt289.2.2.2.2.2.1⟩ : S25)]))))) else (none))) else ((spec_l1Below.f bt277.1 bt286.2.1 bt286.2.2 3).bind fun bt308 => ((spec_l1Bytes.f k bt277.1 bt308.2.1 bt308.2.2 bt308.1).bind fun bt311 => (some (bt311.1, bt281.1)))))))
theorem spec_DrawPutRecords.mono : ∀ a0 k, LeO (spec_DrawPutRecords.f k a0) (spec_DrawPutRecords.f (k + 1) a0) := by
 intro a0 k
 unfold spec_DrawPutRecords.f
 repeat' first
   | (with_reducible first | exact spec_l1Bytes.mono _ _ _ _ _ | exact spec_l1New.mono _ _ | exact spec_l5Any.mono _ _ _ _ | exact spec_l5List.mono _ _ _ _ _ | exact LeO.refl _ | exact LeO.none _ | refine LeO.ite ?_ ?_ | refine LeO.bind ?_ (fun _ => ?_))
   | exact spec_l1Bytes.mono _ _ _ _ _
   | exact spec_l1New.mono _ _
   | exact spec_l5Any.mono _ _ _ _
   | exact spec_l5List.mono _ _ _ _ _
   | exact LeO.none _
   | refine LeO.ite ?_ ?_
   | refine LeO.bind ?_ (fun _ => ?_)
set_option maxHeartbeats 8000000 in
set_option maxRecDepth 100000 in
theorem spec_DrawPutRecords.calls (k : Nat) (A0 : Option Addr) (c0 : Nat) (l0 : List Int) (r1 : List Int) (r2 : List (S25)) (w : World) (hr0 : Kd.C (Kd.int .u8) w A0 l0.length l0) (hc0 : l0.length ≤ c0) (h : spec_DrawPutRecords.f k l0 = some (r1, r2)) :
  Calls Tryd.prog 18 #[.slice A0 l0.length c0] w fun e w' => ∃ v0_ v1_ : Value, e = .returned (.tuple #[v0_, v1_]) ∧ Kd.R (Kd.int .u8) 5 w' w.heap.size (fun _ => True) v0_ r1 ∧ Kd.R k25 25 w' w.heap.size (fun _ => True) v1_ r2 ∧ Below w.heap.size w w' := by
 have HR0 := aS hr0
 have HC0 := aS hc0
 clear hr0 hc0
 have HB := aS (Below.refl w.heap.size w)
 have H : ((spec_l1New.f k l0).bind fun bt277 => ((spec_l5List.f k bt277.1 bt277.2.1 bt277.2.2 4).bind fun bt281 => ((spec_l1Once.f bt277.1 bt281.2.1 bt281.2.2 5).bind fun bt286 => (if bt286.1 = true then ((spec_l5Any.f k bt277.1 bt286.2.1 bt286.2.2).bind fun bt289 => (if bt281.1.length < 1954687338268 then ((spec_l1Below.f bt277.1 bt289.2.2.2.2.2.2.1 bt289.2.2.2.2.2.2.2 3).bind fun bt300 => ((spec_l1Bytes.f k bt277.1 bt300.2.1 bt300.2.2 bt300.1).bind fun bt303 => (some (bt303.1, (bt281.1 ++ [(⟨bt289.1, bt289.2.1, bt289.2.2.1, bt289.2.2.2.1, bt289.2.2.2.2.1, bt289.2.2.2.2.2.1⟩ : S25)]))))) else (none))) else ((spec_l1Below.f bt277.1 bt286.2.1 bt286.2.2 3).bind fun bt308 => ((spec_l1Bytes.f k bt277.1 bt308.2.1 bt308.2.2 bt308.1).bind fun bt311 => (some (bt311.1, bt281.1)))))))) = some (r1, r2) := h
 clear h
 obtain ⟨⟨t277, t278, t279⟩, A2, H⟩ := bM H
 try dsimp only at H
 obtain ⟨⟨t281, t284, t285⟩, A3, H⟩ := bM H
 try dsimp only at H
 obtain ⟨⟨t286, t287, t288⟩, A4, H⟩ := bM H
 try dsimp only at H
 have HC5 := aS H
 clear H
 go_enter Tryd.func18, Tryd.ntmps18
 go_upto_if 11 with (first | ((with_reducible refine gate_callee (f := 56) rfl ?_); refine goesL_ (some 7) rfl rfl Tryd.func56 jK rfl #[.slice A0 l0.length c0] rfl jA ?_; (with_reducible refine (spec_l1New.calls k _ _ l0 t277 t278 t279 w _ ?side1 ?side2 ?side3 A2.out).mono ?_); (case side1 => exact wU HB.out); (case side2 => exact HR0.out); (case side3 => exact HC0.out); rintro e w6 ⟨g280, rfl, hi, hb, hb2⟩; refine ⟨_, rfl, ?_⟩; replace HB := aS (hb); have HI280 := aS (hi); clear hi hb hb2) | ((with_reducible refine gate_callee (f := 75) rfl ?_); refine goesL_ (some 9) rfl rfl Tryd.func75 jK rfl #[.pointer (some ⟨g280, 0, none⟩), .int .i64 4] rfl jA ?_; (with_reducible refine (spec_l5List.calls k g280 t277 t278 t279 4 t281 t284 t285 w _ ?side1 ?side2 A3.out).mono ?_); (case side1 => exact IsS111.iS0 HI280.out); (case side2 => exact wS1 HB.out (IsS111.ge HI280.out)); rintro e w7 ⟨v282, rfl, ho0, hi, hb, hk⟩; refine ⟨_, rfl, ?_⟩; have HO283 := aS (Kd.R_lower ho0 (below_size (by exact wS1 HB.out (IsS111.ge HI280.out)))); replace HB := aS (hb); replace HI280 := aS (hi); clear hi hb hk; (try clear ho0)) | ((with_reducible refine gate_callee (f := 76) rfl ?_); refine goesL_ (some 11) rfl rfl Tryd.func76 jK rfl #[.pointer (some ⟨g280, 0, none⟩), .int .i64 5] rfl jA ?_; (with_reducible refine (spec_l1Once.calls g280 t277 t284 t285 5 t286 t287 t288 w _ ?side1 ?side2 A4.out).mono ?_); (case side1 => exact IsS111.iS0 HI280.out); (case side2 => exact wS1 HB.out (IsS111.ge HI280.out)); rintro e w8 ⟨rfl, hi, hb, hk⟩; refine ⟨_, rfl, ?_⟩; replace HO283 := aS (Kd.R_mono (Kd.R_keep (IsS111.apart (show IsS111 w _ g280 t277 t284 t285 from by exact IsS111.iS0 HI280.out) (rU HO283.out) (by decide)) hk (fun _ h => h.2)) (fun _ h => h.1)); replace HB := aS (hb); replace HI280 := aS (hi); clear hi hb hk))
 (try simp only [Act.put, List.setIfInBounds_toArray, List.set_cons_zero, List.set_cons_succ])
 have H := HC5.out
 clear HC5
 by_cases c9 : t286 = true
 ·subst c9
  rw [if_pos rfl] at H
  obtain ⟨⟨t289, t290, t291, t292, t293, t294, t295, t296⟩, A10, H⟩ := bM H
  try dsimp only at H
  by_cases c11 : t281.length < 1954687338268
  ·rw [if_pos c11] at H
   have LMc11 := aS c11
   clear c11
   obtain ⟨y297, hy_⟩ : ∃ y_ : List (S25), y_ = (t281 ++ [(⟨t289, t290, t291, t292, t293, t294⟩ : S25)]) := ⟨_, rfl⟩
   replace H : ((spec_l1Below.f t277 t295 t296 3).bind fun bt300 => ((spec_l1Bytes.f k t277 bt300.2.1 bt300.2.2 bt300.1).bind fun bt303 => (some (bt303.1, y297)))) = some (r1, r2) := jD
   have Ny297 := aS hy_
   clear hy_
   obtain ⟨⟨t300, t301, t302⟩, A12, H⟩ := bM H
   try dsimp only at H
   obtain ⟨⟨t303, t306, t307⟩, A13, H⟩ := bM H
   try dsimp only at H
   simp only [Option.some.injEq, Prod.mk.injEq] at H
   obtain ⟨rfl, rfl⟩ := H
   go_wp2_with (first | ((with_reducible refine gate_callee (f := 58) rfl ?_); refine goesL_ (some 14) rfl rfl Tryd.func58 jK rfl #[.pointer (some ⟨g280, 0, none⟩)] rfl jA ?_; (with_reducible refine (spec_l5Any.calls k g280 t277 t287 t288 t289 t290 t291 t292 t293 t294 t295 t296 w _ ?side1 ?side2 A10.out).mono ?_); (case side1 => exact IsS111.iS0 HI280.out); (case side2 => exact wS1 HB.out (IsS111.ge HI280.out)); rintro e w14 ⟨rfl, hi, hb, hk⟩; refine ⟨_, rfl, ?_⟩; replace HO283 := aS (Kd.R_mono (Kd.R_keep (IsS111.apart (show IsS111 w _ g280 t277 t287 t288 from by exact IsS111.iS0 HI280.out) (rU HO283.out) (by decide)) hk (fun _ h => h.2)) (fun _ h => h.1)); replace HB := aS (hb); replace HI280 := aS (hi); clear hi hb hk) | ((with_reducible refine gate_builtin (b := .append) (xs := #[.tmp 12, .tmp 15]) rfl ?_); at_builtin; refine Kd.R_append k25 (w0 := w) w.heap.size rfl (.tmp 12) (.tmp 15) 36 25 (.agg #[(.string ⟨#[]⟩), (.int .i64 0), (.int .i64 0), (.int .i64 0), (.string ⟨#[]⟩), (.string ⟨#[]⟩)]) 72 rfl Tryd.underlying36 info25 rfl (by decide) (by omega) v282 t281 (⟨t289, t290, t291, t292, t293, t294⟩ : S25) [.string t289, .int .i64 t290, .int .i64 t291, .int .i64 t292, .string t293, .string t294] (fun _ => True) (fun _ => False) rfl rfl ?aP (fun _ hk => hk.elim) ?aF ?aO ?aB ?aS ?aL ?_; (case aP => exact k25_mkM _ _ _ (⟨t289, t290, t291, t292, t293, t294⟩ : S25)); (case aB => exact (by exact wS1 HB.out (IsS111.ge HI280.out))); (case aF => exact (fun _ _ => trivial)); (case aO => exact (rU HO283.out)); (case aS => exact (below_size (by exact wS1 HB.out (IsS111.ge HI280.out)))); (case aL => have := LMc11.out; omega); intro v298 w15 ho hb hg hat; rw [← Ny297.out] at ho; replace HI280 := aS (IsS111.grown (IsS111.iS0 HI280.out) hg (IsS111.own_ne HI280.out HO283.out (by decide))); replace HB := aS (hb); have HO299 := aS (ho); clear HO283; clear ho hb hg hat) | ((with_reducible refine gate_callee (f := 78) rfl ?_); refine goesL_ (some 19) rfl rfl Tryd.func78 jK rfl #[.pointer (some ⟨g280, 0, none⟩), .int .i64 3] rfl jA ?_; (with_reducible refine (spec_l1Below.calls g280 t277 t295 t296 3 t300 t301 t302 w _ ?side1 ?side2 A12.out).mono ?_); (case side1 => exact IsS111.iS0 HI280.out); (case side2 => exact wS1 HB.out (IsS111.ge HI280.out)); rintro e w16 ⟨rfl, hi, hb, hk⟩; refine ⟨_, rfl, ?_⟩; replace HO299 := aS (Kd.R_mono (Kd.R_keep (IsS111.apart (show IsS111 w _ g280 t277 t295 t296 from by exact IsS111.iS0 HI280.out) (rU HO299.out) (by decide)) hk (fun _ h => h.2)) (fun _ h => h.1)); replace HB := aS (hb); replace HI280 := aS (hi); clear hi hb hk) | ((with_reducible refine gate_callee (f := 77) rfl ?_); refine goesL_ (some 20) rfl rfl Tryd.func77 jK rfl #[.pointer (some ⟨g280, 0, none⟩), .int .i64 t300] rfl jA ?_; (with_reducible refine (spec_l1Bytes.calls k g280 t277 t301 t302 t300 t303 t306 t307 w _ ?side1 ?side2 A13.out).mono ?_); (case side1 => exact IsS111.iS0 HI280.out); (case side2 => exact wS1 HB.out (IsS111.ge HI280.out)); rintro e w17 ⟨v304, rfl, ho0, hi, hb, hk⟩; refine ⟨_, rfl, ?_⟩; replace HO299 := aS (Kd.R_mono (Kd.R_keep (IsS111.apart (show IsS111 w _ g280 t277 t301 t302 from by exact IsS111.iS0 HI280.out) (rU HO299.out) (by decide)) hk (fun _ h => h.2)) (fun _ h => h.1)); have HO305 := aS (Kd.R_lower ho0 (below_size (by exact wS1 HB.out (IsS111.ge HI280.out)))); replace HB := aS (hb); replace HI280 := aS (hi); clear hi hb hk; (try clear ho0)))
   go_ret2
   exact ⟨_, _, jE, by exact rU HO305.out, by exact rU HO299.out, by exact wS1 HB.out (IsS111.ge HI280.out)⟩
  ·rw [if_neg c11] at H
   exact absurd H (by simp)
 ·replace c9 := Bool.eq_false_iff.mpr c9
  subst c9
  rw [if_neg Bool.false_ne_true] at H
  obtain ⟨⟨t308, t309, t310⟩, A18, H⟩ := bM H
  try dsimp only at H
  obtain ⟨⟨t311, t314, t315⟩, A19, H⟩ := bM H
  try dsimp only at H
  simp only [Option.some.injEq, Prod.mk.injEq] at H
  obtain ⟨rfl, rfl⟩ := H
  go_wp2_with (first | ((with_reducible refine gate_callee (f := 78) rfl ?_); refine goesL_ (some 19) rfl rfl Tryd.func78 jK rfl #[.pointer (some ⟨g280, 0, none⟩), .int .i64 3] rfl jA ?_; (with_reducible refine (spec_l1Below.calls g280 t277 t287 t288 3 t308 t309 t310 w _ ?side1 ?side2 A18.out).mono ?_); (case side1 => exact IsS111.iS0 HI280.out); (case side2 => exact wS1 HB.out (IsS111.ge HI280.out)); rintro e w20 ⟨rfl, hi, hb, hk⟩; refine ⟨_, rfl, ?_⟩; replace HO283 := aS (Kd.R_mono (Kd.R_keep (IsS111.apart (show IsS111 w _ g280 t277 t287 t288 from by exact IsS111.iS0 HI280.out) (rU HO283.out) (by decide)) hk (fun _ h => h.2)) (fun _ h => h.1)); replace HB := aS (hb); replace HI280 := aS (hi); clear hi hb hk) | ((with_reducible refine gate_callee (f := 77) rfl ?_); refine goesL_ (some 20) rfl rfl Tryd.func77 jK rfl #[.pointer (some ⟨g280, 0, none⟩), .int .i64 t308] rfl jA ?_; (with_reducible refine (spec_l1Bytes.calls k g280 t277 t309 t310 t308 t311 t314 t315 w _ ?side1 ?side2 A19.out).mono ?_); (case side1 => exact IsS111.iS0 HI280.out); (case side2 => exact wS1 HB.out (IsS111.ge HI280.out)); rintro e w21 ⟨v312, rfl, ho0, hi, hb, hk⟩; refine ⟨_, rfl, ?_⟩; replace HO283 := aS (Kd.R_mono (Kd.R_keep (IsS111.apart (show IsS111 w _ g280 t277 t309 t310 from by exact IsS111.iS0 HI280.out) (rU HO283.out) (by decide)) hk (fun _ h => h.2)) (fun _ h => h.1)); have HO313 := aS (Kd.R_lower ho0 (below_size (by exact wS1 HB.out (IsS111.ge HI280.out)))); replace HB := aS (hb); replace HI280 := aS (hi); clear hi hb hk; (try clear ho0)))
  go_ret2
  exact ⟨_, _, jE, by exact rU HO313.out, by exact rU HO283.out, by exact wS1 HB.out (IsS111.ge HI280.out)⟩

/-! ### slices_Clone_byte: function 114 -/
def slices_Clone_byte.f (l0 : List Int) : Option (List Int) := (some (([] : List Int) : List Int)).bind fun y316 => (if y316.length + l0.length < 140737488355328 then (some (y316 ++ l0)) else (none))
set_option maxHeartbeats 8000000 in
set_option maxRecDepth 100000 in
theorem slices_Clone_byte.calls (A0 : Option Addr) (c0 : Nat) (l0 : List Int) (r : List Int) (w : World) (hr0 : Kd.C (Kd.int .u8) w A0 l0.length l0) (hc0 : l0.length ≤ c0) (h : slices_Clone_byte.f l0 = some r) :
  Calls Tryd.prog 114 #[.slice A0 l0.length c0] w fun e w' => ∃ v0_ : Value, e = .returned (v0_) ∧ Kd.R (Kd.int .u8) 5 w' w.heap.size (fun _ => True) v0_ r ∧ Below w.heap.size w w' := by
 obtain rfl | ⟨adn_, rfl⟩ : A0 = none ∨ ∃ ad, A0 = some ad := by cases A0 <;> simp
 ·obtain rfl : l0 = [] := X.C_none_nil hr0
  simp [slices_Clone_byte.f] at h
  subst h
  have hnil_ : ∀ (w : World) (a : Option Addr) (n c n' c' : Nat), (binOp .eql 22 (.slice a n c) (.slice none n' c')).run Tryd.prog w = .ok (.bool a.isNone) w := fun w a n c n' c' => Lib.run_eql_slice_nil w _ _ a n c n' c' Tryd.underlying22
  go_enter Tryd.func114, Tryd.ntmps114
  go_wp2
  go_ret
  exact ⟨_, rfl, Kd.R_nil _ _ _ _ _, Below.refl _ _⟩
 have hnil_ : ∀ (w : World) (a : Option Addr) (n c n' c' : Nat), (binOp .eql 22 (.slice a n c) (.slice none n' c')).run Tryd.prog w = .ok (.bool a.isNone) w := fun w a n c n' c' => Lib.run_eql_slice_nil w _ _ a n c n' c' Tryd.underlying22
 have HR0 := aS hr0
 have HC0 := aS hc0
 clear hr0 hc0
 have HB := aS (Below.refl w.heap.size w)
 have H : ((some (([] : List Int) : List Int)).bind fun y316 => (if y316.length + l0.length < 140737488355328 then (some (y316 ++ l0)) else (none))) = some r := h
 clear h
 obtain ⟨y316, hy_⟩ : ∃ y_ : List Int, y_ = (([] : List Int)) := ⟨_, rfl⟩
 replace H : (if y316.length + l0.length < 140737488355328 then (some (y316 ++ l0)) else (none)) = some r := jD
 have Ny316 := aS hy_
 clear hy_
 by_cases c2 : y316.length + l0.length < 140737488355328
 ·rw [if_pos c2] at H
  have LMc2 := aS c2
  clear c2
  obtain ⟨y319, hy_⟩ : ∃ y_ : List Int, y_ = (y316 ++ l0) := ⟨_, rfl⟩
  replace H : (some y319) = some r := jD
  have Ny319 := aS hy_
  clear hy_
  obtain rfl := Option.some.inj H
  go_enter Tryd.func114, Tryd.ntmps114
  go_wp2_with (first | ((with_reducible refine gate_dst (N := 5) rfl ?_); refine Kd.R_lit (Kd.int .u8) _ 5 ?hg (N := 5) ?hd (xs := ([] : List Int)) (inner := []) (ok := fun _ => True) (okp := fun _ => True) ?hr ?hp (fun _ hk => hk) trivial (Below.refl _ _) (Nat.le_refl _) (by simp) ?_; (case hd => rfl); (case hg => rfl); (case hr => first | (go_simp; done) | (go_simp; rfl)); (case hp => exact (Reps.none _ _)); intro v317 w3 ho4 hb hg_ hnew_; clear hg_ hnew_; (first | rw [← Ny316.out] at ho4 | (simp only [Int.reduceToNat] at ho4; rw [← Ny316.out] at ho4)); have HO318 := aS (Kd.R_lower ho4 (below_size (wU HB.out))); replace HB := aS (below_step (wU HB.out) hb); clear hb ho4) | ((with_reducible refine gate_builtin (b := .append) (xs := #[.tmp 5, .tmp 6]) rfl ?_); at_builtin; refine Kd.R_append_rows (Kd.int .u8) (w0 := w) w.heap.size rfl (.tmp 5) (.tmp 6) 22 5 (.int .u8 0) 1 rfl Tryd.underlying22 info5 rfl (by decide) (by omega) v317 y316 l0 _ _ _ (fun _ => True) (fun _ => False) rfl rfl ?aO ?aR (fun _ _ h => h) (fun _ h => h.elim) ?aF ?aB ?aS ?aL ?_; (case aR => exact cU ((Kd.C_below HR0.out HB.out))); (case aB => exact (wU HB.out)); (case aF => exact (fun _ _ => trivial)); (case aO => exact (rU HO318.out)); (case aS => exact (below_size (wU HB.out))); (case aL => have := LMc2.out; omega); intro v320 w5 ho hb hg hat; rw [← Ny319.out] at ho; replace HB := aS (hb); have HO321 := aS (ho); clear HO318; clear ho hb hg hat))
  go_ret
  exact ⟨_, jE, by exact rU HO321.out, by exact wU HB.out⟩
 ·rw [if_neg c2] at H
  exact absurd H (by simp)

end Go.Proofs.YtdigilidomimdaaDoor.Pr
