-- Written for this claim by a program of this session (wip/tool/pr.py, over the kit's printer).
-- half
import Derived.Test.YtdigilidomimdaaDoorPrx0
import Derived.Test.YtdigilidomimdaaDoorPrx10
import Derived.Test.YtdigilidomimdaaDoorPrx11
namespace Go.Proofs.YtdigilidomimdaaDoor.Pr
open Go.RowKit Go.Proofs.YtdigilidomimdaaDoorW.PrintWords Go.Proofs.YtdigilidomimdaaDoorW.PrintLast Go.Proofs.YtdigilidomimdaaDoorW.PrintMore
attribute [local go_sem] max2_int min2_int max_two min_two max_three min_three max_four min_four   -- for this text's walks alone
set_option linter.unusedVariables false
set_option linter.unusedSimpArgs false

/-! ### spec_l4Bytes: function 57 -/
def spec_l4Bytes.l0 : Nat → List Int → Int → Int → List Int → Int → Int → Option (List Int × Int × Int × Int)
 | 0, _, _, _, _, _, _ => none
 | k + 1, x4, x5, x6, x1000, x1001, x1002 => if x6 ≥ 0 then ((spec_l3Name.f x1000 x1001 x1002).bind fun bt515 => ((spec_PutName.f k x4 bt515.1).bind fun t518 => ((spec_l1Once.f x1000 bt515.2.1 bt515.2.2 5).bind fun bt521 => (if bt521.1 = true then ((spec_l1Int.f x1000 bt521.2.1 bt521.2.2 (([192, 193, 255, 3, 13, 0] : List Int))).bind fun bt527 => ((spec_l1Below.f x1000 bt527.2.1 bt527.2.2 12).bind fun bt530 => ((some (([(bt527.1) % 256, (bt530.1) % 256] : List Int) : List Int)).bind fun y533 => (if t518.length + y533.length < 140737488355328 then (spec_l4Bytes.l0 k (t518 ++ y533) (x4.length : Int) (wrap64 (x6 - 1)) x1000 bt530.2.1 bt530.2.2) else (none))))) else (spec_l4Bytes.l0 k t518 (x4.length : Int) (wrap64 (x6 - 1)) x1000 bt521.2.1 bt521.2.2))))) else ((spec_l1Once.f x1000 x1001 x1002 4).bind fun bt539 => (if bt539.1 = true then ((spec_l1Bent.f x1000 bt539.2.1 bt539.2.2 x4).bind fun bt542 => (some (bt542.1, x5, bt542.2.1, bt542.2.2))) else (some (x4, x5, bt539.2.1, bt539.2.2))))
def spec_l4Bytes.f (k : Nat) (s0_0 : List Int) (s0_1 : Int) (s0_2 : Int) : Option (List Int × Int × Int × Int) := (spec_l1Below.f s0_0 s0_1 s0_2 3).bind fun bt504 => ((spec_l1Bytes.f k s0_0 bt504.2.1 bt504.2.2 bt504.1).bind fun bt507 => ((spec_l1Below.f s0_0 bt507.2.1 bt507.2.2 4).bind fun bt512 => (spec_l4Bytes.l0 k bt507.1 (bt507.1.length : Int) bt512.1 s0_0 bt512.2.1 bt512.2.2)))
theorem spec_l4Bytes.mono_l : ∀ k, (∀ y0 y1 y2 y3 y4 y5, LeO (spec_l4Bytes.l0 k y0 y1 y2 y3 y4 y5) (spec_l4Bytes.l0 (k + 1) y0 y1 y2 y3 y4 y5))
 | 0 => fun _ _ _ _ _ _ r h => by simp [spec_l4Bytes.l0] at h
 | k + 1 => by
  have ih0 := spec_l4Bytes.mono_l k
  ·intro y0 y1 y2 y3 y4 y5
   unfold spec_l4Bytes.l0
   repeat' first
   | (with_reducible first | exact ih0 _ _ _ _ _ _ | exact spec_PutName.mono _ _ _ | exact spec_l1Bytes.mono _ _ _ _ _ | exact LeO.refl _ | exact LeO.none _ | refine LeO.ite ?_ ?_ | refine LeO.bind ?_ (fun _ => ?_))
   | exact ih0 _ _ _ _ _ _
   | exact spec_PutName.mono _ _ _
   | exact spec_l1Bytes.mono _ _ _ _ _
   | exact LeO.none _
   | refine LeO.ite ?_ ?_
   | refine LeO.bind ?_ (fun _ => ?_)
theorem spec_l4Bytes.mono : ∀ a0 a1 a2 k, LeO (spec_l4Bytes.f k a0 a1 a2) (spec_l4Bytes.f (k + 1) a0 a1 a2) := by
 intro a0 a1 a2 k
 have ih0 := spec_l4Bytes.mono_l k
 unfold spec_l4Bytes.f
 repeat' first
   | (with_reducible first | exact ih0 _ _ _ _ _ _ | exact spec_PutName.mono _ _ _ | exact spec_l1Bytes.mono _ _ _ _ _ | exact LeO.refl _ | exact LeO.none _ | refine LeO.ite ?_ ?_ | refine LeO.bind ?_ (fun _ => ?_))
   | exact ih0 _ _ _ _ _ _
   | exact spec_PutName.mono _ _ _
   | exact spec_l1Bytes.mono _ _ _ _ _
   | exact LeO.none _
   | refine LeO.ite ?_ ?_
   | refine LeO.bind ?_ (fun _ => ?_)
set_option maxHeartbeats 8000000 in
set_option maxRecDepth 100000 in
theorem spec_l4Bytes.calls (k : Nat) (g : Nat) (s0_0 : List Int) (s0_1 : Int) (s0_2 : Int) (r1 : List Int) (r2 : Int) (r3 : Int) (r4 : Int) (w0 w : World) (hI : IsS111 w0 w g s0_0 s0_1 s0_2) (hB : Below w0.heap.size w0 w) (h : spec_l4Bytes.f k s0_0 s0_1 s0_2 = some (r1, r2, r3, r4)) :
  Calls Tryd.prog 57 #[.pointer (some ⟨g, 0, none⟩)] w fun e w' => ∃ v0_ : Value, e = .returned (.tuple #[v0_, .int .i64 r2]) ∧ Kd.R (Kd.int .u8) 5 w' w.heap.size (fun _ => True) v0_ r1 ∧ IsS111 w0 w' g s0_0 r3 r4 ∧ Below w0.heap.size w0 w' ∧ KeepBut w w' g none := by
 have HI0 := aS hI
 have HK := aS (KeepBut.refl w g none)
 have HL := aS hB.size
 clear hI
 have HW0 := aS hB.size
 have HB := aS hB
 clear hB
 have H : ((spec_l1Below.f s0_0 s0_1 s0_2 3).bind fun bt504 => ((spec_l1Bytes.f k s0_0 bt504.2.1 bt504.2.2 bt504.1).bind fun bt507 => ((spec_l1Below.f s0_0 bt507.2.1 bt507.2.2 4).bind fun bt512 => (spec_l4Bytes.l0 k bt507.1 (bt507.1.length : Int) bt512.1 s0_0 bt512.2.1 bt512.2.2)))) = some (r1, r2, r3, r4) := h
 clear h
 obtain ⟨⟨t504, t505, t506⟩, A2, H⟩ := bM H
 try dsimp only at H
 obtain ⟨⟨t507, t510, t511⟩, A3, H⟩ := bM H
 try dsimp only at H
 obtain ⟨⟨t512, t513, t514⟩, A4, H⟩ := bM H
 try dsimp only at H
 have H' := aS H
 clear H
 go_enter Tryd.func57, Tryd.ntmps57
 go_wp2_with (first | ((with_reducible refine gate_callee (f := 78) rfl ?_); refine goesL_ (some 9) rfl rfl Tryd.func78 jK rfl #[.pointer (some ⟨g, 0, none⟩), .int .i64 3] rfl jA ?_; (with_reducible refine (spec_l1Below.calls g s0_0 s0_1 s0_2 3 t504 t505 t506 w0 _ ?side1 ?side2 A2.out).mono ?_); (case side1 => exact IsS111.iS0 HI0.out); (case side2 => exact wS1 HB.out (IsS111.ge HI0.out)); rintro e w5 ⟨rfl, hi, hb, hk⟩; refine ⟨_, rfl, ?_⟩; replace HK := aS (KeepBut.trans (kS0 HK.out) hk (.inl rfl)); replace HB := aS (hb); replace HI0 := aS (hi); clear hi hb hk) | ((with_reducible refine gate_callee (f := 77) rfl ?_); refine goesL_ (some 10) rfl rfl Tryd.func77 jK rfl #[.pointer (some ⟨g, 0, none⟩), .int .i64 t504] rfl jA ?_; (with_reducible refine (spec_l1Bytes.calls k g s0_0 t505 t506 t504 t507 t510 t511 w0 _ ?side1 ?side2 A3.out).mono ?_); (case side1 => exact IsS111.iS0 HI0.out); (case side2 => exact wS1 HB.out (IsS111.ge HI0.out)); rintro e w6 ⟨v508, rfl, ho0, hi, hb, hk⟩; refine ⟨_, rfl, ?_⟩; have HO509 := aS (Kd.R_lower ho0 (keep_size (w := w) (g := g) (row := none) (kS0 HK.out))); replace HK := aS (KeepBut.trans (kS0 HK.out) hk (.inl rfl)); replace HB := aS (hb); replace HI0 := aS (hi); clear hi hb hk; (try clear ho0); obtain ⟨Ao7, co7, eo7⟩ := Kd.R_slice HO509.out; subst eo7) | ((with_reducible refine gate_callee (f := 78) rfl ?_); refine goesL_ (some 14) rfl rfl Tryd.func78 jK rfl #[.pointer (some ⟨g, 0, none⟩), .int .i64 4] rfl jA ?_; (with_reducible refine (spec_l1Below.calls g s0_0 t510 t511 4 t512 t513 t514 w0 _ ?side1 ?side2 A4.out).mono ?_); (case side1 => exact IsS111.iS0 HI0.out); (case side2 => exact wS1 HB.out (IsS111.ge HI0.out)); rintro e w8 ⟨rfl, hi, hb, hk⟩; refine ⟨_, rfl, ?_⟩; replace HO509 := aS (Kd.R_mono (Kd.R_keep (IsS111.apart (show IsS111 w0 _ g s0_0 t510 t511 from by exact IsS111.iS0 HI0.out) (rU HO509.out) (by decide)) hk (fun _ h => h.2)) (fun _ h => h.1)); replace HK := aS (KeepBut.trans (kS0 HK.out) hk (.inl rfl)); replace HB := aS (hb); replace HI0 := aS (hi); clear hi hb hk))
 go_loopg [4, 5, 6] k (fun kq v4 v5 v6 w' => ∃ (x4_1 : List Int) (x5_1 : Int) (x6_1 : Int) (x1001_1 : Int) (x1002_1 : Int), v5 = .int .i64 x5_1 ∧ v6 = .int .i64 x6_1 ∧ Aside0 (spec_l4Bytes.l0 kq x4_1 x5_1 x6_1 s0_0 x1001_1 x1002_1 = some (r1, r2, r3, r4)) ∧ Aside0 (kq ≤ k) ∧ Aside0 (Kd.R (Kd.int .u8) 5 w' w.heap.size (fun _ => True) v4 x4_1) ∧ Aside0 (IsS111 w0 w' g s0_0 x1001_1 x1002_1) ∧ Aside0 (KeepBut w w' g none) ∧ Aside0 (Below w0.heap.size w0 w'))
 case atStart => exact ⟨(t507), ((t507.length : Int)), (t512), (t513), (t514), jB, jB, H', ⟨Nat.le_refl _⟩, ⟨by exact rU HO509.out⟩, ⟨by exact IsS111.iS0 HI0.out⟩, ⟨by exact kS0 HK.out⟩, ⟨by exact wS1 HB.out (IsS111.ge HI0.out)⟩⟩
 case round =>
  clear H'
  try clear p2
  try clear c5
  try clear c7
  obtain ⟨x4_1, x5_1, x6_1, x1001_1, x1002_1, rfl, rfl, HA, HK1, HO_4, HI0, HK, HB⟩ := hrel
  cases gk with
  | zero => exact absurd HA.out (by simp [spec_l4Bytes.l0])
  | succ k1 =>
   have H := HA.out
   clear HA
   simp only [spec_l4Bytes.l0] at H
   by_cases c9 : x6_1 ≥ 0
   ·rw [if_pos c9] at H
    have c9b0 := decide_eq_true c9
    clear c9
    obtain ⟨⟨t515, t516, t517⟩, A10, H⟩ := bM H
    try dsimp only at H
    obtain ⟨t518, A11, H⟩ := bM H
    try dsimp only at H
    obtain ⟨⟨t521, t522, t523⟩, A12, H⟩ := bM H
    try dsimp only at H
    have HC13 := aS H
    clear H
    obtain ⟨Ao14, co14, eo14⟩ := Kd.R_slice HO_4.out
    subst eo14
    go_upto_if 26 with (first | ((with_reducible refine gate_callee (f := 85) rfl ?_); refine goesL_ (some 23) rfl rfl Tryd.func85 jK rfl #[.pointer (some ⟨g, 0, none⟩)] rfl jA ?_; (with_reducible refine (spec_l3Name.calls g s0_0 x1001_1 x1002_1 t515 t516 t517 w0 _ ?side1 ?side2 A10.out).mono ?_); (case side1 => exact IsS111.iS0 HI0.out); (case side2 => exact wS1 HB.out (IsS111.ge HI0.out)); rintro e w15 ⟨rfl, hi, hb, hk⟩; refine ⟨_, rfl, ?_⟩; replace HO_4 := aS (Kd.R_mono (Kd.R_keep (IsS111.apart (show IsS111 w0 _ g s0_0 x1001_1 x1002_1 from by exact IsS111.iS0 HI0.out) (rU HO_4.out) (by decide)) hk (fun _ h => h.2)) (fun _ h => h.1)); replace HK := aS (KeepBut.trans (kS0 HK.out) hk (.inl rfl)); replace HB := aS (hb); replace HI0 := aS (hi); clear hi hb hk) | ((with_reducible refine gate_callee (f := 65) rfl ?_); refine goesL_ (some 24) rfl rfl Tryd.func65 jK rfl #[.slice Ao14 x4_1.length co14, .string t515] rfl jA ?_; (with_reducible refine (spec_PutName.calls k1 _ _ x4_1 t515 t518 _ ?side1 ?side2 A11.out).mono ?_); (case side1 => exact cU ((Kd.R_reads' HO_4.out).2.2)); (case side2 => exact (Kd.R_reads' HO_4.out).2.1); rintro e w16 ⟨v519, rfl, ho0, hb⟩; refine ⟨_, rfl, ?_⟩; have HO520 := aS (Kd.R_lower (Kd.R_new' ho0 (Kd.R_lt (rU HO_4.out))) (keep_size (w := w) (g := g) (row := none) (kS0 HK.out))); replace HO_4 := aS (Kd.R_elder' (rU HO_4.out) (Kd.R_base ho0) hb); replace HK := aS (KeepBut.trans (kS0 HK.out) (KeepBut.of_below hb g none) (.inl rfl)); replace HB := aS (below_step (by exact wS1 HB.out (IsS111.ge HI0.out)) hb); replace HI0 := aS (IsS111.below (IsS111.iS0 HI0.out) hb); clear hb; (try clear ho0)) | ((with_reducible refine gate_callee (f := 76) rfl ?_); refine goesL_ (some 26) rfl rfl Tryd.func76 jK rfl #[.pointer (some ⟨g, 0, none⟩), .int .i64 5] rfl jA ?_; (with_reducible refine (spec_l1Once.calls g s0_0 t516 t517 5 t521 t522 t523 w0 _ ?side1 ?side2 A12.out).mono ?_); (case side1 => exact IsS111.iS0 HI0.out); (case side2 => exact wS1 HB.out (IsS111.ge HI0.out)); rintro e w17 ⟨rfl, hi, hb, hk⟩; refine ⟨_, rfl, ?_⟩; replace HO_4 := aS (Kd.R_mono (Kd.R_keep (IsS111.apart (show IsS111 w0 _ g s0_0 t516 t517 from by exact IsS111.iS0 HI0.out) (rU HO_4.out) (by decide)) hk (fun _ h => h.2)) (fun _ h => h.1)); replace HO520 := aS (Kd.R_mono (Kd.R_keep (IsS111.apart (show IsS111 w0 _ g s0_0 t516 t517 from by exact IsS111.iS0 HI0.out) (rU HO520.out) (by decide)) hk (fun _ h => h.2)) (fun _ h => h.1)); replace HK := aS (KeepBut.trans (kS0 HK.out) hk (.inl rfl)); replace HB := aS (hb); replace HI0 := aS (hi); clear hi hb hk))
    (try simp only [Act.put, List.setIfInBounds_toArray, List.set_cons_zero, List.set_cons_succ])
    have H := HC13.out
    clear HC13
    by_cases c18 : t521 = true
    ·subst c18
     rw [if_pos rfl] at H
     obtain ⟨y524, hy_⟩ : ∃ y_ : List Int, y_ = (([192, 193, 255, 3, 13, 0] : List Int)) := ⟨_, rfl⟩
     rw [← hy_] at H
     have Ny524 := aS hy_
     clear hy_
     obtain ⟨⟨t527, t528, t529⟩, A19, H⟩ := bM H
     try dsimp only at H
     obtain ⟨⟨t530, t531, t532⟩, A20, H⟩ := bM H
     try dsimp only at H
     obtain ⟨y533, hy_⟩ : ∃ y_ : List Int, y_ = (([(t527) % 256, (t530) % 256] : List Int)) := ⟨_, rfl⟩
     replace H : (if t518.length + y533.length < 140737488355328 then (spec_l4Bytes.l0 k1 (t518 ++ y533) (x4_1.length : Int) (wrap64 (x6_1 - 1)) s0_0 t531 t532) else (none)) = some (r1, r2, r3, r4) := jD
     have Ny533 := aS hy_
     clear hy_
     by_cases c21 : t518.length + y533.length < 140737488355328
     ·rw [if_pos c21] at H
      have LMc21 := aS c21
      clear c21
      obtain ⟨y536, hy_⟩ : ∃ y_ : List Int, y_ = (t518 ++ y533) := ⟨_, rfl⟩
      replace H : (spec_l4Bytes.l0 k1 y536 (x4_1.length : Int) (wrap64 (x6_1 - 1)) s0_0 t531 t532) = some (r1, r2, r3, r4) := jD
      have Ny536 := aS hy_
      clear hy_
      have H' := aS H
      clear H
      go_wp2_with (first | ((with_reducible refine gate_dst (N := 29) rfl ?_); refine Kd.R_lit (Kd.int .i64) _ 3 ?hg (N := 29) ?hd (xs := ([192, 193, 255, 3, 13, 0] : List Int)) (inner := [.int .i64 192, .int .i64 193, .int .i64 255, .int .i64 3, .int .i64 13, .int .i64 0]) (ok := fun _ => True) (okp := fun _ => True) ?hr ?hp (fun _ hk => hk) trivial (Below.refl _ _) (Nat.le_refl _) (by simp) ?_; (case hd => rfl); (case hg => rfl); (case hr => first | (go_simp; done) | (go_simp; rfl)); (case hp => exact (Reps.one (show Kd.M (Kd.int .i64) _ _ _ 192 [.int .i64 192] from rfl) (Reps.one (show Kd.M (Kd.int .i64) _ _ _ 193 [.int .i64 193] from rfl) (Reps.one (show Kd.M (Kd.int .i64) _ _ _ 255 [.int .i64 255] from rfl) (Reps.one (show Kd.M (Kd.int .i64) _ _ _ 3 [.int .i64 3] from rfl) (Reps.one (show Kd.M (Kd.int .i64) _ _ _ 13 [.int .i64 13] from rfl) (Reps.one (show Kd.M (Kd.int .i64) _ _ _ 0 [.int .i64 0] from rfl) (Reps.none _ _)))))))); intro v525 w22 ho23 hb hg_ hnew_; clear hg_ hnew_; (first | rw [← Ny524.out] at ho23 | (simp only [Int.reduceToNat] at ho23; rw [← Ny524.out] at ho23)); replace HO_4 := aS (Kd.R_below (rU HO_4.out) hb); replace HO520 := aS (Kd.R_below (rU HO520.out) hb); have HO526 := aS (Kd.R_lower ho23 (keep_size (w := w) (g := g) (row := none) (kS0 HK.out))); replace HK := aS (KeepBut.trans (kS0 HK.out) (KeepBut.of_below hb g none) (.inl rfl)); replace HB := aS (below_step (by exact wS1 HB.out (IsS111.ge HI0.out)) hb); replace HI0 := aS (IsS111.below (IsS111.iS0 HI0.out) hb); clear hb ho23; obtain ⟨Ao24, co24, eo24⟩ := Kd.R_slice HO526.out; subst eo24) | ((with_reducible refine gate_callee (f := 81) rfl ?_); refine goesL_ (some 30) rfl rfl Tryd.func81 jK rfl #[.pointer (some ⟨g, 0, none⟩), .slice Ao24 y524.length co24] rfl jA ?_; (with_reducible refine (spec_l1Int.calls g s0_0 t522 t523 _ _ y524 t527 t528 t529 w0 _ ?side1 ?side2 ?side3 ?side4 ?side5 A19.out).mono ?_); (case side1 => exact IsS111.iS0 HI0.out); (case side2 => exact wS1 HB.out (IsS111.ge HI0.out)); (case side3 => exact cU ((Kd.R_reads' HO526.out).2.2)); (case side4 => exact (Kd.R_reads' HO526.out).2.1); (case side5 => exact far_slice (IsS111.own_ne HI0.out HO526.out (by decide))); rintro e w25 ⟨rfl, hi, hb, hk⟩; refine ⟨_, rfl, ?_⟩; replace HO_4 := aS (Kd.R_mono (Kd.R_keep (IsS111.apart (show IsS111 w0 _ g s0_0 t522 t523 from by exact IsS111.iS0 HI0.out) (rU HO_4.out) (by decide)) hk (fun _ h => h.2)) (fun _ h => h.1)); replace HO520 := aS (Kd.R_mono (Kd.R_keep (IsS111.apart (show IsS111 w0 _ g s0_0 t522 t523 from by exact IsS111.iS0 HI0.out) (rU HO520.out) (by decide)) hk (fun _ h => h.2)) (fun _ h => h.1)); replace HO526 := aS (Kd.R_mono (Kd.R_keep (IsS111.apart (show IsS111 w0 _ g s0_0 t522 t523 from by exact IsS111.iS0 HI0.out) (rU HO526.out) (by decide)) hk (fun _ h => h.2)) (fun _ h => h.1)); replace HK := aS (KeepBut.trans (kS0 HK.out) hk (.inl rfl)); replace HB := aS (hb); replace HI0 := aS (hi); clear hi hb hk) | ((with_reducible refine gate_callee (f := 78) rfl ?_); refine goesL_ (some 33) rfl rfl Tryd.func78 jK rfl #[.pointer (some ⟨g, 0, none⟩), .int .i64 12] rfl jA ?_; (with_reducible refine (spec_l1Below.calls g s0_0 t528 t529 12 t530 t531 t532 w0 _ ?side1 ?side2 A20.out).mono ?_); (case side1 => exact IsS111.iS0 HI0.out); (case side2 => exact wS1 HB.out (IsS111.ge HI0.out)); rintro e w26 ⟨rfl, hi, hb, hk⟩; refine ⟨_, rfl, ?_⟩; replace HO_4 := aS (Kd.R_mono (Kd.R_keep (IsS111.apart (show IsS111 w0 _ g s0_0 t528 t529 from by exact IsS111.iS0 HI0.out) (rU HO_4.out) (by decide)) hk (fun _ h => h.2)) (fun _ h => h.1)); replace HO520 := aS (Kd.R_mono (Kd.R_keep (IsS111.apart (show IsS111 w0 _ g s0_0 t528 t529 from by exact IsS111.iS0 HI0.out) (rU HO520.out) (by decide)) hk (fun _ h => h.2)) (fun _ h => h.1)); replace HO526 := aS (Kd.R_mono (Kd.R_keep (IsS111.apart (show IsS111 w0 _ g s0_0 t528 t529 from by exact IsS111.iS0 HI0.out) (rU HO526.out) (by decide)) hk (fun _ h => h.2)) (fun _ h => h.1)); replace HK := aS (KeepBut.trans (kS0 HK.out) hk (.inl rfl)); replace HB := aS (hb); replace HI0 := aS (hi); clear hi hb hk) | ((with_reducible refine gate_dst (N := 35) rfl ?_); refine Kd.R_lit (Kd.int .u8) _ 5 ?hg (N := 35) ?hd (xs := ([(t527) % 256, (t530) % 256] : List Int)) (inner := [.int .u8 ((t527) % 256), .int .u8 ((t530) % 256)]) (ok := fun _ => True) (okp := fun _ => True) ?hr ?hp (fun _ hk => hk) trivial (Below.refl _ _) (Nat.le_refl _) (by simp) ?_; (case hd => rfl); (case hg => rfl); (case hr => first | (go_simp; done) | (go_simp; rfl)); (case hp => exact (Reps.one (show Kd.M (Kd.int .u8) _ _ _ ((t527) % 256) [.int .u8 ((t527) % 256)] from rfl) (Reps.one (show Kd.M (Kd.int .u8) _ _ _ ((t530) % 256) [.int .u8 ((t530) % 256)] from rfl) (Reps.none _ _)))); intro v534 w27 ho28 hb hg_ hnew_; clear hg_ hnew_; (first | rw [← Ny533.out] at ho28 | (simp only [Int.reduceToNat] at ho28; rw [← Ny533.out] at ho28)); replace HO526 := aS (Kd.R_below (rU HO526.out) hb); have HO535 := aS (Kd.R_lower (Kd.R_new' (Kd.R_new' ho28 (Kd.R_lt (rU HO_4.out))) (Kd.R_lt (rU HO520.out))) (keep_size (w := w) (g := g) (row := none) (kS0 HK.out))); replace HO_4 := aS (Kd.R_elder' (rU HO_4.out) (Kd.R_base ho28) hb); replace HO520 := aS (Kd.R_elder' (rU HO520.out) (Kd.R_base ho28) hb); replace HK := aS (KeepBut.trans (kS0 HK.out) (KeepBut.of_below hb g none) (.inl rfl)); replace HB := aS (below_step (by exact wS1 HB.out (IsS111.ge HI0.out)) hb); replace HI0 := aS (IsS111.below (IsS111.iS0 HI0.out) hb); clear hb ho28; obtain ⟨Ao30, co30, eo30⟩ := Kd.R_slice HO535.out; subst eo30) | ((with_reducible refine gate_builtin (b := .append) (xs := #[.tmp 27, .tmp 35]) rfl ?_); at_builtin; refine Kd.R_append_rows (Kd.int .u8) w.heap.size rfl (.tmp 27) (.tmp 35) 22 5 (.int .u8 0) 1 rfl Tryd.underlying22 info5 rfl (by decide) (by omega) v519 t518 y533 _ _ _ (fun k_ => some k_ ≠ (.slice Ao14 x4_1.length co14 : Value).ownBlock ∧ some k_ ≠ (.slice Ao30 y533.length co30 : Value).ownBlock) (fun _ => False) rfl rfl ?aO ?aR (fun _ _ h => h) (fun _ h => h.elim) ?aF (Below.refl _ _) ?aS ?aL ?_; (case aR => exact cU ((Kd.R_reads' HO535.out).2.2)); (case aF => exact (fun k_ hk => ⟨Kd.fresh' (Kd.R_lt (rU HO_4.out)) k_ hk, Kd.fresh' (Kd.R_lt (rU HO535.out)) k_ hk⟩)); (case aO => exact (by (with_reducible repeat (first | apply Kd.R_alloc | apply Kd.R_drewN | apply Kd.R_drew)); exact Kd.R_mono HO520.out (fun _ hk => ⟨hk.1.2, hk.2⟩))); (case aS => exact (keep_size (w := w) (g := g) (row := none) (kS0 HK.out))); (case aL => have := LMc21.out; omega); intro v537 w29 ho hb hg hat; rw [← Ny536.out] at ho; replace HO_4 := aS (Kd.R_after (ok := (fun k_ => some k_ ≠ (.slice Ao30 y533.length co30 : Value).ownBlock)) (by (with_reducible repeat (first | apply Kd.R_alloc | apply Kd.R_drewN | apply Kd.R_drew)); exact Kd.R_mono HO_4.out (fun _ hk => ⟨hk.2, hk.1.2⟩)) hg hat); replace HO526 := aS (Kd.R_over' (rU HO526.out) (Kd.R_typed (rU HO520.out)) (by decide) hg); replace HO535 := aS (Kd.R_after (ok := (fun k_ => some k_ ≠ (.slice Ao14 x4_1.length co14 : Value).ownBlock)) (by (with_reducible repeat (first | apply Kd.R_alloc | apply Kd.R_drewN | apply Kd.R_drew)); exact Kd.R_mono HO535.out (fun _ hk => ⟨hk.1.2, hk.2⟩)) hg hat); replace HB := aS (below_weaken (by exact wS1 HB.out (IsS111.ge HI0.out)) HL.out hb); replace HI0 := aS (IsS111.grown (IsS111.iS0 HI0.out) hg (IsS111.own_ne HI0.out HO520.out (by decide))); replace HK := aS (KeepBut.trans (kS0 HK.out) (KeepBut.of_grown hg g) (Kd.R_base2 HO520.out)); have HO538 := aS (ho); clear HO520; clear ho hb hg hat))
      go_roundg k1
      case measure => have := HK1.out; omega
      case rel => exact ⟨(y536), ((x4_1.length : Int)), (wrap64 (x6_1 - 1)), (t531), (t532), jB, jB, H', ⟨by have := HK1.out; omega⟩, ⟨Kd.R_mono (rU HO538.out) (fun _ hk => trivial)⟩, ⟨by exact IsS111.iS0 HI0.out⟩, ⟨by exact kS0 HK.out⟩, ⟨by exact wS1 HB.out (IsS111.ge HI0.out)⟩⟩
     ·rw [if_neg c21] at H
      exact absurd H (by simp)
    ·replace c18 := Bool.eq_false_iff.mpr c18
     subst c18
     rw [if_neg Bool.false_ne_true] at H
     have H' := aS H
     clear H
     go_wp2
     go_roundg k1
     case measure => have := HK1.out; omega
     case rel => exact ⟨(t518), ((x4_1.length : Int)), (wrap64 (x6_1 - 1)), (t522), (t523), jB, jB, H', ⟨by have := HK1.out; omega⟩, ⟨Kd.R_mono (rU HO520.out) (fun _ hk => trivial)⟩, ⟨by exact IsS111.iS0 HI0.out⟩, ⟨by exact kS0 HK.out⟩, ⟨by exact wS1 HB.out (IsS111.ge HI0.out)⟩⟩
   ·rw [if_neg c9] at H
    have c9b0 := decide_eq_false c9
    clear c9
    obtain ⟨⟨t539, t540, t541⟩, A31, H⟩ := bM H
    try dsimp only at H
    by_cases c32 : t539 = true
    ·subst c32
     rw [if_pos rfl] at H
     obtain ⟨⟨t542, t545, t546⟩, A33, H⟩ := bM H
     try dsimp only at H
     simp only [Option.some.injEq, Prod.mk.injEq] at H
     obtain ⟨rfl, rfl, rfl, rfl⟩ := H
     go_wp2_with (first | ((with_reducible refine gate_callee (f := 76) rfl ?_); refine goesL_ (some 38) rfl rfl Tryd.func76 jK rfl #[.pointer (some ⟨g, 0, none⟩), .int .i64 4] rfl jA ?_; (with_reducible refine (spec_l1Once.calls g s0_0 x1001_1 x1002_1 4 true t540 t541 w0 _ ?side1 ?side2 A31.out).mono ?_); (case side1 => exact IsS111.iS0 HI0.out); (case side2 => exact wS1 HB.out (IsS111.ge HI0.out)); rintro e w34 ⟨rfl, hi, hb, hk⟩; refine ⟨_, rfl, ?_⟩; replace HO_4 := aS (Kd.R_mono (Kd.R_keep (IsS111.apart (show IsS111 w0 _ g s0_0 x1001_1 x1002_1 from by exact IsS111.iS0 HI0.out) (rU HO_4.out) (by decide)) hk (fun _ h => h.2)) (fun _ h => h.1)); replace HK := aS (KeepBut.trans (kS0 HK.out) hk (.inl rfl)); replace HB := aS (hb); replace HI0 := aS (hi); clear hi hb hk; obtain ⟨Ao35, co35, eo35⟩ := Kd.R_slice HO_4.out; subst eo35) | ((with_reducible refine gate_callee (f := 80) rfl ?_); refine goesL_ (some 41) rfl rfl Tryd.func80 jK rfl #[.pointer (some ⟨g, 0, none⟩), .slice Ao35 x4_1.length co35] rfl jA ?_; (with_reducible refine (spec_l1Bent.calls g s0_0 t540 t541 _ _ x4_1 t542 t545 t546 w0 _ ?side1 ?side2 ?side3 ?side4 ?side5 A33.out).mono ?_); (case side1 => exact IsS111.iS0 HI0.out); (case side2 => exact wS1 HB.out (IsS111.ge HI0.out)); (case side3 => exact cU ((Kd.R_reads' HO_4.out).2.2)); (case side4 => exact (Kd.R_reads' HO_4.out).2.1); (case side5 => exact far_slice (IsS111.own_ne HI0.out HO_4.out (by decide))); rintro e w36 ⟨v543, rfl, ho0, hi, hb, hk⟩; refine ⟨_, rfl, ?_⟩; have HO544 := aS (Kd.R_lower (Kd.R_new' ho0 (Kd.R_lt (rU HO_4.out))) (keep_size (w := w) (g := g) (row := none) (kS0 HK.out))); replace HO_4 := aS (Kd.R_mono (Kd.R_told (Kd.R_oldK (IsS111.apart (show IsS111 w0 _ g s0_0 t540 t541 from by exact IsS111.iS0 HI0.out) (rU HO_4.out) (by decide)) hk) (Kd.R_base ho0)) (fun _ h_ => h_.1)); replace HK := aS (KeepBut.trans (kS0 HK.out) hk (.inl rfl)); replace HB := aS (hb); replace HI0 := aS (hi); clear hi hb hk; (try clear ho0)))
     go_ret2
     exact ⟨_, jE, Kd.R_mono (rU HO544.out) (fun _ hk => trivial), by exact IsS111.iS0 HI0.out, by exact wS1 HB.out (IsS111.ge HI0.out), by exact kS0 HK.out⟩
    ·replace c32 := Bool.eq_false_iff.mpr c32
     subst c32
     rw [if_neg Bool.false_ne_true] at H
     simp only [Option.some.injEq, Prod.mk.injEq] at H
     obtain ⟨rfl, rfl, rfl, rfl⟩ := H
     go_wp2_with (first | ((with_reducible refine gate_callee (f := 76) rfl ?_); refine goesL_ (some 38) rfl rfl Tryd.func76 jK rfl #[.pointer (some ⟨g, 0, none⟩), .int .i64 4] rfl jA ?_; (with_reducible refine (spec_l1Once.calls g s0_0 x1001_1 x1002_1 4 false t540 t541 w0 _ ?side1 ?side2 A31.out).mono ?_); (case side1 => exact IsS111.iS0 HI0.out); (case side2 => exact wS1 HB.out (IsS111.ge HI0.out)); rintro e w37 ⟨rfl, hi, hb, hk⟩; refine ⟨_, rfl, ?_⟩; replace HO_4 := aS (Kd.R_mono (Kd.R_keep (IsS111.apart (show IsS111 w0 _ g s0_0 x1001_1 x1002_1 from by exact IsS111.iS0 HI0.out) (rU HO_4.out) (by decide)) hk (fun _ h => h.2)) (fun _ h => h.1)); replace HK := aS (KeepBut.trans (kS0 HK.out) hk (.inl rfl)); replace HB := aS (hb); replace HI0 := aS (hi); clear hi hb hk))
     go_ret2
     exact ⟨_, jE, by exact rU HO_4.out, by exact IsS111.iS0 HI0.out, by exact wS1 HB.out (IsS111.ge HI0.out), by exact kS0 HK.out⟩

/-! ### spec_l5Type: function 130 -/
def spec_l5Type.f (s0_0 : List Int) (s0_1 : Int) (s0_2 : Int) : Option (Int × Int × Int) := (spec_l1Int.f s0_0 s0_1 s0_2 (([1, 1, 1, 2, 2, 5, 6, 16] : List Int))).bind fun bt550 => (some (bt550.1, bt550.2.1, bt550.2.2))
set_option maxHeartbeats 8000000 in
set_option maxRecDepth 100000 in
theorem spec_l5Type.calls (g : Nat) (s0_0 : List Int) (s0_1 : Int) (s0_2 : Int) (r1 : Int) (r2 : Int) (r3 : Int) (w0 w : World) (hI : IsS111 w0 w g s0_0 s0_1 s0_2) (hB : Below w0.heap.size w0 w) (h : spec_l5Type.f s0_0 s0_1 s0_2 = some (r1, r2, r3)) :
  Calls Tryd.prog 130 #[.pointer (some ⟨g, 0, none⟩)] w fun e w' => e = .returned (.int .i64 r1) ∧ IsS111 w0 w' g s0_0 r2 r3 ∧ Below w0.heap.size w0 w' ∧ KeepBut w w' g none := by
 have HI0 := aS hI
 have HK := aS (KeepBut.refl w g none)
 have HL := aS hB.size
 clear hI
 have HW0 := aS hB.size
 have HB := aS hB
 clear hB
 have H : ((spec_l1Int.f s0_0 s0_1 s0_2 (([1, 1, 1, 2, 2, 5, 6, 16] : List Int))).bind fun bt550 => (some (bt550.1, bt550.2.1, bt550.2.2))) = some (r1, r2, r3) := h
 clear h
 obtain ⟨y547, hy_⟩ : ∃ y_ : List Int, y_ = (([1, 1, 1, 2, 2, 5, 6, 16] : List Int)) := ⟨_, rfl⟩
 rw [← hy_] at H
 have Ny547 := aS hy_
 clear hy_
 obtain ⟨⟨t550, t551, t552⟩, A2, H⟩ := bM H
 try dsimp only at H
 simp only [Option.some.injEq, Prod.mk.injEq] at H
 obtain ⟨rfl, rfl, rfl⟩ := H
 go_enter Tryd.func130, Tryd.ntmps130
 go_wp2_with (first | ((with_reducible refine gate_dst (N := 4) rfl ?_); refine Kd.R_lit (Kd.int .i64) _ 3 ?hg (N := 4) ?hd (xs := ([1, 1, 1, 2, 2, 5, 6, 16] : List Int)) (inner := [.int .i64 1, .int .i64 1, .int .i64 1, .int .i64 2, .int .i64 2, .int .i64 5, .int .i64 6, .int .i64 16]) (ok := fun _ => True) (okp := fun _ => True) ?hr ?hp (fun _ hk => hk) trivial (Below.refl _ _) (Nat.le_refl _) (by simp) ?_; (case hd => rfl); (case hg => rfl); (case hr => first | (go_simp; done) | (go_simp; rfl)); (case hp => exact (Reps.one (show Kd.M (Kd.int .i64) _ _ _ 1 [.int .i64 1] from rfl) (Reps.one (show Kd.M (Kd.int .i64) _ _ _ 1 [.int .i64 1] from rfl) (Reps.one (show Kd.M (Kd.int .i64) _ _ _ 1 [.int .i64 1] from rfl) (Reps.one (show Kd.M (Kd.int .i64) _ _ _ 2 [.int .i64 2] from rfl) (Reps.one (show Kd.M (Kd.int .i64) _ _ _ 2 [.int .i64 2] from rfl) (Reps.one (show Kd.M (Kd.int .i64) _ _ _ 5 [.int .i64 5] from rfl) (Reps.one (show Kd.M (Kd.int .i64) _ _ _ 6 [.int .i64 6] from rfl) (Reps.one (show Kd.M (Kd.int .i64) _ _ _ 16 [.int .i64 16] from rfl) (Reps.none _ _)))))))))); intro v548 w3 ho4 hb hg_ hnew_; clear hg_ hnew_; (first | rw [← Ny547.out] at ho4 | (simp only [Int.reduceToNat] at ho4; rw [← Ny547.out] at ho4)); have HO549 := aS (Kd.R_lower ho4 (keep_size (w := w) (g := g) (row := none) (kS0 HK.out))); replace HK := aS (KeepBut.trans (kS0 HK.out) (KeepBut.of_below hb g none) (.inl rfl)); replace HB := aS (below_step (by exact wS1 HB.out (IsS111.ge HI0.out)) hb); replace HI0 := aS (IsS111.below (IsS111.iS0 HI0.out) hb); clear hb ho4; obtain ⟨Ao5, co5, eo5⟩ := Kd.R_slice HO549.out; subst eo5) | ((with_reducible refine gate_callee (f := 81) rfl ?_); refine goesL_ (some 5) rfl rfl Tryd.func81 jK rfl #[.pointer (some ⟨g, 0, none⟩), .slice Ao5 y547.length co5] rfl jA ?_; (with_reducible refine (spec_l1Int.calls g s0_0 s0_1 s0_2 _ _ y547 t550 t551 t552 w0 _ ?side1 ?side2 ?side3 ?side4 ?side5 A2.out).mono ?_); (case side1 => exact IsS111.iS0 HI0.out); (case side2 => exact wS1 HB.out (IsS111.ge HI0.out)); (case side3 => exact cU ((Kd.R_reads' HO549.out).2.2)); (case side4 => exact (Kd.R_reads' HO549.out).2.1); (case side5 => exact far_slice (IsS111.own_ne HI0.out HO549.out (by decide))); rintro e w6 ⟨rfl, hi, hb, hk⟩; refine ⟨_, rfl, ?_⟩; replace HO549 := aS (Kd.R_mono (Kd.R_keep (IsS111.apart (show IsS111 w0 _ g s0_0 s0_1 s0_2 from by exact IsS111.iS0 HI0.out) (rU HO549.out) (by decide)) hk (fun _ h => h.2)) (fun _ h => h.1)); replace HK := aS (KeepBut.trans (kS0 HK.out) hk (.inl rfl)); replace HB := aS (hb); replace HI0 := aS (hi); clear hi hb hk))
 go_ret
 exact ⟨jE, by exact IsS111.iS0 HI0.out, by exact wS1 HB.out (IsS111.ge HI0.out), by exact kS0 HK.out⟩

/-! ### spec_l5Draw: function 79 -/
def spec_l5Draw.j0 : Nat → Int → Bool → List Int → Int → Int → ByteArray → Int → Int → Int → ByteArray → ByteArray → Option (ByteArray × Int × Int × Int × ByteArray × ByteArray × Int × Int)
 | 0, _, _, _, _, _, _, _, _, _, _, _ => none
 | k + 1, x13, x20, x1000, x1001, x1002, x567000, x567001, x567002, x567003, x567004, x567005 => if x20 = true then ((spec_l3Name.f x1000 x1001 x1002).bind fun bt570 => (some (x567000, x567001, x567002, x567003, bt570.1, x567005, bt570.2.1, bt570.2.2))) else (if x13 = 6 then ((spec_l3Name.f x1000 x1001 x1002).bind fun bt573 => ((spec_l1Int.f x1000 bt573.2.1 bt573.2.2 (([0, 5, 60] : List Int))).bind fun bt579 => (some (x567000, x567001, x567002, bt579.1, bt573.1, x567005, bt579.2.1, bt579.2.2)))) else (if x13 = 16 then ((spec_l1Str.f x1000 x1001 x1002 (([(⟨#[]⟩ : ByteArray), (⟨#[104, 105]⟩ : ByteArray), (⟨#[116, 119, 101, 108, 118, 101, 98, 121, 116, 101, 115, 33]⟩ : ByteArray)] : List ByteArray))).bind fun bt585 => (some (x567000, x567001, x567002, x567003, x567004, bt585.1, bt585.2.1, bt585.2.2))) else (some (x567000, x567001, x567002, x567003, x567004, x567005, x1001, x1002))))
def spec_l5Draw.f (k : Nat) (s0_0 : List Int) (s0_1 : Int) (s0_2 : Int) : Option (ByteArray × Int × Int × Int × ByteArray × ByteArray × Int × Int) := (spec_l3Name.f s0_0 s0_1 s0_2).bind fun bt554 => ((spec_l5Type.f s0_0 bt554.2.1 bt554.2.2).bind fun bt557 => ((spec_l1Int.f s0_0 bt557.2.1 bt557.2.2 (([0, 1, 5, 60, 300, 100000] : List Int))).bind fun bt563 => (if bt557.1 = 1 then ((spec_l1Below.f s0_0 bt563.2.1 bt563.2.2 9).bind fun bt567 => (some (bt554.1, bt557.1, bt563.1, wrap64 (1 + bt567.1), (⟨#[]⟩ : ByteArray), (⟨#[]⟩ : ByteArray), bt567.2.1, bt567.2.2))) else (if bt557.1 = 2 then (spec_l5Draw.j0 k bt557.1 (bt557.1 == 2) s0_0 bt563.2.1 bt563.2.2 bt554.1 bt557.1 bt563.1 0 (⟨#[]⟩ : ByteArray) (⟨#[]⟩ : ByteArray)) else (spec_l5Draw.j0 k bt557.1 (bt557.1 == 5) s0_0 bt563.2.1 bt563.2.2 bt554.1 bt557.1 bt563.1 0 (⟨#[]⟩ : ByteArray) (⟨#[]⟩ : ByteArray))))))
theorem spec_l5Draw.mono_l : ∀ k, (∀ y0 y1 y2 y3 y4 y5 y6 y7 y8 y9 y10, LeO (spec_l5Draw.j0 k y0 y1 y2 y3 y4 y5 y6 y7 y8 y9 y10) (spec_l5Draw.j0 (k + 1) y0 y1 y2 y3 y4 y5 y6 y7 y8 y9 y10))
 | 0 => fun _ _ _ _ _ _ _ _ _ _ _ r h => by simp [spec_l5Draw.j0] at h
 | k + 1 => by
  have ih0 := spec_l5Draw.mono_l k
  ·intro y0 y1 y2 y3 y4 y5 y6 y7 y8 y9 y10
   unfold spec_l5Draw.j0
   repeat' first
   | (with_reducible first | exact ih0 _ _ _ _ _ _ _ _ _ _ _ | exact LeO.refl _ | exact LeO.none _ | refine LeO.ite ?_ ?_ | refine LeO.bind ?_ (fun _ => ?_))
   | exact ih0 _ _ _ _ _ _ _ _ _ _ _
   | exact LeO.none _
   | refine LeO.ite ?_ ?_
   | refine LeO.bind ?_ (fun _ => ?_)
theorem spec_l5Draw.mono : ∀ a0 a1 a2 k, LeO (spec_l5Draw.f k a0 a1 a2) (spec_l5Draw.f (k + 1) a0 a1 a2) := by
 intro a0 a1 a2 k
 have ih0 := spec_l5Draw.mono_l k
 unfold spec_l5Draw.f
 repeat' first
   | (with_reducible first | exact ih0 _ _ _ _ _ _ _ _ _ _ _ | exact LeO.refl _ | exact LeO.none _ | refine LeO.ite ?_ ?_ | refine LeO.bind ?_ (fun _ => ?_))
   | exact ih0 _ _ _ _ _ _ _ _ _ _ _
   | exact LeO.none _
   | refine LeO.ite ?_ ?_
   | refine LeO.bind ?_ (fun _ => ?_)
set_option maxHeartbeats 8000000 in
set_option maxRecDepth 100000 in
theorem spec_l5Draw.calls (k : Nat) (g : Nat) (s0_0 : List Int) (s0_1 : Int) (s0_2 : Int) (r1 : ByteArray) (r2 : Int) (r3 : Int) (r4 : Int) (r5 : ByteArray) (r6 : ByteArray) (r7 : Int) (r8 : Int) (w0 w : World) (hI : IsS111 w0 w g s0_0 s0_1 s0_2) (hB : Below w0.heap.size w0 w) (h : spec_l5Draw.f k s0_0 s0_1 s0_2 = some (r1, r2, r3, r4, r5, r6, r7, r8)) :
  Calls Tryd.prog 79 #[.pointer (some ⟨g, 0, none⟩)] w fun e w' => e = .returned (.agg #[.string r1, .int .i64 r2, .int .i64 r3, .int .i64 r4, .string r5, .string r6]) ∧ IsS111 w0 w' g s0_0 r7 r8 ∧ Below w0.heap.size w0 w' ∧ KeepBut w w' g none := by
 have hu25 := Tryd.underlying25
 have HI0 := aS hI
 have HK := aS (KeepBut.refl w g none)
 have HL := aS hB.size
 clear hI
 have HW0 := aS hB.size
 have HB := aS hB
 clear hB
 have H : ((spec_l3Name.f s0_0 s0_1 s0_2).bind fun bt554 => ((spec_l5Type.f s0_0 bt554.2.1 bt554.2.2).bind fun bt557 => ((spec_l1Int.f s0_0 bt557.2.1 bt557.2.2 (([0, 1, 5, 60, 300, 100000] : List Int))).bind fun bt563 => (if bt557.1 = 1 then ((spec_l1Below.f s0_0 bt563.2.1 bt563.2.2 9).bind fun bt567 => (some (bt554.1, bt557.1, bt563.1, wrap64 (1 + bt567.1), (⟨#[]⟩ : ByteArray), (⟨#[]⟩ : ByteArray), bt567.2.1, bt567.2.2))) else (if bt557.1 = 2 then (spec_l5Draw.j0 k bt557.1 (bt557.1 == 2) s0_0 bt563.2.1 bt563.2.2 bt554.1 bt557.1 bt563.1 0 (⟨#[]⟩ : ByteArray) (⟨#[]⟩ : ByteArray)) else (spec_l5Draw.j0 k bt557.1 (bt557.1 == 5) s0_0 bt563.2.1 bt563.2.2 bt554.1 bt557.1 bt563.1 0 (⟨#[]⟩ : ByteArray) (⟨#[]⟩ : ByteArray))))))) = some (r1, r2, r3, r4, r5, r6, r7, r8) := h
 clear h
 obtain ⟨⟨t554, t555, t556⟩, A2, H⟩ := bM H
 try dsimp only at H
 obtain ⟨⟨t557, t558, t559⟩, A3, H⟩ := bM H
 try dsimp only at H
 obtain ⟨y560, hy_⟩ : ∃ y_ : List Int, y_ = (([0, 1, 5, 60, 300, 100000] : List Int)) := ⟨_, rfl⟩
 rw [← hy_] at H
 have Ny560 := aS hy_
 clear hy_
 obtain ⟨⟨t563, t564, t565⟩, A4, H⟩ := bM H
 try dsimp only at H
 have HC5 := aS H
 clear H
 go_enter Tryd.func79, Tryd.ntmps79
 go_upto_if 14 with (first | ((with_reducible refine gate_dst (N := 2) rfl ?_); refine box_event ?hg (N := 2) ?hd (cs := #[.string (⟨#[]⟩ : ByteArray), .int .i64 0, .int .i64 0, .int .i64 0, .string (⟨#[]⟩ : ByteArray), .string (⟨#[]⟩ : ByteArray)]) (t := 25) ?hr ?_; (case hd => rfl); (case hg => rfl); (case hr => first | (go_simp; done) | (go_simp; rfl)); intro gb553 hg w6 hbox hb; replace HB := aS (below_step (by exact wS1 HB.out (IsS111.ge HI0.out)) hb); have BK553 := aS (hbox); have GW553 := aS ((by rw [hg]; exact (keep_size (w := w) (g := g) (row := none) (kS0 HK.out)) : w.heap.size ≤ gb553)); have GE553 := aS ((Nat.le_trans HW0.out (by rw [hg]; exact (keep_size (w := w) (g := g) (row := none) (kS0 HK.out)) : w.heap.size ≤ gb553) : w0.heap.size ≤ gb553)); replace HK := aS (KeepBut.trans (kS0 HK.out) (KeepBut.of_below hb g none) (.inl rfl)); have NB0_553 := aS ((by rw [hg]; exact Nat.ne_of_lt (IsS111.lt (show IsS111 w0 _ g s0_0 s0_1 s0_2 from by exact IsS111.iS0 HI0.out)) : g ≠ gb553)); have NB553_0 := aS ((by rw [hg]; exact Nat.ne_of_gt (IsS111.lt (show IsS111 w0 _ g s0_0 s0_1 s0_2 from by exact IsS111.iS0 HI0.out)) : gb553 ≠ g)); replace HI0 := aS (IsS111.below (IsS111.iS0 HI0.out) hb); clear hb hbox hg) | ((with_reducible refine gate_callee (f := 85) rfl ?_); refine goesL_ (some 5) rfl rfl Tryd.func85 jK rfl #[.pointer (some ⟨g, 0, none⟩)] rfl jA ?_; (with_reducible refine (spec_l3Name.calls g s0_0 s0_1 s0_2 t554 t555 t556 w0 _ ?side1 ?side2 A2.out).mono ?_); (case side1 => exact IsS111.iS1 HI0.out NB0_553.out); (case side2 => exact wS2 HB.out (IsS111.ge HI0.out) GE553.out); rintro e w7 ⟨rfl, hi, hb, hk⟩; refine ⟨_, rfl, ?_⟩; replace BK553 := aS (KeepBut.blk hk (g' := gb553) (o := .cells #[.string (⟨#[]⟩ : ByteArray), .int .i64 0, .int .i64 0, .int .i64 0, .string (⟨#[]⟩ : ByteArray), .string (⟨#[]⟩ : ByteArray)] 25 (0, 0)) (bU BK553.out) NB553_0.out (by simp)); replace HK := aS (KeepBut.trans (kS1 HK.out GW553.out) hk (.inl rfl)); replace HB := aS (hb); replace HI0 := aS (hi); clear hi hb hk) | ((with_reducible refine gate_callee (f := 130) rfl ?_); refine goesL_ (some 7) rfl rfl Tryd.func130 jK rfl #[.pointer (some ⟨g, 0, none⟩)] rfl jA ?_; (with_reducible refine (spec_l5Type.calls g s0_0 t555 t556 t557 t558 t559 w0 _ ?side1 ?side2 A3.out).mono ?_); (case side1 => exact IsS111.iS1 HI0.out NB0_553.out); (case side2 => exact wS2 HB.out (IsS111.ge HI0.out) GE553.out); rintro e w8 ⟨rfl, hi, hb, hk⟩; refine ⟨_, rfl, ?_⟩; replace BK553 := aS (KeepBut.blk hk (g' := gb553) (o := .cells #[.string (⟨#[]⟩ : ByteArray), .int .i64 0, .int .i64 0, .int .i64 0, .string (⟨#[]⟩ : ByteArray), .string (⟨#[]⟩ : ByteArray)] 25 (0, 0)) (bU BK553.out) NB553_0.out (by simp)); replace HK := aS (KeepBut.trans (kS1 HK.out GW553.out) hk (.inl rfl)); replace HB := aS (hb); replace HI0 := aS (hi); clear hi hb hk) | ((with_reducible refine gate_dst (N := 9) rfl ?_); refine Kd.R_lit (Kd.int .i64) _ 3 ?hg (N := 9) ?hd (xs := ([0, 1, 5, 60, 300, 100000] : List Int)) (inner := [.int .i64 0, .int .i64 1, .int .i64 5, .int .i64 60, .int .i64 300, .int .i64 100000]) (ok := fun _ => True) (okp := fun _ => True) ?hr ?hp (fun _ hk => hk) trivial (Below.refl _ _) (Nat.le_refl _) (by simp) ?_; (case hd => rfl); (case hg => rfl); (case hr => first | (go_simp; done) | (go_simp; rfl)); (case hp => exact (Reps.one (show Kd.M (Kd.int .i64) _ _ _ 0 [.int .i64 0] from rfl) (Reps.one (show Kd.M (Kd.int .i64) _ _ _ 1 [.int .i64 1] from rfl) (Reps.one (show Kd.M (Kd.int .i64) _ _ _ 5 [.int .i64 5] from rfl) (Reps.one (show Kd.M (Kd.int .i64) _ _ _ 60 [.int .i64 60] from rfl) (Reps.one (show Kd.M (Kd.int .i64) _ _ _ 300 [.int .i64 300] from rfl) (Reps.one (show Kd.M (Kd.int .i64) _ _ _ 100000 [.int .i64 100000] from rfl) (Reps.none _ _)))))))); intro v561 w9 ho10 hb hg_ hnew_; clear hg_ hnew_; (first | rw [← Ny560.out] at ho10 | (simp only [Int.reduceToNat] at ho10; rw [← Ny560.out] at ho10)); have HO562 := aS (Kd.R_lower ho10 (keep_size (w := w) (g := g) (row := none) (kS1 HK.out GW553.out))); replace BK553 := aS (blk_below (bU BK553.out) hb); replace HK := aS (KeepBut.trans (kS1 HK.out GW553.out) (KeepBut.of_below hb g none) (.inl rfl)); replace HB := aS (below_step (by exact wS2 HB.out (IsS111.ge HI0.out) GE553.out) hb); replace HI0 := aS (IsS111.below (IsS111.iS1 HI0.out NB0_553.out) hb); clear hb ho10; obtain ⟨Ao11, co11, eo11⟩ := Kd.R_slice HO562.out; subst eo11) | ((with_reducible refine gate_callee (f := 81) rfl ?_); refine goesL_ (some 10) rfl rfl Tryd.func81 jK rfl #[.pointer (some ⟨g, 0, none⟩), .slice Ao11 y560.length co11] rfl jA ?_; (with_reducible refine (spec_l1Int.calls g s0_0 t558 t559 _ _ y560 t563 t564 t565 w0 _ ?side1 ?side2 ?side3 ?side4 ?side5 A4.out).mono ?_); (case side1 => exact IsS111.iS1 HI0.out NB0_553.out); (case side2 => exact wS2 HB.out (IsS111.ge HI0.out) GE553.out); (case side3 => exact cU ((Kd.R_reads' HO562.out).2.2)); (case side4 => exact (Kd.R_reads' HO562.out).2.1); (case side5 => exact far_slice (IsS111.own_ne HI0.out HO562.out (by decide))); rintro e w12 ⟨rfl, hi, hb, hk⟩; refine ⟨_, rfl, ?_⟩; replace BK553 := aS (KeepBut.blk hk (g' := gb553) (o := .cells #[.string (⟨#[]⟩ : ByteArray), .int .i64 0, .int .i64 0, .int .i64 0, .string (⟨#[]⟩ : ByteArray), .string (⟨#[]⟩ : ByteArray)] 25 (0, 0)) (bU BK553.out) NB553_0.out (by simp)); replace HO562 := aS (Kd.R_mono (Kd.R_keep (IsS111.apart (show IsS111 w0 _ g s0_0 t558 t559 from by exact IsS111.iS1 HI0.out NB0_553.out) (rU HO562.out) (by decide)) hk (fun _ h => h.2)) (fun _ h => h.1)); replace HK := aS (KeepBut.trans (kS1 HK.out GW553.out) hk (.inl rfl)); replace HB := aS (hb); replace HI0 := aS (hi); clear hi hb hk) | ((with_reducible refine gate_dst (N := 3) rfl ?_); refine box_event ?hg (N := 3) ?hd (cs := #[.string (⟨#[]⟩ : ByteArray), .int .i64 0, .int .i64 0, .int .i64 0, .string (⟨#[]⟩ : ByteArray), .string (⟨#[]⟩ : ByteArray)]) (t := 25) ?hr ?_; (case hd => rfl); (case hg => rfl); (case hr => first | (go_simp; done) | (go_simp; rfl)); intro gb566 hg w13 hbox hb; replace HO562 := aS (Kd.R_below (rU HO562.out) hb); replace HB := aS (below_step (by exact wS2 HB.out (IsS111.ge HI0.out) GE553.out) hb); have BK566 := aS (hbox); have GW566 := aS ((by rw [hg]; exact (keep_size (w := w) (g := g) (row := none) (kS1 HK.out GW553.out)) : w.heap.size ≤ gb566)); have GE566 := aS ((Nat.le_trans HW0.out (by rw [hg]; exact (keep_size (w := w) (g := g) (row := none) (kS1 HK.out GW553.out)) : w.heap.size ≤ gb566) : w0.heap.size ≤ gb566)); replace HK := aS (KeepBut.trans (kS1 HK.out GW553.out) (KeepBut.of_below hb g none) (.inl rfl)); have NB553_566 := aS ((by rw [hg]; exact Nat.ne_of_lt (blk_lt (bU BK553.out)) : gb553 ≠ gb566)); have NB566_553 := aS ((by rw [hg]; exact Nat.ne_of_gt (blk_lt (bU BK553.out)) : gb566 ≠ gb553)); replace BK553 := aS (blk_below (bU BK553.out) hb); have NB0_566 := aS ((by rw [hg]; exact Nat.ne_of_lt (IsS111.lt (show IsS111 w0 _ g s0_0 t564 t565 from by exact IsS111.iS1 HI0.out NB0_553.out)) : g ≠ gb566)); have NB566_0 := aS ((by rw [hg]; exact Nat.ne_of_gt (IsS111.lt (show IsS111 w0 _ g s0_0 t564 t565 from by exact IsS111.iS1 HI0.out NB0_553.out)) : gb566 ≠ g)); replace HI0 := aS (IsS111.below (IsS111.iS1 HI0.out NB0_553.out) hb); clear hb hbox hg; have hnb14 := NB566_553.out; have hnc14 := NB553_566.out; have hnb15 := NB566_0.out; have hnc15 := NB0_566.out; have hcz16 := cells6f BK566.out))
 (try simp only [Act.put, List.setIfInBounds_toArray, List.set_cons_zero, List.set_cons_succ])
 have H := HC5.out
 clear HC5
 by_cases c17 : t557 = 1
 ·rw [if_pos c17] at H
  have c17b0 := beq_iff_eq.mpr c17
  have c17b1 := bne_eq_false_iff_eq.mpr c17
  clear c17
  (first | rw [c17b0] | (simp only [i64_w, i32_w]; rw [c17b0]) | skip)
  obtain ⟨⟨t567, t568, t569⟩, A18, H⟩ := bM H
  try dsimp only at H
  simp only [Option.some.injEq, Prod.mk.injEq] at H
  obtain ⟨rfl, rfl, rfl, rfl, rfl, rfl, rfl, rfl⟩ := H
  go_wp2_with (first | ((with_reducible refine gate_callee (f := 78) rfl ?_); refine goesL_ (some 17) rfl rfl Tryd.func78 jK rfl #[.pointer (some ⟨g, 0, none⟩), .int .i64 9] rfl jA ?_; (with_reducible refine (spec_l1Below.calls g s0_0 t564 t565 9 t567 t568 t569 w0 _ ?side1 ?side2 A18.out).mono ?_); (case side1 => exact IsS111.iS2 HI0.out NB0_553.out NB0_566.out); (case side2 => exact wS3 HB.out (IsS111.ge HI0.out) GE553.out GE566.out); rintro e w19 ⟨rfl, hi, hb, hk⟩; refine ⟨_, rfl, ?_⟩; replace BK553 := aS (KeepBut.blk hk (g' := gb553) (o := .cells #[.string (⟨#[]⟩ : ByteArray), .int .i64 0, .int .i64 0, .int .i64 0, .string (⟨#[]⟩ : ByteArray), .string (⟨#[]⟩ : ByteArray)] 25 (0, 0)) (by (iterate 6 ((with_reducible repeat (first | refine blk_drewN ?_ _ | refine blk_drew ?_ | refine blk_alloc ?_ _)); refine blk_far ?_ NB553_566.out _)); exact bU BK553.out) NB553_0.out (by simp)); replace HO562 := aS (Kd.R_mono (Kd.R_keep (IsS111.apart (show IsS111 w0 _ g s0_0 t564 t565 from by exact IsS111.iS2 HI0.out NB0_553.out NB0_566.out) (by (with_reducible repeat (first | apply Kd.R_alloc | apply Kd.R_drewN | apply Kd.R_drew)); exact (Kd.R_mono (Kd.R_far (p := ⟨gb566, 5, none⟩) (Kd.R_far (p := ⟨gb566, 4, none⟩) (Kd.R_far (p := ⟨gb566, 3, none⟩) (Kd.R_far (p := ⟨gb566, 2, none⟩) (Kd.R_far (p := ⟨gb566, 1, none⟩) (Kd.R_far (p := ⟨gb566, 0, none⟩) (Kd.R_types HO562.out BK566.out (by decide)) (fun _ hk => hk.2) (.string t554)) (fun _ hk => hk.2) (.int .i64 t557)) (fun _ hk => hk.2) (.int .i64 t563)) (fun _ hk => hk.2) (.int .i64 0)) (fun _ hk => hk.2) (.string (⟨#[]⟩ : ByteArray))) (fun _ hk => hk.2) (.string (⟨#[]⟩ : ByteArray))) (fun _ h_ => h_.1))) (by decide)) hk (fun _ h => h.2)) (fun _ h => h.1)); replace BK566 := aS (KeepBut.blk hk (g' := gb566) (o := .cells #[.string t554, .int .i64 t557, .int .i64 t563, .int .i64 0, .string (⟨#[]⟩ : ByteArray), .string (⟨#[]⟩ : ByteArray)] 25 (0, 0)) (by (with_reducible repeat (first | refine blk_drewN ?_ _ | refine blk_drew ?_ | refine blk_alloc ?_ _)); refine blk_put_6 (.string (⟨#[]⟩ : ByteArray)) (.int .i64 0) (.int .i64 0) (.int .i64 0) (.string (⟨#[]⟩ : ByteArray)) (.string (⟨#[]⟩ : ByteArray)) ?_; exact bU BK566.out) NB566_0.out (by simp)); replace HK := aS (KeepBut.trans (kS2 HK.out GW553.out GW566.out) hk (.inl rfl)); replace HB := aS (hb); replace HI0 := aS (hi); clear hi hb hk; have hnb20 := NB566_553.out; have hnc20 := NB553_566.out; have hnb21 := NB566_0.out; have hnc21 := NB0_566.out; have hcz22 := cells6f BK566.out; have hnb23 := NB553_0.out; have hnc23 := NB0_553.out; have hcz24 := cells6f BK553.out))
  refine bodyPost_ret (results_cell_row rfl _ _ gb553 25 #[.string t554, .int .i64 t557, .int .i64 t563, .int .i64 (wrap64 (1 + t567)), .string (⟨#[]⟩ : ByteArray), .string (⟨#[]⟩ : ByteArray)] (0, 0) _ rfl (by (with_reducible repeat (first | refine blk_drewN ?_ _ | refine blk_drew ?_ | refine blk_alloc ?_ _)); refine blk_put_6 (.string (⟨#[]⟩ : ByteArray)) (.int .i64 0) (.int .i64 0) (.int .i64 0) (.string (⟨#[]⟩ : ByteArray)) (.string (⟨#[]⟩ : ByteArray)) ?_; (with_reducible repeat (first | refine blk_drewN ?_ _ | refine blk_drew ?_ | refine blk_alloc ?_ _)); refine blk_far ?_ NB553_566.out _; exact bU BK553.out) Tryd.underlying25 rfl jK) rfl ?_
  exact ⟨jE, by exact IsS111.iS2 HI0.out NB0_553.out NB0_566.out, by exact wS3 HB.out (IsS111.ge HI0.out) GE553.out GE566.out, by exact kS2 HK.out GW553.out GW566.out⟩
 ·rw [if_neg c17] at H
  have c17b0 := beq_eq_false_iff_ne.mpr c17
  have c17b1 := bne_iff_ne.mpr c17
  (first | rw [c17b0] | (simp only [i64_w, i32_w]; rw [c17b0]) | skip)
  have HC25 := aS H
  clear H
  go_upto_if 20 with (fail)
  go_cut [20] (fun v20 wc => ∃ (kq : Nat) (x20_24 : Bool), v20 = .bool x20_24 ∧ Aside0 (spec_l5Draw.j0 kq t557 x20_24 s0_0 t564 t565 t554 t557 t563 0 (⟨#[]⟩ : ByteArray) (⟨#[]⟩ : ByteArray) = some (r1, r2, r3, r4, r5, r6, r7, r8)) ∧ Aside0 (kq ≤ k) ∧ Aside0 (wc.heap[gb553]? = some (.cells #[.string (⟨#[]⟩ : ByteArray), .int .i64 0, .int .i64 0, .int .i64 0, .string (⟨#[]⟩ : ByteArray), .string (⟨#[]⟩ : ByteArray)] 25 (0, 0))) ∧ Aside0 (wc.heap[gb566]? = some (.cells #[.string t554, .int .i64 t557, .int .i64 t563, .int .i64 0, .string (⟨#[]⟩ : ByteArray), .string (⟨#[]⟩ : ByteArray)] 25 (0, 0))) ∧ Aside0 (IsS111 w0 wc g s0_0 t564 t565) ∧ Aside0 (KeepBut w wc g none) ∧ Aside0 (Below w0.heap.size w0 wc))
  case first =>
   have H := HC25.out
   clear HC25
   by_cases c26 : t557 = 2
   ·rw [if_pos c26] at H
    have c26b0 := beq_iff_eq.mpr c26
    have c26b1 := bne_eq_false_iff_eq.mpr c26
    clear c26
    (first | rw [c26b0] | (simp only [i64_w, i32_w]; rw [c26b0]) | skip)
    have H' := aS H
    clear H
    go_wp2
    go_meet
    case rel => exact ⟨_, ((t557 == 2)), jB, H', ⟨by first | omega | exact Nat.le_refl _⟩, ⟨by (iterate 6 ((with_reducible repeat (first | refine blk_drewN ?_ _ | refine blk_drew ?_ | refine blk_alloc ?_ _)); refine blk_far ?_ NB553_566.out _)); exact bU BK553.out⟩, ⟨by (with_reducible repeat (first | refine blk_drewN ?_ _ | refine blk_drew ?_ | refine blk_alloc ?_ _)); refine blk_put_6 (.string (⟨#[]⟩ : ByteArray)) (.int .i64 0) (.int .i64 0) (.int .i64 0) (.string (⟨#[]⟩ : ByteArray)) (.string (⟨#[]⟩ : ByteArray)) ?_; exact bU BK566.out⟩, ⟨by exact IsS111.iS2 HI0.out NB0_553.out NB0_566.out⟩, ⟨by exact kS2 HK.out GW553.out GW566.out⟩, ⟨by exact wS3 HB.out (IsS111.ge HI0.out) GE553.out GE566.out⟩⟩
   ·rw [if_neg c26] at H
    have c26b0 := beq_eq_false_iff_ne.mpr c26
    have c26b1 := bne_iff_ne.mpr c26
    (first | rw [c26b0] | (simp only [i64_w, i32_w]; rw [c26b0]) | skip)
    have H' := aS H
    clear H
    go_wp2
    go_meet
    case rel => exact ⟨_, ((t557 == 5)), jB, H', ⟨by first | omega | exact Nat.le_refl _⟩, ⟨by (iterate 6 ((with_reducible repeat (first | refine blk_drewN ?_ _ | refine blk_drew ?_ | refine blk_alloc ?_ _)); refine blk_far ?_ NB553_566.out _)); exact bU BK553.out⟩, ⟨by (with_reducible repeat (first | refine blk_drewN ?_ _ | refine blk_drew ?_ | refine blk_alloc ?_ _)); refine blk_put_6 (.string (⟨#[]⟩ : ByteArray)) (.int .i64 0) (.int .i64 0) (.int .i64 0) (.string (⟨#[]⟩ : ByteArray)) (.string (⟨#[]⟩ : ByteArray)) ?_; exact bU BK566.out⟩, ⟨by exact IsS111.iS2 HI0.out NB0_553.out NB0_566.out⟩, ⟨by exact kS2 HK.out GW553.out GW566.out⟩, ⟨by exact wS3 HB.out (IsS111.ge HI0.out) GE553.out GE566.out⟩⟩
  case rest =>
   clear HC25
   try clear c1
   try clear c2
   try clear p2
   try clear p6
   try clear c7
   try clear c8
   try clear c13
   try clear c14
   try clear c15
   try clear c17
   try clear c17b0
   try clear c17b1
   try clear c20
   try clear c21
   try clear c23
   try clear c26
   try clear c26b0
   try clear c26b1
   try clear hcz16
   try clear hcz22
   try clear hcz24
   obtain ⟨kq, x20_24, rfl, HA, HJ24, BK553, BK566, HI0, HK, HB⟩ := hcut
   cases kq with
   | zero => exact absurd HA.out (by simp [spec_l5Draw.j0])
   | succ kj24 =>
    have H := HA.out
    clear HA
    simp only [spec_l5Draw.j0] at H
    by_cases c27 : x20_24 = true
    ·subst c27
     rw [if_pos rfl] at H
     obtain ⟨⟨t570, t571, t572⟩, A28, H⟩ := bM H
     try dsimp only at H
     simp only [Option.some.injEq, Prod.mk.injEq] at H
     obtain ⟨rfl, rfl, rfl, rfl, rfl, rfl, rfl, rfl⟩ := H
     go_wp2_with (first | ((with_reducible refine gate_callee (f := 85) rfl ?_); refine goesL_ (some 24) rfl rfl Tryd.func85 jK rfl #[.pointer (some ⟨g, 0, none⟩)] rfl jA ?_; (with_reducible refine (spec_l3Name.calls g s0_0 t564 t565 t570 t571 t572 w0 _ ?side1 ?side2 A28.out).mono ?_); (case side1 => exact IsS111.iS2 HI0.out NB0_553.out NB0_566.out); (case side2 => exact wS3 HB.out (IsS111.ge HI0.out) GE553.out GE566.out); rintro e w29 ⟨rfl, hi, hb, hk⟩; refine ⟨_, rfl, ?_⟩; replace BK553 := aS (KeepBut.blk hk (g' := gb553) (o := .cells #[.string (⟨#[]⟩ : ByteArray), .int .i64 0, .int .i64 0, .int .i64 0, .string (⟨#[]⟩ : ByteArray), .string (⟨#[]⟩ : ByteArray)] 25 (0, 0)) (bU BK553.out) NB553_0.out (by simp)); replace BK566 := aS (KeepBut.blk hk (g' := gb566) (o := .cells #[.string t554, .int .i64 t557, .int .i64 t563, .int .i64 0, .string (⟨#[]⟩ : ByteArray), .string (⟨#[]⟩ : ByteArray)] 25 (0, 0)) (bU BK566.out) NB566_0.out (by simp)); replace HK := aS (KeepBut.trans (kS2 HK.out GW553.out GW566.out) hk (.inl rfl)); replace HB := aS (hb); replace HI0 := aS (hi); clear hi hb hk; have hnb30 := NB566_553.out; have hnc30 := NB553_566.out; have hnb31 := NB566_0.out; have hnc31 := NB0_566.out; have hcz32 := cells6f BK566.out; have hnb33 := NB553_0.out; have hnc33 := NB0_553.out; have hcz34 := cells6f BK553.out))
     refine bodyPost_ret (results_cell_row rfl _ _ gb553 25 #[.string t554, .int .i64 t557, .int .i64 t563, .int .i64 0, .string t570, .string (⟨#[]⟩ : ByteArray)] (0, 0) _ rfl (by (with_reducible repeat (first | refine blk_drewN ?_ _ | refine blk_drew ?_ | refine blk_alloc ?_ _)); refine blk_put_6 (.string (⟨#[]⟩ : ByteArray)) (.int .i64 0) (.int .i64 0) (.int .i64 0) (.string (⟨#[]⟩ : ByteArray)) (.string (⟨#[]⟩ : ByteArray)) ?_; (with_reducible repeat (first | refine blk_drewN ?_ _ | refine blk_drew ?_ | refine blk_alloc ?_ _)); refine blk_far ?_ NB553_566.out _; exact bU BK553.out) Tryd.underlying25 rfl jK) rfl ?_
     exact ⟨jE, by exact IsS111.iS2 HI0.out NB0_553.out NB0_566.out, by exact wS3 HB.out (IsS111.ge HI0.out) GE553.out GE566.out, by exact kS2 HK.out GW553.out GW566.out⟩
    ·replace c27 := Bool.eq_false_iff.mpr c27
     subst c27
     rw [if_neg Bool.false_ne_true] at H
     by_cases c35 : t557 = 6
     ·rw [if_pos c35] at H
      have c35b0 := beq_iff_eq.mpr c35
      have c35b1 := bne_eq_false_iff_eq.mpr c35
      clear c35
      obtain ⟨⟨t573, t574, t575⟩, A36, H⟩ := bM H
      try dsimp only at H
      obtain ⟨y576, hy_⟩ : ∃ y_ : List Int, y_ = (([0, 5, 60] : List Int)) := ⟨_, rfl⟩
      rw [← hy_] at H
      have Ny576 := aS hy_
      clear hy_
      obtain ⟨⟨t579, t580, t581⟩, A37, H⟩ := bM H
      try dsimp only at H
      simp only [Option.some.injEq, Prod.mk.injEq] at H
      obtain ⟨rfl, rfl, rfl, rfl, rfl, rfl, rfl, rfl⟩ := H
      go_wp2_with (first | ((with_reducible refine gate_callee (f := 85) rfl ?_); refine goesL_ (some 29) rfl rfl Tryd.func85 jK rfl #[.pointer (some ⟨g, 0, none⟩)] rfl jA ?_; (with_reducible refine (spec_l3Name.calls g s0_0 t564 t565 t573 t574 t575 w0 _ ?side1 ?side2 A36.out).mono ?_); (case side1 => exact IsS111.iS2 HI0.out NB0_553.out NB0_566.out); (case side2 => exact wS3 HB.out (IsS111.ge HI0.out) GE553.out GE566.out); rintro e w38 ⟨rfl, hi, hb, hk⟩; refine ⟨_, rfl, ?_⟩; replace BK553 := aS (KeepBut.blk hk (g' := gb553) (o := .cells #[.string (⟨#[]⟩ : ByteArray), .int .i64 0, .int .i64 0, .int .i64 0, .string (⟨#[]⟩ : ByteArray), .string (⟨#[]⟩ : ByteArray)] 25 (0, 0)) (bU BK553.out) NB553_0.out (by simp)); replace BK566 := aS (KeepBut.blk hk (g' := gb566) (o := .cells #[.string t554, .int .i64 t557, .int .i64 t563, .int .i64 0, .string (⟨#[]⟩ : ByteArray), .string (⟨#[]⟩ : ByteArray)] 25 (0, 0)) (bU BK566.out) NB566_0.out (by simp)); replace HK := aS (KeepBut.trans (kS2 HK.out GW553.out GW566.out) hk (.inl rfl)); replace HB := aS (hb); replace HI0 := aS (hi); clear hi hb hk; have hnb39 := NB566_553.out; have hnc39 := NB553_566.out; have hnb40 := NB566_0.out; have hnc40 := NB0_566.out; have hcz41 := cells6f BK566.out) | ((with_reducible refine gate_dst (N := 32) rfl ?_); refine Kd.R_lit (Kd.int .i64) _ 3 ?hg (N := 32) ?hd (xs := ([0, 5, 60] : List Int)) (inner := [.int .i64 0, .int .i64 5, .int .i64 60]) (ok := fun _ => True) (okp := fun _ => True) ?hr ?hp (fun _ hk => hk) trivial (Below.refl _ _) (Nat.le_refl _) (by simp) ?_; (case hd => rfl); (case hg => rfl); (case hr => first | (go_simp; done) | (go_simp; rfl)); (case hp => exact (Reps.one (show Kd.M (Kd.int .i64) _ _ _ 0 [.int .i64 0] from rfl) (Reps.one (show Kd.M (Kd.int .i64) _ _ _ 5 [.int .i64 5] from rfl) (Reps.one (show Kd.M (Kd.int .i64) _ _ _ 60 [.int .i64 60] from rfl) (Reps.none _ _))))); intro v577 w42 ho43 hb hg_ hnew_; clear hg_ hnew_; (first | rw [← Ny576.out] at ho43 | (simp only [Int.reduceToNat] at ho43; rw [← Ny576.out] at ho43)); have HO578 := aS (Kd.R_lower ho43 (keep_size (w := w) (g := g) (row := none) (kS2 HK.out GW553.out GW566.out))); replace BK553 := aS (blk_below (g := gb553) (o := .cells #[.string (⟨#[]⟩ : ByteArray), .int .i64 0, .int .i64 0, .int .i64 0, .string (⟨#[]⟩ : ByteArray), .string (⟨#[]⟩ : ByteArray)] 25 (0, 0)) (by (with_reducible repeat (first | refine blk_drewN ?_ _ | refine blk_drew ?_ | refine blk_alloc ?_ _)); refine blk_far ?_ NB553_566.out _; exact bU BK553.out) hb); replace BK566 := aS (blk_below (g := gb566) (o := .cells #[.string t554, .int .i64 t557, .int .i64 t563, .int .i64 0, .string t573, .string (⟨#[]⟩ : ByteArray)] 25 (0, 0)) (by (with_reducible repeat (first | refine blk_drewN ?_ _ | refine blk_drew ?_ | refine blk_alloc ?_ _)); refine blk_put (cs := #[.string t554, .int .i64 t557, .int .i64 t563, .int .i64 0, .string (⟨#[]⟩ : ByteArray), .string (⟨#[]⟩ : ByteArray)]) ?_ 4 _ rfl; exact bU BK566.out) hb); replace HK := aS (KeepBut.trans (kS2 HK.out GW553.out GW566.out) (KeepBut.of_below hb g none) (.inl rfl)); replace HB := aS (below_step (by exact wS3 HB.out (IsS111.ge HI0.out) GE553.out GE566.out) hb); replace HI0 := aS (IsS111.below (show IsS111 w0 (w38.setCell ⟨gb566, 4, none⟩ (.string t573)) g s0_0 t574 t575 from by exact IsS111.iS2 HI0.out NB0_553.out NB0_566.out) hb); clear hb ho43; obtain ⟨Ao44, co44, eo44⟩ := Kd.R_slice HO578.out; subst eo44) | ((with_reducible refine gate_callee (f := 81) rfl ?_); refine goesL_ (some 33) rfl rfl Tryd.func81 jK rfl #[.pointer (some ⟨g, 0, none⟩), .slice Ao44 y576.length co44] rfl jA ?_; (with_reducible refine (spec_l1Int.calls g s0_0 t574 t575 _ _ y576 t579 t580 t581 w0 _ ?side1 ?side2 ?side3 ?side4 ?side5 A37.out).mono ?_); (case side1 => exact IsS111.iS2 HI0.out NB0_553.out NB0_566.out); (case side2 => exact wS3 HB.out (IsS111.ge HI0.out) GE553.out GE566.out); (case side3 => exact cU ((Kd.R_reads' HO578.out).2.2)); (case side4 => exact (Kd.R_reads' HO578.out).2.1); (case side5 => exact far_slice (IsS111.own_ne HI0.out HO578.out (by decide))); rintro e w45 ⟨rfl, hi, hb, hk⟩; refine ⟨_, rfl, ?_⟩; replace BK553 := aS (KeepBut.blk hk (g' := gb553) (o := .cells #[.string (⟨#[]⟩ : ByteArray), .int .i64 0, .int .i64 0, .int .i64 0, .string (⟨#[]⟩ : ByteArray), .string (⟨#[]⟩ : ByteArray)] 25 (0, 0)) (bU BK553.out) NB553_0.out (by simp)); replace BK566 := aS (KeepBut.blk hk (g' := gb566) (o := .cells #[.string t554, .int .i64 t557, .int .i64 t563, .int .i64 0, .string t573, .string (⟨#[]⟩ : ByteArray)] 25 (0, 0)) (bU BK566.out) NB566_0.out (by simp)); replace HO578 := aS (Kd.R_mono (Kd.R_keep (IsS111.apart (show IsS111 w0 _ g s0_0 t574 t575 from by exact IsS111.iS2 HI0.out NB0_553.out NB0_566.out) (rU HO578.out) (by decide)) hk (fun _ h => h.2)) (fun _ h => h.1)); replace HK := aS (KeepBut.trans (kS2 HK.out GW553.out GW566.out) hk (.inl rfl)); replace HB := aS (hb); replace HI0 := aS (hi); clear hi hb hk; have hcz46 := cells6f BK566.out; have hnb47 := NB553_0.out; have hnc47 := NB0_553.out; have hcz48 := cells6f BK553.out))
      refine bodyPost_ret (results_cell_row rfl _ _ gb553 25 #[.string t554, .int .i64 t557, .int .i64 t563, .int .i64 t579, .string t573, .string (⟨#[]⟩ : ByteArray)] (0, 0) _ rfl (by (with_reducible repeat (first | refine blk_drewN ?_ _ | refine blk_drew ?_ | refine blk_alloc ?_ _)); refine blk_put_6 (.string (⟨#[]⟩ : ByteArray)) (.int .i64 0) (.int .i64 0) (.int .i64 0) (.string (⟨#[]⟩ : ByteArray)) (.string (⟨#[]⟩ : ByteArray)) ?_; (with_reducible repeat (first | refine blk_drewN ?_ _ | refine blk_drew ?_ | refine blk_alloc ?_ _)); refine blk_far ?_ NB553_566.out _; exact bU BK553.out) Tryd.underlying25 rfl jK) rfl ?_
      exact ⟨jE, by exact IsS111.iS2 HI0.out NB0_553.out NB0_566.out, by exact wS3 HB.out (IsS111.ge HI0.out) GE553.out GE566.out, by exact kS2 HK.out GW553.out GW566.out⟩
     ·rw [if_neg c35] at H
      have c35b0 := beq_eq_false_iff_ne.mpr c35
      have c35b1 := bne_iff_ne.mpr c35
      by_cases c49 : t557 = 16
      ·rw [if_pos c49] at H
       have c49b0 := beq_iff_eq.mpr c49
       have c49b1 := bne_eq_false_iff_eq.mpr c49
       clear c49
       obtain ⟨y582, hy_⟩ : ∃ y_ : List ByteArray, y_ = (([(⟨#[]⟩ : ByteArray), (⟨#[104, 105]⟩ : ByteArray), (⟨#[116, 119, 101, 108, 118, 101, 98, 121, 116, 101, 115, 33]⟩ : ByteArray)] : List ByteArray)) := ⟨_, rfl⟩
       replace H : ((spec_l1Str.f s0_0 t564 t565 y582).bind fun bt585 => (some (t554, t557, t563, 0, (⟨#[]⟩ : ByteArray), bt585.1, bt585.2.1, bt585.2.2))) = some (r1, r2, r3, r4, r5, r6, r7, r8) := jD
       have Ny582 := aS hy_
       clear hy_
       obtain ⟨⟨t585, t586, t587⟩, A50, H⟩ := bM H
       try dsimp only at H
       simp only [Option.some.injEq, Prod.mk.injEq] at H
       obtain ⟨rfl, rfl, rfl, rfl, rfl, rfl, rfl, rfl⟩ := H
       go_wp2_with (first | ((with_reducible refine gate_dst (N := 38) rfl ?_); refine Kd.R_lit Kd.string _ 9 ?hg (N := 38) ?hd (xs := ([(⟨#[]⟩ : ByteArray), (⟨#[104, 105]⟩ : ByteArray), (⟨#[116, 119, 101, 108, 118, 101, 98, 121, 116, 101, 115, 33]⟩ : ByteArray)] : List ByteArray)) (inner := [.string (⟨#[]⟩ : ByteArray), .string (⟨#[104, 105]⟩ : ByteArray), .string (⟨#[116, 119, 101, 108, 118, 101, 98, 121, 116, 101, 115, 33]⟩ : ByteArray)]) (ok := fun _ => True) (okp := fun _ => True) ?hr ?hp (fun _ hk => hk) trivial (Below.refl _ _) (Nat.le_refl _) (by simp) ?_; (case hd => rfl); (case hg => rfl); (case hr => first | (go_simp; done) | (go_simp; rfl)); (case hp => exact (Reps.one (show Kd.M Kd.string _ _ _ (⟨#[]⟩ : ByteArray) [.string (⟨#[]⟩ : ByteArray)] from rfl) (Reps.one (show Kd.M Kd.string _ _ _ (⟨#[104, 105]⟩ : ByteArray) [.string (⟨#[104, 105]⟩ : ByteArray)] from rfl) (Reps.one (show Kd.M Kd.string _ _ _ (⟨#[116, 119, 101, 108, 118, 101, 98, 121, 116, 101, 115, 33]⟩ : ByteArray) [.string (⟨#[116, 119, 101, 108, 118, 101, 98, 121, 116, 101, 115, 33]⟩ : ByteArray)] from rfl) (Reps.none _ _))))); intro v583 w51 ho52 hb hg_ hnew_; clear hg_ hnew_; (first | rw [← Ny582.out] at ho52 | (simp only [Int.reduceToNat] at ho52; rw [← Ny582.out] at ho52)); have HO584 := aS (Kd.R_lower ho52 (keep_size (w := w) (g := g) (row := none) (kS2 HK.out GW553.out GW566.out))); replace BK553 := aS (blk_below (bU BK553.out) hb); replace BK566 := aS (blk_below (bU BK566.out) hb); replace HK := aS (KeepBut.trans (kS2 HK.out GW553.out GW566.out) (KeepBut.of_below hb g none) (.inl rfl)); replace HB := aS (below_step (by exact wS3 HB.out (IsS111.ge HI0.out) GE553.out GE566.out) hb); replace HI0 := aS (IsS111.below (IsS111.iS2 HI0.out NB0_553.out NB0_566.out) hb); clear hb ho52; obtain ⟨Ao53, co53, eo53⟩ := Kd.R_slice HO584.out; subst eo53) | ((with_reducible refine gate_callee (f := 113) rfl ?_); refine goesL_ (some 39) rfl rfl Tryd.func113 jK rfl #[.pointer (some ⟨g, 0, none⟩), .slice Ao53 y582.length co53] rfl jA ?_; (with_reducible refine (spec_l1Str.calls g s0_0 t564 t565 _ _ y582 t585 t586 t587 w0 _ ?side1 ?side2 ?side3 ?side4 ?side5 A50.out).mono ?_); (case side1 => exact IsS111.iS2 HI0.out NB0_553.out NB0_566.out); (case side2 => exact wS3 HB.out (IsS111.ge HI0.out) GE553.out GE566.out); (case side3 => exact cU ((Kd.R_reads' HO584.out).2.2)); (case side4 => exact (Kd.R_reads' HO584.out).2.1); (case side5 => exact far_slice (IsS111.own_ne HI0.out HO584.out (by decide))); rintro e w54 ⟨rfl, hi, hb, hk⟩; refine ⟨_, rfl, ?_⟩; replace BK553 := aS (KeepBut.blk hk (g' := gb553) (o := .cells #[.string (⟨#[]⟩ : ByteArray), .int .i64 0, .int .i64 0, .int .i64 0, .string (⟨#[]⟩ : ByteArray), .string (⟨#[]⟩ : ByteArray)] 25 (0, 0)) (bU BK553.out) NB553_0.out (by simp)); replace BK566 := aS (KeepBut.blk hk (g' := gb566) (o := .cells #[.string t554, .int .i64 t557, .int .i64 t563, .int .i64 0, .string (⟨#[]⟩ : ByteArray), .string (⟨#[]⟩ : ByteArray)] 25 (0, 0)) (bU BK566.out) NB566_0.out (by simp)); replace HO584 := aS (Kd.R_mono (Kd.R_keep (IsS111.apart (show IsS111 w0 _ g s0_0 t564 t565 from by exact IsS111.iS2 HI0.out NB0_553.out NB0_566.out) (rU HO584.out) (by decide)) hk (fun _ h => h.2)) (fun _ h => h.1)); replace HK := aS (KeepBut.trans (kS2 HK.out GW553.out GW566.out) hk (.inl rfl)); replace HB := aS (hb); replace HI0 := aS (hi); clear hi hb hk; have hnb55 := NB566_553.out; have hnc55 := NB553_566.out; have hnb56 := NB566_0.out; have hnc56 := NB0_566.out; have hcz57 := cells6f BK566.out; have hnb58 := NB553_0.out; have hnc58 := NB0_553.out; have hcz59 := cells6f BK553.out))
       refine bodyPost_ret (results_cell_row rfl _ _ gb553 25 #[.string t554, .int .i64 t557, .int .i64 t563, .int .i64 0, .string (⟨#[]⟩ : ByteArray), .string t585] (0, 0) _ rfl (by (with_reducible repeat (first | refine blk_drewN ?_ _ | refine blk_drew ?_ | refine blk_alloc ?_ _)); refine blk_put_6 (.string (⟨#[]⟩ : ByteArray)) (.int .i64 0) (.int .i64 0) (.int .i64 0) (.string (⟨#[]⟩ : ByteArray)) (.string (⟨#[]⟩ : ByteArray)) ?_; (with_reducible repeat (first | refine blk_drewN ?_ _ | refine blk_drew ?_ | refine blk_alloc ?_ _)); refine blk_far ?_ NB553_566.out _; exact bU BK553.out) Tryd.underlying25 rfl jK) rfl ?_
       exact ⟨jE, by exact IsS111.iS2 HI0.out NB0_553.out NB0_566.out, by exact wS3 HB.out (IsS111.ge HI0.out) GE553.out GE566.out, by exact kS2 HK.out GW553.out GW566.out⟩
      ·rw [if_neg c49] at H
       have c49b0 := beq_eq_false_iff_ne.mpr c49
       have c49b1 := bne_iff_ne.mpr c49
       simp only [Option.some.injEq, Prod.mk.injEq] at H
       obtain ⟨rfl, rfl, rfl, rfl, rfl, rfl, rfl, rfl⟩ := H
       have hnb60 := NB566_553.out
       have hnc60 := NB553_566.out
       have hnb61 := NB566_0.out
       have hnc61 := NB0_566.out
       have hcz62 := cells6f BK566.out
       have hnb63 := NB553_0.out
       have hnc63 := NB0_553.out
       have hcz64 := cells6f BK553.out
       go_wp2
       refine bodyPost_ret (results_cell_row rfl _ _ gb553 25 #[.string t554, .int .i64 t557, .int .i64 t563, .int .i64 0, .string (⟨#[]⟩ : ByteArray), .string (⟨#[]⟩ : ByteArray)] (0, 0) _ rfl (by (with_reducible repeat (first | refine blk_drewN ?_ _ | refine blk_drew ?_ | refine blk_alloc ?_ _)); refine blk_put_6 (.string (⟨#[]⟩ : ByteArray)) (.int .i64 0) (.int .i64 0) (.int .i64 0) (.string (⟨#[]⟩ : ByteArray)) (.string (⟨#[]⟩ : ByteArray)) ?_; exact bU BK553.out) Tryd.underlying25 rfl jK) rfl ?_
       exact ⟨jE, by exact IsS111.iS2 HI0.out NB0_553.out NB0_566.out, by exact wS3 HB.out (IsS111.ge HI0.out) GE553.out GE566.out, by exact kS2 HK.out GW553.out GW566.out⟩

end Go.Proofs.YtdigilidomimdaaDoor.Pr
