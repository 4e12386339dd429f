-- Written for this claim by a program of this session (wip/tool/pr.py, over the kit's printer).
-- half
import Derived.Test.YtdigilidomimdaaDoorPrx0
import Derived.Test.YtdigilidomimdaaDoorPrx3
import Derived.Test.YtdigilidomimdaaDoorPrx4
namespace Go.Proofs.YtdigilidomimdaaDoor.Pr
open Go.RowKit Go.Proofs.YtdigilidomimdaaDoorW.PrintWords Go.Proofs.YtdigilidomimdaaDoorW.PrintLast Go.Proofs.YtdigilidomimdaaDoorW.PrintMore
attribute [local go_sem] max2_int min2_int max_two min_two max_three min_three max_four min_four   -- for this text's walks alone
set_option linter.unusedVariables false
set_option linter.unusedSimpArgs false

/-! ### spec_l7Any: function 89 -/
def spec_l7Any.l0 : Nat → List Int → Int → Int → Int → Bool → Bool → Bool → Bool → Bool → Int → ByteArray → Int → List (S25) → List (S25) → List (S25) → Option (Int × Bool × Bool × Bool × Bool × Bool × Int × ByteArray × Int × (List (S25)) × (List (S25)) × (List (S25)) × Int × Int)
 | 0, _, _, _, _, _, _, _, _, _, _, _, _, _, _, _ => none
 | k + 1, x1000, x1001, x1002, x338000, x338001, x338002, x338003, x338004, x338005, x338006, x338007, x338008, x338009, x338010, x338011 => if (x338011.length : Int) < 9 then ((spec_l5Draw.f k x1000 x1001 x1002).bind fun bt373 => (if x338011.length < 1954687338268 then (spec_l7Any.l0 k x1000 bt373.2.2.2.2.2.2.1 bt373.2.2.2.2.2.2.2 x338000 x338001 x338002 x338003 x338004 x338005 x338006 x338007 x338008 x338009 x338010 (x338011 ++ [(⟨bt373.1, bt373.2.1, bt373.2.2.1, bt373.2.2.2.1, bt373.2.2.2.2.1, bt373.2.2.2.2.2.1⟩ : S25)])) else (none))) else (some (x338000, x338001, x338002, x338003, x338004, x338005, x338006, x338007, x338008, x338009, x338010, x338011, x1001, x1002))
def spec_l7Any.f (k : Nat) (s0_0 : List Int) (s0_1 : Int) (s0_2 : Int) : Option (Int × Bool × Bool × Bool × Bool × Bool × Int × ByteArray × Int × (List (S25)) × (List (S25)) × (List (S25)) × Int × Int) := (spec_l7Draw.f k s0_0 s0_1 s0_2).bind fun bt317 => ((spec_l1Below.f s0_0 bt317.2.2.2.2.2.2.2.2.2.2.2.2.1 bt317.2.2.2.2.2.2.2.2.2.2.2.2.2 12).bind fun bt338 => (if bt338.1 = 0 then ((spec_l1Int.f s0_0 bt338.2.1 bt338.2.2 (([(-1), 65535, 65536] : List Int))).bind fun bt344 => (some (bt344.1, bt317.2.1, bt317.2.2.1, bt317.2.2.2.1, bt317.2.2.2.2.1, bt317.2.2.2.2.2.1, bt317.2.2.2.2.2.2.1, bt317.2.2.2.2.2.2.2.1, bt317.2.2.2.2.2.2.2.2.1, bt317.2.2.2.2.2.2.2.2.2.1, bt317.2.2.2.2.2.2.2.2.2.2.1, bt317.2.2.2.2.2.2.2.2.2.2.2.1, bt344.2.1, bt344.2.2))) else (if bt338.1 = 1 then ((spec_l1Int.f s0_0 bt338.2.1 bt338.2.2 (([(-1), 15, 16] : List Int))).bind fun bt350 => (some (bt317.1, bt317.2.1, bt317.2.2.1, bt317.2.2.2.1, bt317.2.2.2.2.1, bt317.2.2.2.2.2.1, bt350.1, bt317.2.2.2.2.2.2.2.1, bt317.2.2.2.2.2.2.2.2.1, bt317.2.2.2.2.2.2.2.2.2.1, bt317.2.2.2.2.2.2.2.2.2.2.1, bt317.2.2.2.2.2.2.2.2.2.2.2.1, bt350.2.1, bt350.2.2))) else (if bt338.1 = 2 then ((spec_l3Any.f s0_0 bt338.2.1 bt338.2.2).bind fun bt353 => (some (bt317.1, bt317.2.1, bt317.2.2.1, bt317.2.2.2.1, bt317.2.2.2.2.1, bt317.2.2.2.2.2.1, bt317.2.2.2.2.2.2.1, bt353.1, bt317.2.2.2.2.2.2.2.2.1, bt317.2.2.2.2.2.2.2.2.2.1, bt317.2.2.2.2.2.2.2.2.2.2.1, bt317.2.2.2.2.2.2.2.2.2.2.2.1, bt353.2.1, bt353.2.2))) else (if bt338.1 = 3 then ((spec_l1Int.f s0_0 bt338.2.1 bt338.2.2 (([0, 3, 255] : List Int))).bind fun bt359 => (some (bt317.1, bt317.2.1, bt317.2.2.1, bt317.2.2.2.1, bt317.2.2.2.2.1, bt317.2.2.2.2.2.1, bt317.2.2.2.2.2.2.1, bt317.2.2.2.2.2.2.2.1, bt359.1, bt317.2.2.2.2.2.2.2.2.2.1, bt317.2.2.2.2.2.2.2.2.2.2.1, bt317.2.2.2.2.2.2.2.2.2.2.2.1, bt359.2.1, bt359.2.2))) else (if bt338.1 = 4 then ((spec_l5Any.f k s0_0 bt338.2.1 bt338.2.2).bind fun bt362 => (if bt317.2.2.2.2.2.2.2.2.2.1.length < 1954687338268 then (some (bt317.1, bt317.2.1, bt317.2.2.1, bt317.2.2.2.1, bt317.2.2.2.2.1, bt317.2.2.2.2.2.1, bt317.2.2.2.2.2.2.1, bt317.2.2.2.2.2.2.2.1, bt317.2.2.2.2.2.2.2.2.1, (bt317.2.2.2.2.2.2.2.2.2.1 ++ [(⟨bt362.1, bt362.2.1, bt362.2.2.1, bt362.2.2.2.1, bt362.2.2.2.2.1, bt362.2.2.2.2.2.1⟩ : S25)]), bt317.2.2.2.2.2.2.2.2.2.2.1, bt317.2.2.2.2.2.2.2.2.2.2.2.1, bt362.2.2.2.2.2.2.1, bt362.2.2.2.2.2.2.2)) else (none))) else (if bt338.1 = 5 then (spec_l7Any.l0 k s0_0 bt338.2.1 bt338.2.2 bt317.1 bt317.2.1 bt317.2.2.1 bt317.2.2.2.1 bt317.2.2.2.2.1 bt317.2.2.2.2.2.1 bt317.2.2.2.2.2.2.1 bt317.2.2.2.2.2.2.2.1 bt317.2.2.2.2.2.2.2.2.1 bt317.2.2.2.2.2.2.2.2.2.1 bt317.2.2.2.2.2.2.2.2.2.2.1 bt317.2.2.2.2.2.2.2.2.2.2.2.1) else (some (bt317.1, bt317.2.1, bt317.2.2.1, bt317.2.2.2.1, bt317.2.2.2.2.1, bt317.2.2.2.2.2.1, bt317.2.2.2.2.2.2.1, bt317.2.2.2.2.2.2.2.1, bt317.2.2.2.2.2.2.2.2.1, bt317.2.2.2.2.2.2.2.2.2.1, bt317.2.2.2.2.2.2.2.2.2.2.1, bt317.2.2.2.2.2.2.2.2.2.2.2.1, bt338.2.1, bt338.2.2)))))))))
theorem spec_l7Any.mono_l : ∀ k, (∀ y0 y1 y2 y3 y4 y5 y6 y7 y8 y9 y10 y11 y12 y13 y14, LeO (spec_l7Any.l0 k y0 y1 y2 y3 y4 y5 y6 y7 y8 y9 y10 y11 y12 y13 y14) (spec_l7Any.l0 (k + 1) y0 y1 y2 y3 y4 y5 y6 y7 y8 y9 y10 y11 y12 y13 y14))
 | 0 => fun _ _ _ _ _ _ _ _ _ _ _ _ _ _ _ r h => by simp [spec_l7Any.l0] at h
 | k + 1 => by
  have ih0 := spec_l7Any.mono_l k
  ·intro y0 y1 y2 y3 y4 y5 y6 y7 y8 y9 y10 y11 y12 y13 y14
   unfold spec_l7Any.l0
   repeat' first
   | (with_reducible first | exact ih0 _ _ _ _ _ _ _ _ _ _ _ _ _ _ _ | exact spec_l5Any.mono _ _ _ _ | exact spec_l5Draw.mono _ _ _ _ | exact spec_l7Draw.mono _ _ _ _ | exact LeO.refl _ | exact LeO.none _ | refine LeO.ite ?_ ?_ | refine LeO.bind ?_ (fun _ => ?_))
   | refine LeO.ite ?_ ?_
   | refine LeO.bind ?_ (fun _ => ?_)
theorem spec_l7Any.mono : ∀ a0 a1 a2 k, LeO (spec_l7Any.f k a0 a1 a2) (spec_l7Any.f (k + 1) a0 a1 a2) := by
 intro a0 a1 a2 k
 have ih0 := spec_l7Any.mono_l k
 unfold spec_l7Any.f
 repeat' first
   | (with_reducible first | exact ih0 _ _ _ _ _ _ _ _ _ _ _ _ _ _ _ | exact spec_l5Any.mono _ _ _ _ | exact spec_l5Draw.mono _ _ _ _ | exact spec_l7Draw.mono _ _ _ _ | exact LeO.refl _ | exact LeO.none _ | refine LeO.ite ?_ ?_ | refine LeO.bind ?_ (fun _ => ?_))
   | refine LeO.ite ?_ ?_
   | refine LeO.bind ?_ (fun _ => ?_)
def spec_l7Any.T12 : Bool × List (List Nat × List Nat) := (true, [([], []), ([0], [0]), ([], []), ([2], [2]), ([3], [3]), ([1, 4, 3], [1, 4]), ([0, 1, 2, 3, 4, 5], []), ([6, 5, 5, 0, 1, 2, 3, 4, 5], [5, 6])])
def spec_l7Any.B12 : List Nat := [0, 1, 0, 4, 12, 31, 63, 127]
theorem spec_l7Any.tab12 : rtab .any (opsOf Tryd.f89 12) = spec_l7Any.T12 := by kernel_rfl
theorem spec_l7Any.bits12 : waitsOk spec_l7Any.T12.2 spec_l7Any.B12 = true := by kernel_rfl
def spec_l7Any.T15 : Bool × List (List Nat × List Nat) := (true, [([], []), ([0], [0]), ([], []), ([2], [2]), ([3], [3]), ([1, 4, 3], [1, 4]), ([0, 1, 2, 3, 4, 5], []), ([6, 5, 5, 0, 1, 2, 3, 4, 5], [5, 6])])
def spec_l7Any.B15 : List Nat := [0, 1, 0, 4, 12, 31, 63, 127]
theorem spec_l7Any.tab15 : rtab .any (opsOf Tryd.f89 15) = spec_l7Any.T15 := by kernel_rfl
theorem spec_l7Any.bits15 : waitsOk spec_l7Any.T15.2 spec_l7Any.B15 = true := by kernel_rfl
set_option maxHeartbeats 8000000 in
set_option maxRecDepth 100000 in
theorem spec_l7Any.calls (k : Nat) (g : Nat) (s0_0 : List Int) (s0_1 : Int) (s0_2 : Int) (r1 : Int) (r2 : Bool) (r3 : Bool) (r4 : Bool) (r5 : Bool) (r6 : Bool) (r7 : Int) (r8 : ByteArray) (r9 : Int) (r10 : List (S25)) (r11 : List (S25)) (r12 : List (S25)) (r13 : Int) (r14 : Int) (w0 w : World) (hI : IsS111 w0 w g s0_0 s0_1 s0_2) (hB : Below w0.heap.size w0 w) (h : spec_l7Any.f k s0_0 s0_1 s0_2 = some (r1, r2, r3, r4, r5, r6, r7, r8, r9, r10, r11, r12, r13, r14)) :
  Calls Tryd.prog 89 #[.pointer (some ⟨g, 0, none⟩)] w fun e w' => ∃ v9_ v10_ v11_ : Value, e = .returned (.agg #[.int .i64 r1, .bool r2, .bool r3, .bool r4, .bool r5, .bool r6, .int .i64 r7, .string r8, .int .i64 r9, v9_, v10_, v11_]) ∧ Kd.R k25 25 w' w.heap.size (fun k_ => some k_ ≠ (v10_ : Value).ownBlock ∧ some k_ ≠ (v11_ : Value).ownBlock) v9_ r10 ∧ Kd.R k25 25 w' w.heap.size (fun k_ => some k_ ≠ (v9_ : Value).ownBlock ∧ some k_ ≠ (v11_ : Value).ownBlock) v10_ r11 ∧ Kd.R k25 25 w' w.heap.size (fun k_ => some k_ ≠ (v9_ : Value).ownBlock ∧ some k_ ≠ (v10_ : Value).ownBlock) v11_ r12 ∧ IsS111 w0 w' g s0_0 r13 r14 ∧ Below w0.heap.size w0 w' ∧ KeepBut w w' g none := by
 have hu52 := Tryd.underlying52
 have HI0 := aS hI
 have HK := aS (KeepBut.refl w g none)
 have HL := aS hB.size
 clear hI
 have HW0 := aS hB.size
 have HB := aS hB
 clear hB
 have H := h
 unfold spec_l7Any.f at H
 clear h
 obtain ⟨⟨t317, t318, t319, t320, t321, t322, t323, t324, t325, t326, t329, t332, t335, t336⟩, A2, H⟩ := bM H
 try dsimp only at H
 obtain ⟨⟨t338, t339, t340⟩, A3, H⟩ := bM H
 try dsimp only at H
 by_cases c4 : t338 = 0
 ·rw [if_pos c4] at H
  have c4b0 := beq_iff_eq.mpr c4
  have c4b1 := bne_eq_false_iff_eq.mpr c4
  clear c4
  obtain ⟨y341, hy_⟩ : ∃ y_ : List Int, y_ = (([(-1), 65535, 65536] : List Int)) := ⟨_, rfl⟩
  rw [← hy_] at H
  have Ny341 := aS hy_
  clear hy_
  obtain ⟨⟨t344, t345, t346⟩, A5, H⟩ := bM H
  try dsimp only at H
  simp only [Option.some.injEq, Prod.mk.injEq] at H
  obtain ⟨rfl, rfl, rfl, rfl, rfl, rfl, rfl, rfl, rfl, rfl, rfl, rfl, rfl, rfl⟩ := H
  go_enter Tryd.func89, Tryd.ntmps89
  go_wp2_with (first | ((with_reducible refine gate_dst (N := 2) rfl ?_); refine xB 2 #[.int .i64 0, .bool false, .bool false, .bool false, .bool false, .bool false, .int .i64 0, .string (⟨#[]⟩ : ByteArray), .int .i64 0, .slice none 0 0, .slice none 0 0, .slice none 0 0] 52 ?_; intro gb316 hg w6 hbox hb; replace HB := aS (below_step (by exact wS1 HB.out (IsS111.ge HI0.out)) hb); have BK316 := aS (hbox); have GW316 := aS ((by rw [hg]; exact (keep_size (w := w) (g := g) (row := none) (kS0 HK.out)) : w.heap.size ≤ gb316)); have GE316 := aS ((Nat.le_trans HW0.out (by rw [hg]; exact (keep_size (w := w) (g := g) (row := none) (kS0 HK.out)) : w.heap.size ≤ gb316) : w0.heap.size ≤ gb316)); replace HK := aS (KeepBut.trans (kS0 HK.out) (KeepBut.of_below hb g none) (.inl rfl)); have NB0_316 := aS ((by rw [hg]; exact Nat.ne_of_lt (IsS111.lt (show IsS111 w0 _ g s0_0 s0_1 s0_2 from by exact IsS111.iS0 HI0.out)) : g ≠ gb316)); have NB316_0 := aS ((by rw [hg]; exact Nat.ne_of_gt (IsS111.lt (show IsS111 w0 _ g s0_0 s0_1 s0_2 from by exact IsS111.iS0 HI0.out)) : gb316 ≠ g)); replace HI0 := aS (IsS111.below (IsS111.iS0 HI0.out) hb); clear hb hbox hg) | ((with_reducible refine gate_callee (f := 132) rfl ?_); refine gL (some 5) Tryd.func132 #[.pointer (some ⟨g, 0, none⟩)] ?_; (with_reducible refine (spec_l7Draw.calls k g s0_0 s0_1 s0_2 t317 t318 t319 t320 t321 t322 t323 t324 t325 t326 t329 t332 t335 t336 w0 _ ?side1 ?side2 A2.out).mono ?_); (case side1 => exact IsS111.iS1 HI0.out NB0_316.out); (case side2 => exact wS2 HB.out (IsS111.ge HI0.out) GE316.out); rintro e w7 ⟨v327, v330, v333, rfl, ho0, ho1, ho2, hi, hb, hk⟩; refine ⟨_, rfl, ?_⟩; replace BK316 := kB hk (bU BK316.out) NB316_0.out; have HO328 := aS (Kd.R_lower ho0 (keep_size (w := w) (g := g) (row := none) (kS1 HK.out GW316.out))); have HO331 := aS (Kd.R_lower ho1 (keep_size (w := w) (g := g) (row := none) (kS1 HK.out GW316.out))); have HO334 := aS (Kd.R_lower ho2 (keep_size (w := w) (g := g) (row := none) (kS1 HK.out GW316.out))); replace HK := aS (KeepBut.trans (kS1 HK.out GW316.out) hk (.inl rfl)); replace HB := aS (hb); replace HI0 := aS (hi); clear hi hb hk; (try clear ho0); (try clear ho1); (try clear ho2)) | ((with_reducible refine gate_dst (N := 3) rfl ?_); refine xB 3 #[.int .i64 0, .bool false, .bool false, .bool false, .bool false, .bool false, .int .i64 0, .string (⟨#[]⟩ : ByteArray), .int .i64 0, .slice none 0 0, .slice none 0 0, .slice none 0 0] 52 ?_; intro gb337 hg w8 hbox hb; replace HO328 := rB HO328 hb; replace HO331 := rB HO331 hb; replace HO334 := rB HO334 hb; replace HB := aS (below_step (by exact wS2 HB.out (IsS111.ge HI0.out) GE316.out) hb); have BK337 := aS (hbox); have GW337 := aS ((by rw [hg]; exact (keep_size (w := w) (g := g) (row := none) (kS1 HK.out GW316.out)) : w.heap.size ≤ gb337)); have GE337 := aS ((Nat.le_trans HW0.out (by rw [hg]; exact (keep_size (w := w) (g := g) (row := none) (kS1 HK.out GW316.out)) : w.heap.size ≤ gb337) : w0.heap.size ≤ gb337)); replace HK := aS (KeepBut.trans (kS1 HK.out GW316.out) (KeepBut.of_below hb g none) (.inl rfl)); have NB316_337 := nB hg BK316; have NB337_316 := nS NB316_337; replace BK316 := bB BK316 hb; have NB0_337 := aS ((by rw [hg]; exact Nat.ne_of_lt (IsS111.lt (show IsS111 w0 _ g s0_0 t335 t336 from by exact IsS111.iS1 HI0.out NB0_316.out)) : g ≠ gb337)); have NB337_0 := aS ((by rw [hg]; exact Nat.ne_of_gt (IsS111.lt (show IsS111 w0 _ g s0_0 t335 t336 from by exact IsS111.iS1 HI0.out NB0_316.out)) : gb337 ≠ g)); replace HI0 := aS (IsS111.below (IsS111.iS1 HI0.out NB0_316.out) hb); clear hb hbox hg; have hnb9 := NB337_316.out; have hnc9 := NB316_337.out; have hnb10 := NB337_0.out; have hnc10 := NB0_337.out; have hcz11 := cells12f BK337.out; obtain ⟨Ao12, co12, eo12⟩ := Kd.R_slice HO328.out; subst eo12; obtain ⟨Ao13, co13, eo13⟩ := Kd.R_slice HO331.out; subst eo13; obtain ⟨Ao14, co14, eo14⟩ := Kd.R_slice HO334.out; subst eo14) | ((with_reducible refine gate_callee (f := 78) rfl ?_); refine gL (some 7) Tryd.func78 #[.pointer (some ⟨g, 0, none⟩), .int .i64 12] ?_; (with_reducible refine (spec_l1Below.calls g s0_0 t335 t336 12 t338 t339 t340 w0 _ ?side1 ?side2 A3.out).mono ?_); (case side1 => exact IsS111.iS2 HI0.out NB0_316.out NB0_337.out); (case side2 => exact wS3 HB.out (IsS111.ge HI0.out) GE316.out GE337.out); rintro e w15 ⟨rfl, hi, hb, hk⟩; refine ⟨_, rfl, ?_⟩; replace BK316 := kB hk (bF1 BK316.out NB316_337.out) NB316_0.out; replace HO328 := kR hk (IsS111.apart (IsS111.iS2 HI0.out NB0_316.out NB0_337.out) ((rF1 HO328.out BK337.out)) (by decide)); replace HO331 := kR hk (IsS111.apart (IsS111.iS2 HI0.out NB0_316.out NB0_337.out) ((rF1 HO331.out BK337.out)) (by decide)); replace HO334 := kR hk (IsS111.apart (IsS111.iS2 HI0.out NB0_316.out NB0_337.out) ((rF1 HO334.out BK337.out)) (by decide)); replace BK337 := kB hk (bO (p12 (bU BK337.out))) NB337_0.out; replace HK := aS (KeepBut.trans (kS2 HK.out GW316.out GW337.out) hk (.inl rfl)); replace HB := aS (hb); replace HI0 := aS (hi); clear hi hb hk) | ((with_reducible refine gate_dst (N := 11) rfl ?_); refine Kd.R_lit (Kd.int .i64) _ 3 ?hg (N := 11) ?hd (xs := ([(-1), 65535, 65536] : List Int)) (inner := [.int .i64 (-1), .int .i64 65535, .int .i64 65536]) (ok := fun _ => True) (okp := fun _ => True) ?hr ?hp (fun _ hk => hk) trivial (Below.refl _ _) (Nat.le_refl _) (by simp) ?_; (case hd => rfl); (case hg => rfl); (case hr => first | (go_simp; done) | (go_simp; rfl)); (case hp => exact (Reps.one (show Kd.M (Kd.int .i64) _ _ _ (-1) [.int .i64 (-1)] from rfl) (Reps.one (show Kd.M (Kd.int .i64) _ _ _ 65535 [.int .i64 65535] from rfl) (Reps.one (show Kd.M (Kd.int .i64) _ _ _ 65536 [.int .i64 65536] from rfl) (Reps.none _ _))))); intro v342 w16 ho17 hb hg_ hnew_; clear hg_ hnew_; (first | rw [← Ny341.out] at ho17 | (simp only [Int.reduceToNat] at ho17; rw [← Ny341.out] at ho17)); replace HO328 := rB HO328 hb; replace HO331 := rB HO331 hb; replace HO334 := rB HO334 hb; have HO343 := aS (Kd.R_lower ho17 (keep_size (w := w) (g := g) (row := none) (kS2 HK.out GW316.out GW337.out))); replace BK316 := bB BK316 hb; replace BK337 := bB BK337 hb; replace HK := aS (KeepBut.trans (kS2 HK.out GW316.out GW337.out) (KeepBut.of_below hb g none) (.inl rfl)); replace HB := aS (below_step (by exact wS3 HB.out (IsS111.ge HI0.out) GE316.out GE337.out) hb); replace HI0 := aS (IsS111.below (IsS111.iS2 HI0.out NB0_316.out NB0_337.out) hb); clear hb ho17; obtain ⟨Ao18, co18, eo18⟩ := Kd.R_slice HO343.out; subst eo18) | ((with_reducible refine gate_callee (f := 81) rfl ?_); refine gL (some 12) Tryd.func81 #[.pointer (some ⟨g, 0, none⟩), .slice Ao18 y341.length co18] ?_; (with_reducible refine (spec_l1Int.calls g s0_0 t339 t340 _ _ y341 t344 t345 t346 w0 _ ?side1 ?side2 ?side3 ?side4 ?side5 A5.out).mono ?_); (case side1 => exact IsS111.iS2 HI0.out NB0_316.out NB0_337.out); (case side2 => exact wS3 HB.out (IsS111.ge HI0.out) GE316.out GE337.out); (case side3 => exact cU ((Kd.R_reads' HO343.out).2.2)); (case side4 => exact (Kd.R_reads' HO343.out).2.1); (case side5 => exact far_slice (IsS111.own_ne HI0.out HO343.out (by decide))); rintro e w19 ⟨rfl, hi, hb, hk⟩; refine ⟨_, rfl, ?_⟩; replace BK316 := kB hk (bU BK316.out) NB316_0.out; replace HO328 := kR hk (IsS111.apart (IsS111.iS2 HI0.out NB0_316.out NB0_337.out) (rU HO328.out) (by decide)); replace HO331 := kR hk (IsS111.apart (IsS111.iS2 HI0.out NB0_316.out NB0_337.out) (rU HO331.out) (by decide)); replace HO334 := kR hk (IsS111.apart (IsS111.iS2 HI0.out NB0_316.out NB0_337.out) (rU HO334.out) (by decide)); replace BK337 := kB hk (bU BK337.out) NB337_0.out; replace HO343 := kR hk (IsS111.apart (IsS111.iS2 HI0.out NB0_316.out NB0_337.out) (rU HO343.out) (by decide)); replace HK := aS (KeepBut.trans (kS2 HK.out GW316.out GW337.out) hk (.inl rfl)); replace HB := aS (hb); replace HI0 := aS (hi); clear hi hb hk; have hcz20 := cells12f BK337.out; have hnb21 := NB316_0.out; have hnc21 := NB0_316.out; have hcz22 := cells12f BK316.out))
  refine bodyPost_ret (results_cell_row rfl _ _ gb316 52 #[.int .i64 t344, .bool t318, .bool t319, .bool t320, .bool t321, .bool t322, .int .i64 t323, .string t324, .int .i64 t325, .slice Ao12 t326.length co12, .slice Ao13 t329.length co13, .slice Ao14 t332.length co14] (0, 0) _ rfl (by (with_reducible repeat (first | refine blk_drewN ?_ _ | refine blk_drew ?_ | refine blk_alloc ?_ _)); refine blk_put_12 (.int .i64 0) (.bool false) (.bool false) (.bool false) (.bool false) (.bool false) (.int .i64 0) (.string (⟨#[]⟩ : ByteArray)) (.int .i64 0) (.slice none 0 0) (.slice none 0 0) (.slice none 0 0) ?_; (with_reducible repeat (first | refine blk_drewN ?_ _ | refine blk_drew ?_ | refine blk_alloc ?_ _)); refine blk_far ?_ NB316_337.out _; exact bU BK316.out) Tryd.underlying52 rfl jK) rfl ?_
  exact ⟨_, _, _, jE, by exact Kd.R_mono (rF2 HO328.out BK337.out BK316.out) (fun _ hk => ⟨hk.1, hk.2⟩), by exact Kd.R_mono (rF2 HO331.out BK337.out BK316.out) (fun _ hk => ⟨hk.1, hk.2⟩), by exact Kd.R_mono (rF2 HO334.out BK337.out BK316.out) (fun _ hk => ⟨hk.1, hk.2⟩), by exact IsS111.iS2 HI0.out NB0_316.out NB0_337.out, by exact wS3 HB.out (IsS111.ge HI0.out) GE316.out GE337.out, by exact kS2 HK.out GW316.out GW337.out⟩
 ·rw [if_neg c4] at H
  have c4b0 := beq_eq_false_iff_ne.mpr c4
  have c4b1 := bne_iff_ne.mpr c4
  by_cases c23 : t338 = 1
  ·rw [if_pos c23] at H
   have c23b0 := beq_iff_eq.mpr c23
   have c23b1 := bne_eq_false_iff_eq.mpr c23
   clear c23
   obtain ⟨y347, hy_⟩ : ∃ y_ : List Int, y_ = (([(-1), 15, 16] : List Int)) := ⟨_, rfl⟩
   rw [← hy_] at H
   have Ny347 := aS hy_
   clear hy_
   obtain ⟨⟨t350, t351, t352⟩, A24, H⟩ := bM H
   try dsimp only at H
   simp only [Option.some.injEq, Prod.mk.injEq] at H
   obtain ⟨rfl, rfl, rfl, rfl, rfl, rfl, rfl, rfl, rfl, rfl, rfl, rfl, rfl, rfl⟩ := H
   go_enter Tryd.func89, Tryd.ntmps89
   go_wp2_with (first | ((with_reducible refine gate_dst (N := 2) rfl ?_); refine xB 2 #[.int .i64 0, .bool false, .bool false, .bool false, .bool false, .bool false, .int .i64 0, .string (⟨#[]⟩ : ByteArray), .int .i64 0, .slice none 0 0, .slice none 0 0, .slice none 0 0] 52 ?_; intro gb316 hg w25 hbox hb; replace HB := aS (below_step (by exact wS1 HB.out (IsS111.ge HI0.out)) hb); have BK316 := aS (hbox); have GW316 := aS ((by rw [hg]; exact (keep_size (w := w) (g := g) (row := none) (kS0 HK.out)) : w.heap.size ≤ gb316)); have GE316 := aS ((Nat.le_trans HW0.out (by rw [hg]; exact (keep_size (w := w) (g := g) (row := none) (kS0 HK.out)) : w.heap.size ≤ gb316) : w0.heap.size ≤ gb316)); replace HK := aS (KeepBut.trans (kS0 HK.out) (KeepBut.of_below hb g none) (.inl rfl)); have NB0_316 := aS ((by rw [hg]; exact Nat.ne_of_lt (IsS111.lt (show IsS111 w0 _ g s0_0 s0_1 s0_2 from by exact IsS111.iS0 HI0.out)) : g ≠ gb316)); have NB316_0 := aS ((by rw [hg]; exact Nat.ne_of_gt (IsS111.lt (show IsS111 w0 _ g s0_0 s0_1 s0_2 from by exact IsS111.iS0 HI0.out)) : gb316 ≠ g)); replace HI0 := aS (IsS111.below (IsS111.iS0 HI0.out) hb); clear hb hbox hg) | ((with_reducible refine gate_callee (f := 132) rfl ?_); refine gL (some 5) Tryd.func132 #[.pointer (some ⟨g, 0, none⟩)] ?_; (with_reducible refine (spec_l7Draw.calls k g s0_0 s0_1 s0_2 t317 t318 t319 t320 t321 t322 t323 t324 t325 t326 t329 t332 t335 t336 w0 _ ?side1 ?side2 A2.out).mono ?_); (case side1 => exact IsS111.iS1 HI0.out NB0_316.out); (case side2 => exact wS2 HB.out (IsS111.ge HI0.out) GE316.out); rintro e w26 ⟨v327, v330, v333, rfl, ho0, ho1, ho2, hi, hb, hk⟩; refine ⟨_, rfl, ?_⟩; replace BK316 := kB hk (bU BK316.out) NB316_0.out; have HO328 := aS (Kd.R_lower ho0 (keep_size (w := w) (g := g) (row := none) (kS1 HK.out GW316.out))); have HO331 := aS (Kd.R_lower ho1 (keep_size (w := w) (g := g) (row := none) (kS1 HK.out GW316.out))); have HO334 := aS (Kd.R_lower ho2 (keep_size (w := w) (g := g) (row := none) (kS1 HK.out GW316.out))); replace HK := aS (KeepBut.trans (kS1 HK.out GW316.out) hk (.inl rfl)); replace HB := aS (hb); replace HI0 := aS (hi); clear hi hb hk; (try clear ho0); (try clear ho1); (try clear ho2)) | ((with_reducible refine gate_dst (N := 3) rfl ?_); refine xB 3 #[.int .i64 0, .bool false, .bool false, .bool false, .bool false, .bool false, .int .i64 0, .string (⟨#[]⟩ : ByteArray), .int .i64 0, .slice none 0 0, .slice none 0 0, .slice none 0 0] 52 ?_; intro gb337 hg w27 hbox hb; replace HO328 := rB HO328 hb; replace HO331 := rB HO331 hb; replace HO334 := rB HO334 hb; replace HB := aS (below_step (by exact wS2 HB.out (IsS111.ge HI0.out) GE316.out) hb); have BK337 := aS (hbox); have GW337 := aS ((by rw [hg]; exact (keep_size (w := w) (g := g) (row := none) (kS1 HK.out GW316.out)) : w.heap.size ≤ gb337)); have GE337 := aS ((Nat.le_trans HW0.out (by rw [hg]; exact (keep_size (w := w) (g := g) (row := none) (kS1 HK.out GW316.out)) : w.heap.size ≤ gb337) : w0.heap.size ≤ gb337)); replace HK := aS (KeepBut.trans (kS1 HK.out GW316.out) (KeepBut.of_below hb g none) (.inl rfl)); have NB316_337 := nB hg BK316; have NB337_316 := nS NB316_337; replace BK316 := bB BK316 hb; have NB0_337 := aS ((by rw [hg]; exact Nat.ne_of_lt (IsS111.lt (show IsS111 w0 _ g s0_0 t335 t336 from by exact IsS111.iS1 HI0.out NB0_316.out)) : g ≠ gb337)); have NB337_0 := aS ((by rw [hg]; exact Nat.ne_of_gt (IsS111.lt (show IsS111 w0 _ g s0_0 t335 t336 from by exact IsS111.iS1 HI0.out NB0_316.out)) : gb337 ≠ g)); replace HI0 := aS (IsS111.below (IsS111.iS1 HI0.out NB0_316.out) hb); clear hb hbox hg; have hnb28 := NB337_316.out; have hnc28 := NB316_337.out; have hnb29 := NB337_0.out; have hnc29 := NB0_337.out; have hcz30 := cells12f BK337.out; obtain ⟨Ao31, co31, eo31⟩ := Kd.R_slice HO328.out; subst eo31; obtain ⟨Ao32, co32, eo32⟩ := Kd.R_slice HO331.out; subst eo32; obtain ⟨Ao33, co33, eo33⟩ := Kd.R_slice HO334.out; subst eo33) | ((with_reducible refine gate_callee (f := 78) rfl ?_); refine gL (some 7) Tryd.func78 #[.pointer (some ⟨g, 0, none⟩), .int .i64 12] ?_; (with_reducible refine (spec_l1Below.calls g s0_0 t335 t336 12 t338 t339 t340 w0 _ ?side1 ?side2 A3.out).mono ?_); (case side1 => exact IsS111.iS2 HI0.out NB0_316.out NB0_337.out); (case side2 => exact wS3 HB.out (IsS111.ge HI0.out) GE316.out GE337.out); rintro e w34 ⟨rfl, hi, hb, hk⟩; refine ⟨_, rfl, ?_⟩; replace BK316 := kB hk (bF1 BK316.out NB316_337.out) NB316_0.out; replace HO328 := kR hk (IsS111.apart (IsS111.iS2 HI0.out NB0_316.out NB0_337.out) ((rF1 HO328.out BK337.out)) (by decide)); replace HO331 := kR hk (IsS111.apart (IsS111.iS2 HI0.out NB0_316.out NB0_337.out) ((rF1 HO331.out BK337.out)) (by decide)); replace HO334 := kR hk (IsS111.apart (IsS111.iS2 HI0.out NB0_316.out NB0_337.out) ((rF1 HO334.out BK337.out)) (by decide)); replace BK337 := kB hk (bO (p12 (bU BK337.out))) NB337_0.out; replace HK := aS (KeepBut.trans (kS2 HK.out GW316.out GW337.out) hk (.inl rfl)); replace HB := aS (hb); replace HI0 := aS (hi); clear hi hb hk) | ((with_reducible refine gate_dst (N := 17) rfl ?_); refine Kd.R_lit (Kd.int .i64) _ 3 ?hg (N := 17) ?hd (xs := ([(-1), 15, 16] : List Int)) (inner := [.int .i64 (-1), .int .i64 15, .int .i64 16]) (ok := fun _ => True) (okp := fun _ => True) ?hr ?hp (fun _ hk => hk) trivial (Below.refl _ _) (Nat.le_refl _) (by simp) ?_; (case hd => rfl); (case hg => rfl); (case hr => first | (go_simp; done) | (go_simp; rfl)); (case hp => exact (Reps.one (show Kd.M (Kd.int .i64) _ _ _ (-1) [.int .i64 (-1)] from rfl) (Reps.one (show Kd.M (Kd.int .i64) _ _ _ 15 [.int .i64 15] from rfl) (Reps.one (show Kd.M (Kd.int .i64) _ _ _ 16 [.int .i64 16] from rfl) (Reps.none _ _))))); intro v348 w35 ho36 hb hg_ hnew_; clear hg_ hnew_; (first | rw [← Ny347.out] at ho36 | (simp only [Int.reduceToNat] at ho36; rw [← Ny347.out] at ho36)); replace HO328 := rB HO328 hb; replace HO331 := rB HO331 hb; replace HO334 := rB HO334 hb; have HO349 := aS (Kd.R_lower ho36 (keep_size (w := w) (g := g) (row := none) (kS2 HK.out GW316.out GW337.out))); replace BK316 := bB BK316 hb; replace BK337 := bB BK337 hb; replace HK := aS (KeepBut.trans (kS2 HK.out GW316.out GW337.out) (KeepBut.of_below hb g none) (.inl rfl)); replace HB := aS (below_step (by exact wS3 HB.out (IsS111.ge HI0.out) GE316.out GE337.out) hb); replace HI0 := aS (IsS111.below (IsS111.iS2 HI0.out NB0_316.out NB0_337.out) hb); clear hb ho36; obtain ⟨Ao37, co37, eo37⟩ := Kd.R_slice HO349.out; subst eo37) | ((with_reducible refine gate_callee (f := 81) rfl ?_); refine gL (some 18) Tryd.func81 #[.pointer (some ⟨g, 0, none⟩), .slice Ao37 y347.length co37] ?_; (with_reducible refine (spec_l1Int.calls g s0_0 t339 t340 _ _ y347 t350 t351 t352 w0 _ ?side1 ?side2 ?side3 ?side4 ?side5 A24.out).mono ?_); (case side1 => exact IsS111.iS2 HI0.out NB0_316.out NB0_337.out); (case side2 => exact wS3 HB.out (IsS111.ge HI0.out) GE316.out GE337.out); (case side3 => exact cU ((Kd.R_reads' HO349.out).2.2)); (case side4 => exact (Kd.R_reads' HO349.out).2.1); (case side5 => exact far_slice (IsS111.own_ne HI0.out HO349.out (by decide))); rintro e w38 ⟨rfl, hi, hb, hk⟩; refine ⟨_, rfl, ?_⟩; replace BK316 := kB hk (bU BK316.out) NB316_0.out; replace HO328 := kR hk (IsS111.apart (IsS111.iS2 HI0.out NB0_316.out NB0_337.out) (rU HO328.out) (by decide)); replace HO331 := kR hk (IsS111.apart (IsS111.iS2 HI0.out NB0_316.out NB0_337.out) (rU HO331.out) (by decide)); replace HO334 := kR hk (IsS111.apart (IsS111.iS2 HI0.out NB0_316.out NB0_337.out) (rU HO334.out) (by decide)); replace BK337 := kB hk (bU BK337.out) NB337_0.out; replace HO349 := kR hk (IsS111.apart (IsS111.iS2 HI0.out NB0_316.out NB0_337.out) (rU HO349.out) (by decide)); replace HK := aS (KeepBut.trans (kS2 HK.out GW316.out GW337.out) hk (.inl rfl)); replace HB := aS (hb); replace HI0 := aS (hi); clear hi hb hk; have hcz39 := cells12f BK337.out; have hnb40 := NB316_0.out; have hnc40 := NB0_316.out; have hcz41 := cells12f BK316.out))
   refine bodyPost_ret (results_cell_row rfl _ _ gb316 52 #[.int .i64 t317, .bool t318, .bool t319, .bool t320, .bool t321, .bool t322, .int .i64 t350, .string t324, .int .i64 t325, .slice Ao31 t326.length co31, .slice Ao32 t329.length co32, .slice Ao33 t332.length co33] (0, 0) _ rfl (by (with_reducible repeat (first | refine blk_drewN ?_ _ | refine blk_drew ?_ | refine blk_alloc ?_ _)); refine blk_put_12 (.int .i64 0) (.bool false) (.bool false) (.bool false) (.bool false) (.bool false) (.int .i64 0) (.string (⟨#[]⟩ : ByteArray)) (.int .i64 0) (.slice none 0 0) (.slice none 0 0) (.slice none 0 0) ?_; (with_reducible repeat (first | refine blk_drewN ?_ _ | refine blk_drew ?_ | refine blk_alloc ?_ _)); refine blk_far ?_ NB316_337.out _; exact bU BK316.out) Tryd.underlying52 rfl jK) rfl ?_
   exact ⟨_, _, _, jE, by exact Kd.R_mono (rF2 HO328.out BK337.out BK316.out) (fun _ hk => ⟨hk.1, hk.2⟩), by exact Kd.R_mono (rF2 HO331.out BK337.out BK316.out) (fun _ hk => ⟨hk.1, hk.2⟩), by exact Kd.R_mono (rF2 HO334.out BK337.out BK316.out) (fun _ hk => ⟨hk.1, hk.2⟩), by exact IsS111.iS2 HI0.out NB0_316.out NB0_337.out, by exact wS3 HB.out (IsS111.ge HI0.out) GE316.out GE337.out, by exact kS2 HK.out GW316.out GW337.out⟩
  ·rw [if_neg c23] at H
   have c23b0 := beq_eq_false_iff_ne.mpr c23
   have c23b1 := bne_iff_ne.mpr c23
   by_cases c42 : t338 = 2
   ·rw [if_pos c42] at H
    have c42b0 := beq_iff_eq.mpr c42
    have c42b1 := bne_eq_false_iff_eq.mpr c42
    clear c42
    obtain ⟨⟨t353, t354, t355⟩, A43, H⟩ := bM H
    try dsimp only at H
    simp only [Option.some.injEq, Prod.mk.injEq] at H
    obtain ⟨rfl, rfl, rfl, rfl, rfl, rfl, rfl, rfl, rfl, rfl, rfl, rfl, rfl, rfl⟩ := H
    go_enter Tryd.func89, Tryd.ntmps89
    go_wp2_with (first | ((with_reducible refine gate_dst (N := 2) rfl ?_); refine xB 2 #[.int .i64 0, .bool false, .bool false, .bool false, .bool false, .bool false, .int .i64 0, .string (⟨#[]⟩ : ByteArray), .int .i64 0, .slice none 0 0, .slice none 0 0, .slice none 0 0] 52 ?_; intro gb316 hg w44 hbox hb; replace HB := aS (below_step (by exact wS1 HB.out (IsS111.ge HI0.out)) hb); have BK316 := aS (hbox); have GW316 := aS ((by rw [hg]; exact (keep_size (w := w) (g := g) (row := none) (kS0 HK.out)) : w.heap.size ≤ gb316)); have GE316 := aS ((Nat.le_trans HW0.out (by rw [hg]; exact (keep_size (w := w) (g := g) (row := none) (kS0 HK.out)) : w.heap.size ≤ gb316) : w0.heap.size ≤ gb316)); replace HK := aS (KeepBut.trans (kS0 HK.out) (KeepBut.of_below hb g none) (.inl rfl)); have NB0_316 := aS ((by rw [hg]; exact Nat.ne_of_lt (IsS111.lt (show IsS111 w0 _ g s0_0 s0_1 s0_2 from by exact IsS111.iS0 HI0.out)) : g ≠ gb316)); have NB316_0 := aS ((by rw [hg]; exact Nat.ne_of_gt (IsS111.lt (show IsS111 w0 _ g s0_0 s0_1 s0_2 from by exact IsS111.iS0 HI0.out)) : gb316 ≠ g)); replace HI0 := aS (IsS111.below (IsS111.iS0 HI0.out) hb); clear hb hbox hg) | ((with_reducible refine gate_callee (f := 132) rfl ?_); refine gL (some 5) Tryd.func132 #[.pointer (some ⟨g, 0, none⟩)] ?_; (with_reducible refine (spec_l7Draw.calls k g s0_0 s0_1 s0_2 t317 t318 t319 t320 t321 t322 t323 t324 t325 t326 t329 t332 t335 t336 w0 _ ?side1 ?side2 A2.out).mono ?_); (case side1 => exact IsS111.iS1 HI0.out NB0_316.out); (case side2 => exact wS2 HB.out (IsS111.ge HI0.out) GE316.out); rintro e w45 ⟨v327, v330, v333, rfl, ho0, ho1, ho2, hi, hb, hk⟩; refine ⟨_, rfl, ?_⟩; replace BK316 := kB hk (bU BK316.out) NB316_0.out; have HO328 := aS (Kd.R_lower ho0 (keep_size (w := w) (g := g) (row := none) (kS1 HK.out GW316.out))); have HO331 := aS (Kd.R_lower ho1 (keep_size (w := w) (g := g) (row := none) (kS1 HK.out GW316.out))); have HO334 := aS (Kd.R_lower ho2 (keep_size (w := w) (g := g) (row := none) (kS1 HK.out GW316.out))); replace HK := aS (KeepBut.trans (kS1 HK.out GW316.out) hk (.inl rfl)); replace HB := aS (hb); replace HI0 := aS (hi); clear hi hb hk; (try clear ho0); (try clear ho1); (try clear ho2)) | ((with_reducible refine gate_dst (N := 3) rfl ?_); refine xB 3 #[.int .i64 0, .bool false, .bool false, .bool false, .bool false, .bool false, .int .i64 0, .string (⟨#[]⟩ : ByteArray), .int .i64 0, .slice none 0 0, .slice none 0 0, .slice none 0 0] 52 ?_; intro gb337 hg w46 hbox hb; replace HO328 := rB HO328 hb; replace HO331 := rB HO331 hb; replace HO334 := rB HO334 hb; replace HB := aS (below_step (by exact wS2 HB.out (IsS111.ge HI0.out) GE316.out) hb); have BK337 := aS (hbox); have GW337 := aS ((by rw [hg]; exact (keep_size (w := w) (g := g) (row := none) (kS1 HK.out GW316.out)) : w.heap.size ≤ gb337)); have GE337 := aS ((Nat.le_trans HW0.out (by rw [hg]; exact (keep_size (w := w) (g := g) (row := none) (kS1 HK.out GW316.out)) : w.heap.size ≤ gb337) : w0.heap.size ≤ gb337)); replace HK := aS (KeepBut.trans (kS1 HK.out GW316.out) (KeepBut.of_below hb g none) (.inl rfl)); have NB316_337 := nB hg BK316; have NB337_316 := nS NB316_337; replace BK316 := bB BK316 hb; have NB0_337 := aS ((by rw [hg]; exact Nat.ne_of_lt (IsS111.lt (show IsS111 w0 _ g s0_0 t335 t336 from by exact IsS111.iS1 HI0.out NB0_316.out)) : g ≠ gb337)); have NB337_0 := aS ((by rw [hg]; exact Nat.ne_of_gt (IsS111.lt (show IsS111 w0 _ g s0_0 t335 t336 from by exact IsS111.iS1 HI0.out NB0_316.out)) : gb337 ≠ g)); replace HI0 := aS (IsS111.below (IsS111.iS1 HI0.out NB0_316.out) hb); clear hb hbox hg; have hnb47 := NB337_316.out; have hnc47 := NB316_337.out; have hnb48 := NB337_0.out; have hnc48 := NB0_337.out; have hcz49 := cells12f BK337.out; obtain ⟨Ao50, co50, eo50⟩ := Kd.R_slice HO328.out; subst eo50; obtain ⟨Ao51, co51, eo51⟩ := Kd.R_slice HO331.out; subst eo51; obtain ⟨Ao52, co52, eo52⟩ := Kd.R_slice HO334.out; subst eo52) | ((with_reducible refine gate_callee (f := 78) rfl ?_); refine gL (some 7) Tryd.func78 #[.pointer (some ⟨g, 0, none⟩), .int .i64 12] ?_; (with_reducible refine (spec_l1Below.calls g s0_0 t335 t336 12 t338 t339 t340 w0 _ ?side1 ?side2 A3.out).mono ?_); (case side1 => exact IsS111.iS2 HI0.out NB0_316.out NB0_337.out); (case side2 => exact wS3 HB.out (IsS111.ge HI0.out) GE316.out GE337.out); rintro e w53 ⟨rfl, hi, hb, hk⟩; refine ⟨_, rfl, ?_⟩; replace BK316 := kB hk (bF1 BK316.out NB316_337.out) NB316_0.out; replace HO328 := kR hk (IsS111.apart (IsS111.iS2 HI0.out NB0_316.out NB0_337.out) ((rF1 HO328.out BK337.out)) (by decide)); replace HO331 := kR hk (IsS111.apart (IsS111.iS2 HI0.out NB0_316.out NB0_337.out) ((rF1 HO331.out BK337.out)) (by decide)); replace HO334 := kR hk (IsS111.apart (IsS111.iS2 HI0.out NB0_316.out NB0_337.out) ((rF1 HO334.out BK337.out)) (by decide)); replace BK337 := kB hk (bO (p12 (bU BK337.out))) NB337_0.out; replace HK := aS (KeepBut.trans (kS2 HK.out GW316.out GW337.out) hk (.inl rfl)); replace HB := aS (hb); replace HI0 := aS (hi); clear hi hb hk) | ((with_reducible refine gate_callee (f := 112) rfl ?_); refine gL (some 23) Tryd.func112 #[.pointer (some ⟨g, 0, none⟩)] ?_; (with_reducible refine (spec_l3Any.calls g s0_0 t339 t340 t353 t354 t355 w0 _ ?side1 ?side2 A43.out).mono ?_); (case side1 => exact IsS111.iS2 HI0.out NB0_316.out NB0_337.out); (case side2 => exact wS3 HB.out (IsS111.ge HI0.out) GE316.out GE337.out); rintro e w54 ⟨rfl, hi, hb, hk⟩; refine ⟨_, rfl, ?_⟩; replace BK316 := kB hk (bU BK316.out) NB316_0.out; replace HO328 := kR hk (IsS111.apart (IsS111.iS2 HI0.out NB0_316.out NB0_337.out) (rU HO328.out) (by decide)); replace HO331 := kR hk (IsS111.apart (IsS111.iS2 HI0.out NB0_316.out NB0_337.out) (rU HO331.out) (by decide)); replace HO334 := kR hk (IsS111.apart (IsS111.iS2 HI0.out NB0_316.out NB0_337.out) (rU HO334.out) (by decide)); replace BK337 := kB hk (bU BK337.out) NB337_0.out; replace HK := aS (KeepBut.trans (kS2 HK.out GW316.out GW337.out) hk (.inl rfl)); replace HB := aS (hb); replace HI0 := aS (hi); clear hi hb hk; have hcz55 := cells12f BK337.out; have hnb56 := NB316_0.out; have hnc56 := NB0_316.out; have hcz57 := cells12f BK316.out))
    refine bodyPost_ret (results_cell_row rfl _ _ gb316 52 #[.int .i64 t317, .bool t318, .bool t319, .bool t320, .bool t321, .bool t322, .int .i64 t323, .string t353, .int .i64 t325, .slice Ao50 t326.length co50, .slice Ao51 t329.length co51, .slice Ao52 t332.length co52] (0, 0) _ rfl (by (with_reducible repeat (first | refine blk_drewN ?_ _ | refine blk_drew ?_ | refine blk_alloc ?_ _)); refine blk_put_12 (.int .i64 0) (.bool false) (.bool false) (.bool false) (.bool false) (.bool false) (.int .i64 0) (.string (⟨#[]⟩ : ByteArray)) (.int .i64 0) (.slice none 0 0) (.slice none 0 0) (.slice none 0 0) ?_; (with_reducible repeat (first | refine blk_drewN ?_ _ | refine blk_drew ?_ | refine blk_alloc ?_ _)); refine blk_far ?_ NB316_337.out _; exact bU BK316.out) Tryd.underlying52 rfl jK) rfl ?_
    exact ⟨_, _, _, jE, by exact Kd.R_mono (rF2 HO328.out BK337.out BK316.out) (fun _ hk => ⟨hk.1, hk.2⟩), by exact Kd.R_mono (rF2 HO331.out BK337.out BK316.out) (fun _ hk => ⟨hk.1, hk.2⟩), by exact Kd.R_mono (rF2 HO334.out BK337.out BK316.out) (fun _ hk => ⟨hk.1, hk.2⟩), by exact IsS111.iS2 HI0.out NB0_316.out NB0_337.out, by exact wS3 HB.out (IsS111.ge HI0.out) GE316.out GE337.out, by exact kS2 HK.out GW316.out GW337.out⟩
   ·rw [if_neg c42] at H
    have c42b0 := beq_eq_false_iff_ne.mpr c42
    have c42b1 := bne_iff_ne.mpr c42
    by_cases c58 : t338 = 3
    ·rw [if_pos c58] at H
     have c58b0 := beq_iff_eq.mpr c58
     have c58b1 := bne_eq_false_iff_eq.mpr c58
     clear c58
     obtain ⟨y356, hy_⟩ : ∃ y_ : List Int, y_ = (([0, 3, 255] : List Int)) := ⟨_, rfl⟩
     rw [← hy_] at H
     have Ny356 := aS hy_
     clear hy_
     obtain ⟨⟨t359, t360, t361⟩, A59, H⟩ := bM H
     try dsimp only at H
     simp only [Option.some.injEq, Prod.mk.injEq] at H
     obtain ⟨rfl, rfl, rfl, rfl, rfl, rfl, rfl, rfl, rfl, rfl, rfl, rfl, rfl, rfl⟩ := H
     go_enter Tryd.func89, Tryd.ntmps89
     go_wp2_with (first | ((with_reducible refine gate_dst (N := 2) rfl ?_); refine xB 2 #[.int .i64 0, .bool false, .bool false, .bool false, .bool false, .bool false, .int .i64 0, .string (⟨#[]⟩ : ByteArray), .int .i64 0, .slice none 0 0, .slice none 0 0, .slice none 0 0] 52 ?_; intro gb316 hg w60 hbox hb; replace HB := aS (below_step (by exact wS1 HB.out (IsS111.ge HI0.out)) hb); have BK316 := aS (hbox); have GW316 := aS ((by rw [hg]; exact (keep_size (w := w) (g := g) (row := none) (kS0 HK.out)) : w.heap.size ≤ gb316)); have GE316 := aS ((Nat.le_trans HW0.out (by rw [hg]; exact (keep_size (w := w) (g := g) (row := none) (kS0 HK.out)) : w.heap.size ≤ gb316) : w0.heap.size ≤ gb316)); replace HK := aS (KeepBut.trans (kS0 HK.out) (KeepBut.of_below hb g none) (.inl rfl)); have NB0_316 := aS ((by rw [hg]; exact Nat.ne_of_lt (IsS111.lt (show IsS111 w0 _ g s0_0 s0_1 s0_2 from by exact IsS111.iS0 HI0.out)) : g ≠ gb316)); have NB316_0 := aS ((by rw [hg]; exact Nat.ne_of_gt (IsS111.lt (show IsS111 w0 _ g s0_0 s0_1 s0_2 from by exact IsS111.iS0 HI0.out)) : gb316 ≠ g)); replace HI0 := aS (IsS111.below (IsS111.iS0 HI0.out) hb); clear hb hbox hg) | ((with_reducible refine gate_callee (f := 132) rfl ?_); refine gL (some 5) Tryd.func132 #[.pointer (some ⟨g, 0, none⟩)] ?_; (with_reducible refine (spec_l7Draw.calls k g s0_0 s0_1 s0_2 t317 t318 t319 t320 t321 t322 t323 t324 t325 t326 t329 t332 t335 t336 w0 _ ?side1 ?side2 A2.out).mono ?_); (case side1 => exact IsS111.iS1 HI0.out NB0_316.out); (case side2 => exact wS2 HB.out (IsS111.ge HI0.out) GE316.out); rintro e w61 ⟨v327, v330, v333, rfl, ho0, ho1, ho2, hi, hb, hk⟩; refine ⟨_, rfl, ?_⟩; replace BK316 := kB hk (bU BK316.out) NB316_0.out; have HO328 := aS (Kd.R_lower ho0 (keep_size (w := w) (g := g) (row := none) (kS1 HK.out GW316.out))); have HO331 := aS (Kd.R_lower ho1 (keep_size (w := w) (g := g) (row := none) (kS1 HK.out GW316.out))); have HO334 := aS (Kd.R_lower ho2 (keep_size (w := w) (g := g) (row := none) (kS1 HK.out GW316.out))); replace HK := aS (KeepBut.trans (kS1 HK.out GW316.out) hk (.inl rfl)); replace HB := aS (hb); replace HI0 := aS (hi); clear hi hb hk; (try clear ho0); (try clear ho1); (try clear ho2)) | ((with_reducible refine gate_dst (N := 3) rfl ?_); refine xB 3 #[.int .i64 0, .bool false, .bool false, .bool false, .bool false, .bool false, .int .i64 0, .string (⟨#[]⟩ : ByteArray), .int .i64 0, .slice none 0 0, .slice none 0 0, .slice none 0 0] 52 ?_; intro gb337 hg w62 hbox hb; replace HO328 := rB HO328 hb; replace HO331 := rB HO331 hb; replace HO334 := rB HO334 hb; replace HB := aS (below_step (by exact wS2 HB.out (IsS111.ge HI0.out) GE316.out) hb); have BK337 := aS (hbox); have GW337 := aS ((by rw [hg]; exact (keep_size (w := w) (g := g) (row := none) (kS1 HK.out GW316.out)) : w.heap.size ≤ gb337)); have GE337 := aS ((Nat.le_trans HW0.out (by rw [hg]; exact (keep_size (w := w) (g := g) (row := none) (kS1 HK.out GW316.out)) : w.heap.size ≤ gb337) : w0.heap.size ≤ gb337)); replace HK := aS (KeepBut.trans (kS1 HK.out GW316.out) (KeepBut.of_below hb g none) (.inl rfl)); have NB316_337 := nB hg BK316; have NB337_316 := nS NB316_337; replace BK316 := bB BK316 hb; have NB0_337 := aS ((by rw [hg]; exact Nat.ne_of_lt (IsS111.lt (show IsS111 w0 _ g s0_0 t335 t336 from by exact IsS111.iS1 HI0.out NB0_316.out)) : g ≠ gb337)); have NB337_0 := aS ((by rw [hg]; exact Nat.ne_of_gt (IsS111.lt (show IsS111 w0 _ g s0_0 t335 t336 from by exact IsS111.iS1 HI0.out NB0_316.out)) : gb337 ≠ g)); replace HI0 := aS (IsS111.below (IsS111.iS1 HI0.out NB0_316.out) hb); clear hb hbox hg; have hnb63 := NB337_316.out; have hnc63 := NB316_337.out; have hnb64 := NB337_0.out; have hnc64 := NB0_337.out; have hcz65 := cells12f BK337.out; obtain ⟨Ao66, co66, eo66⟩ := Kd.R_slice HO328.out; subst eo66; obtain ⟨Ao67, co67, eo67⟩ := Kd.R_slice HO331.out; subst eo67; obtain ⟨Ao68, co68, eo68⟩ := Kd.R_slice HO334.out; subst eo68) | ((with_reducible refine gate_callee (f := 78) rfl ?_); refine gL (some 7) Tryd.func78 #[.pointer (some ⟨g, 0, none⟩), .int .i64 12] ?_; (with_reducible refine (spec_l1Below.calls g s0_0 t335 t336 12 t338 t339 t340 w0 _ ?side1 ?side2 A3.out).mono ?_); (case side1 => exact IsS111.iS2 HI0.out NB0_316.out NB0_337.out); (case side2 => exact wS3 HB.out (IsS111.ge HI0.out) GE316.out GE337.out); rintro e w69 ⟨rfl, hi, hb, hk⟩; refine ⟨_, rfl, ?_⟩; replace BK316 := kB hk (bF1 BK316.out NB316_337.out) NB316_0.out; replace HO328 := kR hk (IsS111.apart (IsS111.iS2 HI0.out NB0_316.out NB0_337.out) ((rF1 HO328.out BK337.out)) (by decide)); replace HO331 := kR hk (IsS111.apart (IsS111.iS2 HI0.out NB0_316.out NB0_337.out) ((rF1 HO331.out BK337.out)) (by decide)); replace HO334 := kR hk (IsS111.apart (IsS111.iS2 HI0.out NB0_316.out NB0_337.out) ((rF1 HO334.out BK337.out)) (by decide)); replace BK337 := kB hk (bO (p12 (bU BK337.out))) NB337_0.out; replace HK := aS (KeepBut.trans (kS2 HK.out GW316.out GW337.out) hk (.inl rfl)); replace HB := aS (hb); replace HI0 := aS (hi); clear hi hb hk) | ((with_reducible refine gate_dst (N := 29) rfl ?_); refine Kd.R_lit (Kd.int .i64) _ 3 ?hg (N := 29) ?hd (xs := ([0, 3, 255] : List Int)) (inner := [.int .i64 0, .int .i64 3, .int .i64 255]) (ok := fun _ => True) (okp := fun _ => True) ?hr ?hp (fun _ hk => hk) trivial (Below.refl _ _) (Nat.le_refl _) (by simp) ?_; (case hd => rfl); (case hg => rfl); (case hr => first | (go_simp; done) | (go_simp; rfl)); (case hp => exact (Reps.one (show Kd.M (Kd.int .i64) _ _ _ 0 [.int .i64 0] from rfl) (Reps.one (show Kd.M (Kd.int .i64) _ _ _ 3 [.int .i64 3] from rfl) (Reps.one (show Kd.M (Kd.int .i64) _ _ _ 255 [.int .i64 255] from rfl) (Reps.none _ _))))); intro v357 w70 ho71 hb hg_ hnew_; clear hg_ hnew_; (first | rw [← Ny356.out] at ho71 | (simp only [Int.reduceToNat] at ho71; rw [← Ny356.out] at ho71)); replace HO328 := rB HO328 hb; replace HO331 := rB HO331 hb; replace HO334 := rB HO334 hb; have HO358 := aS (Kd.R_lower ho71 (keep_size (w := w) (g := g) (row := none) (kS2 HK.out GW316.out GW337.out))); replace BK316 := bB BK316 hb; replace BK337 := bB BK337 hb; replace HK := aS (KeepBut.trans (kS2 HK.out GW316.out GW337.out) (KeepBut.of_below hb g none) (.inl rfl)); replace HB := aS (below_step (by exact wS3 HB.out (IsS111.ge HI0.out) GE316.out GE337.out) hb); replace HI0 := aS (IsS111.below (IsS111.iS2 HI0.out NB0_316.out NB0_337.out) hb); clear hb ho71; obtain ⟨Ao72, co72, eo72⟩ := Kd.R_slice HO358.out; subst eo72) | ((with_reducible refine gate_callee (f := 81) rfl ?_); refine gL (some 30) Tryd.func81 #[.pointer (some ⟨g, 0, none⟩), .slice Ao72 y356.length co72] ?_; (with_reducible refine (spec_l1Int.calls g s0_0 t339 t340 _ _ y356 t359 t360 t361 w0 _ ?side1 ?side2 ?side3 ?side4 ?side5 A59.out).mono ?_); (case side1 => exact IsS111.iS2 HI0.out NB0_316.out NB0_337.out); (case side2 => exact wS3 HB.out (IsS111.ge HI0.out) GE316.out GE337.out); (case side3 => exact cU ((Kd.R_reads' HO358.out).2.2)); (case side4 => exact (Kd.R_reads' HO358.out).2.1); (case side5 => exact far_slice (IsS111.own_ne HI0.out HO358.out (by decide))); rintro e w73 ⟨rfl, hi, hb, hk⟩; refine ⟨_, rfl, ?_⟩; replace BK316 := kB hk (bU BK316.out) NB316_0.out; replace HO328 := kR hk (IsS111.apart (IsS111.iS2 HI0.out NB0_316.out NB0_337.out) (rU HO328.out) (by decide)); replace HO331 := kR hk (IsS111.apart (IsS111.iS2 HI0.out NB0_316.out NB0_337.out) (rU HO331.out) (by decide)); replace HO334 := kR hk (IsS111.apart (IsS111.iS2 HI0.out NB0_316.out NB0_337.out) (rU HO334.out) (by decide)); replace BK337 := kB hk (bU BK337.out) NB337_0.out; replace HO358 := kR hk (IsS111.apart (IsS111.iS2 HI0.out NB0_316.out NB0_337.out) (rU HO358.out) (by decide)); replace HK := aS (KeepBut.trans (kS2 HK.out GW316.out GW337.out) hk (.inl rfl)); replace HB := aS (hb); replace HI0 := aS (hi); clear hi hb hk; have hcz74 := cells12f BK337.out; have hnb75 := NB316_0.out; have hnc75 := NB0_316.out; have hcz76 := cells12f BK316.out))
     refine bodyPost_ret (results_cell_row rfl _ _ gb316 52 #[.int .i64 t317, .bool t318, .bool t319, .bool t320, .bool t321, .bool t322, .int .i64 t323, .string t324, .int .i64 t359, .slice Ao66 t326.length co66, .slice Ao67 t329.length co67, .slice Ao68 t332.length co68] (0, 0) _ rfl (by (with_reducible repeat (first | refine blk_drewN ?_ _ | refine blk_drew ?_ | refine blk_alloc ?_ _)); refine blk_put_12 (.int .i64 0) (.bool false) (.bool false) (.bool false) (.bool false) (.bool false) (.int .i64 0) (.string (⟨#[]⟩ : ByteArray)) (.int .i64 0) (.slice none 0 0) (.slice none 0 0) (.slice none 0 0) ?_; (with_reducible repeat (first | refine blk_drewN ?_ _ | refine blk_drew ?_ | refine blk_alloc ?_ _)); refine blk_far ?_ NB316_337.out _; exact bU BK316.out) Tryd.underlying52 rfl jK) rfl ?_
     exact ⟨_, _, _, jE, by exact Kd.R_mono (rF2 HO328.out BK337.out BK316.out) (fun _ hk => ⟨hk.1, hk.2⟩), by exact Kd.R_mono (rF2 HO331.out BK337.out BK316.out) (fun _ hk => ⟨hk.1, hk.2⟩), by exact Kd.R_mono (rF2 HO334.out BK337.out BK316.out) (fun _ hk => ⟨hk.1, hk.2⟩), by exact IsS111.iS2 HI0.out NB0_316.out NB0_337.out, by exact wS3 HB.out (IsS111.ge HI0.out) GE316.out GE337.out, by exact kS2 HK.out GW316.out GW337.out⟩
    ·rw [if_neg c58] at H
     have c58b0 := beq_eq_false_iff_ne.mpr c58
     have c58b1 := bne_iff_ne.mpr c58
     by_cases c77 : t338 = 4
     ·rw [if_pos c77] at H
      have c77b0 := beq_iff_eq.mpr c77
      have c77b1 := bne_eq_false_iff_eq.mpr c77
      clear c77
      obtain ⟨⟨t362, t363, t364, t365, t366, t367, t368, t369⟩, A78, H⟩ := bM H
      try dsimp only at H
      by_cases c79 : t326.length < 1954687338268
      ·rw [if_pos c79] at H
       have LMc79 := aS c79
       clear c79
       obtain ⟨y370, hy_⟩ : ∃ y_ : List (S25), y_ = (t326 ++ [(⟨t362, t363, t364, t365, t366, t367⟩ : S25)]) := ⟨_, rfl⟩
       replace H : (some (t317, t318, t319, t320, t321, t322, t323, t324, t325, y370, t329, t332, t368, t369)) = some (r1, r2, r3, r4, r5, r6, r7, r8, r9, r10, r11, r12, r13, r14) := jD
       have Ny370 := aS hy_
       clear hy_
       simp only [Option.some.injEq, Prod.mk.injEq] at H
       obtain ⟨rfl, rfl, rfl, rfl, rfl, rfl, rfl, rfl, rfl, rfl, rfl, rfl, rfl, rfl⟩ := H
       go_enter Tryd.func89, Tryd.ntmps89
       try go_wp2_with (first | ((with_reducible refine gate_dst (N := 2) rfl ?_); refine xB 2 #[.int .i64 0, .bool false, .bool false, .bool false, .bool false, .bool false, .int .i64 0, .string (⟨#[]⟩ : ByteArray), .int .i64 0, .slice none 0 0, .slice none 0 0, .slice none 0 0] 52 ?_; intro gb316 hg w80 hbox hb; replace HB := aS (below_step (by exact wS1 HB.out (IsS111.ge HI0.out)) hb); have BK316 := aS (hbox); have GW316 := aS ((by rw [hg]; exact (keep_size (w := w) (g := g) (row := none) (kS0 HK.out)) : w.heap.size ≤ gb316)); have GE316 := aS ((Nat.le_trans HW0.out (by rw [hg]; exact (keep_size (w := w) (g := g) (row := none) (kS0 HK.out)) : w.heap.size ≤ gb316) : w0.heap.size ≤ gb316)); replace HK := aS (KeepBut.trans (kS0 HK.out) (KeepBut.of_below hb g none) (.inl rfl)); have NB0_316 := aS ((by rw [hg]; exact Nat.ne_of_lt (IsS111.lt (show IsS111 w0 _ g s0_0 s0_1 s0_2 from by exact IsS111.iS0 HI0.out)) : g ≠ gb316)); have NB316_0 := aS ((by rw [hg]; exact Nat.ne_of_gt (IsS111.lt (show IsS111 w0 _ g s0_0 s0_1 s0_2 from by exact IsS111.iS0 HI0.out)) : gb316 ≠ g)); replace HI0 := aS (IsS111.below (IsS111.iS0 HI0.out) hb); clear hb hbox hg) | ((with_reducible refine gate_callee (f := 132) rfl ?_); refine gL (some 5) Tryd.func132 #[.pointer (some ⟨g, 0, none⟩)] ?_; (with_reducible refine (spec_l7Draw.calls k g s0_0 s0_1 s0_2 t317 t318 t319 t320 t321 t322 t323 t324 t325 t326 t329 t332 t335 t336 w0 _ ?side1 ?side2 A2.out).mono ?_); (case side1 => exact IsS111.iS1 HI0.out NB0_316.out); (case side2 => exact wS2 HB.out (IsS111.ge HI0.out) GE316.out); rintro e w81 ⟨v327, v330, v333, rfl, ho0, ho1, ho2, hi, hb, hk⟩; refine ⟨_, rfl, ?_⟩; replace BK316 := kB hk (bU BK316.out) NB316_0.out; have HO328 := aS (Kd.R_lower ho0 (keep_size (w := w) (g := g) (row := none) (kS1 HK.out GW316.out))); have HO331 := aS (Kd.R_lower ho1 (keep_size (w := w) (g := g) (row := none) (kS1 HK.out GW316.out))); have HO334 := aS (Kd.R_lower ho2 (keep_size (w := w) (g := g) (row := none) (kS1 HK.out GW316.out))); replace HK := aS (KeepBut.trans (kS1 HK.out GW316.out) hk (.inl rfl)); replace HB := aS (hb); replace HI0 := aS (hi); clear hi hb hk; (try clear ho0); (try clear ho1); (try clear ho2)) | ((with_reducible refine gate_dst (N := 3) rfl ?_); refine xB 3 #[.int .i64 0, .bool false, .bool false, .bool false, .bool false, .bool false, .int .i64 0, .string (⟨#[]⟩ : ByteArray), .int .i64 0, .slice none 0 0, .slice none 0 0, .slice none 0 0] 52 ?_; intro gb337 hg w82 hbox hb; replace HO328 := rB HO328 hb; replace HO331 := rB HO331 hb; replace HO334 := rB HO334 hb; replace HB := aS (below_step (by exact wS2 HB.out (IsS111.ge HI0.out) GE316.out) hb); have BK337 := aS (hbox); have GW337 := aS ((by rw [hg]; exact (keep_size (w := w) (g := g) (row := none) (kS1 HK.out GW316.out)) : w.heap.size ≤ gb337)); have GE337 := aS ((Nat.le_trans HW0.out (by rw [hg]; exact (keep_size (w := w) (g := g) (row := none) (kS1 HK.out GW316.out)) : w.heap.size ≤ gb337) : w0.heap.size ≤ gb337)); replace HK := aS (KeepBut.trans (kS1 HK.out GW316.out) (KeepBut.of_below hb g none) (.inl rfl)); have NB316_337 := nB hg BK316; have NB337_316 := nS NB316_337; replace BK316 := bB BK316 hb; have NB0_337 := aS ((by rw [hg]; exact Nat.ne_of_lt (IsS111.lt (show IsS111 w0 _ g s0_0 t335 t336 from by exact IsS111.iS1 HI0.out NB0_316.out)) : g ≠ gb337)); have NB337_0 := aS ((by rw [hg]; exact Nat.ne_of_gt (IsS111.lt (show IsS111 w0 _ g s0_0 t335 t336 from by exact IsS111.iS1 HI0.out NB0_316.out)) : gb337 ≠ g)); replace HI0 := aS (IsS111.below (IsS111.iS1 HI0.out NB0_316.out) hb); clear hb hbox hg; have hnb83 := NB337_316.out; have hnc83 := NB316_337.out; have hnb84 := NB337_0.out; have hnc84 := NB0_337.out; have hcz85 := cells12f BK337.out; obtain ⟨Ao86, co86, eo86⟩ := Kd.R_slice HO328.out; subst eo86; obtain ⟨Ao87, co87, eo87⟩ := Kd.R_slice HO331.out; subst eo87; obtain ⟨Ao88, co88, eo88⟩ := Kd.R_slice HO334.out; subst eo88) | ((with_reducible refine gate_callee (f := 78) rfl ?_); refine gL (some 7) Tryd.func78 #[.pointer (some ⟨g, 0, none⟩), .int .i64 12] ?_; (with_reducible refine (spec_l1Below.calls g s0_0 t335 t336 12 t338 t339 t340 w0 _ ?side1 ?side2 A3.out).mono ?_); (case side1 => exact IsS111.iS2 HI0.out NB0_316.out NB0_337.out); (case side2 => exact wS3 HB.out (IsS111.ge HI0.out) GE316.out GE337.out); rintro e w89 ⟨rfl, hi, hb, hk⟩; refine ⟨_, rfl, ?_⟩; replace BK316 := kB hk (bF1 BK316.out NB316_337.out) NB316_0.out; replace HO328 := kR hk (IsS111.apart (IsS111.iS2 HI0.out NB0_316.out NB0_337.out) ((rF1 HO328.out BK337.out)) (by decide)); replace HO331 := kR hk (IsS111.apart (IsS111.iS2 HI0.out NB0_316.out NB0_337.out) ((rF1 HO331.out BK337.out)) (by decide)); replace HO334 := kR hk (IsS111.apart (IsS111.iS2 HI0.out NB0_316.out NB0_337.out) ((rF1 HO334.out BK337.out)) (by decide)); replace BK337 := kB hk (bO (p12 (bU BK337.out))) NB337_0.out; replace HK := aS (KeepBut.trans (kS2 HK.out GW316.out GW337.out) hk (.inl rfl)); replace HB := aS (hb); replace HI0 := aS (hi); clear hi hb hk))
       replace HO328 := aS (Kd.R_drew HO328.out)
       replace HO331 := aS (Kd.R_drew HO331.out)
       replace HO334 := aS (Kd.R_drew HO334.out)
       replace BK316 := aS (blk_drew BK316.out)
       replace BK337 := aS (blk_drew BK337.out)
       replace HI0 := aS (IsS111.drew HI0.out)
       replace HK := aS (keep_drew HK.out)
       replace HB := aS (below_drew1 HB.out)
       refine start_ (n := 8) (S := fun w' => w'.cell? ⟨gb337, 0, none⟩ = some (.int .i64 t317) ∧ w'.cell? ⟨gb337, 1, none⟩ = some (.bool t318) ∧ w'.cell? ⟨gb337, 2, none⟩ = some (.bool t319) ∧ w'.cell? ⟨gb337, 3, none⟩ = some (.bool t320) ∧ w'.cell? ⟨gb337, 4, none⟩ = some (.bool t321) ∧ w'.cell? ⟨gb337, 5, none⟩ = some (.bool t322) ∧ w'.cell? ⟨gb337, 6, none⟩ = some (.int .i64 t323) ∧ w'.cell? ⟨gb337, 7, none⟩ = some (.string t324) ∧ w'.cell? ⟨gb337, 8, none⟩ = some (.int .i64 t325) ∧ w'.cell? ⟨gb337, 9, none⟩ = some (.slice Ao86 t326.length co86) ∧ w'.cell? ⟨gb337, 10, none⟩ = some (.slice Ao87 t329.length co87) ∧ w'.cell? ⟨gb337, 11, none⟩ = some (.slice Ao88 t332.length co88)) (ds := [7]) #[false, false, false, false, false, false, false, false] jK rfl rfl (c12 BK337.out) (fun hHeld => ?_); refine with_tabW spec_l7Any.tab12 spec_l7Any.bits12 (fun HT_ HW_ => ?_)
       generalize w89.drew = w90 at HO328 HO331 HO334 BK316 BK337 HI0 HK HB hHeld ⊢
       refine pA HT_ 0 (some 35) (tf 1 7) ?_
       refine pA HT_ 2 (some 37) #[true, false, true, false, false, false, false, false] ?_
       refine tA HT_ HW_ hHeld 1 (some 36) (tf 3 5) ?_
       refine one_ (i := 3) (N := some 38) (tf 4 4) rfl rfl (one_of HT_.out jK) (by decide) (fun K hK => ?_)
       refine goes_ Tryd.func58 jK rfl #[.pointer (some ⟨g, 0, none⟩)] (by rfl) rfl rfl jA ?_
       with_reducible refine (spec_l5Any.calls k g s0_0 t339 t340 t362 t363 t364 t365 t366 t367 t368 t369 w0 _ ?side1 ?side2 A78.out).mono ?_
       (case side1 => exact IsS111.iS2 HI0.out NB0_316.out NB0_337.out)
       (case side2 => exact wS3 HB.out (IsS111.ge HI0.out) GE316.out GE337.out)
       rintro e w91 ⟨rfl, hi, hb, hk⟩
       refine ⟨_, rfl, ?_⟩
       replace BK316 := kB hk (bU BK316.out) NB316_0.out
       replace HO328 := kR hk (IsS111.apart (IsS111.iS2 HI0.out NB0_316.out NB0_337.out) (rU HO328.out) (by decide))
       replace HO331 := kR hk (IsS111.apart (IsS111.iS2 HI0.out NB0_316.out NB0_337.out) (rU HO331.out) (by decide))
       replace HO334 := kR hk (IsS111.apart (IsS111.iS2 HI0.out NB0_316.out NB0_337.out) (rU HO334.out) (by decide))
       replace BK337 := kB hk (bU BK337.out) NB337_0.out
       replace HK := aS (KeepBut.trans (kS2 HK.out GW316.out GW337.out) hk (.inl rfl))
       replace HB := aS (hb)
       replace HI0 := aS (hi)
       (try clear hb)
       (try clear hb2)
       (try clear hk)
       (try clear hi)
       refine hK.out _ _ (c12 BK337.out) (fun hHeld => ?_)
       clear hK K
       refine nA (some 38) ?_
       refine one_ (i := 4) (N := some 39) (tf 5 3) rfl rfl (one_of HT_.out jK) (by decide) (fun K hK => ?_)
       refine value_ (w1 := ?_) (v := ?_) (by rfl) rfl ?_ ?_
       rotate_left 2
       ·go_simp
        constructor
        ·rfl
        ·rfl
       refine hK.out _ _ ⟨(blk_cell (blk_alloc BK337.out _) 0).trans rfl, (blk_cell (blk_alloc BK337.out _) 1).trans rfl, (blk_cell (blk_alloc BK337.out _) 2).trans rfl, (blk_cell (blk_alloc BK337.out _) 3).trans rfl, (blk_cell (blk_alloc BK337.out _) 4).trans rfl, (blk_cell (blk_alloc BK337.out _) 5).trans rfl, (blk_cell (blk_alloc BK337.out _) 6).trans rfl, (blk_cell (blk_alloc BK337.out _) 7).trans rfl, (blk_cell (blk_alloc BK337.out _) 8).trans rfl, (blk_cell (blk_alloc BK337.out _) 9).trans rfl, (blk_cell (blk_alloc BK337.out _) 10).trans rfl, (blk_cell (blk_alloc BK337.out _) 11).trans rfl⟩ (fun hHeld => ?_)
       clear hK K
       refine nA (some 39) ?_
       refine one_ (i := 5) (N := some 40) (tf 6 2) rfl rfl (one_of HT_.out jK) (by decide) (fun K hK => ?_)
       refine Kd.R_append_step k25 w.heap.size (by rfl) (.tmp 36) (.tmp 39) 36 25 (.agg #[(.string ⟨#[]⟩), (.int .i64 0), (.int .i64 0), (.int .i64 0), (.string ⟨#[]⟩), (.string ⟨#[]⟩)]) 72 rfl Tryd.underlying36 info25 rfl (by decide) (by omega) (.slice Ao86 t326.length co86) t326 (⟨t362, t363, t364, t365, t366, t367⟩ : S25) [.string t362, .int .i64 t363, .int .i64 t364, .int .i64 t365, .string t366, .string t367] (fun k_ => some k_ ≠ (.slice Ao87 t329.length co87 : Value).ownBlock ∧ some k_ ≠ (.slice Ao88 t332.length co88 : Value).ownBlock) (fun _ => False) rfl rfl ?aP (fun _ hk => hk.elim) ?aF ?aO (Below.refl _ _) ?aS ?aL ?_
       (case aP => exact k25_mkM _ _ _ (⟨t362, t363, t364, t365, t366, t367⟩ : S25))
       (case aF => exact (fun k_ hk => ⟨Kd.fresh' (Kd.R_lt (rU HO331.out)) k_ hk, Kd.fresh' (Kd.R_lt (rU HO334.out)) k_ hk⟩))
       (case aO => exact (rU HO328.out))
       (case aS => exact (keep_size (w := w) (g := g) (row := none) (kS2 HK.out GW316.out GW337.out)))
       (case aL => have := LMc79.out; omega)
       intro v371 w92 ho hb hg hat
       rw [← Ny370.out] at ho
       replace BK316 := aS (blk_grown (g := gb316) (o := .cells #[.int .i64 0, .bool false, .bool false, .bool false, .bool false, .bool false, .int .i64 0, .string (⟨#[]⟩ : ByteArray), .int .i64 0, .slice none 0 0, .slice none 0 0, .slice none 0 0] 52 (0, 0)) (bU BK316.out) hg (Kd.R_ne HO328.out BK316.out (by decide)))
       replace HO331 := aS (Kd.R_after (ok := (fun k_ => some k_ ≠ (.slice Ao88 t332.length co88 : Value).ownBlock)) (by exact rO (Kd.R_mono HO331.out (fun _ hk => ⟨hk.2, hk.1⟩))) hg hat)
       replace HO334 := aS (Kd.R_after (ok := (fun k_ => some k_ ≠ (.slice Ao87 t329.length co87 : Value).ownBlock)) (by exact rO (Kd.R_mono HO334.out (fun _ hk => ⟨hk.2, hk.1⟩))) hg hat)
       replace BK337 := aS (blk_grown (g := gb337) (o := .cells #[.int .i64 t317, .bool t318, .bool t319, .bool t320, .bool t321, .bool t322, .int .i64 t323, .string t324, .int .i64 t325, .slice Ao86 t326.length co86, .slice Ao87 t329.length co87, .slice Ao88 t332.length co88] 52 (0, 0)) (bU BK337.out) hg (Kd.R_ne HO328.out BK337.out (by decide)))
       replace HB := aS (below_weaken (by exact wS3 HB.out (IsS111.ge HI0.out) GE316.out GE337.out) HL.out hb)
       replace HI0 := aS (IsS111.grown (IsS111.iS2 HI0.out NB0_316.out NB0_337.out) hg (IsS111.own_ne HI0.out HO328.out (by decide)))
       replace HK := aS (KeepBut.trans (kS2 HK.out GW316.out GW337.out) (KeepBut.of_grown hg g) (Kd.R_base2 HO328.out))
       have HO372 := aS (ho)
       clear HO328
       clear ho hb hg hat
       obtain ⟨Ao93, co93, eo93⟩ := Kd.R_slice HO372.out
       (first | subst eo93 | (injection eo93 with f1_ f2_ f3_; have f4_ := f1_.symm; have f5_ := f3_.symm; clear f1_ f2_ f3_; subst f4_; subst f5_))
       refine hK.out _ _ (c12 BK337.out) (fun hHeld => ?_)
       clear hK K
       refine nA (some 40) ?_
       refine pA HT_ 6 (some 41) (tf 7 1) ?_
       refine last_ (i := 7) (N := none) (tf 8 0) rfl rfl (one_of HT_.out jK) (by decide) (fun K hK => ?_)
       have hs94 : w92.cell? ⟨gb337, 9, none⟩ = some (.slice Ao86 t326.length co86) := (blk_cell BK337.out 9).trans rfl
       have hfs94 := blk_frozen BK337.out 9
       have hns94_0 := NB316_337.out
       have hms94_0 := NB337_316.out
       with_reducible refine skip_ (w1 := ?_) ?_ ?_ ?_ ?_
       rotate_left
       ·rfl
       ·rfl
       ·go_simp
        rfl
       refine hK.out _ _ ?_
       clear hK K
       refine done_ (done_of HT_.out jK) ?_
       have hcz95 := cells12f BK337.out
       have hnb96 := NB316_0.out
       have hnc96 := NB0_316.out
       have hcz97 := cells12f BK316.out
       try go_wp2
       refine bodyPost_ret (results_cell_row rfl _ _ gb316 52 #[.int .i64 t317, .bool t318, .bool t319, .bool t320, .bool t321, .bool t322, .int .i64 t323, .string t324, .int .i64 t325, .slice Ao93 y370.length co93, .slice Ao87 t329.length co87, .slice Ao88 t332.length co88] (0, 0) _ rfl (by (with_reducible repeat (first | refine blk_drewN ?_ _ | refine blk_drew ?_ | refine blk_alloc ?_ _)); refine blk_put_12 (.int .i64 0) (.bool false) (.bool false) (.bool false) (.bool false) (.bool false) (.int .i64 0) (.string (⟨#[]⟩ : ByteArray)) (.int .i64 0) (.slice none 0 0) (.slice none 0 0) (.slice none 0 0) ?_; (with_reducible repeat (first | refine blk_drewN ?_ _ | refine blk_drew ?_ | refine blk_alloc ?_ _)); refine blk_far ?_ NB316_337.out _; exact bU BK316.out) Tryd.underlying52 rfl jK) rfl ?_
       exact ⟨_, _, _, jE, by exact Kd.R_mono (rF2 HO372.out BK337.out BK316.out) (fun _ hk => ⟨hk.1, hk.2⟩), by exact Kd.R_mono (rF2 HO331.out BK337.out BK316.out) (fun _ hk => ⟨hk.2, hk.1⟩), by exact Kd.R_mono (rF2 HO334.out BK337.out BK316.out) (fun _ hk => ⟨hk.2, hk.1⟩), by exact IsS111.iS2 HI0.out NB0_316.out NB0_337.out, by exact wS3 HB.out (IsS111.ge HI0.out) GE316.out GE337.out, by exact kS2 HK.out GW316.out GW337.out⟩
      ·rw [if_neg c79] at H
       exact absurd H (by simp)
     ·rw [if_neg c77] at H
      have c77b0 := beq_eq_false_iff_ne.mpr c77
      have c77b1 := bne_iff_ne.mpr c77
      by_cases c98 : t338 = 5
      ·rw [if_pos c98] at H
       have c98b0 := beq_iff_eq.mpr c98
       have c98b1 := bne_eq_false_iff_eq.mpr c98
       clear c98
       have H' := aS H
       clear H
       go_enter Tryd.func89, Tryd.ntmps89
       go_wp2_with (first | ((with_reducible refine gate_dst (N := 2) rfl ?_); refine xB 2 #[.int .i64 0, .bool false, .bool false, .bool false, .bool false, .bool false, .int .i64 0, .string (⟨#[]⟩ : ByteArray), .int .i64 0, .slice none 0 0, .slice none 0 0, .slice none 0 0] 52 ?_; intro gb316 hg w99 hbox hb; replace HB := aS (below_step (by exact wS1 HB.out (IsS111.ge HI0.out)) hb); have BK316 := aS (hbox); have GW316 := aS ((by rw [hg]; exact (keep_size (w := w) (g := g) (row := none) (kS0 HK.out)) : w.heap.size ≤ gb316)); have GE316 := aS ((Nat.le_trans HW0.out (by rw [hg]; exact (keep_size (w := w) (g := g) (row := none) (kS0 HK.out)) : w.heap.size ≤ gb316) : w0.heap.size ≤ gb316)); replace HK := aS (KeepBut.trans (kS0 HK.out) (KeepBut.of_below hb g none) (.inl rfl)); have NB0_316 := aS ((by rw [hg]; exact Nat.ne_of_lt (IsS111.lt (show IsS111 w0 _ g s0_0 s0_1 s0_2 from by exact IsS111.iS0 HI0.out)) : g ≠ gb316)); have NB316_0 := aS ((by rw [hg]; exact Nat.ne_of_gt (IsS111.lt (show IsS111 w0 _ g s0_0 s0_1 s0_2 from by exact IsS111.iS0 HI0.out)) : gb316 ≠ g)); replace HI0 := aS (IsS111.below (IsS111.iS0 HI0.out) hb); clear hb hbox hg) | ((with_reducible refine gate_callee (f := 132) rfl ?_); refine gL (some 5) Tryd.func132 #[.pointer (some ⟨g, 0, none⟩)] ?_; (with_reducible refine (spec_l7Draw.calls k g s0_0 s0_1 s0_2 t317 t318 t319 t320 t321 t322 t323 t324 t325 t326 t329 t332 t335 t336 w0 _ ?side1 ?side2 A2.out).mono ?_); (case side1 => exact IsS111.iS1 HI0.out NB0_316.out); (case side2 => exact wS2 HB.out (IsS111.ge HI0.out) GE316.out); rintro e w100 ⟨v327, v330, v333, rfl, ho0, ho1, ho2, hi, hb, hk⟩; refine ⟨_, rfl, ?_⟩; replace BK316 := kB hk (bU BK316.out) NB316_0.out; have HO328 := aS (Kd.R_lower ho0 (keep_size (w := w) (g := g) (row := none) (kS1 HK.out GW316.out))); have HO331 := aS (Kd.R_lower ho1 (keep_size (w := w) (g := g) (row := none) (kS1 HK.out GW316.out))); have HO334 := aS (Kd.R_lower ho2 (keep_size (w := w) (g := g) (row := none) (kS1 HK.out GW316.out))); replace HK := aS (KeepBut.trans (kS1 HK.out GW316.out) hk (.inl rfl)); replace HB := aS (hb); replace HI0 := aS (hi); clear hi hb hk; (try clear ho0); (try clear ho1); (try clear ho2)) | ((with_reducible refine gate_dst (N := 3) rfl ?_); refine xB 3 #[.int .i64 0, .bool false, .bool false, .bool false, .bool false, .bool false, .int .i64 0, .string (⟨#[]⟩ : ByteArray), .int .i64 0, .slice none 0 0, .slice none 0 0, .slice none 0 0] 52 ?_; intro gb337 hg w101 hbox hb; replace HO328 := rB HO328 hb; replace HO331 := rB HO331 hb; replace HO334 := rB HO334 hb; replace HB := aS (below_step (by exact wS2 HB.out (IsS111.ge HI0.out) GE316.out) hb); have BK337 := aS (hbox); have GW337 := aS ((by rw [hg]; exact (keep_size (w := w) (g := g) (row := none) (kS1 HK.out GW316.out)) : w.heap.size ≤ gb337)); have GE337 := aS ((Nat.le_trans HW0.out (by rw [hg]; exact (keep_size (w := w) (g := g) (row := none) (kS1 HK.out GW316.out)) : w.heap.size ≤ gb337) : w0.heap.size ≤ gb337)); replace HK := aS (KeepBut.trans (kS1 HK.out GW316.out) (KeepBut.of_below hb g none) (.inl rfl)); have NB316_337 := nB hg BK316; have NB337_316 := nS NB316_337; replace BK316 := bB BK316 hb; have NB0_337 := aS ((by rw [hg]; exact Nat.ne_of_lt (IsS111.lt (show IsS111 w0 _ g s0_0 t335 t336 from by exact IsS111.iS1 HI0.out NB0_316.out)) : g ≠ gb337)); have NB337_0 := aS ((by rw [hg]; exact Nat.ne_of_gt (IsS111.lt (show IsS111 w0 _ g s0_0 t335 t336 from by exact IsS111.iS1 HI0.out NB0_316.out)) : gb337 ≠ g)); replace HI0 := aS (IsS111.below (IsS111.iS1 HI0.out NB0_316.out) hb); clear hb hbox hg; have hnb102 := NB337_316.out; have hnc102 := NB316_337.out; have hnb103 := NB337_0.out; have hnc103 := NB0_337.out; have hcz104 := cells12f BK337.out; obtain ⟨Ao105, co105, eo105⟩ := Kd.R_slice HO328.out; subst eo105; obtain ⟨Ao106, co106, eo106⟩ := Kd.R_slice HO331.out; subst eo106; obtain ⟨Ao107, co107, eo107⟩ := Kd.R_slice HO334.out; subst eo107) | ((with_reducible refine gate_callee (f := 78) rfl ?_); refine gL (some 7) Tryd.func78 #[.pointer (some ⟨g, 0, none⟩), .int .i64 12] ?_; (with_reducible refine (spec_l1Below.calls g s0_0 t335 t336 12 t338 t339 t340 w0 _ ?side1 ?side2 A3.out).mono ?_); (case side1 => exact IsS111.iS2 HI0.out NB0_316.out NB0_337.out); (case side2 => exact wS3 HB.out (IsS111.ge HI0.out) GE316.out GE337.out); rintro e w108 ⟨rfl, hi, hb, hk⟩; refine ⟨_, rfl, ?_⟩; replace BK316 := kB hk (bF1 BK316.out NB316_337.out) NB316_0.out; replace HO328 := kR hk (IsS111.apart (IsS111.iS2 HI0.out NB0_316.out NB0_337.out) ((rF1 HO328.out BK337.out)) (by decide)); replace HO331 := kR hk (IsS111.apart (IsS111.iS2 HI0.out NB0_316.out NB0_337.out) ((rF1 HO331.out BK337.out)) (by decide)); replace HO334 := kR hk (IsS111.apart (IsS111.iS2 HI0.out NB0_316.out NB0_337.out) ((rF1 HO334.out BK337.out)) (by decide)); replace BK337 := kB hk (bO (p12 (bU BK337.out))) NB337_0.out; replace HK := aS (KeepBut.trans (kS2 HK.out GW316.out GW337.out) hk (.inl rfl)); replace HB := aS (hb); replace HI0 := aS (hi); clear hi hb hk))
       go_loopg [] k (fun kq w' => ∃ (x1001_1 : Int) (x1002_1 : Int) (x338011_1 : List (S25)) (u338011 : Value), Aside0 (spec_l7Any.l0 kq s0_0 x1001_1 x1002_1 t317 t318 t319 t320 t321 t322 t323 t324 t325 t326 t329 x338011_1 = some (r1, r2, r3, r4, r5, r6, r7, r8, r9, r10, r11, r12, r13, r14)) ∧ Aside0 (kq ≤ k) ∧ Aside0 (Kd.R k25 25 w' w.heap.size (fun k_ => some k_ ≠ ((.slice Ao106 t329.length co106) : Value).ownBlock ∧ some k_ ≠ (u338011 : Value).ownBlock) (.slice Ao105 t326.length co105) t326) ∧ Aside0 (Kd.R k25 25 w' w.heap.size (fun k_ => some k_ ≠ ((.slice Ao105 t326.length co105) : Value).ownBlock ∧ some k_ ≠ (u338011 : Value).ownBlock) (.slice Ao106 t329.length co106) t329) ∧ Aside0 (Kd.R k25 25 w' w.heap.size (fun k_ => some k_ ≠ ((.slice Ao105 t326.length co105) : Value).ownBlock ∧ some k_ ≠ ((.slice Ao106 t329.length co106) : Value).ownBlock) u338011 x338011_1) ∧ Aside0 (w'.heap[gb316]? = some (.cells #[.int .i64 0, .bool false, .bool false, .bool false, .bool false, .bool false, .int .i64 0, .string (⟨#[]⟩ : ByteArray), .int .i64 0, (.slice none 0 0), (.slice none 0 0), (.slice none 0 0)] 52 (0, 0))) ∧ Aside0 (w'.heap[gb337]? = some (.cells #[.int .i64 t317, .bool t318, .bool t319, .bool t320, .bool t321, .bool t322, .int .i64 t323, .string t324, .int .i64 t325, (.slice Ao105 t326.length co105), (.slice Ao106 t329.length co106), u338011] 52 (0, 0))) ∧ Aside0 (IsS111 w0 w' g s0_0 x1001_1 x1002_1) ∧ Aside0 (KeepBut w w' g none) ∧ Aside0 (Below w0.heap.size w0 w'))
       case atStart => exact ⟨(t339), (t340), (t332), (.slice Ao107 t332.length co107), H', ⟨Nat.le_refl _⟩, ⟨by exact rU HO328.out⟩, ⟨by exact rU HO331.out⟩, ⟨by exact rU HO334.out⟩, ⟨by exact bU BK316.out⟩, ⟨by exact bU BK337.out⟩, ⟨by exact IsS111.iS2 HI0.out NB0_316.out NB0_337.out⟩, ⟨by exact kS2 HK.out GW316.out GW337.out⟩, ⟨by exact wS3 HB.out (IsS111.ge HI0.out) GE316.out GE337.out⟩⟩
       case round =>
        clear H'
        try clear c1
        try clear c2
        try clear p2
        try clear c4
        try clear c4b0
        try clear c4b1
        try clear c5
        try clear c6
        try clear c7
        try clear c8
        try clear c9
        try clear c10
        try clear c11
        try clear c13
        try clear c21
        try clear c23
        try clear c23b0
        try clear c23b1
        try clear c28
        try clear c29
        try clear c40
        try clear c42
        try clear c42b0
        try clear c42b1
        try clear c47
        try clear c48
        try clear c56
        try clear c58
        try clear c58b0
        try clear c58b1
        try clear c63
        try clear c64
        try clear c75
        try clear c77
        try clear c77b0
        try clear c77b1
        try clear c78
        try clear c79
        try clear c81
        try clear c83
        try clear c84
        try clear c89
        try clear c96
        try clear c98
        try clear c98b0
        try clear c98b1
        try clear c102
        try clear c103
        try clear hcz104
        try clear hcz11
        try clear hcz20
        try clear hcz22
        try clear hcz30
        try clear hcz39
        try clear hcz41
        try clear hcz49
        try clear hcz55
        try clear hcz57
        try clear hcz65
        try clear hcz74
        try clear hcz76
        try clear hcz85
        try clear hcz95
        try clear hcz97
        obtain ⟨x1001_1, x1002_1, x338011_1, u338011, HA, HK1, HO_338009, HO_338010, HO_338011, BK316, BK337, HI0, HK, HB⟩ := hrel
        cases gk with
        | zero => exact absurd HA.out (by simp [spec_l7Any.l0])
        | succ k1 =>
         have H := HA.out
         clear HA
         simp only [spec_l7Any.l0] at H
         by_cases c109 : (x338011_1.length : Int) < 9
         ·rw [if_pos c109] at H
          have c109b0 := decide_eq_true c109
          have c109b1 : decide (x338011_1.length < 9) = true := decide_eq_true (by omega)
          clear c109
          obtain ⟨⟨t373, t374, t375, t376, t377, t378, t379, t380⟩, A110, H⟩ := bM H
          try dsimp only at H
          by_cases c111 : x338011_1.length < 1954687338268
          ·rw [if_pos c111] at H
           have LMc111 := aS c111
           clear c111
           obtain ⟨y381, hy_⟩ : ∃ y_ : List (S25), y_ = (x338011_1 ++ [(⟨t373, t374, t375, t376, t377, t378⟩ : S25)]) := ⟨_, rfl⟩
           replace H : (spec_l7Any.l0 k1 s0_0 t379 t380 t317 t318 t319 t320 t321 t322 t323 t324 t325 t326 t329 y381) = some (r1, r2, r3, r4, r5, r6, r7, r8, r9, r10, r11, r12, r13, r14) := jD
           have Ny381 := aS hy_
           clear hy_
           have H' := aS H
           clear H
           have hnb112 := NB337_316.out
           have hnc112 := NB316_337.out
           have hnb113 := NB337_0.out
           have hnc113 := NB0_337.out
           have hcz114 := cells12f BK337.out
           obtain ⟨Ao115, co115, eo115⟩ := Kd.R_slice HO_338011.out
           subst eo115
           try go_wp2
           replace HO_338009 := aS (Kd.R_drew HO_338009.out)
           replace HO_338010 := aS (Kd.R_drew HO_338010.out)
           replace HO_338011 := aS (Kd.R_drew HO_338011.out)
           replace BK316 := aS (blk_drew BK316.out)
           replace BK337 := aS (blk_drew BK337.out)
           replace HI0 := aS (IsS111.drew HI0.out)
           replace HK := aS (keep_drew HK.out)
           replace HB := aS (below_drew1 HB.out)
           refine start_ (n := 8) (S := fun w' => w'.cell? ⟨gb337, 0, none⟩ = some (.int .i64 t317) ∧ w'.cell? ⟨gb337, 1, none⟩ = some (.bool t318) ∧ w'.cell? ⟨gb337, 2, none⟩ = some (.bool t319) ∧ w'.cell? ⟨gb337, 3, none⟩ = some (.bool t320) ∧ w'.cell? ⟨gb337, 4, none⟩ = some (.bool t321) ∧ w'.cell? ⟨gb337, 5, none⟩ = some (.bool t322) ∧ w'.cell? ⟨gb337, 6, none⟩ = some (.int .i64 t323) ∧ w'.cell? ⟨gb337, 7, none⟩ = some (.string t324) ∧ w'.cell? ⟨gb337, 8, none⟩ = some (.int .i64 t325) ∧ w'.cell? ⟨gb337, 9, none⟩ = some (.slice Ao105 t326.length co105) ∧ w'.cell? ⟨gb337, 10, none⟩ = some (.slice Ao106 t329.length co106) ∧ w'.cell? ⟨gb337, 11, none⟩ = some (.slice Ao115 x338011_1.length co115)) (ds := [7]) #[false, false, false, false, false, false, false, false] jK rfl rfl (c12 BK337.out) (fun hHeld => ?_); refine with_tabW spec_l7Any.tab15 spec_l7Any.bits15 (fun HT_ HW_ => ?_)
           generalize wr.drew = w116 at HO_338009 HO_338010 HO_338011 BK316 BK337 HI0 HK HB hHeld ⊢
           refine pA HT_ 0 (some 48) (tf 1 7) ?_
           refine pA HT_ 2 (some 50) #[true, false, true, false, false, false, false, false] ?_
           refine tA HT_ HW_ hHeld 1 (some 49) (tf 3 5) ?_
           refine one_ (i := 3) (N := some 51) (tf 4 4) rfl rfl (one_of HT_.out jK) (by decide) (fun K hK => ?_)
           refine goes_ Tryd.func79 jK rfl #[.pointer (some ⟨g, 0, none⟩)] (by rfl) rfl rfl jA ?_
           with_reducible refine (spec_l5Draw.calls k1 g s0_0 x1001_1 x1002_1 t373 t374 t375 t376 t377 t378 t379 t380 w0 _ ?side1 ?side2 A110.out).mono ?_
           (case side1 => exact IsS111.iS2 HI0.out NB0_316.out NB0_337.out)
           (case side2 => exact wS3 HB.out (IsS111.ge HI0.out) GE316.out GE337.out)
           rintro e w117 ⟨rfl, hi, hb, hk⟩
           refine ⟨_, rfl, ?_⟩
           replace HO_338009 := kR hk (IsS111.apart (IsS111.iS2 HI0.out NB0_316.out NB0_337.out) (rU HO_338009.out) (by decide))
           replace HO_338010 := kR hk (IsS111.apart (IsS111.iS2 HI0.out NB0_316.out NB0_337.out) (rU HO_338010.out) (by decide))
           replace HO_338011 := kR hk (IsS111.apart (IsS111.iS2 HI0.out NB0_316.out NB0_337.out) (rU HO_338011.out) (by decide))
           replace BK316 := kB hk (bU BK316.out) NB316_0.out
           replace BK337 := kB hk (bU BK337.out) NB337_0.out
           replace HK := aS (KeepBut.trans (kS2 HK.out GW316.out GW337.out) hk (.inl rfl))
           replace HB := aS (hb)
           replace HI0 := aS (hi)
           (try clear hb)
           (try clear hb2)
           (try clear hk)
           (try clear hi)
           refine hK.out _ _ (c12 BK337.out) (fun hHeld => ?_)
           clear hK K
           refine nA (some 51) ?_
           refine one_ (i := 4) (N := some 52) (tf 5 3) rfl rfl (one_of HT_.out jK) (by decide) (fun K hK => ?_)
           refine value_ (w1 := ?_) (v := ?_) (by rfl) rfl ?_ ?_
           rotate_left 2
           ·go_simp
            constructor
            ·rfl
            ·rfl
           refine hK.out _ _ ⟨(blk_cell (blk_alloc BK337.out _) 0).trans rfl, (blk_cell (blk_alloc BK337.out _) 1).trans rfl, (blk_cell (blk_alloc BK337.out _) 2).trans rfl, (blk_cell (blk_alloc BK337.out _) 3).trans rfl, (blk_cell (blk_alloc BK337.out _) 4).trans rfl, (blk_cell (blk_alloc BK337.out _) 5).trans rfl, (blk_cell (blk_alloc BK337.out _) 6).trans rfl, (blk_cell (blk_alloc BK337.out _) 7).trans rfl, (blk_cell (blk_alloc BK337.out _) 8).trans rfl, (blk_cell (blk_alloc BK337.out _) 9).trans rfl, (blk_cell (blk_alloc BK337.out _) 10).trans rfl, (blk_cell (blk_alloc BK337.out _) 11).trans rfl⟩ (fun hHeld => ?_)
           clear hK K
           refine nA (some 52) ?_
           refine one_ (i := 5) (N := some 53) (tf 6 2) rfl rfl (one_of HT_.out jK) (by decide) (fun K hK => ?_)
           refine Kd.R_append_step k25 w.heap.size (by rfl) (.tmp 49) (.tmp 52) 36 25 (.agg #[(.string ⟨#[]⟩), (.int .i64 0), (.int .i64 0), (.int .i64 0), (.string ⟨#[]⟩), (.string ⟨#[]⟩)]) 72 rfl Tryd.underlying36 info25 rfl (by decide) (by omega) (.slice Ao115 x338011_1.length co115) x338011_1 (⟨t373, t374, t375, t376, t377, t378⟩ : S25) [.string t373, .int .i64 t374, .int .i64 t375, .int .i64 t376, .string t377, .string t378] (fun k_ => some k_ ≠ (.slice Ao105 t326.length co105 : Value).ownBlock ∧ some k_ ≠ (.slice Ao106 t329.length co106 : Value).ownBlock) (fun _ => False) rfl rfl ?aP (fun _ hk => hk.elim) ?aF ?aO (Below.refl _ _) ?aS ?aL ?_
           (case aP => exact k25_mkM _ _ _ (⟨t373, t374, t375, t376, t377, t378⟩ : S25))
           (case aF => exact (fun k_ hk => ⟨Kd.fresh' (Kd.R_lt (rU HO_338009.out)) k_ hk, Kd.fresh' (Kd.R_lt (rU HO_338010.out)) k_ hk⟩))
           (case aO => exact (rU HO_338011.out))
           (case aS => exact (keep_size (w := w) (g := g) (row := none) (kS2 HK.out GW316.out GW337.out)))
           (case aL => have := LMc111.out; omega)
           intro v382 w118 ho hb hg hat
           rw [← Ny381.out] at ho
           replace HO_338009 := aS (Kd.R_after (ok := (fun k_ => some k_ ≠ (.slice Ao106 t329.length co106 : Value).ownBlock)) (rU HO_338009.out) hg hat)
           replace HO_338010 := aS (Kd.R_after (ok := (fun k_ => some k_ ≠ (.slice Ao105 t326.length co105 : Value).ownBlock)) (rU HO_338010.out) hg hat)
           replace BK316 := aS (blk_grown (g := gb316) (o := .cells #[.int .i64 0, .bool false, .bool false, .bool false, .bool false, .bool false, .int .i64 0, .string (⟨#[]⟩ : ByteArray), .int .i64 0, .slice none 0 0, .slice none 0 0, .slice none 0 0] 52 (0, 0)) (bU BK316.out) hg (Kd.R_ne HO_338011.out BK316.out (by decide)))
           replace BK337 := aS (blk_grown (g := gb337) (o := .cells #[.int .i64 t317, .bool t318, .bool t319, .bool t320, .bool t321, .bool t322, .int .i64 t323, .string t324, .int .i64 t325, .slice Ao105 t326.length co105, .slice Ao106 t329.length co106, .slice Ao115 x338011_1.length co115] 52 (0, 0)) (bU BK337.out) hg (Kd.R_ne HO_338011.out BK337.out (by decide)))
           replace HB := aS (below_weaken (by exact wS3 HB.out (IsS111.ge HI0.out) GE316.out GE337.out) HL.out hb)
           replace HI0 := aS (IsS111.grown (IsS111.iS2 HI0.out NB0_316.out NB0_337.out) hg (IsS111.own_ne HI0.out HO_338011.out (by decide)))
           replace HK := aS (KeepBut.trans (kS2 HK.out GW316.out GW337.out) (KeepBut.of_grown hg g) (Kd.R_base2 HO_338011.out))
           have HO383 := aS (ho)
           clear HO_338011
           clear ho hb hg hat
           obtain ⟨Ao119, co119, eo119⟩ := Kd.R_slice HO383.out
           (first | subst eo119 | (injection eo119 with f1_ f2_ f3_; have f4_ := f1_.symm; have f5_ := f3_.symm; clear f1_ f2_ f3_; subst f4_; subst f5_))
           refine hK.out _ _ (c12 BK337.out) (fun hHeld => ?_)
           clear hK K
           refine nA (some 53) ?_
           refine pA HT_ 6 (some 54) (tf 7 1) ?_
           refine last_ (i := 7) (N := none) (tf 8 0) rfl rfl (one_of HT_.out jK) (by decide) (fun K hK => ?_)
           have hs120 : w118.cell? ⟨gb337, 11, none⟩ = some (.slice Ao115 x338011_1.length co115) := (blk_cell BK337.out 11).trans rfl
           have hfs120 := blk_frozen BK337.out 11
           have hns120_0 := NB316_337.out
           have hms120_0 := NB337_316.out
           with_reducible refine skip_ (w1 := ?_) ?_ ?_ ?_ ?_
           rotate_left
           ·rfl
           ·rfl
           ·go_simp
            rfl
           refine hK.out _ _ ?_
           clear hK K
           refine done_ (done_of HT_.out jK) ?_
           try go_wp2
           go_roundg k1
           case measure => have := HK1.out; omega
           case rel => exact ⟨(t379), (t380), (y381), (.slice Ao119 y381.length co119), H', ⟨by have := HK1.out; omega⟩, ⟨by exact Kd.R_mono (rF1 HO_338009.out BK337.out) (fun _ hk => ⟨hk.1, hk.2⟩)⟩, ⟨by exact Kd.R_mono (rF1 HO_338010.out BK337.out) (fun _ hk => ⟨hk.1, hk.2⟩)⟩, ⟨by exact Kd.R_mono (rF1 HO383.out BK337.out) (fun _ hk => ⟨hk.1, hk.2⟩)⟩, ⟨by (with_reducible repeat (first | refine blk_drewN ?_ _ | refine blk_drew ?_ | refine blk_alloc ?_ _)); refine blk_far ?_ NB316_337.out _; exact bU BK316.out⟩, ⟨by (with_reducible repeat (first | refine blk_drewN ?_ _ | refine blk_drew ?_ | refine blk_alloc ?_ _)); refine blk_put (cs := #[.int .i64 t317, .bool t318, .bool t319, .bool t320, .bool t321, .bool t322, .int .i64 t323, .string t324, .int .i64 t325, .slice Ao105 t326.length co105, .slice Ao106 t329.length co106, .slice Ao115 x338011_1.length co115]) ?_ 11 _ rfl; exact bU BK337.out⟩, ⟨by exact IsS111.iS2 HI0.out NB0_316.out NB0_337.out⟩, ⟨by exact kS2 HK.out GW316.out GW337.out⟩, ⟨by exact wS3 HB.out (IsS111.ge HI0.out) GE316.out GE337.out⟩⟩
          ·rw [if_neg c111] at H
           exact absurd H (by simp)
         ·rw [if_neg c109] at H
          have c109b0 := decide_eq_false c109
          have c109b1 : decide (x338011_1.length < 9) = false := decide_eq_false (by omega)
          clear c109
          simp only [Option.some.injEq, Prod.mk.injEq] at H
          obtain ⟨rfl, rfl, rfl, rfl, rfl, rfl, rfl, rfl, rfl, rfl, rfl, rfl, rfl, rfl⟩ := H
          have hnb121 := NB337_316.out
          have hnc121 := NB316_337.out
          have hnb122 := NB337_0.out
          have hnc122 := NB0_337.out
          have hcz123 := cells12f BK337.out
          obtain ⟨Ao124, co124, eo124⟩ := Kd.R_slice HO_338011.out
          subst eo124
          have hnb125 := NB316_0.out
          have hnc125 := NB0_316.out
          have hcz126 := cells12f BK316.out
          go_wp2
          refine bodyPost_ret (results_cell_row rfl _ _ gb316 52 #[.int .i64 t317, .bool t318, .bool t319, .bool t320, .bool t321, .bool t322, .int .i64 t323, .string t324, .int .i64 t325, .slice Ao105 t326.length co105, .slice Ao106 t329.length co106, .slice Ao124 x338011_1.length co124] (0, 0) _ rfl (by exact bO (p12 (bU BK316.out))) Tryd.underlying52 rfl jK) rfl ?_
          exact ⟨_, _, _, jE, by exact Kd.R_mono (rF1 HO_338009.out BK316.out) (fun _ hk => ⟨hk.1, hk.2⟩), by exact Kd.R_mono (rF1 HO_338010.out BK316.out) (fun _ hk => ⟨hk.1, hk.2⟩), by exact Kd.R_mono (rF1 HO_338011.out BK316.out) (fun _ hk => ⟨hk.1, hk.2⟩), by exact IsS111.iS2 HI0.out NB0_316.out NB0_337.out, by exact wS3 HB.out (IsS111.ge HI0.out) GE316.out GE337.out, by exact kS2 HK.out GW316.out GW337.out⟩
      ·rw [if_neg c98] at H
       have c98b0 := beq_eq_false_iff_ne.mpr c98
       have c98b1 := bne_iff_ne.mpr c98
       simp only [Option.some.injEq, Prod.mk.injEq] at H
       obtain ⟨rfl, rfl, rfl, rfl, rfl, rfl, rfl, rfl, rfl, rfl, rfl, rfl, rfl, rfl⟩ := H
       go_enter Tryd.func89, Tryd.ntmps89
       go_wp2_with (first | ((with_reducible refine gate_dst (N := 2) rfl ?_); refine xB 2 #[.int .i64 0, .bool false, .bool false, .bool false, .bool false, .bool false, .int .i64 0, .string (⟨#[]⟩ : ByteArray), .int .i64 0, .slice none 0 0, .slice none 0 0, .slice none 0 0] 52 ?_; intro gb316 hg w127 hbox hb; replace HB := aS (below_step (by exact wS1 HB.out (IsS111.ge HI0.out)) hb); have BK316 := aS (hbox); have GW316 := aS ((by rw [hg]; exact (keep_size (w := w) (g := g) (row := none) (kS0 HK.out)) : w.heap.size ≤ gb316)); have GE316 := aS ((Nat.le_trans HW0.out (by rw [hg]; exact (keep_size (w := w) (g := g) (row := none) (kS0 HK.out)) : w.heap.size ≤ gb316) : w0.heap.size ≤ gb316)); replace HK := aS (KeepBut.trans (kS0 HK.out) (KeepBut.of_below hb g none) (.inl rfl)); have NB0_316 := aS ((by rw [hg]; exact Nat.ne_of_lt (IsS111.lt (show IsS111 w0 _ g s0_0 s0_1 s0_2 from by exact IsS111.iS0 HI0.out)) : g ≠ gb316)); have NB316_0 := aS ((by rw [hg]; exact Nat.ne_of_gt (IsS111.lt (show IsS111 w0 _ g s0_0 s0_1 s0_2 from by exact IsS111.iS0 HI0.out)) : gb316 ≠ g)); replace HI0 := aS (IsS111.below (IsS111.iS0 HI0.out) hb); clear hb hbox hg) | ((with_reducible refine gate_callee (f := 132) rfl ?_); refine gL (some 5) Tryd.func132 #[.pointer (some ⟨g, 0, none⟩)] ?_; (with_reducible refine (spec_l7Draw.calls k g s0_0 s0_1 s0_2 t317 t318 t319 t320 t321 t322 t323 t324 t325 t326 t329 t332 t335 t336 w0 _ ?side1 ?side2 A2.out).mono ?_); (case side1 => exact IsS111.iS1 HI0.out NB0_316.out); (case side2 => exact wS2 HB.out (IsS111.ge HI0.out) GE316.out); rintro e w128 ⟨v327, v330, v333, rfl, ho0, ho1, ho2, hi, hb, hk⟩; refine ⟨_, rfl, ?_⟩; replace BK316 := kB hk (bU BK316.out) NB316_0.out; have HO328 := aS (Kd.R_lower ho0 (keep_size (w := w) (g := g) (row := none) (kS1 HK.out GW316.out))); have HO331 := aS (Kd.R_lower ho1 (keep_size (w := w) (g := g) (row := none) (kS1 HK.out GW316.out))); have HO334 := aS (Kd.R_lower ho2 (keep_size (w := w) (g := g) (row := none) (kS1 HK.out GW316.out))); replace HK := aS (KeepBut.trans (kS1 HK.out GW316.out) hk (.inl rfl)); replace HB := aS (hb); replace HI0 := aS (hi); clear hi hb hk; (try clear ho0); (try clear ho1); (try clear ho2)) | ((with_reducible refine gate_dst (N := 3) rfl ?_); refine xB 3 #[.int .i64 0, .bool false, .bool false, .bool false, .bool false, .bool false, .int .i64 0, .string (⟨#[]⟩ : ByteArray), .int .i64 0, .slice none 0 0, .slice none 0 0, .slice none 0 0] 52 ?_; intro gb337 hg w129 hbox hb; replace HO328 := rB HO328 hb; replace HO331 := rB HO331 hb; replace HO334 := rB HO334 hb; replace HB := aS (below_step (by exact wS2 HB.out (IsS111.ge HI0.out) GE316.out) hb); have BK337 := aS (hbox); have GW337 := aS ((by rw [hg]; exact (keep_size (w := w) (g := g) (row := none) (kS1 HK.out GW316.out)) : w.heap.size ≤ gb337)); have GE337 := aS ((Nat.le_trans HW0.out (by rw [hg]; exact (keep_size (w := w) (g := g) (row := none) (kS1 HK.out GW316.out)) : w.heap.size ≤ gb337) : w0.heap.size ≤ gb337)); replace HK := aS (KeepBut.trans (kS1 HK.out GW316.out) (KeepBut.of_below hb g none) (.inl rfl)); have NB316_337 := nB hg BK316; have NB337_316 := nS NB316_337; replace BK316 := bB BK316 hb; have NB0_337 := aS ((by rw [hg]; exact Nat.ne_of_lt (IsS111.lt (show IsS111 w0 _ g s0_0 t335 t336 from by exact IsS111.iS1 HI0.out NB0_316.out)) : g ≠ gb337)); have NB337_0 := aS ((by rw [hg]; exact Nat.ne_of_gt (IsS111.lt (show IsS111 w0 _ g s0_0 t335 t336 from by exact IsS111.iS1 HI0.out NB0_316.out)) : gb337 ≠ g)); replace HI0 := aS (IsS111.below (IsS111.iS1 HI0.out NB0_316.out) hb); clear hb hbox hg; have hnb130 := NB337_316.out; have hnc130 := NB316_337.out; have hnb131 := NB337_0.out; have hnc131 := NB0_337.out; have hcz132 := cells12f BK337.out; obtain ⟨Ao133, co133, eo133⟩ := Kd.R_slice HO328.out; subst eo133; obtain ⟨Ao134, co134, eo134⟩ := Kd.R_slice HO331.out; subst eo134; obtain ⟨Ao135, co135, eo135⟩ := Kd.R_slice HO334.out; subst eo135) | ((with_reducible refine gate_callee (f := 78) rfl ?_); refine gL (some 7) Tryd.func78 #[.pointer (some ⟨g, 0, none⟩), .int .i64 12] ?_; (with_reducible refine (spec_l1Below.calls g s0_0 t335 t336 12 t338 t339 t340 w0 _ ?side1 ?side2 A3.out).mono ?_); (case side1 => exact IsS111.iS2 HI0.out NB0_316.out NB0_337.out); (case side2 => exact wS3 HB.out (IsS111.ge HI0.out) GE316.out GE337.out); rintro e w136 ⟨rfl, hi, hb, hk⟩; refine ⟨_, rfl, ?_⟩; replace BK316 := kB hk (bF1 BK316.out NB316_337.out) NB316_0.out; replace HO328 := kR hk (IsS111.apart (IsS111.iS2 HI0.out NB0_316.out NB0_337.out) ((rF1 HO328.out BK337.out)) (by decide)); replace HO331 := kR hk (IsS111.apart (IsS111.iS2 HI0.out NB0_316.out NB0_337.out) ((rF1 HO331.out BK337.out)) (by decide)); replace HO334 := kR hk (IsS111.apart (IsS111.iS2 HI0.out NB0_316.out NB0_337.out) ((rF1 HO334.out BK337.out)) (by decide)); replace BK337 := kB hk (bO (p12 (bU BK337.out))) NB337_0.out; replace HK := aS (KeepBut.trans (kS2 HK.out GW316.out GW337.out) hk (.inl rfl)); replace HB := aS (hb); replace HI0 := aS (hi); clear hi hb hk; have hcz137 := cells12f BK337.out; have hnb138 := NB316_0.out; have hnc138 := NB0_316.out; have hcz139 := cells12f BK316.out))
       refine bodyPost_ret (results_cell_row rfl _ _ gb316 52 #[.int .i64 t317, .bool t318, .bool t319, .bool t320, .bool t321, .bool t322, .int .i64 t323, .string t324, .int .i64 t325, .slice Ao133 t326.length co133, .slice Ao134 t329.length co134, .slice Ao135 t332.length co135] (0, 0) _ rfl (by exact bO (p12 (bU BK316.out))) Tryd.underlying52 rfl jK) rfl ?_
       exact ⟨_, _, _, jE, by exact Kd.R_mono (rF1 HO328.out BK316.out) (fun _ hk => ⟨hk.1, hk.2⟩), by exact Kd.R_mono (rF1 HO331.out BK316.out) (fun _ hk => ⟨hk.1, hk.2⟩), by exact Kd.R_mono (rF1 HO334.out BK316.out) (fun _ hk => ⟨hk.1, hk.2⟩), by exact IsS111.iS2 HI0.out NB0_316.out NB0_337.out, by exact wS3 HB.out (IsS111.ge HI0.out) GE316.out GE337.out, by exact kS2 HK.out GW316.out GW337.out⟩

end Go.Proofs.YtdigilidomimdaaDoor.Pr
