-- Written for this claim by a program of this session (wip/tool/pr.py, over the kit's printer).
-- half
import Derived.Test.YtdigilidomimdaaDoorPrx0
import Derived.Test.YtdigilidomimdaaDoorPrx3
import Derived.Test.YtdigilidomimdaaDoorPrx4
import Derived.Test.YtdigilidomimdaaDoorPrx5
namespace Go.Proofs.YtdigilidomimdaaDoor.Pr
open Go.RowKit Go.Proofs.YtdigilidomimdaaDoorW.PrintWords Go.Proofs.YtdigilidomimdaaDoorW.PrintLast Go.Proofs.YtdigilidomimdaaDoorW.PrintMore
attribute [local go_sem] max2_int min2_int max_two min_two max_three min_three max_four min_four   -- for this text's walks alone
set_option linter.unusedVariables false
set_option linter.unusedSimpArgs false

/-! ### spec_DrawReplyTo: function 29 -/
def spec_DrawReplyTo.f (k : Nat) (l0 : List Int) : Option (Int × Bool × Bool × Bool × Bool × Bool × Int × ByteArray × Int × (List (S25)) × (List (S25)) × (List (S25)) × Int × Bool × (List (S25)) × (List (S25)) × (List (S25))) := (spec_l1New.f k l0).bind fun bt385 => ((spec_l7Any.f k bt385.1 bt385.2.1 bt385.2.2).bind fun bt389 => ((spec_l5List.f k bt385.1 bt389.2.2.2.2.2.2.2.2.2.2.2.2.1 bt389.2.2.2.2.2.2.2.2.2.2.2.2.2 2).bind fun bt410 => ((spec_l5List.f k bt385.1 bt410.2.1 bt410.2.2 2).bind fun bt415 => ((spec_l5List.f k bt385.1 bt415.2.1 bt415.2.2 2).bind fun bt420 => ((spec_l1Below.f bt385.1 bt420.2.1 bt420.2.2 6).bind fun bt425 => ((spec_l1Once.f bt385.1 bt425.2.1 bt425.2.2 2).bind fun bt428 => (some (bt389.1, bt389.2.1, bt389.2.2.1, bt389.2.2.2.1, bt389.2.2.2.2.1, bt389.2.2.2.2.2.1, bt389.2.2.2.2.2.2.1, bt389.2.2.2.2.2.2.2.1, bt389.2.2.2.2.2.2.2.2.1, bt389.2.2.2.2.2.2.2.2.2.1, bt389.2.2.2.2.2.2.2.2.2.2.1, bt389.2.2.2.2.2.2.2.2.2.2.2.1, bt425.1, bt428.1, bt410.1, bt415.1, bt420.1))))))))
theorem spec_DrawReplyTo.mono : ∀ a0 k, LeO (spec_DrawReplyTo.f k a0) (spec_DrawReplyTo.f (k + 1) a0) := by
 intro a0 k
 unfold spec_DrawReplyTo.f
 repeat' first
   | (with_reducible first | exact spec_l1New.mono _ _ | exact spec_l5List.mono _ _ _ _ _ | exact spec_l7Any.mono _ _ _ _ | exact LeO.refl _ | exact LeO.none _ | refine LeO.ite ?_ ?_ | refine LeO.bind ?_ (fun _ => ?_))
   | refine LeO.ite ?_ ?_
   | refine LeO.bind ?_ (fun _ => ?_)
def spec_DrawReplyTo.T6 : Bool × List (List Nat × List Nat) := (true, [([], []), ([], []), ([1], [1]), ([], []), ([3, 2], [3]), ([], []), ([], []), ([], []), ([0, 4, 0], [0]), ([2, 8, 0, 1, 2, 8], [2]), ([4, 9, 0, 1, 2, 3, 4, 8, 9], [4]), ([5, 10, 0, 1, 2, 3, 4, 5, 8, 9, 10], [5]), ([6, 11, 0, 1, 2, 3, 4, 5, 6, 8, 9, 10, 11], [6]), ([7, 12, 0, 1, 2, 3, 4, 5, 6, 7, 8, 9, 10, 11, 12], [7])])
def spec_DrawReplyTo.B6 : List Nat := [0, 0, 2, 0, 14, 0, 0, 0, 31, 287, 799, 1855, 3967, 8191]
theorem spec_DrawReplyTo.tab6 : rtab .any (opsOf Tryd.f29 6) = spec_DrawReplyTo.T6 := by kernel_rfl
theorem spec_DrawReplyTo.bits6 : waitsOk spec_DrawReplyTo.T6.2 spec_DrawReplyTo.B6 = true := by kernel_rfl
set_option maxHeartbeats 8000000 in
set_option maxRecDepth 100000 in
theorem spec_DrawReplyTo.calls (k : Nat) (A0 : Option Addr) (c0 : Nat) (l0 : List Int) (r1 : Int) (r2 : Bool) (r3 : Bool) (r4 : Bool) (r5 : Bool) (r6 : Bool) (r7 : Int) (r8 : ByteArray) (r9 : Int) (r10 : List (S25)) (r11 : List (S25)) (r12 : List (S25)) (r13 : Int) (r14 : Bool) (r15 : List (S25)) (r16 : List (S25)) (r17 : List (S25)) (w : World) (hr0 : Kd.C (Kd.int .u8) w A0 l0.length l0) (hc0 : l0.length ≤ c0) (h : spec_DrawReplyTo.f k l0 = some (r1, r2, r3, r4, r5, r6, r7, r8, r9, r10, r11, r12, r13, r14, r15, r16, r17)) :
  Calls Tryd.prog 29 #[.slice A0 l0.length c0] w fun e w' => ∃ v9_ v10_ v11_ v14_ v15_ v16_ : Value, e = .returned (.tuple #[.agg #[.int .i64 r1, .bool r2, .bool r3, .bool r4, .bool r5, .bool r6, .int .i64 r7, .string r8, .int .i64 r9, v9_, v10_, v11_], .int .i64 r13, .bool r14, v14_, v15_, v16_]) ∧ Kd.R k25 25 w' w.heap.size (fun k_ => some k_ ≠ (v10_ : Value).ownBlock ∧ some k_ ≠ (v11_ : Value).ownBlock ∧ some k_ ≠ (v14_ : Value).ownBlock ∧ some k_ ≠ (v15_ : Value).ownBlock ∧ some k_ ≠ (v16_ : Value).ownBlock) v9_ r10 ∧ Kd.R k25 25 w' w.heap.size (fun k_ => some k_ ≠ (v9_ : Value).ownBlock ∧ some k_ ≠ (v11_ : Value).ownBlock ∧ some k_ ≠ (v14_ : Value).ownBlock ∧ some k_ ≠ (v15_ : Value).ownBlock ∧ some k_ ≠ (v16_ : Value).ownBlock) v10_ r11 ∧ Kd.R k25 25 w' w.heap.size (fun k_ => some k_ ≠ (v9_ : Value).ownBlock ∧ some k_ ≠ (v10_ : Value).ownBlock ∧ some k_ ≠ (v14_ : Value).ownBlock ∧ some k_ ≠ (v15_ : Value).ownBlock ∧ some k_ ≠ (v16_ : Value).ownBlock) v11_ r12 ∧ Kd.R k25 25 w' w.heap.size (fun k_ => some k_ ≠ (v9_ : Value).ownBlock ∧ some k_ ≠ (v10_ : Value).ownBlock ∧ some k_ ≠ (v11_ : Value).ownBlock ∧ some k_ ≠ (v15_ : Value).ownBlock ∧ some k_ ≠ (v16_ : Value).ownBlock) v14_ r15 ∧ Kd.R k25 25 w' w.heap.size (fun k_ => some k_ ≠ (v9_ : Value).ownBlock ∧ some k_ ≠ (v10_ : Value).ownBlock ∧ some k_ ≠ (v11_ : Value).ownBlock ∧ some k_ ≠ (v14_ : Value).ownBlock ∧ some k_ ≠ (v16_ : Value).ownBlock) v15_ r16 ∧ Kd.R k25 25 w' w.heap.size (fun k_ => some k_ ≠ (v9_ : Value).ownBlock ∧ some k_ ≠ (v10_ : Value).ownBlock ∧ some k_ ≠ (v11_ : Value).ownBlock ∧ some k_ ≠ (v14_ : Value).ownBlock ∧ some k_ ≠ (v15_ : Value).ownBlock) v16_ r17 ∧ Below w.heap.size w w' := by
 have hu52 := Tryd.underlying52
 have HR0 := aS hr0
 have HC0 := aS hc0
 clear hr0 hc0
 have HB := aS (Below.refl w.heap.size w)
 have H := h
 unfold spec_DrawReplyTo.f at H
 clear h
 obtain ⟨⟨t385, t386, t387⟩, A2, H⟩ := bM H
 try dsimp only at H
 obtain ⟨⟨t389, t390, t391, t392, t393, t394, t395, t396, t397, t398, t401, t404, t407, t408⟩, A3, H⟩ := bM H
 try dsimp only at H
 obtain ⟨⟨t410, t413, t414⟩, A4, H⟩ := bM H
 try dsimp only at H
 obtain ⟨⟨t415, t418, t419⟩, A5, H⟩ := bM H
 try dsimp only at H
 obtain ⟨⟨t420, t423, t424⟩, A6, H⟩ := bM H
 try dsimp only at H
 obtain ⟨⟨t425, t426, t427⟩, A7, H⟩ := bM H
 try dsimp only at H
 obtain ⟨⟨t428, t429, t430⟩, A8, H⟩ := bM H
 try dsimp only at H
 simp only [Option.some.injEq, Prod.mk.injEq] at H
 obtain ⟨rfl, rfl, rfl, rfl, rfl, rfl, rfl, rfl, rfl, rfl, rfl, rfl, rfl, rfl, rfl, rfl, rfl⟩ := H
 go_enter Tryd.func29, Tryd.ntmps29
 try go_wp2_with (first | ((with_reducible refine gate_dst (N := 2) rfl ?_); refine xB 2 #[.int .i64 0, .bool false, .bool false, .bool false, .bool false, .bool false, .int .i64 0, .string (⟨#[]⟩ : ByteArray), .int .i64 0, .slice none 0 0, .slice none 0 0, .slice none 0 0] 52 ?_; intro gb384 hg w9 hbox hb; have BK384 := aS (hbox); have GW384 := gW hg (wU HB.out); have GE384 := gW hg (wU HB.out); replace HB := aS (below_step (wU HB.out) hb); clear hb hbox hg) | ((with_reducible refine gate_callee (f := 56) rfl ?_); refine gL (some 14) Tryd.func56 #[.slice A0 l0.length c0] ?_; (with_reducible refine (spec_l1New.calls k _ _ l0 t385 t386 t387 w _ ?side1 ?side2 ?side3 A2.out).mono ?_); (case side1 => exact wS1 HB.out GE384.out); (case side2 => exact HR0.out); (case side3 => exact HC0.out); rintro e w10 ⟨g388, rfl, hi, hb, hb2⟩; refine ⟨_, rfl, ?_⟩; replace HB := aS (hb); have HI388 := aS (hi); have NB388_384 := aS (IsS111.ne_blk hi (blk_below (bU BK384.out) hb2) (by decide)); have NB384_388 := aS (Ne.symm (IsS111.ne_blk hi (blk_below (bU BK384.out) hb2) (by decide))); replace BK384 := aS (blk_below (bU BK384.out) hb2); clear hi hb hb2) | ((with_reducible refine gate_callee (f := 89) rfl ?_); refine gL (some 16) Tryd.func89 #[.pointer (some ⟨g388, 0, none⟩)] ?_; (with_reducible refine (spec_l7Any.calls k g388 t385 t386 t387 t389 t390 t391 t392 t393 t394 t395 t396 t397 t398 t401 t404 t407 t408 w _ ?side1 ?side2 A3.out).mono ?_); (case side1 => exact IsS111.iS1 HI388.out NB388_384.out); (case side2 => exact wS2 HB.out (IsS111.ge HI388.out) GE384.out); rintro e w11 ⟨v399, v402, v405, rfl, ho0, ho1, ho2, hi, hb, hk⟩; refine ⟨_, rfl, ?_⟩; replace BK384 := kB hk (bU BK384.out) NB384_388.out; have HO400 := aS (Kd.R_lower ho0 (below_size (by exact wS2 HB.out (IsS111.ge HI388.out) GE384.out))); have HO403 := aS (Kd.R_lower ho1 (below_size (by exact wS2 HB.out (IsS111.ge HI388.out) GE384.out))); have HO406 := aS (Kd.R_lower ho2 (below_size (by exact wS2 HB.out (IsS111.ge HI388.out) GE384.out))); replace HB := aS (hb); replace HI388 := aS (hi); clear hi hb hk; (try clear ho0); (try clear ho1); (try clear ho2)) | ((with_reducible refine gate_dst (N := 9) rfl ?_); refine xB 9 #[.int .i64 0, .bool false, .bool false, .bool false, .bool false, .bool false, .int .i64 0, .string (⟨#[]⟩ : ByteArray), .int .i64 0, .slice none 0 0, .slice none 0 0, .slice none 0 0] 52 ?_; intro gb409 hg w12 hbox hb; replace HO400 := rB HO400 hb; replace HO403 := rB HO403 hb; replace HO406 := rB HO406 hb; have BK409 := aS (hbox); have GW409 := gW hg (wS2 HB.out (IsS111.ge HI388.out) GE384.out); have GE409 := gW hg (wS2 HB.out (IsS111.ge HI388.out) GE384.out); replace HB := aS (below_step (by exact wS2 HB.out (IsS111.ge HI388.out) GE384.out) hb); have NB384_409 := nB hg BK384; have NB409_384 := nS NB384_409; replace BK384 := bB BK384 hb; have NB388_409 := aS ((by rw [hg]; exact Nat.ne_of_lt (IsS111.lt (show IsS111 w _ g388 t385 t407 t408 from by exact IsS111.iS1 HI388.out NB388_384.out)) : g388 ≠ gb409)); have NB409_388 := aS ((by rw [hg]; exact Nat.ne_of_gt (IsS111.lt (show IsS111 w _ g388 t385 t407 t408 from by exact IsS111.iS1 HI388.out NB388_384.out)) : gb409 ≠ g388)); replace HI388 := aS (IsS111.below (IsS111.iS1 HI388.out NB388_384.out) hb); clear hb hbox hg; have hnb13 := NB409_384.out; have hnc13 := NB384_409.out; have hnb14 := NB409_388.out; have hnc14 := NB388_409.out; have hcz15 := cells12f BK409.out; obtain ⟨Ao16, co16, eo16⟩ := Kd.R_slice HO400.out; subst eo16; obtain ⟨Ao17, co17, eo17⟩ := Kd.R_slice HO403.out; subst eo17; obtain ⟨Ao18, co18, eo18⟩ := Kd.R_slice HO406.out; subst eo18) | ((with_reducible refine gate_callee (f := 75) rfl ?_); refine gL (some 18) Tryd.func75 #[.pointer (some ⟨g388, 0, none⟩), .int .i64 2] ?_; (with_reducible refine (spec_l5List.calls k g388 t385 t407 t408 2 t410 t413 t414 w _ ?side1 ?side2 A4.out).mono ?_); (case side1 => exact IsS111.iS2 HI388.out NB388_384.out NB388_409.out); (case side2 => exact wS3 HB.out (IsS111.ge HI388.out) GE384.out GE409.out); rintro e w19 ⟨v411, rfl, ho0, hi, hb, hk⟩; refine ⟨_, rfl, ?_⟩; replace BK384 := kB hk (bF1 BK384.out NB384_409.out) NB384_388.out; have HO412 := aS (Kd.R_lower (Kd.R_new' (Kd.R_new' (Kd.R_new' ho0 (Kd.R_lt (by exact (rF1 HO400.out BK409.out)))) (Kd.R_lt (by exact (rF1 HO403.out BK409.out)))) (Kd.R_lt (by exact (rF1 HO406.out BK409.out)))) (below_size (by exact wS3 HB.out (IsS111.ge HI388.out) GE384.out GE409.out))); replace HO400 := aS (Kd.R_mono (Kd.R_told (Kd.R_oldK (IsS111.apart (show IsS111 w _ g388 t385 t407 t408 from by exact IsS111.iS2 HI388.out NB388_384.out NB388_409.out) (by exact (rF1 HO400.out BK409.out)) (by decide)) hk) (Kd.R_base ho0)) (fun _ h_ => h_.1)); replace HO403 := aS (Kd.R_mono (Kd.R_told (Kd.R_oldK (IsS111.apart (show IsS111 w _ g388 t385 t407 t408 from by exact IsS111.iS2 HI388.out NB388_384.out NB388_409.out) (by exact (rF1 HO403.out BK409.out)) (by decide)) hk) (Kd.R_base ho0)) (fun _ h_ => h_.1)); replace HO406 := aS (Kd.R_mono (Kd.R_told (Kd.R_oldK (IsS111.apart (show IsS111 w _ g388 t385 t407 t408 from by exact IsS111.iS2 HI388.out NB388_384.out NB388_409.out) (by exact (rF1 HO406.out BK409.out)) (by decide)) hk) (Kd.R_base ho0)) (fun _ h_ => h_.1)); replace BK409 := kB hk (bO (p12 (bU BK409.out))) NB409_388.out; replace HB := aS (hb); replace HI388 := aS (hi); clear hi hb hk; (try clear ho0)) | ((with_reducible refine gate_callee (f := 75) rfl ?_); refine gL (some 20) Tryd.func75 #[.pointer (some ⟨g388, 0, none⟩), .int .i64 2] ?_; (with_reducible refine (spec_l5List.calls k g388 t385 t413 t414 2 t415 t418 t419 w _ ?side1 ?side2 A5.out).mono ?_); (case side1 => exact IsS111.iS2 HI388.out NB388_384.out NB388_409.out); (case side2 => exact wS3 HB.out (IsS111.ge HI388.out) GE384.out GE409.out); rintro e w20 ⟨v416, rfl, ho0, hi, hb, hk⟩; refine ⟨_, rfl, ?_⟩; replace BK384 := kB hk (bU BK384.out) NB384_388.out; replace BK409 := kB hk (bU BK409.out) NB409_388.out; have HO417 := aS (Kd.R_lower (Kd.R_new' (Kd.R_new' (Kd.R_new' (Kd.R_new' ho0 (Kd.R_lt (rU HO400.out))) (Kd.R_lt (rU HO403.out))) (Kd.R_lt (rU HO406.out))) (Kd.R_lt (rU HO412.out))) (below_size (by exact wS3 HB.out (IsS111.ge HI388.out) GE384.out GE409.out))); replace HO400 := aS (Kd.R_mono (Kd.R_told (Kd.R_oldK (IsS111.apart (show IsS111 w _ g388 t385 t413 t414 from by exact IsS111.iS2 HI388.out NB388_384.out NB388_409.out) (rU HO400.out) (by decide)) hk) (Kd.R_base ho0)) (fun _ h_ => h_.1)); replace HO403 := aS (Kd.R_mono (Kd.R_told (Kd.R_oldK (IsS111.apart (show IsS111 w _ g388 t385 t413 t414 from by exact IsS111.iS2 HI388.out NB388_384.out NB388_409.out) (rU HO403.out) (by decide)) hk) (Kd.R_base ho0)) (fun _ h_ => h_.1)); replace HO406 := aS (Kd.R_mono (Kd.R_told (Kd.R_oldK (IsS111.apart (show IsS111 w _ g388 t385 t413 t414 from by exact IsS111.iS2 HI388.out NB388_384.out NB388_409.out) (rU HO406.out) (by decide)) hk) (Kd.R_base ho0)) (fun _ h_ => h_.1)); replace HO412 := aS (Kd.R_mono (Kd.R_told (Kd.R_oldK (IsS111.apart (show IsS111 w _ g388 t385 t413 t414 from by exact IsS111.iS2 HI388.out NB388_384.out NB388_409.out) (rU HO412.out) (by decide)) hk) (Kd.R_base ho0)) (fun _ h_ => h_.1)); replace HB := aS (hb); replace HI388 := aS (hi); clear hi hb hk; (try clear ho0)) | ((with_reducible refine gate_callee (f := 75) rfl ?_); refine gL (some 22) Tryd.func75 #[.pointer (some ⟨g388, 0, none⟩), .int .i64 2] ?_; (with_reducible refine (spec_l5List.calls k g388 t385 t418 t419 2 t420 t423 t424 w _ ?side1 ?side2 A6.out).mono ?_); (case side1 => exact IsS111.iS2 HI388.out NB388_384.out NB388_409.out); (case side2 => exact wS3 HB.out (IsS111.ge HI388.out) GE384.out GE409.out); rintro e w21 ⟨v421, rfl, ho0, hi, hb, hk⟩; refine ⟨_, rfl, ?_⟩; replace BK384 := kB hk (bU BK384.out) NB384_388.out; replace BK409 := kB hk (bU BK409.out) NB409_388.out; have HO422 := aS (Kd.R_lower (Kd.R_new' (Kd.R_new' (Kd.R_new' (Kd.R_new' (Kd.R_new' ho0 (Kd.R_lt (rU HO400.out))) (Kd.R_lt (rU HO403.out))) (Kd.R_lt (rU HO406.out))) (Kd.R_lt (rU HO412.out))) (Kd.R_lt (rU HO417.out))) (below_size (by exact wS3 HB.out (IsS111.ge HI388.out) GE384.out GE409.out))); replace HO400 := aS (Kd.R_mono (Kd.R_told (Kd.R_oldK (IsS111.apart (show IsS111 w _ g388 t385 t418 t419 from by exact IsS111.iS2 HI388.out NB388_384.out NB388_409.out) (rU HO400.out) (by decide)) hk) (Kd.R_base ho0)) (fun _ h_ => h_.1)); replace HO403 := aS (Kd.R_mono (Kd.R_told (Kd.R_oldK (IsS111.apart (show IsS111 w _ g388 t385 t418 t419 from by exact IsS111.iS2 HI388.out NB388_384.out NB388_409.out) (rU HO403.out) (by decide)) hk) (Kd.R_base ho0)) (fun _ h_ => h_.1)); replace HO406 := aS (Kd.R_mono (Kd.R_told (Kd.R_oldK (IsS111.apart (show IsS111 w _ g388 t385 t418 t419 from by exact IsS111.iS2 HI388.out NB388_384.out NB388_409.out) (rU HO406.out) (by decide)) hk) (Kd.R_base ho0)) (fun _ h_ => h_.1)); replace HO412 := aS (Kd.R_mono (Kd.R_told (Kd.R_oldK (IsS111.apart (show IsS111 w _ g388 t385 t418 t419 from by exact IsS111.iS2 HI388.out NB388_384.out NB388_409.out) (rU HO412.out) (by decide)) hk) (Kd.R_base ho0)) (fun _ h_ => h_.1)); replace HO417 := aS (Kd.R_mono (Kd.R_told (Kd.R_oldK (IsS111.apart (show IsS111 w _ g388 t385 t418 t419 from by exact IsS111.iS2 HI388.out NB388_384.out NB388_409.out) (rU HO417.out) (by decide)) hk) (Kd.R_base ho0)) (fun _ h_ => h_.1)); replace HB := aS (hb); replace HI388 := aS (hi); clear hi hb hk; (try clear ho0)))
 replace HO400 := aS (Kd.R_drew HO400.out)
 replace HO403 := aS (Kd.R_drew HO403.out)
 replace HO406 := aS (Kd.R_drew HO406.out)
 replace HO412 := aS (Kd.R_drew HO412.out)
 replace HO417 := aS (Kd.R_drew HO417.out)
 replace HO422 := aS (Kd.R_drew HO422.out)
 replace BK384 := aS (blk_drew BK384.out)
 replace BK409 := aS (blk_drew BK409.out)
 replace HI388 := aS (IsS111.drew HI388.out)
 replace HB := aS (below_drew1 HB.out)
 refine start_ (n := 14) (S := fun w' => w'.cell? ⟨gb409, 0, none⟩ = some (.int .i64 t389) ∧ w'.cell? ⟨gb409, 1, none⟩ = some (.bool t390) ∧ w'.cell? ⟨gb409, 2, none⟩ = some (.bool t391) ∧ w'.cell? ⟨gb409, 3, none⟩ = some (.bool t392) ∧ w'.cell? ⟨gb409, 4, none⟩ = some (.bool t393) ∧ w'.cell? ⟨gb409, 5, none⟩ = some (.bool t394) ∧ w'.cell? ⟨gb409, 6, none⟩ = some (.int .i64 t395) ∧ w'.cell? ⟨gb409, 7, none⟩ = some (.string t396) ∧ w'.cell? ⟨gb409, 8, none⟩ = some (.int .i64 t397) ∧ w'.cell? ⟨gb409, 9, none⟩ = some (.slice Ao16 t398.length co16) ∧ w'.cell? ⟨gb409, 10, none⟩ = some (.slice Ao17 t401.length co17) ∧ w'.cell? ⟨gb409, 11, none⟩ = some (.slice Ao18 t404.length co18)) (ds := []) #[false, false, false, false, false, false, false, false, false, false, false, false, false, false] jK rfl rfl (c12 BK409.out) (fun hHeld => ?_); refine with_tabW spec_DrawReplyTo.tab6 spec_DrawReplyTo.bits6 (fun HT_ HW_ => ?_)
 generalize w21.drew = w22 at HO400 HO403 HO406 HO412 HO417 HO422 BK384 BK409 HI388 HB hHeld ⊢
 refine pA HT_ 1 (some 24) #[false, true, false, false, false, false, false, false, false, false, false, false, false, false] ?_
 refine pA HT_ 3 (some 26) #[false, true, false, true, false, false, false, false, false, false, false, false, false, false] ?_
 refine pA HT_ 5 (some 28) #[false, true, false, true, false, true, false, false, false, false, false, false, false, false] ?_
 refine pA HT_ 6 (some 29) #[false, true, false, true, false, true, true, false, false, false, false, false, false, false] ?_
 refine pA HT_ 7 (some 30) #[false, true, false, true, false, true, true, true, false, false, false, false, false, false] ?_
 refine tA HT_ HW_ hHeld 0 (some 23) #[true, true, false, true, false, true, true, true, false, false, false, false, false, false] ?_
 refine one_ (i := 2) (N := some 25) #[true, true, true, true, false, true, true, true, false, false, false, false, false, false] rfl rfl (one_of HT_.out jK) (by decide) (fun K hK => ?_)
 refine goes_ Tryd.func78 jK rfl #[.pointer (some ⟨g388, 0, none⟩), .int .i64 6] (by rfl) rfl rfl jA ?_
 with_reducible refine (spec_l1Below.calls g388 t385 t423 t424 6 t425 t426 t427 w _ ?side1 ?side2 A7.out).mono ?_
 (case side1 => exact IsS111.iS2 HI388.out NB388_384.out NB388_409.out)
 (case side2 => exact wS3 HB.out (IsS111.ge HI388.out) GE384.out GE409.out)
 rintro e w23 ⟨rfl, hi, hb, hk⟩
 refine ⟨_, rfl, ?_⟩
 replace BK384 := kB hk (bU BK384.out) NB384_388.out
 replace HO400 := kR hk (IsS111.apart (IsS111.iS2 HI388.out NB388_384.out NB388_409.out) (rU HO400.out) (by decide))
 replace HO403 := kR hk (IsS111.apart (IsS111.iS2 HI388.out NB388_384.out NB388_409.out) (rU HO403.out) (by decide))
 replace HO406 := kR hk (IsS111.apart (IsS111.iS2 HI388.out NB388_384.out NB388_409.out) (rU HO406.out) (by decide))
 replace BK409 := kB hk (bU BK409.out) NB409_388.out
 replace HO412 := kR hk (IsS111.apart (IsS111.iS2 HI388.out NB388_384.out NB388_409.out) (rU HO412.out) (by decide))
 replace HO417 := kR hk (IsS111.apart (IsS111.iS2 HI388.out NB388_384.out NB388_409.out) (rU HO417.out) (by decide))
 replace HO422 := kR hk (IsS111.apart (IsS111.iS2 HI388.out NB388_384.out NB388_409.out) (rU HO422.out) (by decide))
 replace HB := aS (hb)
 replace HI388 := aS (hi)
 (try clear hb)
 (try clear hb2)
 (try clear hk)
 (try clear hi)
 refine hK.out _ _ (c12 BK409.out) (fun hHeld => ?_)
 clear hK K
 refine nA (some 25) ?_
 refine one_ (i := 4) (N := some 27) (tf 8 6) rfl rfl (one_of HT_.out jK) (by decide) (fun K hK => ?_)
 refine goes_ Tryd.func76 jK rfl #[.pointer (some ⟨g388, 0, none⟩), .int .i64 2] (by rfl) rfl rfl jA ?_
 with_reducible refine (spec_l1Once.calls g388 t385 t426 t427 2 t428 t429 t430 w _ ?side1 ?side2 A8.out).mono ?_
 (case side1 => exact IsS111.iS2 HI388.out NB388_384.out NB388_409.out)
 (case side2 => exact wS3 HB.out (IsS111.ge HI388.out) GE384.out GE409.out)
 rintro e w24 ⟨rfl, hi, hb, hk⟩
 refine ⟨_, rfl, ?_⟩
 replace BK384 := kB hk (bU BK384.out) NB384_388.out
 replace HO400 := kR hk (IsS111.apart (IsS111.iS2 HI388.out NB388_384.out NB388_409.out) (rU HO400.out) (by decide))
 replace HO403 := kR hk (IsS111.apart (IsS111.iS2 HI388.out NB388_384.out NB388_409.out) (rU HO403.out) (by decide))
 replace HO406 := kR hk (IsS111.apart (IsS111.iS2 HI388.out NB388_384.out NB388_409.out) (rU HO406.out) (by decide))
 replace BK409 := kB hk (bU BK409.out) NB409_388.out
 replace HO412 := kR hk (IsS111.apart (IsS111.iS2 HI388.out NB388_384.out NB388_409.out) (rU HO412.out) (by decide))
 replace HO417 := kR hk (IsS111.apart (IsS111.iS2 HI388.out NB388_384.out NB388_409.out) (rU HO417.out) (by decide))
 replace HO422 := kR hk (IsS111.apart (IsS111.iS2 HI388.out NB388_384.out NB388_409.out) (rU HO422.out) (by decide))
 replace HB := aS (hb)
 replace HI388 := aS (hi)
 (try clear hb)
 (try clear hb2)
 (try clear hk)
 (try clear hi)
 refine hK.out _ _ (c12 BK409.out) (fun hHeld => ?_)
 clear hK K
 refine nA (some 27) ?_
 refine one_ (i := 8) (N := none) (tf 9 5) rfl rfl (one_of HT_.out jK) (by decide) (fun K hK => ?_)
 have hcz25 := cells12f BK384.out
 have hns25_1 := NB409_384.out
 have hms25_1 := NB384_409.out
 with_reducible refine skip_ (w1 := ?_) ?_ ?_ ?_ ?_
 rotate_left
 ·rfl
 ·rfl
 ·go_simp
  rfl
 refine hK.out _ _ ⟨(cS1 hHeld.1 NB409_384.out), (cS1 hHeld.2.1 NB409_384.out), (cS1 hHeld.2.2.1 NB409_384.out), (cS1 hHeld.2.2.2.1 NB409_384.out), (cS1 hHeld.2.2.2.2.1 NB409_384.out), (cS1 hHeld.2.2.2.2.2.1 NB409_384.out), (cS1 hHeld.2.2.2.2.2.2.1 NB409_384.out), (cS1 hHeld.2.2.2.2.2.2.2.1 NB409_384.out), (cS1 hHeld.2.2.2.2.2.2.2.2.1 NB409_384.out), (cS1 hHeld.2.2.2.2.2.2.2.2.2.1 NB409_384.out), (cS1 hHeld.2.2.2.2.2.2.2.2.2.2.1 NB409_384.out), (cS1 hHeld.2.2.2.2.2.2.2.2.2.2.2 NB409_384.out)⟩ (fun hHeld => ?_)
 clear hK K
 refine pA HT_ 9 (some 3) (tf 10 4) ?_
 refine pA HT_ 10 (some 4) (tf 11 3) ?_
 refine pA HT_ 11 (some 5) (tf 12 2) ?_
 refine pA HT_ 12 (some 6) (tf 13 1) ?_
 refine pA HT_ 13 (some 7) (tf 14 0) ?_
 refine done_ (done_of HT_.out jK) ?_
 try go_wp2
 refine bodyPost_ret (results_list (rs := [.cell 2 52, .tmp 3, .tmp 4, .tmp 5, .tmp 6, .tmp 7]) rfl (by simp) (.cell gb384 52 #[.int .i64 t389, .bool t390, .bool t391, .bool t392, .bool t393, .bool t394, .int .i64 t395, .string t396, .int .i64 t397, .slice Ao16 t398.length co16, .slice Ao17 t401.length co17, .slice Ao18 t404.length co18] (0, 0) _ rfl (by exact bO (p12 (bU BK384.out))) Tryd.underlying52 rfl jK (.tmp (.tmp (.tmp (.tmp (.tmp .nil))))))) rfl ?_
 exact ⟨_, _, _, _, _, _, jE, by exact Kd.R_mono (rF1 HO400.out BK384.out) (fun _ hk => ⟨hk.1.1.1.1, ⟨hk.1.1.1.2, ⟨hk.1.1.2, ⟨hk.1.2, hk.2⟩⟩⟩⟩), by exact Kd.R_mono (rF1 HO403.out BK384.out) (fun _ hk => ⟨hk.1.1.1.1, ⟨hk.1.1.1.2, ⟨hk.1.1.2, ⟨hk.1.2, hk.2⟩⟩⟩⟩), by exact Kd.R_mono (rF1 HO406.out BK384.out) (fun _ hk => ⟨hk.1.1.1.1, ⟨hk.1.1.1.2, ⟨hk.1.1.2, ⟨hk.1.2, hk.2⟩⟩⟩⟩), by exact Kd.R_mono (rF1 HO412.out BK384.out) (fun _ hk => ⟨hk.1.1.1.1.2, ⟨hk.1.1.1.2, ⟨hk.1.1.2, ⟨hk.1.2, hk.2⟩⟩⟩⟩), by exact Kd.R_mono (rF1 HO417.out BK384.out) (fun _ hk => ⟨hk.1.1.1.1.2, ⟨hk.1.1.1.2, ⟨hk.1.1.2, ⟨hk.1.2, hk.2⟩⟩⟩⟩), by exact Kd.R_mono (rF1 HO422.out BK384.out) (fun _ hk => ⟨hk.1.1.1.1.2, ⟨hk.1.1.1.2, ⟨hk.1.1.2, ⟨hk.1.2, hk.2⟩⟩⟩⟩), by exact wS3 HB.out (IsS111.ge HI388.out) GE384.out GE409.out⟩

/-! ### slices_Clone_impl_Record: function 105 -/
def slices_Clone_impl_Record.f (l0 : List (S25)) : Option ((List (S25))) := (some (([] : List (S25)) : List (S25))).bind fun y431 => (if y431.length + l0.length < 1954687338268 then (some (y431 ++ l0)) else (none))
set_option maxHeartbeats 8000000 in
set_option maxRecDepth 100000 in
theorem slices_Clone_impl_Record.calls (A0 : Option Addr) (c0 : Nat) (l0 : List (S25)) (r : List (S25)) (w : World) (hr0 : Kd.C k25 w A0 l0.length l0) (hc0 : l0.length ≤ c0) (h : slices_Clone_impl_Record.f l0 = some r) :
  Calls Tryd.prog 105 #[.slice A0 l0.length c0] w fun e w' => ∃ v0_ : Value, e = .returned (v0_) ∧ Kd.R k25 25 w' w.heap.size (fun _ => True) v0_ r ∧ Below w.heap.size w w' := by
 obtain rfl | ⟨adn_, rfl⟩ : A0 = none ∨ ∃ ad, A0 = some ad := by cases A0 <;> simp
 ·obtain rfl : l0 = [] := X.C_none_nil hr0
  simp [slices_Clone_impl_Record.f] at h
  subst h
  have hnil_ : ∀ (w : World) (a : Option Addr) (n c n' c' : Nat), (binOp .eql 36 (.slice a n c) (.slice none n' c')).run Tryd.prog w = .ok (.bool a.isNone) w := fun w a n c n' c' => Lib.run_eql_slice_nil w _ _ a n c n' c' Tryd.underlying36
  go_enter Tryd.func105, Tryd.ntmps105
  go_wp2
  go_ret
  exact ⟨_, rfl, Kd.R_nil _ _ _ _ _, Below.refl _ _⟩
 have hnil_ : ∀ (w : World) (a : Option Addr) (n c n' c' : Nat), (binOp .eql 36 (.slice a n c) (.slice none n' c')).run Tryd.prog w = .ok (.bool a.isNone) w := fun w a n c n' c' => Lib.run_eql_slice_nil w _ _ a n c n' c' Tryd.underlying36
 have HR0 := aS hr0
 have HC0 := aS hc0
 clear hr0 hc0
 have HB := aS (Below.refl w.heap.size w)
 have H := h
 unfold slices_Clone_impl_Record.f at H
 clear h
 obtain ⟨y431, hy_⟩ : ∃ y_ : List (S25), y_ = (([] : List (S25))) := ⟨_, rfl⟩
 replace H : (if y431.length + l0.length < 1954687338268 then (some (y431 ++ l0)) else (none)) = some r := jD
 have Ny431 := aS hy_
 clear hy_
 by_cases c2 : y431.length + l0.length < 1954687338268
 ·rw [if_pos c2] at H
  have LMc2 := aS c2
  clear c2
  obtain ⟨y434, hy_⟩ : ∃ y_ : List (S25), y_ = (y431 ++ l0) := ⟨_, rfl⟩
  replace H : (some y434) = some r := jD
  have Ny434 := aS hy_
  clear hy_
  obtain rfl := Option.some.inj H
  go_enter Tryd.func105, Tryd.ntmps105
  go_wp2_with (first | ((with_reducible refine gate_dst (N := 5) rfl ?_); refine Kd.R_lit k25 _ 25 ?hg (N := 5) ?hd (xs := ([] : List (S25))) (inner := []) (ok := fun _ => True) (okp := fun _ => True) ?hr ?hp (fun _ hk => hk) trivial (Below.refl _ _) (Nat.le_refl _) (by simp) ?_; (case hd => rfl); (case hg => rfl); (case hr => first | (go_simp; done) | (go_simp; rfl)); (case hp => exact (Reps.none _ _)); intro v432 w3 ho4 hb hg_ hnew_; clear hg_ hnew_; (first | rw [← Ny431.out] at ho4 | (simp only [Int.reduceToNat] at ho4; rw [← Ny431.out] at ho4)); have HO433 := aS (Kd.R_lower ho4 (below_size (wU HB.out))); replace HB := aS (below_step (wU HB.out) hb); clear hb ho4) | ((with_reducible refine gate_builtin (b := .append) (xs := #[.tmp 5, .tmp 6]) rfl ?_); at_builtin; refine Kd.R_append_rows k25 (w0 := w) w.heap.size rfl (.tmp 5) (.tmp 6) 36 25 (.agg #[(.string ⟨#[]⟩), (.int .i64 0), (.int .i64 0), (.int .i64 0), (.string ⟨#[]⟩), (.string ⟨#[]⟩)]) 72 rfl Tryd.underlying36 info25 rfl (by decide) (by omega) v432 y431 l0 _ _ _ (fun _ => True) (fun _ => False) rfl rfl ?aO ?aR (fun _ _ h => h) (fun _ h => h.elim) ?aF ?aB ?aS ?aL ?_; (case aR => exact cU ((Kd.C_below HR0.out HB.out))); (case aB => exact (wU HB.out)); (case aF => exact (fun _ _ => trivial)); (case aO => exact (rU HO433.out)); (case aS => exact (below_size (wU HB.out))); (case aL => have := LMc2.out; omega); intro v435 w5 ho hb hg hat; rw [← Ny434.out] at ho; replace HB := aS (hb); have HO436 := aS (ho); clear HO433; clear ho hb hg hat))
  go_ret
  exact ⟨_, jE, by exact rU HO436.out, by exact wU HB.out⟩
 ·rw [if_neg c2] at H
  exact absurd H (by simp)

/-! ### impl_copyMsg: function 90 -/
def impl_copyMsg.f (a0_0 : Int) (a0_1 : Bool) (a0_2 : Bool) (a0_3 : Bool) (a0_4 : Bool) (a0_5 : Bool) (a0_6 : Int) (a0_7 : ByteArray) (a0_8 : Int) (l0_9 : List (S25)) (l0_10 : List (S25)) (l0_11 : List (S25)) : Option (Int × Bool × Bool × Bool × Bool × Bool × Int × ByteArray × Int × (List (S25)) × (List (S25)) × (List (S25))) := (slices_Clone_impl_Record.f l0_9).bind fun t439 => ((slices_Clone_impl_Record.f l0_10).bind fun t442 => ((slices_Clone_impl_Record.f l0_11).bind fun t445 => (some (a0_0, a0_1, a0_2, a0_3, a0_4, a0_5, a0_6, a0_7, a0_8, t439, t442, t445))))
set_option maxHeartbeats 8000000 in
set_option maxRecDepth 100000 in
theorem impl_copyMsg.calls (a0_0 : Int) (a0_1 : Bool) (a0_2 : Bool) (a0_3 : Bool) (a0_4 : Bool) (a0_5 : Bool) (a0_6 : Int) (a0_7 : ByteArray) (a0_8 : Int) (A0_9 : Option Addr) (c0_9 : Nat) (l0_9 : List (S25)) (A0_10 : Option Addr) (c0_10 : Nat) (l0_10 : List (S25)) (A0_11 : Option Addr) (c0_11 : Nat) (l0_11 : List (S25)) (r1 : Int) (r2 : Bool) (r3 : Bool) (r4 : Bool) (r5 : Bool) (r6 : Bool) (r7 : Int) (r8 : ByteArray) (r9 : Int) (r10 : List (S25)) (r11 : List (S25)) (r12 : List (S25)) (w : World) (hr0_9 : Kd.C k25 w A0_9 l0_9.length l0_9) (hc0_9 : l0_9.length ≤ c0_9) (hr0_10 : Kd.C k25 w A0_10 l0_10.length l0_10) (hc0_10 : l0_10.length ≤ c0_10) (hr0_11 : Kd.C k25 w A0_11 l0_11.length l0_11) (hc0_11 : l0_11.length ≤ c0_11) (h : impl_copyMsg.f a0_0 a0_1 a0_2 a0_3 a0_4 a0_5 a0_6 a0_7 a0_8 l0_9 l0_10 l0_11 = some (r1, r2, r3, r4, r5, r6, r7, r8, r9, r10, r11, r12)) :
  Calls Tryd.prog 90 #[.agg #[.int .i64 a0_0, .bool a0_1, .bool a0_2, .bool a0_3, .bool a0_4, .bool a0_5, .int .i64 a0_6, .string a0_7, .int .i64 a0_8, .slice A0_9 l0_9.length c0_9, .slice A0_10 l0_10.length c0_10, .slice A0_11 l0_11.length c0_11]] w fun e w' => ∃ v9_ v10_ v11_ : Value, e = .returned (.agg #[.int .i64 r1, .bool r2, .bool r3, .bool r4, .bool r5, .bool r6, .int .i64 r7, .string r8, .int .i64 r9, v9_, v10_, v11_]) ∧ Kd.R k25 25 w' w.heap.size (fun k_ => some k_ ≠ (v10_ : Value).ownBlock ∧ some k_ ≠ (v11_ : Value).ownBlock) v9_ r10 ∧ Kd.R k25 25 w' w.heap.size (fun k_ => some k_ ≠ (v9_ : Value).ownBlock ∧ some k_ ≠ (v11_ : Value).ownBlock) v10_ r11 ∧ Kd.R k25 25 w' w.heap.size (fun k_ => some k_ ≠ (v9_ : Value).ownBlock ∧ some k_ ≠ (v10_ : Value).ownBlock) v11_ r12 ∧ Below w.heap.size w w' := by
 have hu52 := Tryd.underlying52
 have HR0_9 := aS hr0_9
 have HC0_9 := aS hc0_9
 clear hr0_9 hc0_9
 have HR0_10 := aS hr0_10
 have HC0_10 := aS hc0_10
 clear hr0_10 hc0_10
 have HR0_11 := aS hr0_11
 have HC0_11 := aS hc0_11
 clear hr0_11 hc0_11
 have HB := aS (Below.refl w.heap.size w)
 have H := h
 unfold impl_copyMsg.f at H
 clear h
 obtain ⟨t439, A2, H⟩ := bM H
 try dsimp only at H
 obtain ⟨t442, A3, H⟩ := bM H
 try dsimp only at H
 obtain ⟨t445, A4, H⟩ := bM H
 try dsimp only at H
 simp only [Option.some.injEq, Prod.mk.injEq] at H
 obtain ⟨rfl, rfl, rfl, rfl, rfl, rfl, rfl, rfl, rfl, rfl, rfl, rfl⟩ := H
 go_enter Tryd.func90, Tryd.ntmps90
 go_wp2_with (first | ((with_reducible refine gate_dst (N := 1) rfl ?_); refine xB 1 #[.int .i64 a0_0, .bool a0_1, .bool a0_2, .bool a0_3, .bool a0_4, .bool a0_5, .int .i64 a0_6, .string a0_7, .int .i64 a0_8, .slice A0_9 l0_9.length c0_9, .slice A0_10 l0_10.length c0_10, .slice A0_11 l0_11.length c0_11] 52 ?_; intro gb437 hg w5 hbox hb; have BK437 := aS (hbox); have GW437 := gW hg (wU HB.out); have GE437 := gW hg (wU HB.out); replace HB := aS (below_step (wU HB.out) hb); clear hb hbox hg) | ((with_reducible refine gate_dst (N := 2) rfl ?_); refine xB 2 #[.int .i64 0, .bool false, .bool false, .bool false, .bool false, .bool false, .int .i64 0, .string (⟨#[]⟩ : ByteArray), .int .i64 0, .slice none 0 0, .slice none 0 0, .slice none 0 0] 52 ?_; intro gb438 hg w6 hbox hb; have BK438 := aS (hbox); have GW438 := gW hg (wS1 HB.out GE437.out); have GE438 := gW hg (wS1 HB.out GE437.out); replace HB := aS (below_step (wS1 HB.out GE437.out) hb); have NB437_438 := nB hg BK437; have NB438_437 := nS NB437_438; replace BK437 := bB BK437 hb; clear hb hbox hg; have hnb7 := NB437_438.out; have hnc7 := NB438_437.out; have hcz8 := cells12f BK437.out) | ((with_reducible refine gate_callee (f := 105) rfl ?_); refine gL (some 5) Tryd.func105 #[.slice A0_9 l0_9.length c0_9] ?_; (with_reducible refine (slices_Clone_impl_Record.calls _ _ l0_9 t439 _ ?side1 ?side2 A2.out).mono ?_); (case side1 => exact cU ((Kd.C_below HR0_9.out HB.out))); (case side2 => exact HC0_9.out); rintro e w9 ⟨v440, rfl, ho0, hb⟩; refine ⟨_, rfl, ?_⟩; have HO441 := aS (Kd.R_lower ho0 (below_size (wS2 HB.out GE437.out GE438.out))); replace BK437 := bB BK437 hb; replace BK438 := bB BK438 hb; replace HB := aS (below_step (wS2 HB.out GE437.out GE438.out) hb); clear hb; (try clear ho0); obtain ⟨Ao10, co10, eo10⟩ := Kd.R_slice HO441.out; subst eo10; have hcz11 := cells12f BK437.out) | ((with_reducible refine gate_callee (f := 105) rfl ?_); refine gL (some 9) Tryd.func105 #[.slice A0_10 l0_10.length c0_10] ?_; (with_reducible refine (slices_Clone_impl_Record.calls _ _ l0_10 t442 _ ?side1 ?side2 A3.out).mono ?_); (case side1 => exact Kd.C_below HR0_10.out (wS2 HB.out GE437.out GE438.out)); (case side2 => exact HC0_10.out); rintro e w12 ⟨v443, rfl, ho0, hb⟩; refine ⟨_, rfl, ?_⟩; have HO444 := aS (Kd.R_lower (Kd.R_new' ho0 (Kd.R_lt (by exact (rF1 HO441.out BK437.out)))) (below_size (wS2 HB.out GE437.out GE438.out))); replace HO441 := aS (Kd.R_elder' (by exact (rF1 HO441.out BK437.out)) (Kd.R_base ho0) hb); replace BK437 := aS (blk_below (g := gb437) (o := .cells #[.int .i64 a0_0, .bool a0_1, .bool a0_2, .bool a0_3, .bool a0_4, .bool a0_5, .int .i64 a0_6, .string a0_7, .int .i64 a0_8, .slice Ao10 t439.length co10, .slice A0_10 l0_10.length c0_10, .slice A0_11 l0_11.length c0_11] 52 (0, 0)) (by (with_reducible repeat (first | refine blk_drewN ?_ _ | refine blk_drew ?_ | refine blk_alloc ?_ _)); refine blk_put (cs := #[.int .i64 a0_0, .bool a0_1, .bool a0_2, .bool a0_3, .bool a0_4, .bool a0_5, .int .i64 a0_6, .string a0_7, .int .i64 a0_8, .slice A0_9 l0_9.length c0_9, .slice A0_10 l0_10.length c0_10, .slice A0_11 l0_11.length c0_11]) ?_ 9 _ rfl; exact bU BK437.out) hb); replace BK438 := aS (blk_below (g := gb438) (o := .cells #[.int .i64 0, .bool false, .bool false, .bool false, .bool false, .bool false, .int .i64 0, .string (⟨#[]⟩ : ByteArray), .int .i64 0, .slice none 0 0, .slice none 0 0, .slice none 0 0] 52 (0, 0)) (by (with_reducible repeat (first | refine blk_drewN ?_ _ | refine blk_drew ?_ | refine blk_alloc ?_ _)); refine blk_far ?_ NB438_437.out _; exact bU BK438.out) hb); replace HB := aS (below_step (wS2 HB.out GE437.out GE438.out) hb); clear hb; (try clear ho0); obtain ⟨Ao13, co13, eo13⟩ := Kd.R_slice HO444.out; subst eo13; have hcz14 := cells12f BK437.out) | ((with_reducible refine gate_callee (f := 105) rfl ?_); refine gL (some 13) Tryd.func105 #[.slice A0_11 l0_11.length c0_11] ?_; (with_reducible refine (slices_Clone_impl_Record.calls _ _ l0_11 t445 _ ?side1 ?side2 A4.out).mono ?_); (case side1 => exact Kd.C_below HR0_11.out (wS2 HB.out GE437.out GE438.out)); (case side2 => exact HC0_11.out); rintro e w15 ⟨v446, rfl, ho0, hb⟩; refine ⟨_, rfl, ?_⟩; have HO447 := aS (Kd.R_lower (Kd.R_new' (Kd.R_new' ho0 (Kd.R_lt (by exact (rF1 HO441.out BK437.out)))) (Kd.R_lt (by exact (rF1 HO444.out BK437.out)))) (below_size (wS2 HB.out GE437.out GE438.out))); replace HO441 := aS (Kd.R_elder' (by exact (rF1 HO441.out BK437.out)) (Kd.R_base ho0) hb); replace HO444 := aS (Kd.R_elder' (by exact (rF1 HO444.out BK437.out)) (Kd.R_base ho0) hb); replace BK437 := aS (blk_below (g := gb437) (o := .cells #[.int .i64 a0_0, .bool a0_1, .bool a0_2, .bool a0_3, .bool a0_4, .bool a0_5, .int .i64 a0_6, .string a0_7, .int .i64 a0_8, .slice Ao10 t439.length co10, .slice Ao13 t442.length co13, .slice A0_11 l0_11.length c0_11] 52 (0, 0)) (by (with_reducible repeat (first | refine blk_drewN ?_ _ | refine blk_drew ?_ | refine blk_alloc ?_ _)); refine blk_put (cs := #[.int .i64 a0_0, .bool a0_1, .bool a0_2, .bool a0_3, .bool a0_4, .bool a0_5, .int .i64 a0_6, .string a0_7, .int .i64 a0_8, .slice Ao10 t439.length co10, .slice A0_10 l0_10.length c0_10, .slice A0_11 l0_11.length c0_11]) ?_ 10 _ rfl; exact bU BK437.out) hb); replace BK438 := aS (blk_below (g := gb438) (o := .cells #[.int .i64 0, .bool false, .bool false, .bool false, .bool false, .bool false, .int .i64 0, .string (⟨#[]⟩ : ByteArray), .int .i64 0, .slice none 0 0, .slice none 0 0, .slice none 0 0] 52 (0, 0)) (by (with_reducible repeat (first | refine blk_drewN ?_ _ | refine blk_drew ?_ | refine blk_alloc ?_ _)); refine blk_far ?_ NB438_437.out _; exact bU BK438.out) hb); replace HB := aS (below_step (wS2 HB.out GE437.out GE438.out) hb); clear hb; (try clear ho0); obtain ⟨Ao16, co16, eo16⟩ := Kd.R_slice HO447.out; subst eo16; have hcz17 := cells12f BK437.out; have hcz18 := cells12f BK438.out))
 refine bodyPost_ret (results_cell_row rfl _ _ gb438 52 #[.int .i64 a0_0, .bool a0_1, .bool a0_2, .bool a0_3, .bool a0_4, .bool a0_5, .int .i64 a0_6, .string a0_7, .int .i64 a0_8, .slice Ao10 t439.length co10, .slice Ao13 t442.length co13, .slice Ao16 t445.length co16] (0, 0) _ rfl (by (with_reducible repeat (first | refine blk_drewN ?_ _ | refine blk_drew ?_ | refine blk_alloc ?_ _)); refine blk_put_12 (.int .i64 0) (.bool false) (.bool false) (.bool false) (.bool false) (.bool false) (.int .i64 0) (.string (⟨#[]⟩ : ByteArray)) (.int .i64 0) (.slice none 0 0) (.slice none 0 0) (.slice none 0 0) ?_; (with_reducible repeat (first | refine blk_drewN ?_ _ | refine blk_drew ?_ | refine blk_alloc ?_ _)); refine blk_far ?_ NB438_437.out _; exact bU BK438.out) Tryd.underlying52 rfl jK) rfl ?_
 exact ⟨_, _, _, jE, by exact Kd.R_mono (rF2 HO441.out BK437.out BK438.out) (fun _ hk => ⟨hk.1.2, hk.2⟩), by exact Kd.R_mono (rF2 HO444.out BK437.out BK438.out) (fun _ hk => ⟨hk.1.2, hk.2⟩), by exact Kd.R_mono (rF2 HO447.out BK437.out BK438.out) (fun _ hk => ⟨hk.1.2, hk.2⟩), by exact wS2 HB.out GE437.out GE438.out⟩

/-! ### impl_ReplyTo: function 30 -/
def impl_ReplyTo.f (a0_0 : Int) (a0_1 : Bool) (a0_2 : Bool) (a0_3 : Bool) (a0_4 : Bool) (a0_5 : Bool) (a0_6 : Int) (a0_7 : ByteArray) (a0_8 : Int) (l0_9 : List (S25)) (l0_10 : List (S25)) (l0_11 : List (S25)) (a1 : Int) (a2 : Bool) (l3 : List (S25)) (l4 : List (S25)) (l5 : List (S25)) : Option (Int × Bool × Bool × Bool × Bool × Bool × Int × ByteArray × Int × (List (S25)) × (List (S25)) × (List (S25))) := (impl_copyMsg.f a0_0 true a2 false a0_4 false a1 a0_7 a0_8 l3 l4 l5).bind fun bt450 => (some (bt450.1, bt450.2.1, bt450.2.2.1, bt450.2.2.2.1, bt450.2.2.2.2.1, bt450.2.2.2.2.2.1, bt450.2.2.2.2.2.2.1, bt450.2.2.2.2.2.2.2.1, bt450.2.2.2.2.2.2.2.2.1, bt450.2.2.2.2.2.2.2.2.2.1, bt450.2.2.2.2.2.2.2.2.2.2.1, bt450.2.2.2.2.2.2.2.2.2.2.2))
set_option maxHeartbeats 8000000 in
set_option maxRecDepth 100000 in
theorem impl_ReplyTo.calls (a0_0 : Int) (a0_1 : Bool) (a0_2 : Bool) (a0_3 : Bool) (a0_4 : Bool) (a0_5 : Bool) (a0_6 : Int) (a0_7 : ByteArray) (a0_8 : Int) (A0_9 : Option Addr) (c0_9 : Nat) (l0_9 : List (S25)) (A0_10 : Option Addr) (c0_10 : Nat) (l0_10 : List (S25)) (A0_11 : Option Addr) (c0_11 : Nat) (l0_11 : List (S25)) (a1 : Int) (a2 : Bool) (A3 : Option Addr) (c3 : Nat) (l3 : List (S25)) (A4 : Option Addr) (c4 : Nat) (l4 : List (S25)) (A5 : Option Addr) (c5 : Nat) (l5 : List (S25)) (r1 : Int) (r2 : Bool) (r3 : Bool) (r4 : Bool) (r5 : Bool) (r6 : Bool) (r7 : Int) (r8 : ByteArray) (r9 : Int) (r10 : List (S25)) (r11 : List (S25)) (r12 : List (S25)) (w : World) (hr0_9 : Kd.C k25 w A0_9 l0_9.length l0_9) (hc0_9 : l0_9.length ≤ c0_9) (hr0_10 : Kd.C k25 w A0_10 l0_10.length l0_10) (hc0_10 : l0_10.length ≤ c0_10) (hr0_11 : Kd.C k25 w A0_11 l0_11.length l0_11) (hc0_11 : l0_11.length ≤ c0_11) (hr3 : Kd.C k25 w A3 l3.length l3) (hc3 : l3.length ≤ c3) (hr4 : Kd.C k25 w A4 l4.length l4) (hc4 : l4.length ≤ c4) (hr5 : Kd.C k25 w A5 l5.length l5) (hc5 : l5.length ≤ c5) (h : impl_ReplyTo.f a0_0 a0_1 a0_2 a0_3 a0_4 a0_5 a0_6 a0_7 a0_8 l0_9 l0_10 l0_11 a1 a2 l3 l4 l5 = some (r1, r2, r3, r4, r5, r6, r7, r8, r9, r10, r11, r12)) :
  Calls Tryd.prog 30 #[.agg #[.int .i64 a0_0, .bool a0_1, .bool a0_2, .bool a0_3, .bool a0_4, .bool a0_5, .int .i64 a0_6, .string a0_7, .int .i64 a0_8, .slice A0_9 l0_9.length c0_9, .slice A0_10 l0_10.length c0_10, .slice A0_11 l0_11.length c0_11], .int .i64 a1, .bool a2, .slice A3 l3.length c3, .slice A4 l4.length c4, .slice A5 l5.length c5] w fun e w' => ∃ v9_ v10_ v11_ : Value, e = .returned (.agg #[.int .i64 r1, .bool r2, .bool r3, .bool r4, .bool r5, .bool r6, .int .i64 r7, .string r8, .int .i64 r9, v9_, v10_, v11_]) ∧ Kd.R k25 25 w' w.heap.size (fun k_ => some k_ ≠ (v10_ : Value).ownBlock ∧ some k_ ≠ (v11_ : Value).ownBlock) v9_ r10 ∧ Kd.R k25 25 w' w.heap.size (fun k_ => some k_ ≠ (v9_ : Value).ownBlock ∧ some k_ ≠ (v11_ : Value).ownBlock) v10_ r11 ∧ Kd.R k25 25 w' w.heap.size (fun k_ => some k_ ≠ (v9_ : Value).ownBlock ∧ some k_ ≠ (v10_ : Value).ownBlock) v11_ r12 ∧ Below w.heap.size w w' := by
 have hu52 := Tryd.underlying52
 have hu50 := Tryd.underlying50
 have HR0_9 := aS hr0_9
 have HC0_9 := aS hc0_9
 clear hr0_9 hc0_9
 have HR0_10 := aS hr0_10
 have HC0_10 := aS hc0_10
 clear hr0_10 hc0_10
 have HR0_11 := aS hr0_11
 have HC0_11 := aS hc0_11
 clear hr0_11 hc0_11
 have HR3 := aS hr3
 have HC3 := aS hc3
 clear hr3 hc3
 have HR4 := aS hr4
 have HC4 := aS hc4
 clear hr4 hc4
 have HR5 := aS hr5
 have HC5 := aS hc5
 clear hr5 hc5
 have HB := aS (Below.refl w.heap.size w)
 have H := h
 unfold impl_ReplyTo.f at H
 clear h
 obtain ⟨⟨t450, t451, t452, t453, t454, t455, t456, t457, t458, t459, t462, t465⟩, A7, H⟩ := bM H
 try dsimp only at H
 simp only [Option.some.injEq, Prod.mk.injEq] at H
 obtain ⟨rfl, rfl, rfl, rfl, rfl, rfl, rfl, rfl, rfl, rfl, rfl, rfl⟩ := H
 go_enter Tryd.func30, Tryd.ntmps30
 go_wp2_with (first | ((with_reducible refine gate_dst (N := 6) rfl ?_); refine xB 6 #[.int .i64 a0_0, .bool a0_1, .bool a0_2, .bool a0_3, .bool a0_4, .bool a0_5, .int .i64 a0_6, .string a0_7, .int .i64 a0_8, .slice A0_9 l0_9.length c0_9, .slice A0_10 l0_10.length c0_10, .slice A0_11 l0_11.length c0_11] 52 ?_; intro gb448 hg w8 hbox hb; have BK448 := aS (hbox); have GW448 := gW hg (wU HB.out); have GE448 := gW hg (wU HB.out); replace HB := aS (below_step (wU HB.out) hb); clear hb hbox hg) | ((with_reducible refine gate_dst (N := 12) rfl ?_); refine xB 12 #[.int .i64 0, .bool false, .bool false, .bool false, .bool false, .bool false, .int .i64 0, .string (⟨#[]⟩ : ByteArray), .int .i64 0, .slice none 0 0, .slice none 0 0, .slice none 0 0] 52 ?_; intro gb449 hg w9 hbox hb; have BK449 := aS (hbox); have GW449 := gW hg (wS1 HB.out GE448.out); have GE449 := gW hg (wS1 HB.out GE448.out); replace HB := aS (below_step (wS1 HB.out GE448.out) hb); have NB448_449 := nB hg BK448; have NB449_448 := nS NB448_449; replace BK448 := bB BK448 hb; clear hb hbox hg; have hnb10 := NB448_449.out; have hnc10 := NB449_448.out; have hcz11 := cells12f BK448.out) | ((with_reducible refine gate_callee (f := 90) rfl ?_); refine gL (some 25) Tryd.func90 #[.agg #[.int .i64 a0_0, .bool true, .bool a2, .bool false, .bool a0_4, .bool false, .int .i64 a1, .string a0_7, .int .i64 a0_8, .slice A3 l3.length c3, .slice A4 l4.length c4, .slice A5 l5.length c5]] ?_; (with_reducible refine (impl_copyMsg.calls a0_0 true a2 false a0_4 false a1 a0_7 a0_8 _ _ l3 _ _ l4 _ _ l5 t450 t451 t452 t453 t454 t455 t456 t457 t458 t459 t462 t465 _ ?side1 ?side2 ?side3 ?side4 ?side5 ?side6 A7.out).mono ?_); (case side1 => exact cU ((Kd.C_below HR3.out HB.out))); (case side2 => exact HC3.out); (case side3 => exact cU ((Kd.C_below HR4.out HB.out))); (case side4 => exact HC4.out); (case side5 => exact cU ((Kd.C_below HR5.out HB.out))); (case side6 => exact HC5.out); rintro e w12 ⟨v460, v463, v466, rfl, ho0, ho1, ho2, hb⟩; refine ⟨_, rfl, ?_⟩; have HO461 := aS (Kd.R_lower ho0 (below_size (wS2 HB.out GE448.out GE449.out))); have HO464 := aS (Kd.R_lower ho1 (below_size (wS2 HB.out GE448.out GE449.out))); have HO467 := aS (Kd.R_lower ho2 (below_size (wS2 HB.out GE448.out GE449.out))); replace BK448 := bB BK448 hb; replace BK449 := bB BK449 hb; replace HB := aS (below_step (wS2 HB.out GE448.out GE449.out) hb); clear hb; (try clear ho0); (try clear ho1); (try clear ho2); have hcz13 := cells12f BK449.out; obtain ⟨Ao14, co14, eo14⟩ := Kd.R_slice HO461.out; subst eo14; obtain ⟨Ao15, co15, eo15⟩ := Kd.R_slice HO464.out; subst eo15; obtain ⟨Ao16, co16, eo16⟩ := Kd.R_slice HO467.out; subst eo16))
 refine bodyPost_ret (results_cell_row rfl _ _ gb449 52 #[.int .i64 t450, .bool t451, .bool t452, .bool t453, .bool t454, .bool t455, .int .i64 t456, .string t457, .int .i64 t458, .slice Ao14 t459.length co14, .slice Ao15 t462.length co15, .slice Ao16 t465.length co16] (0, 0) _ rfl (by exact bO (p12 (bU BK449.out))) Tryd.underlying52 rfl jK) rfl ?_
 exact ⟨_, _, _, jE, by exact Kd.R_mono (rF1 HO461.out BK449.out) (fun _ hk => ⟨hk.1, hk.2⟩), by exact Kd.R_mono (rF1 HO464.out BK449.out) (fun _ hk => ⟨hk.1, hk.2⟩), by exact Kd.R_mono (rF1 HO467.out BK449.out) (fun _ hk => ⟨hk.1, hk.2⟩), by exact wS2 HB.out GE448.out GE449.out⟩

/-! ### spec_DrawAskMsg: function 31 -/
def spec_DrawAskMsg.f (k : Nat) (l0 : List Int) : Option (Int × ByteArray × Int) := (spec_l1New.f k l0).bind fun bt469 => ((spec_l1Below.f bt469.1 bt469.2.1 bt469.2.2 70000).bind fun bt473 => ((spec_l7Quest.f bt469.1 bt473.2.1 bt473.2.2).bind fun bt476 => (some (bt473.1, bt476.1, bt476.2.1))))
theorem spec_DrawAskMsg.mono : ∀ a0 k, LeO (spec_DrawAskMsg.f k a0) (spec_DrawAskMsg.f (k + 1) a0) := by
 intro a0 k
 unfold spec_DrawAskMsg.f
 repeat' first
   | (with_reducible first | exact spec_l1New.mono _ _ | exact LeO.refl _ | exact LeO.none _ | refine LeO.ite ?_ ?_ | refine LeO.bind ?_ (fun _ => ?_))
   | refine LeO.ite ?_ ?_
   | refine LeO.bind ?_ (fun _ => ?_)
set_option maxHeartbeats 8000000 in
set_option maxRecDepth 100000 in
theorem spec_DrawAskMsg.calls (k : Nat) (A0 : Option Addr) (c0 : Nat) (l0 : List Int) (r1 : Int) (r2 : ByteArray) (r3 : Int) (w : World) (hr0 : Kd.C (Kd.int .u8) w A0 l0.length l0) (hc0 : l0.length ≤ c0) (h : spec_DrawAskMsg.f k l0 = some (r1, r2, r3)) :
  Calls Tryd.prog 31 #[.slice A0 l0.length c0] w fun e w' => e = .returned (.tuple #[.int .i64 r1, .agg #[.string r2, .int .i64 r3]]) ∧ Below w.heap.size w w' := by
 have hu50 := Tryd.underlying50
 have HR0 := aS hr0
 have HC0 := aS hc0
 clear hr0 hc0
 have HB := aS (Below.refl w.heap.size w)
 have H := h
 unfold spec_DrawAskMsg.f at H
 clear h
 obtain ⟨⟨t469, t470, t471⟩, A2, H⟩ := bM H
 try dsimp only at H
 obtain ⟨⟨t473, t474, t475⟩, A3, H⟩ := bM H
 try dsimp only at H
 obtain ⟨⟨t476, t477, t478, t479⟩, A4, H⟩ := bM H
 try dsimp only at H
 simp only [Option.some.injEq, Prod.mk.injEq] at H
 obtain ⟨rfl, rfl, rfl⟩ := H
 go_enter Tryd.func31, Tryd.ntmps31
 go_wp2_with (first | ((with_reducible refine gate_dst (N := 3) rfl ?_); refine xB 3 #[.string (⟨#[]⟩ : ByteArray), .int .i64 0] 50 ?_; intro gb468 hg w5 hbox hb; have BK468 := aS (hbox); have GW468 := gW hg (wU HB.out); have GE468 := gW hg (wU HB.out); replace HB := aS (below_step (wU HB.out) hb); clear hb hbox hg) | ((with_reducible refine gate_callee (f := 56) rfl ?_); refine gL (some 6) Tryd.func56 #[.slice A0 l0.length c0] ?_; (with_reducible refine (spec_l1New.calls k _ _ l0 t469 t470 t471 w _ ?side1 ?side2 ?side3 A2.out).mono ?_); (case side1 => exact wS1 HB.out GE468.out); (case side2 => exact HR0.out); (case side3 => exact HC0.out); rintro e w6 ⟨g472, rfl, hi, hb, hb2⟩; refine ⟨_, rfl, ?_⟩; replace HB := aS (hb); have HI472 := aS (hi); have NB472_468 := aS (IsS111.ne_blk hi (blk_below (bU BK468.out) hb2) (by decide)); have NB468_472 := aS (Ne.symm (IsS111.ne_blk hi (blk_below (bU BK468.out) hb2) (by decide))); replace BK468 := aS (blk_below (bU BK468.out) hb2); clear hi hb hb2) | ((with_reducible refine gate_callee (f := 78) rfl ?_); refine gL (some 8) Tryd.func78 #[.pointer (some ⟨g472, 0, none⟩), .int .i64 70000] ?_; (with_reducible refine (spec_l1Below.calls g472 t469 t470 t471 70000 t473 t474 t475 w _ ?side1 ?side2 A3.out).mono ?_); (case side1 => exact IsS111.iS1 HI472.out NB472_468.out); (case side2 => exact wS2 HB.out (IsS111.ge HI472.out) GE468.out); rintro e w7 ⟨rfl, hi, hb, hk⟩; refine ⟨_, rfl, ?_⟩; replace BK468 := kB hk (bU BK468.out) NB468_472.out; replace HB := aS (hb); replace HI472 := aS (hi); clear hi hb hk) | ((with_reducible refine gate_callee (f := 91) rfl ?_); refine gL (some 10) Tryd.func91 #[.pointer (some ⟨g472, 0, none⟩)] ?_; (with_reducible refine (spec_l7Quest.calls g472 t469 t474 t475 t476 t477 t478 t479 w _ ?side1 ?side2 A4.out).mono ?_); (case side1 => exact IsS111.iS1 HI472.out NB472_468.out); (case side2 => exact wS2 HB.out (IsS111.ge HI472.out) GE468.out); rintro e w8 ⟨rfl, hi, hb, hk⟩; refine ⟨_, rfl, ?_⟩; replace BK468 := kB hk (bU BK468.out) NB468_472.out; replace HB := aS (hb); replace HI472 := aS (hi); clear hi hb hk; have hnb9 := NB468_472.out; have hnc9 := NB472_468.out; have hcz10 := cells2f BK468.out))
 refine bodyPost_ret (results_tc rfl _ _ gb468 50 #[.string t476, .int .i64 t477] (0, 0) _ rfl (by (with_reducible repeat (first | refine blk_drewN ?_ _ | refine blk_drew ?_ | refine blk_alloc ?_ _)); refine blk_put_2 (.string (⟨#[]⟩ : ByteArray)) (.int .i64 0) ?_; exact bU BK468.out) Tryd.underlying50 rfl jK) rfl ?_
 exact ⟨jE, by exact wS2 HB.out (IsS111.ge HI472.out) GE468.out⟩

/-! ### impl_AskMsg: function 32 -/
def impl_AskMsg.f (a0 : Int) (a1_0 : ByteArray) (a1_1 : Int) : Option (Int × Bool × Bool × Bool × Bool × Bool × Int × ByteArray × Int × (List (S25)) × (List (S25)) × (List (S25))) := some (a0, false, false, false, false, false, 0, a1_0, a1_1, ([] : List (S25)), ([] : List (S25)), ([] : List (S25)))
set_option maxHeartbeats 8000000 in
set_option maxRecDepth 100000 in
theorem impl_AskMsg.calls (a0 : Int) (a1_0 : ByteArray) (a1_1 : Int) (r1 : Int) (r2 : Bool) (r3 : Bool) (r4 : Bool) (r5 : Bool) (r6 : Bool) (r7 : Int) (r8 : ByteArray) (r9 : Int) (r10 : List (S25)) (r11 : List (S25)) (r12 : List (S25)) (w : World) (h : impl_AskMsg.f a0 a1_0 a1_1 = some (r1, r2, r3, r4, r5, r6, r7, r8, r9, r10, r11, r12)) :
  Calls Tryd.prog 32 #[.int .i64 a0, .agg #[.string a1_0, .int .i64 a1_1]] w fun e w' => ∃ v9_ v10_ v11_ : Value, e = .returned (.agg #[.int .i64 r1, .bool r2, .bool r3, .bool r4, .bool r5, .bool r6, .int .i64 r7, .string r8, .int .i64 r9, v9_, v10_, v11_]) ∧ Kd.R k25 25 w' w.heap.size (fun k_ => some k_ ≠ (v10_ : Value).ownBlock ∧ some k_ ≠ (v11_ : Value).ownBlock) v9_ r10 ∧ Kd.R k25 25 w' w.heap.size (fun k_ => some k_ ≠ (v9_ : Value).ownBlock ∧ some k_ ≠ (v11_ : Value).ownBlock) v10_ r11 ∧ Kd.R k25 25 w' w.heap.size (fun k_ => some k_ ≠ (v9_ : Value).ownBlock ∧ some k_ ≠ (v10_ : Value).ownBlock) v11_ r12 ∧ Below w.heap.size w w' := by
 have hu50 := Tryd.underlying50
 have hu52 := Tryd.underlying52
 have HB := aS (Below.refl w.heap.size w)
 have H := h
 unfold impl_AskMsg.f at H
 clear h
 simp only [Option.some.injEq, Prod.mk.injEq] at H
 obtain ⟨rfl, rfl, rfl, rfl, rfl, rfl, rfl, rfl, rfl, rfl, rfl, rfl⟩ := H
 go_enter Tryd.func32, Tryd.ntmps32
 go_wp2_with (first | ((with_reducible refine gate_dst (N := 3) rfl ?_); refine xB 3 #[.string a1_0, .int .i64 a1_1] 50 ?_; intro gb480 hg w3 hbox hb; have BK480 := aS (hbox); have GW480 := gW hg (wU HB.out); have GE480 := gW hg (wU HB.out); replace HB := aS (below_step (wU HB.out) hb); clear hb hbox hg) | ((with_reducible refine gate_dst (N := 4) rfl ?_); refine xB 4 #[.int .i64 0, .bool false, .bool false, .bool false, .bool false, .bool false, .int .i64 0, .string (⟨#[]⟩ : ByteArray), .int .i64 0, .slice none 0 0, .slice none 0 0, .slice none 0 0] 52 ?_; intro gb481 hg w4 hbox hb; have BK481 := aS (hbox); have GW481 := gW hg (wS1 HB.out GE480.out); have GE481 := gW hg (wS1 HB.out GE480.out); replace HB := aS (below_step (wS1 HB.out GE480.out) hb); have NB480_481 := nB hg BK480; have NB481_480 := nS NB480_481; replace BK480 := bB BK480 hb; clear hb hbox hg; have hnb5 := NB480_481.out; have hnc5 := NB481_480.out; have hcz6 := cells2f BK480.out; have hcz7 := cells12f BK481.out))
 refine bodyPost_ret (results_cell_row rfl _ _ gb481 52 #[.int .i64 a0, .bool false, .bool false, .bool false, .bool false, .bool false, .int .i64 0, .string a1_0, .int .i64 a1_1, .slice none 0 0, .slice none 0 0, .slice none 0 0] (0, 0) _ rfl (by exact bO (p12 (bU BK481.out))) Tryd.underlying52 rfl jK) rfl ?_
 exact ⟨_, _, _, jE, by first | exact Kd.R_nil _ _ _ _ _ | exact Kd.N_nil _ _ _ _ _ | exact Kd.V_nil _ _ _ _ _ | exact Kd.Q_nil _ _ _ _ _ | exact Kd.S_nil _ _ _ _ _, by first | exact Kd.R_nil _ _ _ _ _ | exact Kd.N_nil _ _ _ _ _ | exact Kd.V_nil _ _ _ _ _ | exact Kd.Q_nil _ _ _ _ _ | exact Kd.S_nil _ _ _ _ _, by first | exact Kd.R_nil _ _ _ _ _ | exact Kd.N_nil _ _ _ _ _ | exact Kd.V_nil _ _ _ _ _ | exact Kd.Q_nil _ _ _ _ _ | exact Kd.S_nil _ _ _ _ _, by exact wS2 HB.out GE480.out GE481.out⟩

end Go.Proofs.YtdigilidomimdaaDoor.Pr
