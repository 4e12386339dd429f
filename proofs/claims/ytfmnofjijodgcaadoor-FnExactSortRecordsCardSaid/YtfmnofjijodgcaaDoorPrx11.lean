-- Written for this claim by a program of this session (wip/tool/pr.py, over the kit's printer).
-- half
import Derived.Test.YtfmnofjijodgcaaDoorPrx0
import Derived.Test.YtfmnofjijodgcaaDoorPrx1
import Derived.Test.YtfmnofjijodgcaaDoorPrx2
import Derived.Test.YtfmnofjijodgcaaDoorPrx3
import Derived.Test.YtfmnofjijodgcaaDoorPrx8
import Derived.Test.YtfmnofjijodgcaaDoorPrx9
import Derived.Test.YtfmnofjijodgcaaDoorPrx10
namespace Go.Proofs.YtfmnofjijodgcaaDoor.Pr
open Go.RowKit Go.Proofs.YtfmnofjijodgcaaDoorW.PrintWords Go.Proofs.YtfmnofjijodgcaaDoorW.PrintLast Go.Proofs.YtfmnofjijodgcaaDoorW.PrintMore
attribute [local go_sem] max2_int min2_int max_two min_two max_three min_three max_four min_four   -- for this text's walks alone
set_option linter.unusedVariables false
set_option linter.unusedSimpArgs false

/-! ### laws_FnExactSortRecords: function 8 -/
noncomputable def laws_FnExactSortRecords.f (k : Nat) (l0 : List (S30)) : Option (Bool) := (laws_szRecordS.f k l0 1048576).bind fun t307 => (if t307 < 0 then (some true) else ((laws_toRecordS.f k l0).bind fun t308 => ((spec_SortRecords.f k t308).bind fun t311 => ((laws_toRecordS.f k l0).bind fun t314 => ((impl_SortRecords.f k t314).bind fun t317 => ((laws_eqRecordS.f k t317 t311).bind fun t320 => (if t320 = true then ((laws_toRecordS.f k l0).bind fun t321 => ((laws_eqRecordS.f k t314 t321).bind fun t324 => (if t324 = true then ((laws_markRecordS.f k t314 1).bind fun bt325 => (if bt325.1 < 0 then (some false) else ((laws_eqRecordS.f k t317 t311).bind fun t327 => (if t327 = true then ((laws_markRecordS.f k t317 1).bind fun bt328 => ((laws_heldRecordS.f k bt328.2 1).bind fun t330 => (if t330 < 0 then (some false) else (if t330 = bt328.1 then ((laws_toRecordS.f k l0).bind fun t331 => ((impl_SortRecords.f k t331).bind fun t334 => ((laws_eqRecordS.f k t334 t311).bind fun t337 => (if t337 = true then ((laws_heldRecordS.f k bt328.2 1).bind fun t338 => (if t338 < 0 then (some false) else (if t338 = bt328.1 then (some true) else (some false)))) else (some false))))) else (some false))))) else (some false))))) else (some false)))) else (some false))))))))
theorem laws_FnExactSortRecords.mono : ∀ a0 k, LeO (laws_FnExactSortRecords.f k a0) (laws_FnExactSortRecords.f (k + 1) a0) := by
 intro a0 k
 unfold laws_FnExactSortRecords.f
 repeat' first
   | (with_reducible first | exact impl_SortRecords.mono _ _ | exact laws_eqRecordS.mono _ _ _ | exact laws_heldRecordS.mono _ _ _ | exact laws_markRecordS.mono _ _ _ | exact laws_szRecordS.mono _ _ _ | exact laws_toRecordS.mono _ _ | exact spec_SortRecords.mono _ _ | exact LeO.refl _ | exact LeO.none _ | refine LeO.ite ?_ ?_ | refine LeO.bind ?_ (fun _ => ?_))
   | exact impl_SortRecords.mono _ _
   | exact laws_eqRecordS.mono _ _ _
   | exact laws_heldRecordS.mono _ _ _
   | exact laws_markRecordS.mono _ _ _
   | exact laws_szRecordS.mono _ _ _
   | exact laws_toRecordS.mono _ _
   | exact spec_SortRecords.mono _ _
   | exact LeO.none _
   | refine LeO.ite ?_ ?_
   | refine LeO.bind ?_ (fun _ => ?_)
set_option maxHeartbeats 8000000 in
set_option maxRecDepth 100000 in
theorem laws_FnExactSortRecords.calls (k : Nat) (A0 : Option Addr) (c0 : Nat) (l0 : List (S30)) (r : Bool) (w : World) (hr0 : Kd.C k30 w A0 l0.length l0) (hc0 : l0.length ≤ c0) (hrt_ : r = true) (h : laws_FnExactSortRecords.f k l0 = some r) :
  Calls Tryd.prog 8 #[.slice A0 l0.length c0] w fun e w' => e = .returned (.bool r) ∧ Below w.heap.size w w' := by
 have HR0 := aS hr0
 have HC0 := aS hc0
 clear hr0 hc0
 have HB := aS (Below.refl w.heap.size w)
 have H : ((laws_szRecordS.f k l0 1048576).bind fun t307 => (if t307 < 0 then (some true) else ((laws_toRecordS.f k l0).bind fun t308 => ((spec_SortRecords.f k t308).bind fun t311 => ((laws_toRecordS.f k l0).bind fun t314 => ((impl_SortRecords.f k t314).bind fun t317 => ((laws_eqRecordS.f k t317 t311).bind fun t320 => (if t320 = true then ((laws_toRecordS.f k l0).bind fun t321 => ((laws_eqRecordS.f k t314 t321).bind fun t324 => (if t324 = true then ((laws_markRecordS.f k t314 1).bind fun bt325 => (if bt325.1 < 0 then (some false) else ((laws_eqRecordS.f k t317 t311).bind fun t327 => (if t327 = true then ((laws_markRecordS.f k t317 1).bind fun bt328 => ((laws_heldRecordS.f k bt328.2 1).bind fun t330 => (if t330 < 0 then (some false) else (if t330 = bt328.1 then ((laws_toRecordS.f k l0).bind fun t331 => ((impl_SortRecords.f k t331).bind fun t334 => ((laws_eqRecordS.f k t334 t311).bind fun t337 => (if t337 = true then ((laws_heldRecordS.f k bt328.2 1).bind fun t338 => (if t338 < 0 then (some false) else (if t338 = bt328.1 then (some true) else (some false)))) else (some false))))) else (some false))))) else (some false))))) else (some false)))) else (some false))))))))) = some r := h
 clear h
 obtain ⟨t307, A2, H⟩ := bM H
 try dsimp only at H
 by_cases c3 : t307 < 0
 ·rw [if_pos c3] at H
  have c3b0 := decide_eq_true c3
  clear c3
  obtain rfl := Option.some.inj H
  go_enter Tryd.func8, Tryd.ntmps8
  go_wp2_with (first | ((with_reducible refine gate_callee (f := 32) rfl ?_); refine goesL_ (some 13) rfl rfl Tryd.func32 jK rfl #[.slice A0 l0.length c0, .int .i64 1048576] rfl jA ?_; (with_reducible refine (laws_szRecordS.calls k _ _ l0 1048576 t307 _ ?side1 ?side2 A2.out).mono ?_); (case side1 => exact cU (HR0.out)); (case side2 => exact HC0.out); rintro e w4 ⟨rfl, hb⟩; refine ⟨_, rfl, ?_⟩; replace HB := aS (below_step (wU HB.out) hb); clear hb))
  go_ret
  exact ⟨by first | rfl | (simp [errW_none, errW_some] <;> rfl) | (simp [*, errW_none, errW_some] <;> rfl) | (exfalso; simp_all; done) | ((have ai_ : ∀ p : Prop, Aside0 p ↔ p := fun p => ⟨fun h => h.out, fun h => ⟨h⟩⟩); simp_all [ai_]; done), by exact wU HB.out⟩
 ·rw [if_neg c3] at H
  have c3b0 := decide_eq_false c3
  clear c3
  obtain ⟨t308, A5, H⟩ := bM H
  try dsimp only at H
  obtain ⟨t311, A6, H⟩ := bM H
  try dsimp only at H
  obtain ⟨t314, A7, H⟩ := bM H
  try dsimp only at H
  obtain ⟨t317, A8, H⟩ := bM H
  try dsimp only at H
  obtain ⟨t320, A9, H⟩ := bM H
  try dsimp only at H
  by_cases c10 : t320 = true
  ·subst c10
   rw [if_pos rfl] at H
   obtain ⟨t321, A11, H⟩ := bM H
   try dsimp only at H
   obtain ⟨t324, A12, H⟩ := bM H
   try dsimp only at H
   by_cases c13 : t324 = true
   ·subst c13
    rw [if_pos rfl] at H
    obtain ⟨⟨t325, t326⟩, A14, H⟩ := bM H
    try dsimp only at H
    by_cases c15 : t325 < 0
    ·rw [if_pos c15] at H
     have c15b0 := decide_eq_true c15
     clear c15
     exact absurd (H.trans (congrArg some hrt_)) (by simp)
    ·rw [if_neg c15] at H
     have c15b0 := decide_eq_false c15
     clear c15
     obtain ⟨t327, A16, H⟩ := bM H
     try dsimp only at H
     by_cases c17 : t327 = true
     ·subst c17
      rw [if_pos rfl] at H
      obtain ⟨⟨t328, t329⟩, A18, H⟩ := bM H
      try dsimp only at H
      obtain ⟨t330, A19, H⟩ := bM H
      try dsimp only at H
      by_cases c20 : t330 < 0
      ·rw [if_pos c20] at H
       have c20b0 := decide_eq_true c20
       clear c20
       exact absurd (H.trans (congrArg some hrt_)) (by simp)
      ·rw [if_neg c20] at H
       have c20b0 := decide_eq_false c20
       clear c20
       by_cases c21 : t330 = t328
       ·rw [if_pos c21] at H
        have c21b0 := beq_iff_eq.mpr c21
        have c21b1 := bne_eq_false_iff_eq.mpr c21
        clear c21
        obtain ⟨t331, A22, H⟩ := bM H
        try dsimp only at H
        obtain ⟨t334, A23, H⟩ := bM H
        try dsimp only at H
        obtain ⟨t337, A24, H⟩ := bM H
        try dsimp only at H
        by_cases c25 : t337 = true
        ·subst c25
         rw [if_pos rfl] at H
         obtain ⟨t338, A26, H⟩ := bM H
         try dsimp only at H
         by_cases c27 : t338 < 0
         ·rw [if_pos c27] at H
          have c27b0 := decide_eq_true c27
          clear c27
          exact absurd (H.trans (congrArg some hrt_)) (by simp)
         ·rw [if_neg c27] at H
          have c27b0 := decide_eq_false c27
          clear c27
          by_cases c28 : t338 = t328
          ·rw [if_pos c28] at H
           have c28b0 := beq_iff_eq.mpr c28
           have c28b1 := bne_eq_false_iff_eq.mpr c28
           clear c28
           obtain rfl := Option.some.inj H
           go_enter Tryd.func8, Tryd.ntmps8
           go_wp2_with (first | ((with_reducible refine gate_callee (f := 32) rfl ?_); refine goesL_ (some 13) rfl rfl Tryd.func32 jK rfl #[.slice A0 l0.length c0, .int .i64 1048576] rfl jA ?_; (with_reducible refine (laws_szRecordS.calls k _ _ l0 1048576 t307 _ ?side1 ?side2 A2.out).mono ?_); (case side1 => exact cU (HR0.out)); (case side2 => exact HC0.out); rintro e w29 ⟨rfl, hb⟩; refine ⟨_, rfl, ?_⟩; replace HB := aS (below_step (wU HB.out) hb); clear hb) | ((with_reducible refine gate_callee (f := 34) rfl ?_); refine goesL_ (some 17) rfl rfl Tryd.func34 jK rfl #[.slice A0 l0.length c0] rfl jA ?_; (with_reducible refine (laws_toRecordS.calls k _ _ l0 t308 _ ?side1 ?side2 A5.out).mono ?_); (case side1 => exact cU ((Kd.C_below HR0.out HB.out))); (case side2 => exact HC0.out); rintro e w30 ⟨v309, rfl, ho0, hb⟩; refine ⟨_, rfl, ?_⟩; have HO310 := aS (Kd.R_lower ho0 (below_size (wU HB.out))); replace HB := aS (below_step (wU HB.out) hb); clear hb; (try clear ho0); obtain ⟨Ao31, co31, eo31⟩ := Kd.R_slice HO310.out; subst eo31) | ((with_reducible refine gate_callee (f := 33) rfl ?_); refine goesL_ (some 18) rfl rfl Tryd.func33 jK rfl #[.slice Ao31 t308.length co31] rfl jA ?_; (with_reducible refine (spec_SortRecords.calls k _ _ t308 t311 _ ?side1 ?side2 A6.out).mono ?_); (case side1 => exact cU ((Kd.R_reads' HO310.out).2.2)); (case side2 => exact (Kd.R_reads' HO310.out).2.1); rintro e w32 ⟨v312, rfl, ho0, hb⟩; refine ⟨_, rfl, ?_⟩; have HO313 := aS (Kd.R_lower (Kd.R_new' ho0 (Kd.R_lt (rU HO310.out))) (below_size (wU HB.out))); replace HO310 := aS (Kd.R_elder' (rU HO310.out) (Kd.R_base ho0) hb); replace HB := aS (below_step (wU HB.out) hb); clear hb; (try clear ho0)) | ((with_reducible refine gate_callee (f := 34) rfl ?_); refine goesL_ (some 20) rfl rfl Tryd.func34 jK rfl #[.slice A0 l0.length c0] rfl jA ?_; (with_reducible refine (laws_toRecordS.calls k _ _ l0 t314 _ ?side1 ?side2 A7.out).mono ?_); (case side1 => exact cU ((Kd.C_below HR0.out HB.out))); (case side2 => exact HC0.out); rintro e w33 ⟨v315, rfl, ho0, hb⟩; refine ⟨_, rfl, ?_⟩; have HO316 := aS (Kd.R_lower (Kd.R_new' ho0 (Kd.R_lt (rU HO313.out))) (below_size (wU HB.out))); replace HO313 := aS (Kd.R_elder' (rU HO313.out) (Kd.R_base ho0) hb); replace HB := aS (below_step (wU HB.out) hb); clear hb; (try clear ho0); obtain ⟨Ao34, co34, eo34⟩ := Kd.R_slice HO316.out; subst eo34) | ((with_reducible refine gate_callee (f := 35) rfl ?_); refine goesL_ (some 22) rfl rfl Tryd.func35 jK rfl #[.slice Ao34 t314.length co34] rfl jA ?_; (with_reducible refine (impl_SortRecords.calls k _ _ t314 t317 _ ?side1 ?side2 A8.out).mono ?_); (case side1 => exact cU ((Kd.R_reads' HO316.out).2.2)); (case side2 => exact (Kd.R_reads' HO316.out).2.1); rintro e w35 ⟨v318, rfl, ho0, hb⟩; refine ⟨_, rfl, ?_⟩; have HO319 := aS (Kd.R_lower (Kd.R_new' (Kd.R_new' ho0 (Kd.R_lt (rU HO313.out))) (Kd.R_lt (rU HO316.out))) (below_size (wU HB.out))); replace HO313 := aS (Kd.R_elder' (rU HO313.out) (Kd.R_base ho0) hb); replace HO316 := aS (Kd.R_elder' (rU HO316.out) (Kd.R_base ho0) hb); replace HB := aS (below_step (wU HB.out) hb); clear hb; (try clear ho0); obtain ⟨Ao36, co36, eo36⟩ := Kd.R_slice HO319.out; subst eo36; obtain ⟨Ao37, co37, eo37⟩ := Kd.R_slice HO313.out; subst eo37) | ((with_reducible refine gate_callee (f := 36) rfl ?_); refine goesL_ (some 25) rfl rfl Tryd.func36 jK rfl #[.slice Ao36 t317.length co36, .slice Ao37 t311.length co37] rfl jA ?_; (with_reducible refine (laws_eqRecordS.calls k _ _ t317 _ _ t311 true _ ?side1 ?side2 ?side3 ?side4 A9.out).mono ?_); (case side1 => exact cU ((Kd.R_reads' HO319.out).2.2)); (case side2 => exact (Kd.R_reads' HO319.out).2.1); (case side3 => exact cU ((Kd.R_reads' HO313.out).2.2)); (case side4 => exact (Kd.R_reads' HO313.out).2.1); rintro e w38 ⟨rfl, hb⟩; refine ⟨_, rfl, ?_⟩; replace HO313 := aS (Kd.R_below (rU HO313.out) hb); replace HO316 := aS (Kd.R_below (rU HO316.out) hb); replace HO319 := aS (Kd.R_below (rU HO319.out) hb); replace HB := aS (below_step (wU HB.out) hb); clear hb) | ((with_reducible refine gate_callee (f := 34) rfl ?_); refine goesL_ (some 29) rfl rfl Tryd.func34 jK rfl #[.slice A0 l0.length c0] rfl jA ?_; (with_reducible refine (laws_toRecordS.calls k _ _ l0 t321 _ ?side1 ?side2 A11.out).mono ?_); (case side1 => exact cU ((Kd.C_below HR0.out HB.out))); (case side2 => exact HC0.out); rintro e w39 ⟨v322, rfl, ho0, hb⟩; refine ⟨_, rfl, ?_⟩; have HO323 := aS (Kd.R_lower (Kd.R_new' (Kd.R_new' (Kd.R_new' ho0 (Kd.R_lt (rU HO313.out))) (Kd.R_lt (rU HO316.out))) (Kd.R_lt (rU HO319.out))) (below_size (wU HB.out))); replace HO313 := aS (Kd.R_elder' (rU HO313.out) (Kd.R_base ho0) hb); replace HO316 := aS (Kd.R_elder' (rU HO316.out) (Kd.R_base ho0) hb); replace HO319 := aS (Kd.R_elder' (rU HO319.out) (Kd.R_base ho0) hb); replace HB := aS (below_step (wU HB.out) hb); clear hb; (try clear ho0); obtain ⟨Ao40, co40, eo40⟩ := Kd.R_slice HO323.out; subst eo40) | ((with_reducible refine gate_callee (f := 36) rfl ?_); refine goesL_ (some 30) rfl rfl Tryd.func36 jK rfl #[.slice Ao34 t314.length co34, .slice Ao40 t321.length co40] rfl jA ?_; (with_reducible refine (laws_eqRecordS.calls k _ _ t314 _ _ t321 true _ ?side1 ?side2 ?side3 ?side4 A12.out).mono ?_); (case side1 => exact cU ((Kd.R_reads' HO316.out).2.2)); (case side2 => exact (Kd.R_reads' HO316.out).2.1); (case side3 => exact cU ((Kd.R_reads' HO323.out).2.2)); (case side4 => exact (Kd.R_reads' HO323.out).2.1); rintro e w41 ⟨rfl, hb⟩; refine ⟨_, rfl, ?_⟩; replace HO313 := aS (Kd.R_below (rU HO313.out) hb); replace HO316 := aS (Kd.R_below (rU HO316.out) hb); replace HO319 := aS (Kd.R_below (rU HO319.out) hb); replace HO323 := aS (Kd.R_below (rU HO323.out) hb); replace HB := aS (below_step (wU HB.out) hb); clear hb) | ((with_reducible refine gate_callee (f := 37) rfl ?_); refine goesL_ (some 34) rfl rfl Tryd.func37 jK rfl #[.slice Ao34 t314.length co34, .int .i64 1] rfl jA ?_; (with_reducible refine (laws_markRecordS.calls k (fun k_ => some k_ = (.slice Ao34 t314.length co34 : Value).ownBlock) (.slice Ao34 t314.length co34) t314 1 t325 t326 w _ ?side1 ?side2 A14.out).mono ?_); (case side1 => exact wU HB.out); (case side2 => exact Kd.R_tight rfl HO316.out); rintro e w42 ⟨rfl, hy0, hb, hkp⟩; refine ⟨_, rfl, ?_⟩; replace HO313 := aS (Kd.R_mono (ok' := fun k_ => some k_ ≠ (.slice Ao34 t314.length co34 : Value).ownBlock ∧ some k_ ≠ (.slice Ao36 t317.length co36 : Value).ownBlock) (Kd.R_keptB (HO313.out) hkp (fun k_ hk_ hs_ => (hk_.1.1.2) hs_)) (fun k_ hk_ => ⟨hk_.1.1.1.2, hk_.1.1.2⟩)); replace HO316 := aS (Kd.R_reok rfl hy0 (fun k_ e_ => HO316.out.1 k_ e_)); replace HO319 := aS (Kd.R_mono (ok' := fun k_ => some k_ ≠ (.slice Ao37 t311.length co37 : Value).ownBlock ∧ some k_ ≠ (.slice Ao34 t314.length co34 : Value).ownBlock) (Kd.R_keptB (HO319.out) hkp (fun k_ hk_ hs_ => (hk_.1.2) hs_)) (fun k_ hk_ => ⟨hk_.1.1.1.2, hk_.1.1.2⟩)); replace HB := aS (hb); (try clear hb); (try clear hkp); (try clear hy0)) | (go_at_call 36; (with_reducible refine (laws_eqRecordS.calls k _ _ t317 _ _ t311 true _ ?side1 ?side2 ?side3 ?side4 A16.out).mono ?_); (case side1 => exact cU ((Kd.R_reads' HO319.out).2.2)); (case side2 => exact (Kd.R_reads' HO319.out).2.1); (case side3 => exact cU ((Kd.R_reads' HO313.out).2.2)); (case side4 => exact (Kd.R_reads' HO313.out).2.1); rintro e w43 ⟨rfl, hb⟩; replace HO313 := aS (Kd.R_below (rU HO313.out) hb); replace HO319 := aS (Kd.R_below (rU HO319.out) hb); replace HB := aS (below_step (wU HB.out) hb); clear hb) | ((with_reducible refine gate_callee (f := 37) rfl ?_); refine goesL_ (some 45) rfl rfl Tryd.func37 jK rfl #[.slice Ao36 t317.length co36, .int .i64 1] rfl jA ?_; (with_reducible refine (laws_markRecordS.calls k (fun k_ => some k_ = (.slice Ao36 t317.length co36 : Value).ownBlock) (.slice Ao36 t317.length co36) t317 1 t328 t329 w _ ?side1 ?side2 A18.out).mono ?_); (case side1 => exact wU HB.out); (case side2 => exact Kd.R_tight rfl HO319.out); rintro e w44 ⟨rfl, hy0, hb, hkp⟩; refine ⟨_, rfl, ?_⟩; replace HO313 := aS (Kd.R_mono (ok' := fun k_ => some k_ ≠ (.slice Ao36 t317.length co36 : Value).ownBlock) (Kd.R_keptB (HO313.out) hkp (fun k_ hk_ hs_ => (hk_.2) hs_)) (fun k_ hk_ => hk_.1.2)); replace HO319 := aS (Kd.R_reok rfl hy0 (fun k_ e_ => HO319.out.1 k_ e_)); replace HB := aS (hb); (try clear hb); (try clear hkp); (try clear hy0)) | ((with_reducible refine gate_callee (f := 38) rfl ?_); refine goesL_ (some 48) rfl rfl Tryd.func38 jK rfl #[.slice Ao36 t329.length co36, .int .i64 1] rfl (by (try simp only [List.map_toArray, List.map_cons, List.map_nil]); first | done | (rw [show t329.length = t317.length from (Kd.R_reads' HO319.out).1.symm] <;> rfl) | rfl | (simp only [List.length_drop, List.length_take]; rfl)) ?_; (with_reducible refine (laws_heldRecordS.calls k _ _ t329 1 t330 _ ?side1 ?side2 A19.out).mono ?_); (case side1 => exact cU ((Kd.R_reads' HO319.out).2.2)); (case side2 => rw [show t329.length = t317.length from (Kd.R_reads' HO319.out).1.symm]; exact (Kd.R_reads' HO319.out).2.1); rintro e w45 ⟨rfl, hb⟩; refine ⟨_, rfl, ?_⟩; replace HO313 := aS (Kd.R_below (rU HO313.out) hb); replace HO319 := aS (Kd.R_below (rU HO319.out) hb); replace HB := aS (below_step (wU HB.out) hb); clear hb) | ((with_reducible refine gate_callee (f := 34) rfl ?_); refine goesL_ (some 55) rfl rfl Tryd.func34 jK rfl #[.slice A0 l0.length c0] rfl jA ?_; (with_reducible refine (laws_toRecordS.calls k _ _ l0 t331 _ ?side1 ?side2 A22.out).mono ?_); (case side1 => exact cU ((Kd.C_below HR0.out HB.out))); (case side2 => exact HC0.out); rintro e w46 ⟨v332, rfl, ho0, hb⟩; refine ⟨_, rfl, ?_⟩; have HO333 := aS (Kd.R_lower (Kd.R_new' (Kd.R_new' ho0 (Kd.R_lt (rU HO313.out))) (Kd.R_lt (rU HO319.out))) (below_size (wU HB.out))); replace HO313 := aS (Kd.R_elder' (rU HO313.out) (Kd.R_base ho0) hb); replace HO319 := aS (Kd.R_elder' (rU HO319.out) (Kd.R_base ho0) hb); replace HB := aS (below_step (wU HB.out) hb); clear hb; (try clear ho0); obtain ⟨Ao47, co47, eo47⟩ := Kd.R_slice HO333.out; subst eo47) | ((with_reducible refine gate_callee (f := 35) rfl ?_); refine goesL_ (some 56) rfl rfl Tryd.func35 jK rfl #[.slice Ao47 t331.length co47] rfl jA ?_; (with_reducible refine (impl_SortRecords.calls k _ _ t331 t334 _ ?side1 ?side2 A23.out).mono ?_); (case side1 => exact cU ((Kd.R_reads' HO333.out).2.2)); (case side2 => exact (Kd.R_reads' HO333.out).2.1); rintro e w48 ⟨v335, rfl, ho0, hb⟩; refine ⟨_, rfl, ?_⟩; have HO336 := aS (Kd.R_lower (Kd.R_new' (Kd.R_new' (Kd.R_new' ho0 (Kd.R_lt (rU HO313.out))) (Kd.R_lt (rU HO319.out))) (Kd.R_lt (rU HO333.out))) (below_size (wU HB.out))); replace HO313 := aS (Kd.R_elder' (rU HO313.out) (Kd.R_base ho0) hb); replace HO319 := aS (Kd.R_elder' (rU HO319.out) (Kd.R_base ho0) hb); replace HO333 := aS (Kd.R_elder' (rU HO333.out) (Kd.R_base ho0) hb); replace HB := aS (below_step (wU HB.out) hb); clear hb; (try clear ho0); obtain ⟨Ao49, co49, eo49⟩ := Kd.R_slice HO336.out; subst eo49) | ((with_reducible refine gate_callee (f := 36) rfl ?_); refine goesL_ (some 59) rfl rfl Tryd.func36 jK rfl #[.slice Ao49 t334.length co49, .slice Ao37 t311.length co37] rfl jA ?_; (with_reducible refine (laws_eqRecordS.calls k _ _ t334 _ _ t311 true _ ?side1 ?side2 ?side3 ?side4 A24.out).mono ?_); (case side1 => exact cU ((Kd.R_reads' HO336.out).2.2)); (case side2 => exact (Kd.R_reads' HO336.out).2.1); (case side3 => exact cU ((Kd.R_reads' HO313.out).2.2)); (case side4 => exact (Kd.R_reads' HO313.out).2.1); rintro e w50 ⟨rfl, hb⟩; refine ⟨_, rfl, ?_⟩; replace HO313 := aS (Kd.R_below (rU HO313.out) hb); replace HO319 := aS (Kd.R_below (rU HO319.out) hb); replace HO336 := aS (Kd.R_below (rU HO336.out) hb); replace HB := aS (below_step (wU HB.out) hb); clear hb) | ((with_reducible refine gate_callee (f := 38) rfl ?_); refine goesL_ (some 63) rfl rfl Tryd.func38 jK rfl #[.slice Ao36 t329.length co36, .int .i64 1] rfl (by (try simp only [List.map_toArray, List.map_cons, List.map_nil]); first | done | (rw [show t329.length = t317.length from (Kd.R_reads' HO319.out).1.symm] <;> rfl) | rfl | (simp only [List.length_drop, List.length_take]; rfl)) ?_; (with_reducible refine (laws_heldRecordS.calls k _ _ t329 1 t338 _ ?side1 ?side2 A26.out).mono ?_); (case side1 => exact cU ((Kd.R_reads' HO319.out).2.2)); (case side2 => rw [show t329.length = t317.length from (Kd.R_reads' HO319.out).1.symm]; exact (Kd.R_reads' HO319.out).2.1); rintro e w51 ⟨rfl, hb⟩; refine ⟨_, rfl, ?_⟩; replace HO319 := aS (Kd.R_below (rU HO319.out) hb); replace HB := aS (below_step (wU HB.out) hb); clear hb))
           go_ret
           exact ⟨by first | rfl | (simp [errW_none, errW_some] <;> rfl) | (simp [*, errW_none, errW_some] <;> rfl) | (exfalso; simp_all; done) | ((have ai_ : ∀ p : Prop, Aside0 p ↔ p := fun p => ⟨fun h => h.out, fun h => ⟨h⟩⟩); simp_all [ai_]; done), by exact wU HB.out⟩
          ·rw [if_neg c28] at H
           have c28b0 := beq_eq_false_iff_ne.mpr c28
           have c28b1 := bne_iff_ne.mpr c28
           exact absurd (H.trans (congrArg some hrt_)) (by simp)
        ·replace c25 := Bool.eq_false_iff.mpr c25
         subst c25
         rw [if_neg Bool.false_ne_true] at H
         exact absurd (H.trans (congrArg some hrt_)) (by simp)
       ·rw [if_neg c21] at H
        have c21b0 := beq_eq_false_iff_ne.mpr c21
        have c21b1 := bne_iff_ne.mpr c21
        exact absurd (H.trans (congrArg some hrt_)) (by simp)
     ·replace c17 := Bool.eq_false_iff.mpr c17
      subst c17
      rw [if_neg Bool.false_ne_true] at H
      exact absurd (H.trans (congrArg some hrt_)) (by simp)
   ·replace c13 := Bool.eq_false_iff.mpr c13
    subst c13
    rw [if_neg Bool.false_ne_true] at H
    exact absurd (H.trans (congrArg some hrt_)) (by simp)
  ·replace c10 := Bool.eq_false_iff.mpr c10
   subst c10
   rw [if_neg Bool.false_ne_true] at H
   exact absurd (H.trans (congrArg some hrt_)) (by simp)

/-- The one pure statement of laws_FnExactSortRecords. -/
def laws_FnExactSortRecords.Pure : Prop := ∀ (l0 : List (S30)), (l0.length ≤ maxLen ∧ l0.length * 72 ≤ 140737488351232 ∧ ∀ y_ ∈ l0, g30 y_) → ∃ k, laws_FnExactSortRecords.f k l0 = some true

end Go.Proofs.YtfmnofjijodgcaaDoor.Pr
