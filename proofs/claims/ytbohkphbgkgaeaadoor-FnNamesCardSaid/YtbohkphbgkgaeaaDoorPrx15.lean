-- Written for this claim by a program of this session (wip/tool/pr.py, over the kit's printer).
import Derived.Test.YtbohkphbgkgaeaaDoorPrx0
import Derived.Test.YtbohkphbgkgaeaaDoorPrx1
import Derived.Test.YtbohkphbgkgaeaaDoorPrx2
import Derived.Test.YtbohkphbgkgaeaaDoorPrx3
import Derived.Test.YtbohkphbgkgaeaaDoorPrx4
import Derived.Test.YtbohkphbgkgaeaaDoorPrx5
import Derived.Test.YtbohkphbgkgaeaaDoorPrx13
import Derived.Test.YtbohkphbgkgaeaaDoorPrx14
namespace Go.Proofs.YtbohkphbgkgaeaaDoor.Pr
open Go.RowKit Go.Proofs.YtbohkphbgkgaeaaDoorW.PrintWords Go.Proofs.YtbohkphbgkgaeaaDoorW.PrintLast Go.Proofs.YtbohkphbgkgaeaaDoorW.PrintMore
attribute [local go_sem] max2_int min2_int max_two min_two max_three min_three max_four min_four   -- for this text's walks alone
set_option linter.unusedVariables false
set_option linter.unusedSimpArgs false

/-! ### laws_FnNames: function 6 -/
def laws_FnNames.l0 : Nat → ByteArray → ByteArray → ByteArray → List ByteArray → Int → Option (Bool)
  | 0, _, _, _, _, _ => none
  | k + 1, x3, x4, x5, x6, x7 => if x7 < (x6.length : Int) then ((impl_NameOk.f k x3).bind fun t294 => (if t294 = true then (if 0 ≤ x7 then ((impl_Under.f k x3 (rdOf ByteArray.empty x6 x7)).bind fun t296 => (if t296 = true then ((impl_PartsOf.f (rdOf ByteArray.empty x6 x7)).bind fun t298 => (if t298 = (wrap64 ((wrap64 ((x6.length : Int) - 1)) - x7)) then (if x7 > 0 then (if 0 ≤ (wrap64 (x7 - 1)) then (if (wrap64 (x7 - 1)) < (x6.length : Int) then ((impl_Up.f (rdOf ByteArray.empty x6 (wrap64 (x7 - 1)))).bind fun t300 => (if t300.toList = (rdOf ByteArray.empty x6 x7).toList then (laws_FnNames.l0 k x3 x4 x5 x6 (wrap64 (x7 + 1))) else (some false))) else (none)) else (none)) else (laws_FnNames.l0 k x3 x4 x5 x6 (wrap64 (x7 + 1)))) else (some false))) else (some false))) else (none)) else ((impl_Under.f k x4 x4).bind fun t302 => (if t302 = true then ((impl_Under.f k x4 x5).bind fun t303 => (if t303 = true then ((impl_Under.f k x5 x4).bind fun t304 => (if t304 = true then (if x4.toList = x5.toList then ((impl_Under.f k x4 x5).bind fun t305 => (if t305 = true then ((impl_PartsOf.f x4).bind fun t306 => ((impl_PartsOf.f x5).bind fun t307 => (some (decide (t306 ≥ t307))))) else (some true))) else (some false)) else ((impl_Under.f k x4 x5).bind fun t308 => (if t308 = true then ((impl_PartsOf.f x4).bind fun t309 => ((impl_PartsOf.f x5).bind fun t310 => (some (decide (t309 ≥ t310))))) else (some true))))) else ((impl_Under.f k x4 x5).bind fun t311 => (if t311 = true then ((impl_PartsOf.f x4).bind fun t312 => ((impl_PartsOf.f x5).bind fun t313 => (some (decide (t312 ≥ t313))))) else (some true))))) else (some false))))) else ((impl_Under.f k x4 x4).bind fun t314 => (if t314 = true then ((impl_Under.f k x4 x5).bind fun t315 => (if t315 = true then ((impl_Under.f k x5 x4).bind fun t316 => (if t316 = true then (if x4.toList = x5.toList then ((impl_Under.f k x4 x5).bind fun t317 => (if t317 = true then ((impl_PartsOf.f x4).bind fun t318 => ((impl_PartsOf.f x5).bind fun t319 => (some (decide (t318 ≥ t319))))) else (some true))) else (some false)) else ((impl_Under.f k x4 x5).bind fun t320 => (if t320 = true then ((impl_PartsOf.f x4).bind fun t321 => ((impl_PartsOf.f x5).bind fun t322 => (some (decide (t321 ≥ t322))))) else (some true))))) else ((impl_Under.f k x4 x5).bind fun t323 => (if t323 = true then ((impl_PartsOf.f x4).bind fun t324 => ((impl_PartsOf.f x5).bind fun t325 => (some (decide (t324 ≥ t325))))) else (some true))))) else (some false)))
def laws_FnNames.f (k : Nat) (l0 : List Int) : Option (Bool) := (laws_big.f l0).bind fun t274 => (if t274 = true then (some true) else ((spec_DrawAbove.f k l0).bind fun t275 => ((spec_DrawUnder.f k l0).bind fun bt276 => ((impl_Above.f k t275).bind fun t278 => ((spec_Above.f k t275).bind fun t281 => ((laws_sameStrs.f k t278 t281).bind fun t284 => (if t284 = true then ((impl_Under.f k bt276.1 bt276.2).bind fun t285 => ((spec_Under.f k bt276.1 bt276.2).bind fun t286 => (if (t285 != t286) = true then (some false) else ((impl_NameOk.f k t275).bind fun t287 => ((spec_NameOk.f k t275).bind fun t288 => (if (t287 != t288) = true then (some false) else ((impl_Up.f t275).bind fun t289 => ((spec_Up.f k t275).bind fun t290 => (if t289.toList = t290.toList then ((impl_PartsOf.f t275).bind fun t291 => (if (t278.length : Int) = (wrap64 (t291 + 1)) then (if 0 < (t278.length : Int) then (if (rdOf ByteArray.empty t278 0).toList = t275.toList then (if 0 ≤ (wrap64 ((t278.length : Int) - 1)) then (if (wrap64 ((t278.length : Int) - 1)) < (t278.length : Int) then (if (rdOf ByteArray.empty t278 (wrap64 ((t278.length : Int) - 1))).toList = ([] : List UInt8) then (laws_FnNames.l0 k t275 bt276.1 bt276.2 t278 0) else (some false)) else (none)) else (none)) else (some false)) else (none)) else (some false))) else (some false)))))))))) else (some false))))))))
theorem laws_FnNames.mono_l : ∀ k, (∀ y0 y1 y2 y3 y4, LeO (laws_FnNames.l0 k y0 y1 y2 y3 y4) (laws_FnNames.l0 (k + 1) y0 y1 y2 y3 y4))
  | 0 => fun _ _ _ _ _ r h => by simp [laws_FnNames.l0] at h
  | k + 1 => by
    have ih0 := laws_FnNames.mono_l k
    · intro y0 y1 y2 y3 y4
      unfold laws_FnNames.l0
      repeat' first
      | (with_reducible exact ih0 _ _ _ _ _)
      | (with_reducible exact impl_Above.mono _ _)
      | (with_reducible exact impl_NameOk.mono _ _)
      | (with_reducible exact impl_Under.mono _ _ _)
      | (with_reducible exact laws_sameStrs.mono _ _ _)
      | (with_reducible exact spec_Above.mono _ _)
      | (with_reducible exact spec_DrawAbove.mono _ _)
      | (with_reducible exact spec_DrawUnder.mono _ _)
      | (with_reducible exact spec_NameOk.mono _ _)
      | (with_reducible exact spec_Under.mono _ _ _)
      | (with_reducible exact spec_Up.mono _ _)
      | (with_reducible exact LeO.refl _)
      | (with_reducible exact LeO.none _)
      | (with_reducible refine LeO.ite ?_ ?_)
      | (with_reducible refine LeO.bind ?_ (fun _ => ?_))
      | exact ih0 _ _ _ _ _
      | exact impl_Above.mono _ _
      | exact impl_NameOk.mono _ _
      | exact impl_Under.mono _ _ _
      | exact laws_sameStrs.mono _ _ _
      | exact spec_Above.mono _ _
      | exact spec_DrawAbove.mono _ _
      | exact spec_DrawUnder.mono _ _
      | exact spec_NameOk.mono _ _
      | exact spec_Under.mono _ _ _
      | exact spec_Up.mono _ _
      | exact LeO.none _
      | refine LeO.ite ?_ ?_
      | refine LeO.bind ?_ (fun _ => ?_)
theorem laws_FnNames.mono : ∀ a0 k, LeO (laws_FnNames.f k a0) (laws_FnNames.f (k + 1) a0) := by
  intro a0 k
  have ih0 := laws_FnNames.mono_l k
  unfold laws_FnNames.f
  repeat' first
      | (with_reducible exact ih0 _ _ _ _ _)
      | (with_reducible exact impl_Above.mono _ _)
      | (with_reducible exact impl_NameOk.mono _ _)
      | (with_reducible exact impl_Under.mono _ _ _)
      | (with_reducible exact laws_sameStrs.mono _ _ _)
      | (with_reducible exact spec_Above.mono _ _)
      | (with_reducible exact spec_DrawAbove.mono _ _)
      | (with_reducible exact spec_DrawUnder.mono _ _)
      | (with_reducible exact spec_NameOk.mono _ _)
      | (with_reducible exact spec_Under.mono _ _ _)
      | (with_reducible exact spec_Up.mono _ _)
      | (with_reducible exact LeO.refl _)
      | (with_reducible exact LeO.none _)
      | (with_reducible refine LeO.ite ?_ ?_)
      | (with_reducible refine LeO.bind ?_ (fun _ => ?_))
      | exact ih0 _ _ _ _ _
      | exact impl_Above.mono _ _
      | exact impl_NameOk.mono _ _
      | exact impl_Under.mono _ _ _
      | exact laws_sameStrs.mono _ _ _
      | exact spec_Above.mono _ _
      | exact spec_DrawAbove.mono _ _
      | exact spec_DrawUnder.mono _ _
      | exact spec_NameOk.mono _ _
      | exact spec_Under.mono _ _ _
      | exact spec_Up.mono _ _
      | exact LeO.none _
      | refine LeO.ite ?_ ?_
      | refine LeO.bind ?_ (fun _ => ?_)
def laws_FnNames.T11 : Bool × List (List Nat × List Nat) := (true, [([], []), ([], []), ([], []), ([1, 2], [1, 2]), ([3], [3]), ([0, 4], [0, 4]), ([5], [5]), ([6, 5], [6]), ([7], [7]), ([7], [7]), ([8, 9, 7], [7, 8, 9]), ([10, 7], [7, 10]), ([11, 7, 7], [7, 11]), ([7], [7]), ([13, 7], [7, 13]), ([14, 7], [7, 14]), ([7], [7]), ([15, 16, 7], [7, 15, 16]), ([12, 17, 7], [7, 12, 17]), ([7, 18], [7, 18]), ([19, 12], [19]), ([20], [20]), ([21, 20], [20, 21]), ([22, 20, 20], [20, 22]), ([23], [23]), ([23], [23]), ([25, 23], [23, 25]), ([24, 26, 23], [23, 24, 26]), ([27, 23], [23, 27]), ([28, 23, 23], [23, 28]), ([23], [23]), ([23], [23]), ([30, 31, 23], [23, 30, 31]), ([32, 23], [23, 32]), ([29, 33, 23], [23, 29, 33]), ([23, 34, 20], [20, 23, 34]), ([20, 35], [20, 35])])
def laws_FnNames.B11 : List Nat := [0, 0, 0, 6, 14, 31, 63, 127, 255, 255, 1023, 2047, 4095, 255, 8447, 24831, 255, 123135, 262143, 524287, 1048575, 2097151, 4194303, 8388607, 16777215, 16777215, 50331647, 134217727, 268435455, 536870911, 16777215, 16777215, 3238002687, 7532969983, 17179869183, 34359738367, 68719476735]
theorem laws_FnNames.tab11 : rtab .any (opsOf Tryd.f6 11) = laws_FnNames.T11 := by kernel_rfl
theorem laws_FnNames.bits11 : waitsOk laws_FnNames.T11.2 laws_FnNames.B11 = true := by kernel_rfl
set_option maxHeartbeats 8000000 in
set_option maxRecDepth 100000 in
theorem laws_FnNames.calls (k : Nat) (A0 : Option Addr) (c0 : Nat) (l0 : List Int) (r : Bool) (w : World) (hr0 : Kd.C (Kd.int .u8) w A0 l0.length l0) (hc0 : l0.length ≤ c0) (hrt_ : r = true) (h : laws_FnNames.f k l0 = some r) :
    Calls Tryd.prog 6 #[.slice A0 l0.length c0] w fun e w' => e = .returned (.bool r) ∧ Below w.heap.size w w' := by
  have HR0 := Aside0.mk hr0
  have HC0 := Aside0.mk hc0
  clear hr0 hc0
  have HB := Aside0.mk (Below.refl w.heap.size w)
  have H : ((laws_big.f l0).bind fun t274 => (if t274 = true then (some true) else ((spec_DrawAbove.f k l0).bind fun t275 => ((spec_DrawUnder.f k l0).bind fun bt276 => ((impl_Above.f k t275).bind fun t278 => ((spec_Above.f k t275).bind fun t281 => ((laws_sameStrs.f k t278 t281).bind fun t284 => (if t284 = true then ((impl_Under.f k bt276.1 bt276.2).bind fun t285 => ((spec_Under.f k bt276.1 bt276.2).bind fun t286 => (if (t285 != t286) = true then (some false) else ((impl_NameOk.f k t275).bind fun t287 => ((spec_NameOk.f k t275).bind fun t288 => (if (t287 != t288) = true then (some false) else ((impl_Up.f t275).bind fun t289 => ((spec_Up.f k t275).bind fun t290 => (if t289.toList = t290.toList then ((impl_PartsOf.f t275).bind fun t291 => (if (t278.length : Int) = (wrap64 (t291 + 1)) then (if 0 < (t278.length : Int) then (if (rdOf ByteArray.empty t278 0).toList = t275.toList then (if 0 ≤ (wrap64 ((t278.length : Int) - 1)) then (if (wrap64 ((t278.length : Int) - 1)) < (t278.length : Int) then (if (rdOf ByteArray.empty t278 (wrap64 ((t278.length : Int) - 1))).toList = ([] : List UInt8) then (laws_FnNames.l0 k t275 bt276.1 bt276.2 t278 0) else (some false)) else (none)) else (none)) else (some false)) else (none)) else (some false))) else (some false)))))))))) else (some false))))))))) = some r := h
  clear h
  replace H := Option.bind_eq_some_iff.mp H
  obtain ⟨t274, A20, H⟩ := H
  replace H : (if t274 = true then (some true) else ((spec_DrawAbove.f k l0).bind fun t275 => ((spec_DrawUnder.f k l0).bind fun bt276 => ((impl_Above.f k t275).bind fun t278 => ((spec_Above.f k t275).bind fun t281 => ((laws_sameStrs.f k t278 t281).bind fun t284 => (if t284 = true then ((impl_Under.f k bt276.1 bt276.2).bind fun t285 => ((spec_Under.f k bt276.1 bt276.2).bind fun t286 => (if (t285 != t286) = true then (some false) else ((impl_NameOk.f k t275).bind fun t287 => ((spec_NameOk.f k t275).bind fun t288 => (if (t287 != t288) = true then (some false) else ((impl_Up.f t275).bind fun t289 => ((spec_Up.f k t275).bind fun t290 => (if t289.toList = t290.toList then ((impl_PartsOf.f t275).bind fun t291 => (if (t278.length : Int) = (wrap64 (t291 + 1)) then (if 0 < (t278.length : Int) then (if (rdOf ByteArray.empty t278 0).toList = t275.toList then (if 0 ≤ (wrap64 ((t278.length : Int) - 1)) then (if (wrap64 ((t278.length : Int) - 1)) < (t278.length : Int) then (if (rdOf ByteArray.empty t278 (wrap64 ((t278.length : Int) - 1))).toList = ([] : List UInt8) then (laws_FnNames.l0 k t275 bt276.1 bt276.2 t278 0) else (some false)) else (none)) else (none)) else (some false)) else (none)) else (some false))) else (some false)))))))))) else (some false)))))))) = some r := H
  have A2 := Aside0.mk A20
  clear A20
  by_cases c3 : t274 = true
  · subst c3
    have H1 : (some true) = some r := by rw [if_pos rfl] at H; exact H
    clear H
    have H := H1
    clear H1
    obtain rfl := Option.some.inj H
    go_enter Tryd.func6, Tryd.ntmps6
    go_wp2_with (first | ((with_reducible refine gate_callee (f := 21) rfl ?_); refine goesL_ (some 9) rfl rfl Tryd.func21 (by kernel_rfl) rfl #[.slice A0 l0.length c0] rfl (by (try simp only [List.map_toArray, List.map_cons, List.map_nil]); first | done | rfl | (simp only [List.length_drop, List.length_take]; rfl)) ?_; (with_reducible refine (laws_big.calls _ _ l0 true _ ?side1 ?side2 A2.out).mono ?_); (case side1 => exact cU (HR0.out)); (case side2 => exact HC0.out); rintro e w' ⟨rfl, ⟨nd, rfl⟩⟩; refine ⟨_, rfl, ?_⟩))
    go_ret
    exact ⟨by first | rfl | (simp [errW_none, errW_some] <;> rfl) | (simp [*, errW_none, errW_some] <;> rfl) | (exfalso; simp_all; done) | ((have ai_ : ∀ p : Prop, Aside0 p ↔ p := fun p => ⟨fun h => h.out, fun h => ⟨h⟩⟩); simp_all [ai_]; done), by repeat (first | (with_reducible first | exact HB.out | apply below_alloc | apply pw_below_drewN | apply below_drew1) | exact HB.out)⟩
  · replace c3 := Bool.eq_false_iff.mpr c3
    subst c3
    have H1 : ((spec_DrawAbove.f k l0).bind fun t275 => ((spec_DrawUnder.f k l0).bind fun bt276 => ((impl_Above.f k t275).bind fun t278 => ((spec_Above.f k t275).bind fun t281 => ((laws_sameStrs.f k t278 t281).bind fun t284 => (if t284 = true then ((impl_Under.f k bt276.1 bt276.2).bind fun t285 => ((spec_Under.f k bt276.1 bt276.2).bind fun t286 => (if (t285 != t286) = true then (some false) else ((impl_NameOk.f k t275).bind fun t287 => ((spec_NameOk.f k t275).bind fun t288 => (if (t287 != t288) = true then (some false) else ((impl_Up.f t275).bind fun t289 => ((spec_Up.f k t275).bind fun t290 => (if t289.toList = t290.toList then ((impl_PartsOf.f t275).bind fun t291 => (if (t278.length : Int) = (wrap64 (t291 + 1)) then (if 0 < (t278.length : Int) then (if (rdOf ByteArray.empty t278 0).toList = t275.toList then (if 0 ≤ (wrap64 ((t278.length : Int) - 1)) then (if (wrap64 ((t278.length : Int) - 1)) < (t278.length : Int) then (if (rdOf ByteArray.empty t278 (wrap64 ((t278.length : Int) - 1))).toList = ([] : List UInt8) then (laws_FnNames.l0 k t275 bt276.1 bt276.2 t278 0) else (some false)) else (none)) else (none)) else (some false)) else (none)) else (some false))) else (some false)))))))))) else (some false))))))) = some r := by rw [if_neg (show ¬ (false = true) by decide)] at H; exact H
    clear H
    have H := H1
    clear H1
    replace H := Option.bind_eq_some_iff.mp H
    obtain ⟨t275, A40, H⟩ := H
    replace H : ((spec_DrawUnder.f k l0).bind fun bt276 => ((impl_Above.f k t275).bind fun t278 => ((spec_Above.f k t275).bind fun t281 => ((laws_sameStrs.f k t278 t281).bind fun t284 => (if t284 = true then ((impl_Under.f k bt276.1 bt276.2).bind fun t285 => ((spec_Under.f k bt276.1 bt276.2).bind fun t286 => (if (t285 != t286) = true then (some false) else ((impl_NameOk.f k t275).bind fun t287 => ((spec_NameOk.f k t275).bind fun t288 => (if (t287 != t288) = true then (some false) else ((impl_Up.f t275).bind fun t289 => ((spec_Up.f k t275).bind fun t290 => (if t289.toList = t290.toList then ((impl_PartsOf.f t275).bind fun t291 => (if (t278.length : Int) = (wrap64 (t291 + 1)) then (if 0 < (t278.length : Int) then (if (rdOf ByteArray.empty t278 0).toList = t275.toList then (if 0 ≤ (wrap64 ((t278.length : Int) - 1)) then (if (wrap64 ((t278.length : Int) - 1)) < (t278.length : Int) then (if (rdOf ByteArray.empty t278 (wrap64 ((t278.length : Int) - 1))).toList = ([] : List UInt8) then (laws_FnNames.l0 k t275 bt276.1 bt276.2 t278 0) else (some false)) else (none)) else (none)) else (some false)) else (none)) else (some false))) else (some false)))))))))) else (some false)))))) = some r := H
    have A4 := Aside0.mk A40
    clear A40
    replace H := Option.bind_eq_some_iff.mp H
    obtain ⟨⟨t276, t277⟩, A50, H⟩ := H
    replace H : ((impl_Above.f k t275).bind fun t278 => ((spec_Above.f k t275).bind fun t281 => ((laws_sameStrs.f k t278 t281).bind fun t284 => (if t284 = true then ((impl_Under.f k t276 t277).bind fun t285 => ((spec_Under.f k t276 t277).bind fun t286 => (if (t285 != t286) = true then (some false) else ((impl_NameOk.f k t275).bind fun t287 => ((spec_NameOk.f k t275).bind fun t288 => (if (t287 != t288) = true then (some false) else ((impl_Up.f t275).bind fun t289 => ((spec_Up.f k t275).bind fun t290 => (if t289.toList = t290.toList then ((impl_PartsOf.f t275).bind fun t291 => (if (t278.length : Int) = (wrap64 (t291 + 1)) then (if 0 < (t278.length : Int) then (if (rdOf ByteArray.empty t278 0).toList = t275.toList then (if 0 ≤ (wrap64 ((t278.length : Int) - 1)) then (if (wrap64 ((t278.length : Int) - 1)) < (t278.length : Int) then (if (rdOf ByteArray.empty t278 (wrap64 ((t278.length : Int) - 1))).toList = ([] : List UInt8) then (laws_FnNames.l0 k t275 t276 t277 t278 0) else (some false)) else (none)) else (none)) else (some false)) else (none)) else (some false))) else (some false)))))))))) else (some false))))) = some r := H
    have A5 := Aside0.mk A50
    clear A50
    replace H := Option.bind_eq_some_iff.mp H
    obtain ⟨t278, A60, H⟩ := H
    replace H : ((spec_Above.f k t275).bind fun t281 => ((laws_sameStrs.f k t278 t281).bind fun t284 => (if t284 = true then ((impl_Under.f k t276 t277).bind fun t285 => ((spec_Under.f k t276 t277).bind fun t286 => (if (t285 != t286) = true then (some false) else ((impl_NameOk.f k t275).bind fun t287 => ((spec_NameOk.f k t275).bind fun t288 => (if (t287 != t288) = true then (some false) else ((impl_Up.f t275).bind fun t289 => ((spec_Up.f k t275).bind fun t290 => (if t289.toList = t290.toList then ((impl_PartsOf.f t275).bind fun t291 => (if (t278.length : Int) = (wrap64 (t291 + 1)) then (if 0 < (t278.length : Int) then (if (rdOf ByteArray.empty t278 0).toList = t275.toList then (if 0 ≤ (wrap64 ((t278.length : Int) - 1)) then (if (wrap64 ((t278.length : Int) - 1)) < (t278.length : Int) then (if (rdOf ByteArray.empty t278 (wrap64 ((t278.length : Int) - 1))).toList = ([] : List UInt8) then (laws_FnNames.l0 k t275 t276 t277 t278 0) else (some false)) else (none)) else (none)) else (some false)) else (none)) else (some false))) else (some false)))))))))) else (some false)))) = some r := H
    have A6 := Aside0.mk A60
    clear A60
    replace H := Option.bind_eq_some_iff.mp H
    obtain ⟨t281, A70, H⟩ := H
    replace H : ((laws_sameStrs.f k t278 t281).bind fun t284 => (if t284 = true then ((impl_Under.f k t276 t277).bind fun t285 => ((spec_Under.f k t276 t277).bind fun t286 => (if (t285 != t286) = true then (some false) else ((impl_NameOk.f k t275).bind fun t287 => ((spec_NameOk.f k t275).bind fun t288 => (if (t287 != t288) = true then (some false) else ((impl_Up.f t275).bind fun t289 => ((spec_Up.f k t275).bind fun t290 => (if t289.toList = t290.toList then ((impl_PartsOf.f t275).bind fun t291 => (if (t278.length : Int) = (wrap64 (t291 + 1)) then (if 0 < (t278.length : Int) then (if (rdOf ByteArray.empty t278 0).toList = t275.toList then (if 0 ≤ (wrap64 ((t278.length : Int) - 1)) then (if (wrap64 ((t278.length : Int) - 1)) < (t278.length : Int) then (if (rdOf ByteArray.empty t278 (wrap64 ((t278.length : Int) - 1))).toList = ([] : List UInt8) then (laws_FnNames.l0 k t275 t276 t277 t278 0) else (some false)) else (none)) else (none)) else (some false)) else (none)) else (some false))) else (some false)))))))))) else (some false))) = some r := H
    have A7 := Aside0.mk A70
    clear A70
    replace H := Option.bind_eq_some_iff.mp H
    obtain ⟨t284, A80, H⟩ := H
    replace H : (if t284 = true then ((impl_Under.f k t276 t277).bind fun t285 => ((spec_Under.f k t276 t277).bind fun t286 => (if (t285 != t286) = true then (some false) else ((impl_NameOk.f k t275).bind fun t287 => ((spec_NameOk.f k t275).bind fun t288 => (if (t287 != t288) = true then (some false) else ((impl_Up.f t275).bind fun t289 => ((spec_Up.f k t275).bind fun t290 => (if t289.toList = t290.toList then ((impl_PartsOf.f t275).bind fun t291 => (if (t278.length : Int) = (wrap64 (t291 + 1)) then (if 0 < (t278.length : Int) then (if (rdOf ByteArray.empty t278 0).toList = t275.toList then (if 0 ≤ (wrap64 ((t278.length : Int) - 1)) then (if (wrap64 ((t278.length : Int) - 1)) < (t278.length : Int) then (if (rdOf ByteArray.empty t278 (wrap64 ((t278.length : Int) - 1))).toList = ([] : List UInt8) then (laws_FnNames.l0 k t275 t276 t277 t278 0) else (some false)) else (none)) else (none)) else (some false)) else (none)) else (some false))) else (some false)))))))))) else (some false)) = some r := H
    have A8 := Aside0.mk A80
    clear A80
    by_cases c9 : t284 = true
    · subst c9
      have H1 : ((impl_Under.f k t276 t277).bind fun t285 => ((spec_Under.f k t276 t277).bind fun t286 => (if (t285 != t286) = true then (some false) else ((impl_NameOk.f k t275).bind fun t287 => ((spec_NameOk.f k t275).bind fun t288 => (if (t287 != t288) = true then (some false) else ((impl_Up.f t275).bind fun t289 => ((spec_Up.f k t275).bind fun t290 => (if t289.toList = t290.toList then ((impl_PartsOf.f t275).bind fun t291 => (if (t278.length : Int) = (wrap64 (t291 + 1)) then (if 0 < (t278.length : Int) then (if (rdOf ByteArray.empty t278 0).toList = t275.toList then (if 0 ≤ (wrap64 ((t278.length : Int) - 1)) then (if (wrap64 ((t278.length : Int) - 1)) < (t278.length : Int) then (if (rdOf ByteArray.empty t278 (wrap64 ((t278.length : Int) - 1))).toList = ([] : List UInt8) then (laws_FnNames.l0 k t275 t276 t277 t278 0) else (some false)) else (none)) else (none)) else (some false)) else (none)) else (some false))) else (some false)))))))))) = some r := by rw [if_pos rfl] at H; exact H
      clear H
      have H := H1
      clear H1
      replace H := Option.bind_eq_some_iff.mp H
      obtain ⟨t285, A100, H⟩ := H
      replace H : ((spec_Under.f k t276 t277).bind fun t286 => (if (t285 != t286) = true then (some false) else ((impl_NameOk.f k t275).bind fun t287 => ((spec_NameOk.f k t275).bind fun t288 => (if (t287 != t288) = true then (some false) else ((impl_Up.f t275).bind fun t289 => ((spec_Up.f k t275).bind fun t290 => (if t289.toList = t290.toList then ((impl_PartsOf.f t275).bind fun t291 => (if (t278.length : Int) = (wrap64 (t291 + 1)) then (if 0 < (t278.length : Int) then (if (rdOf ByteArray.empty t278 0).toList = t275.toList then (if 0 ≤ (wrap64 ((t278.length : Int) - 1)) then (if (wrap64 ((t278.length : Int) - 1)) < (t278.length : Int) then (if (rdOf ByteArray.empty t278 (wrap64 ((t278.length : Int) - 1))).toList = ([] : List UInt8) then (laws_FnNames.l0 k t275 t276 t277 t278 0) else (some false)) else (none)) else (none)) else (some false)) else (none)) else (some false))) else (some false))))))))) = some r := H
      have A10 := Aside0.mk A100
      clear A100
      replace H := Option.bind_eq_some_iff.mp H
      obtain ⟨t286, A110, H⟩ := H
      replace H : (if (t285 != t286) = true then (some false) else ((impl_NameOk.f k t275).bind fun t287 => ((spec_NameOk.f k t275).bind fun t288 => (if (t287 != t288) = true then (some false) else ((impl_Up.f t275).bind fun t289 => ((spec_Up.f k t275).bind fun t290 => (if t289.toList = t290.toList then ((impl_PartsOf.f t275).bind fun t291 => (if (t278.length : Int) = (wrap64 (t291 + 1)) then (if 0 < (t278.length : Int) then (if (rdOf ByteArray.empty t278 0).toList = t275.toList then (if 0 ≤ (wrap64 ((t278.length : Int) - 1)) then (if (wrap64 ((t278.length : Int) - 1)) < (t278.length : Int) then (if (rdOf ByteArray.empty t278 (wrap64 ((t278.length : Int) - 1))).toList = ([] : List UInt8) then (laws_FnNames.l0 k t275 t276 t277 t278 0) else (some false)) else (none)) else (none)) else (some false)) else (none)) else (some false))) else (some false)))))))) = some r := H
      have A11 := Aside0.mk A110
      clear A110
      by_cases c12 : (t285 != t286) = true
      · rw [if_pos c12] at H
        have c12b0 : (t285 != t286) = true := c12
        (try (have c12b1 : decide (t285 = t286) = false := by simpa using c12))
        (try (have c12b2 : (t285 == t286) = false := by simpa using c12))
        (try (have c12b3 : ¬ (t285 = t286) := by simpa using c12))
        clear c12
        exact absurd (H.trans (congrArg some hrt_)) (by simp)
      · rw [if_neg c12] at H
        have c12b0 : (t285 != t286) = false := by simpa using c12
        (try (have c12b1 : decide (t285 = t286) = true := by simpa using c12))
        (try (have c12b2 : (t285 == t286) = true := by simpa using c12))
        clear c12
        replace H := Option.bind_eq_some_iff.mp H
        obtain ⟨t287, A130, H⟩ := H
        replace H : ((spec_NameOk.f k t275).bind fun t288 => (if (t287 != t288) = true then (some false) else ((impl_Up.f t275).bind fun t289 => ((spec_Up.f k t275).bind fun t290 => (if t289.toList = t290.toList then ((impl_PartsOf.f t275).bind fun t291 => (if (t278.length : Int) = (wrap64 (t291 + 1)) then (if 0 < (t278.length : Int) then (if (rdOf ByteArray.empty t278 0).toList = t275.toList then (if 0 ≤ (wrap64 ((t278.length : Int) - 1)) then (if (wrap64 ((t278.length : Int) - 1)) < (t278.length : Int) then (if (rdOf ByteArray.empty t278 (wrap64 ((t278.length : Int) - 1))).toList = ([] : List UInt8) then (laws_FnNames.l0 k t275 t276 t277 t278 0) else (some false)) else (none)) else (none)) else (some false)) else (none)) else (some false))) else (some false)))))) = some r := H
        have A13 := Aside0.mk A130
        clear A130
        replace H := Option.bind_eq_some_iff.mp H
        obtain ⟨t288, A140, H⟩ := H
        replace H : (if (t287 != t288) = true then (some false) else ((impl_Up.f t275).bind fun t289 => ((spec_Up.f k t275).bind fun t290 => (if t289.toList = t290.toList then ((impl_PartsOf.f t275).bind fun t291 => (if (t278.length : Int) = (wrap64 (t291 + 1)) then (if 0 < (t278.length : Int) then (if (rdOf ByteArray.empty t278 0).toList = t275.toList then (if 0 ≤ (wrap64 ((t278.length : Int) - 1)) then (if (wrap64 ((t278.length : Int) - 1)) < (t278.length : Int) then (if (rdOf ByteArray.empty t278 (wrap64 ((t278.length : Int) - 1))).toList = ([] : List UInt8) then (laws_FnNames.l0 k t275 t276 t277 t278 0) else (some false)) else (none)) else (none)) else (some false)) else (none)) else (some false))) else (some false))))) = some r := H
        have A14 := Aside0.mk A140
        clear A140
        by_cases c15 : (t287 != t288) = true
        · rw [if_pos c15] at H
          have c15b0 : (t287 != t288) = true := c15
          (try (have c15b1 : decide (t287 = t288) = false := by simpa using c15))
          (try (have c15b2 : (t287 == t288) = false := by simpa using c15))
          (try (have c15b3 : ¬ (t287 = t288) := by simpa using c15))
          clear c15
          exact absurd (H.trans (congrArg some hrt_)) (by simp)
        · rw [if_neg c15] at H
          have c15b0 : (t287 != t288) = false := by simpa using c15
          (try (have c15b1 : decide (t287 = t288) = true := by simpa using c15))
          (try (have c15b2 : (t287 == t288) = true := by simpa using c15))
          clear c15
          replace H := Option.bind_eq_some_iff.mp H
          obtain ⟨t289, A160, H⟩ := H
          replace H : ((spec_Up.f k t275).bind fun t290 => (if t289.toList = t290.toList then ((impl_PartsOf.f t275).bind fun t291 => (if (t278.length : Int) = (wrap64 (t291 + 1)) then (if 0 < (t278.length : Int) then (if (rdOf ByteArray.empty t278 0).toList = t275.toList then (if 0 ≤ (wrap64 ((t278.length : Int) - 1)) then (if (wrap64 ((t278.length : Int) - 1)) < (t278.length : Int) then (if (rdOf ByteArray.empty t278 (wrap64 ((t278.length : Int) - 1))).toList = ([] : List UInt8) then (laws_FnNames.l0 k t275 t276 t277 t278 0) else (some false)) else (none)) else (none)) else (some false)) else (none)) else (some false))) else (some false))) = some r := H
          have A16 := Aside0.mk A160
          clear A160
          replace H := Option.bind_eq_some_iff.mp H
          obtain ⟨t290, A170, H⟩ := H
          replace H : (if t289.toList = t290.toList then ((impl_PartsOf.f t275).bind fun t291 => (if (t278.length : Int) = (wrap64 (t291 + 1)) then (if 0 < (t278.length : Int) then (if (rdOf ByteArray.empty t278 0).toList = t275.toList then (if 0 ≤ (wrap64 ((t278.length : Int) - 1)) then (if (wrap64 ((t278.length : Int) - 1)) < (t278.length : Int) then (if (rdOf ByteArray.empty t278 (wrap64 ((t278.length : Int) - 1))).toList = ([] : List UInt8) then (laws_FnNames.l0 k t275 t276 t277 t278 0) else (some false)) else (none)) else (none)) else (some false)) else (none)) else (some false))) else (some false)) = some r := H
          have A17 := Aside0.mk A170
          clear A170
          by_cases c18 : t289.toList = t290.toList
          · rw [if_pos c18] at H
            have c18b0 : (t289.toList == t290.toList) = true := beq_iff_eq.mpr c18
            have c18b1 : (t289.toList != t290.toList) = false := bne_eq_false_iff_eq.mpr c18
            clear c18
            replace H := Option.bind_eq_some_iff.mp H
            obtain ⟨t291, A190, H⟩ := H
            replace H : (if (t278.length : Int) = (wrap64 (t291 + 1)) then (if 0 < (t278.length : Int) then (if (rdOf ByteArray.empty t278 0).toList = t275.toList then (if 0 ≤ (wrap64 ((t278.length : Int) - 1)) then (if (wrap64 ((t278.length : Int) - 1)) < (t278.length : Int) then (if (rdOf ByteArray.empty t278 (wrap64 ((t278.length : Int) - 1))).toList = ([] : List UInt8) then (laws_FnNames.l0 k t275 t276 t277 t278 0) else (some false)) else (none)) else (none)) else (some false)) else (none)) else (some false)) = some r := H
            have A19 := Aside0.mk A190
            clear A190
            by_cases c20 : (t278.length : Int) = (wrap64 (t291 + 1))
            · rw [if_pos c20] at H
              have c20b0 : ((t278.length : Int) == (wrap64 (t291 + 1))) = true := beq_iff_eq.mpr c20
              have c20b1 : ((t278.length : Int) != (wrap64 (t291 + 1))) = false := bne_eq_false_iff_eq.mpr c20
              clear c20
              by_cases c21 : 0 < (t278.length : Int)
              · rw [if_pos c21] at H
                have c21b0 : decide (0 < (t278.length : Int)) = true := decide_eq_true c21
                have c21b1 : decide (0 < t278.length) = true := decide_eq_true (by omega)
                clear c21
                by_cases c22 : (rdOf ByteArray.empty t278 0).toList = t275.toList
                · rw [if_pos c22] at H
                  have c22b0 : ((rdOf ByteArray.empty t278 0).toList == t275.toList) = true := beq_iff_eq.mpr c22
                  have c22b1 : ((rdOf ByteArray.empty t278 0).toList != t275.toList) = false := bne_eq_false_iff_eq.mpr c22
                  clear c22
                  obtain ⟨ji23, hji23⟩ : ∃ j_ : Int, (wrap64 ((t278.length : Int) - 1)) = j_ := ⟨_, rfl⟩
                  replace H : (if 0 ≤ (ji23) then (if (ji23) < (t278.length : Int) then (if (rdOf ByteArray.empty t278 (ji23)).toList = ([] : List UInt8) then (laws_FnNames.l0 k t275 t276 t277 t278 0) else (some false)) else (none)) else (none)) = some r := by first | (rw [hji23] at H; exact H) | (simp only [hji23] at H ⊢; exact H)
                  (try rw [hji23] at A2)
                  (try rw [hji23] at A4)
                  (try rw [hji23] at A5)
                  (try rw [hji23] at A6)
                  (try rw [hji23] at A7)
                  (try rw [hji23] at A8)
                  (try rw [hji23] at A10)
                  (try rw [hji23] at A11)
                  (try rw [hji23] at A13)
                  (try rw [hji23] at A14)
                  (try rw [hji23] at A16)
                  (try rw [hji23] at A17)
                  (try rw [hji23] at A19)
                  have hji23w : (IntKind.i64.wrap ((t278.length : Int) - 1)) = ji23 := (i64_w _).trans hji23
                  by_cases c24 : 0 ≤ (ji23)
                  · rw [if_pos c24] at H
                    have c24b0 : decide (0 ≤ (ji23)) = true := decide_eq_true c24
                    clear c24
                    by_cases c25 : (ji23) < (t278.length : Int)
                    · rw [if_pos c25] at H
                      have c25b0 : decide ((ji23) < (t278.length : Int)) = true := decide_eq_true c25
                      clear c25
                      by_cases c26 : (rdOf ByteArray.empty t278 (ji23)).toList = ([] : List UInt8)
                      · rw [if_pos c26] at H
                        have c26b0 : ((rdOf ByteArray.empty t278 (ji23)).toList == ([] : List UInt8)) = true := beq_iff_eq.mpr c26
                        have c26b1 : ((rdOf ByteArray.empty t278 (ji23)).toList != ([] : List UInt8)) = false := bne_eq_false_iff_eq.mpr c26
                        clear c26
                        have H' := Aside0.mk H
                        clear H
                        go_enter Tryd.func6, Tryd.ntmps6
                        go_wp2_with (first | ((with_reducible refine gate_callee (f := 21) rfl ?_); refine goesL_ (some 9) rfl rfl Tryd.func21 (by kernel_rfl) rfl #[.slice A0 l0.length c0] rfl (by (try simp only [List.map_toArray, List.map_cons, List.map_nil]); first | done | rfl | (simp only [List.length_drop, List.length_take]; rfl)) ?_; (with_reducible refine (laws_big.calls _ _ l0 false _ ?side1 ?side2 A2.out).mono ?_); (case side1 => exact cU (HR0.out)); (case side2 => exact HC0.out); rintro e w' ⟨rfl, ⟨nd, rfl⟩⟩; refine ⟨_, rfl, ?_⟩) | ((with_reducible refine gate_callee (f := 34) rfl ?_); refine goesL_ (some 11) rfl rfl Tryd.func34 (by kernel_rfl) rfl #[.slice A0 l0.length c0] rfl (by (try simp only [List.map_toArray, List.map_cons, List.map_nil]); first | done | rfl | (simp only [List.length_drop, List.length_take]; rfl)) ?_; (with_reducible refine (spec_DrawAbove.calls k _ _ l0 t275 _ ?side1 ?side2 A4.out).mono ?_); (case side1 => exact cU (HR0.out)); (case side2 => exact HC0.out); rintro e w27 ⟨rfl, hb⟩; refine ⟨_, rfl, ?_⟩; have n0_ := Aside0.mk (below_step (wU HB.out) hb); clear HB; have HB := n0_; clear n0_; (try clear hb); (try clear hb2); (try clear hk); (try clear hi)) | ((with_reducible refine gate_callee (f := 35) rfl ?_); refine goesL_ (some 14) rfl rfl Tryd.func35 (by kernel_rfl) rfl #[.slice A0 l0.length c0] rfl (by (try simp only [List.map_toArray, List.map_cons, List.map_nil]); first | done | rfl | (simp only [List.length_drop, List.length_take]; rfl)) ?_; (with_reducible refine (spec_DrawUnder.calls k _ _ l0 t276 t277 _ ?side1 ?side2 A5.out).mono ?_); (case side1 => exact cU ((Kd.C_below HR0.out HB.out))); (case side2 => exact HC0.out); rintro e w28 ⟨rfl, hb⟩; refine ⟨_, rfl, ?_⟩; have n0_ := Aside0.mk (below_step (wU HB.out) hb); clear HB; have HB := n0_; clear n0_; (try clear hb); (try clear hb2); (try clear hk); (try clear hi)) | ((with_reducible refine gate_callee (f := 36) rfl ?_); refine goesL_ (some 18) rfl rfl Tryd.func36 (by kernel_rfl) rfl #[.string t275] rfl (by (try simp only [List.map_toArray, List.map_cons, List.map_nil]); first | done | rfl | (simp only [List.length_drop, List.length_take]; rfl)) ?_; (with_reducible refine (impl_Above.calls k t275 t278 _ A6.out).mono ?_); rintro e w29 ⟨v279, rfl, ho0, hb⟩; refine ⟨_, rfl, ?_⟩; have n0_ := Aside0.mk (Kd.R_lower ho0 (below_size (wU HB.out))); have n1_ := Aside0.mk (below_step (wU HB.out) hb); clear HB; have HO280 := n0_; have HB := n1_; clear n0_ n1_; (try clear hb); (try clear hb2); (try clear hk); (try clear hi); (try clear ho0)) | ((with_reducible refine gate_callee (f := 37) rfl ?_); refine goesL_ (some 21) rfl rfl Tryd.func37 (by kernel_rfl) rfl #[.string t275] rfl (by (try simp only [List.map_toArray, List.map_cons, List.map_nil]); first | done | rfl | (simp only [List.length_drop, List.length_take]; rfl)) ?_; (with_reducible refine (spec_Above.calls k t275 t281 _ A7.out).mono ?_); rintro e w30 ⟨v282, rfl, ho0, hb⟩; refine ⟨_, rfl, ?_⟩; have n0_ := Aside0.mk (Kd.R_elder' (rU HO280.out) (Kd.R_base ho0) hb); have n1_ := Aside0.mk (Kd.R_lower (Kd.R_new' ho0 (Kd.R_lt (rU HO280.out))) (below_size (wU HB.out))); have n2_ := Aside0.mk (below_step (wU HB.out) hb); clear HO280; clear HB; have HO280 := n0_; have HO283 := n1_; have HB := n2_; clear n0_ n1_ n2_; (try clear hb); (try clear hb2); (try clear hk); (try clear hi); (try clear ho0); obtain ⟨Ao31, co31, eo31⟩ := Kd.R_slice HO280.out; subst eo31; obtain ⟨Ao32, co32, eo32⟩ := Kd.R_slice HO283.out; subst eo32) | ((with_reducible refine gate_callee (f := 29) rfl ?_); refine goesL_ (some 22) rfl rfl Tryd.func29 (by kernel_rfl) rfl #[.slice Ao31 t278.length co31, .slice Ao32 t281.length co32] rfl (by (try simp only [List.map_toArray, List.map_cons, List.map_nil]); first | done | rfl | (simp only [List.length_drop, List.length_take]; rfl)) ?_; (with_reducible refine (laws_sameStrs.calls k _ _ t278 _ _ t281 true _ ?side1 ?side2 ?side3 ?side4 A8.out).mono ?_); (case side1 => exact cU ((Kd.R_reads' HO280.out).2.2)); (case side2 => exact (Kd.R_reads' HO280.out).2.1); (case side3 => exact cU ((Kd.R_reads' HO283.out).2.2)); (case side4 => exact (Kd.R_reads' HO283.out).2.1); rintro e w' ⟨rfl, ⟨nd, rfl⟩⟩; refine ⟨_, rfl, ?_⟩) | (go_at_call 25; (with_reducible refine (impl_Under.calls k t276 t277 t285 _ A10.out).mono ?_); rintro e w33 ⟨rfl, hb⟩; have n0_ := Aside0.mk (Kd.R_below (rU HO280.out) hb); have n1_ := Aside0.mk (Kd.R_below (rU HO283.out) hb); have n2_ := Aside0.mk (below_step (wU HB.out) hb); clear HO280; clear HO283; clear HB; have HO280 := n0_; have HO283 := n1_; have HB := n2_; clear n0_ n1_ n2_; (try clear hb); (try clear hb2); (try clear hk); (try clear hi)) | (go_at_call 38; (with_reducible refine (spec_Under.calls k t276 t277 t286 _ A11.out).mono ?_); rintro e w34 ⟨rfl, hb⟩; have n0_ := Aside0.mk (Kd.R_below (rU HO280.out) hb); have n1_ := Aside0.mk (Kd.R_below (rU HO283.out) hb); have n2_ := Aside0.mk (below_step (wU HB.out) hb); clear HO280; clear HO283; clear HB; have HO280 := n0_; have HO283 := n1_; have HB := n2_; clear n0_ n1_ n2_; (try clear hb); (try clear hb2); (try clear hk); (try clear hi)) | (go_at_call 39; (with_reducible refine (impl_NameOk.calls k t275 t287 _ A13.out).mono ?_); rintro e w35 ⟨rfl, hb⟩; have n0_ := Aside0.mk (Kd.R_below (rU HO280.out) hb); have n1_ := Aside0.mk (Kd.R_below (rU HO283.out) hb); have n2_ := Aside0.mk (below_step (wU HB.out) hb); clear HO280; clear HO283; clear HB; have HO280 := n0_; have HO283 := n1_; have HB := n2_; clear n0_ n1_ n2_; (try clear hb); (try clear hb2); (try clear hk); (try clear hi)) | (go_at_call 40; (with_reducible refine (spec_NameOk.calls k t275 t288 _ A14.out).mono ?_); rintro e w36 ⟨rfl, hb⟩; have n0_ := Aside0.mk (Kd.R_below (rU HO280.out) hb); have n1_ := Aside0.mk (Kd.R_below (rU HO283.out) hb); have n2_ := Aside0.mk (below_step (wU HB.out) hb); clear HO280; clear HO283; clear HB; have HO280 := n0_; have HO283 := n1_; have HB := n2_; clear n0_ n1_ n2_; (try clear hb); (try clear hb2); (try clear hk); (try clear hi)) | (go_at_call 41; (with_reducible refine (impl_Up.calls t275 t289 _ A16.out).mono ?_); rintro e w37 ⟨rfl, hb⟩; have n0_ := Aside0.mk (Kd.R_below (rU HO280.out) hb); have n1_ := Aside0.mk (Kd.R_below (rU HO283.out) hb); have n2_ := Aside0.mk (below_step (wU HB.out) hb); clear HO280; clear HO283; clear HB; have HO280 := n0_; have HO283 := n1_; have HB := n2_; clear n0_ n1_ n2_; (try clear hb); (try clear hb2); (try clear hk); (try clear hi)) | (go_at_call 42; (with_reducible refine (spec_Up.calls k t275 t290 _ A17.out).mono ?_); rintro e w38 ⟨rfl, hb⟩; have n0_ := Aside0.mk (Kd.R_below (rU HO280.out) hb); have n1_ := Aside0.mk (Kd.R_below (rU HO283.out) hb); have n2_ := Aside0.mk (below_step (wU HB.out) hb); clear HO280; clear HO283; clear HB; have HO280 := n0_; have HO283 := n1_; have HB := n2_; clear n0_ n1_ n2_; (try clear hb); (try clear hb2); (try clear hk); (try clear hi)) | (go_at_call 43; (with_reducible refine (impl_PartsOf.calls t275 t291 _ A19.out).mono ?_); rintro e w39 ⟨rfl, hb⟩; have n0_ := Aside0.mk (Kd.R_below (rU HO280.out) hb); have n1_ := Aside0.mk (Kd.R_below (rU HO283.out) hb); have n2_ := Aside0.mk (below_step (wU HB.out) hb); clear HO280; clear HO283; clear HB; have HO280 := n0_; have HO283 := n1_; have HB := n2_; clear n0_ n1_ n2_; (try clear hb); (try clear hb2); (try clear hk); (try clear hi); have p292 : 0 ≤ (0 : Int) := (by omega); have q292 : 0 < (t278.length : Int) := of_decide_eq_true (by first | (with_reducible assumption) | assumption); obtain ⟨ad292, e292, hx292_0⟩ := Kd.at_string (Kd.R_reads' HO280.out).2.2 0 p292 q292; cases e292; have qi292 : (0 < t278.length) = True := eq_true (by omega); (try rw [show ((0 : Int)).toNat = 0 from rfl] at hx292_0); (try rw [Addr.add_zero'] at hx292_0); replace p292 := eq_true p292; replace q292 := eq_true q292; have p293 : 0 ≤ ((ji23) : Int) := of_decide_eq_true (by first | (with_reducible assumption) | assumption); have q293 : (ji23) < (t278.length : Int) := of_decide_eq_true (by first | (with_reducible assumption) | assumption); obtain ⟨ad293, e293, hx293_0⟩ := Kd.at_string (Kd.R_reads' HO280.out).2.2 (ji23) p293 q293; obtain rfl : ad292 = ad293 := (by injection e293); replace p293 := eq_true p293; replace q293 := eq_true q293))
                        go_loopg [7] k (fun kq v7 w' => ∃ (x7_1 : Int), v7 = .int .i64 x7_1 ∧ Aside0 (laws_FnNames.l0 kq t275 t276 t277 t278 x7_1 = some r) ∧ Aside0 (kq ≤ k) ∧ Aside0 (Kd.R Kd.string 9 w' w.heap.size (fun _ => True) (.slice (some ad292) t278.length co31) t278) ∧ Aside0 (Below w.heap.size w w'))
                        case atStart => exact ⟨(0), (by first | rfl | (simp; done) | (simp [*]; done) | (simp [X.bne_nil, X.beq_nil]; done) | (simp [*, X.bne_nil, X.beq_nil]; done)), H', ⟨Nat.le_refl _⟩, ⟨by (with_reducible repeat (first | apply Kd.R_alloc | apply Kd.R_drewN | apply Kd.R_drew)); exact Kd.R_mono HO280.out (fun _ hk => trivial)⟩, ⟨by repeat (first | (with_reducible first | exact HB.out | apply below_alloc | apply pw_below_drewN | apply below_drew1) | exact HB.out)⟩⟩
                        case round =>
                          clear H'
                          try clear c1
                          try clear c2
                          try clear p2
                          try clear q2
                          try clear hx2
                          try clear qi2
                          try clear c3
                          try clear c6
                          try clear p6
                          try clear c9
                          try clear c12
                          try clear c12b0
                          try clear c12b1
                          try clear c12b2
                          try clear c15
                          try clear c15b0
                          try clear c15b1
                          try clear c15b2
                          try clear c18
                          try clear c18b0
                          try clear c18b1
                          try clear c20
                          try clear c20b0
                          try clear c20b1
                          try clear c21
                          try clear c21b0
                          try clear c21b1
                          try clear c22
                          try clear c22b0
                          try clear c22b1
                          try clear c24
                          try clear c24b0
                          try clear c25
                          try clear c25b0
                          try clear c26
                          try clear c26b0
                          try clear c26b1
                          try clear c29
                          try clear p29
                          try clear q29
                          try clear hx29
                          try clear qi29
                          try clear c34
                          try clear c35
                          try clear c36
                          try clear c37
                          try clear hx292_0
                          try clear hx293_0
                          try clear p292
                          try clear p293
                          try clear q292
                          try clear q293
                          obtain ⟨x7_1, rfl, HA, HK1, HO_6, HB⟩ := hrel
                          cases gk with
                          | zero => exact absurd HA.out (by simp [laws_FnNames.l0])
                          | succ k1 =>
                            have H := HA.out
                            clear HA
                            simp only [laws_FnNames.l0] at H
                            by_cases c40 : x7_1 < (t278.length : Int)
                            · rw [if_pos c40] at H
                              have c40b0 : decide (x7_1 < (t278.length : Int)) = true := decide_eq_true c40
                              clear c40
                              replace H := Option.bind_eq_some_iff.mp H
                              obtain ⟨t294, A410, H⟩ := H
                              replace H : (if t294 = true then (if 0 ≤ x7_1 then ((impl_Under.f k1 t275 (rdOf ByteArray.empty t278 x7_1)).bind fun t296 => (if t296 = true then ((impl_PartsOf.f (rdOf ByteArray.empty t278 x7_1)).bind fun t298 => (if t298 = (wrap64 ((wrap64 ((t278.length : Int) - 1)) - x7_1)) then (if x7_1 > 0 then (if 0 ≤ (wrap64 (x7_1 - 1)) then (if (wrap64 (x7_1 - 1)) < (t278.length : Int) then ((impl_Up.f (rdOf ByteArray.empty t278 (wrap64 (x7_1 - 1)))).bind fun t300 => (if t300.toList = (rdOf ByteArray.empty t278 x7_1).toList then (laws_FnNames.l0 k1 t275 t276 t277 t278 (wrap64 (x7_1 + 1))) else (some false))) else (none)) else (none)) else (laws_FnNames.l0 k1 t275 t276 t277 t278 (wrap64 (x7_1 + 1)))) else (some false))) else (some false))) else (none)) else ((impl_Under.f k1 t276 t276).bind fun t302 => (if t302 = true then ((impl_Under.f k1 t276 t277).bind fun t303 => (if t303 = true then ((impl_Under.f k1 t277 t276).bind fun t304 => (if t304 = true then (if t276.toList = t277.toList then ((impl_Under.f k1 t276 t277).bind fun t305 => (if t305 = true then ((impl_PartsOf.f t276).bind fun t306 => ((impl_PartsOf.f t277).bind fun t307 => (some (decide (t306 ≥ t307))))) else (some true))) else (some false)) else ((impl_Under.f k1 t276 t277).bind fun t308 => (if t308 = true then ((impl_PartsOf.f t276).bind fun t309 => ((impl_PartsOf.f t277).bind fun t310 => (some (decide (t309 ≥ t310))))) else (some true))))) else ((impl_Under.f k1 t276 t277).bind fun t311 => (if t311 = true then ((impl_PartsOf.f t276).bind fun t312 => ((impl_PartsOf.f t277).bind fun t313 => (some (decide (t312 ≥ t313))))) else (some true))))) else (some false)))) = some r := H
                              have A41 := Aside0.mk A410
                              clear A410
                              by_cases c42 : t294 = true
                              · subst c42
                                have H1 : (if 0 ≤ x7_1 then ((impl_Under.f k1 t275 (rdOf ByteArray.empty t278 x7_1)).bind fun t296 => (if t296 = true then ((impl_PartsOf.f (rdOf ByteArray.empty t278 x7_1)).bind fun t298 => (if t298 = (wrap64 ((wrap64 ((t278.length : Int) - 1)) - x7_1)) then (if x7_1 > 0 then (if 0 ≤ (wrap64 (x7_1 - 1)) then (if (wrap64 (x7_1 - 1)) < (t278.length : Int) then ((impl_Up.f (rdOf ByteArray.empty t278 (wrap64 (x7_1 - 1)))).bind fun t300 => (if t300.toList = (rdOf ByteArray.empty t278 x7_1).toList then (laws_FnNames.l0 k1 t275 t276 t277 t278 (wrap64 (x7_1 + 1))) else (some false))) else (none)) else (none)) else (laws_FnNames.l0 k1 t275 t276 t277 t278 (wrap64 (x7_1 + 1)))) else (some false))) else (some false))) else (none)) = some r := by rw [if_pos rfl] at H; exact H
                                clear H
                                have H := H1
                                clear H1
                                by_cases c43 : 0 ≤ x7_1
                                · rw [if_pos c43] at H
                                  have c43b0 : decide (0 ≤ x7_1) = true := decide_eq_true c43
                                  clear c43
                                  replace H := Option.bind_eq_some_iff.mp H
                                  obtain ⟨t296, A440, H⟩ := H
                                  replace H : (if t296 = true then ((impl_PartsOf.f (rdOf ByteArray.empty t278 x7_1)).bind fun t298 => (if t298 = (wrap64 ((wrap64 ((t278.length : Int) - 1)) - x7_1)) then (if x7_1 > 0 then (if 0 ≤ (wrap64 (x7_1 - 1)) then (if (wrap64 (x7_1 - 1)) < (t278.length : Int) then ((impl_Up.f (rdOf ByteArray.empty t278 (wrap64 (x7_1 - 1)))).bind fun t300 => (if t300.toList = (rdOf ByteArray.empty t278 x7_1).toList then (laws_FnNames.l0 k1 t275 t276 t277 t278 (wrap64 (x7_1 + 1))) else (some false))) else (none)) else (none)) else (laws_FnNames.l0 k1 t275 t276 t277 t278 (wrap64 (x7_1 + 1)))) else (some false))) else (some false)) = some r := H
                                  have A44 := Aside0.mk A440
                                  clear A440
                                  by_cases c45 : t296 = true
                                  · subst c45
                                    have H1 : ((impl_PartsOf.f (rdOf ByteArray.empty t278 x7_1)).bind fun t298 => (if t298 = (wrap64 ((wrap64 ((t278.length : Int) - 1)) - x7_1)) then (if x7_1 > 0 then (if 0 ≤ (wrap64 (x7_1 - 1)) then (if (wrap64 (x7_1 - 1)) < (t278.length : Int) then ((impl_Up.f (rdOf ByteArray.empty t278 (wrap64 (x7_1 - 1)))).bind fun t300 => (if t300.toList = (rdOf ByteArray.empty t278 x7_1).toList then (laws_FnNames.l0 k1 t275 t276 t277 t278 (wrap64 (x7_1 + 1))) else (some false))) else (none)) else (none)) else (laws_FnNames.l0 k1 t275 t276 t277 t278 (wrap64 (x7_1 + 1)))) else (some false))) = some r := by rw [if_pos rfl] at H; exact H
                                    clear H
                                    have H := H1
                                    clear H1
                                    replace H := Option.bind_eq_some_iff.mp H
                                    obtain ⟨t298, A460, H⟩ := H
                                    replace H : (if t298 = (wrap64 ((wrap64 ((t278.length : Int) - 1)) - x7_1)) then (if x7_1 > 0 then (if 0 ≤ (wrap64 (x7_1 - 1)) then (if (wrap64 (x7_1 - 1)) < (t278.length : Int) then ((impl_Up.f (rdOf ByteArray.empty t278 (wrap64 (x7_1 - 1)))).bind fun t300 => (if t300.toList = (rdOf ByteArray.empty t278 x7_1).toList then (laws_FnNames.l0 k1 t275 t276 t277 t278 (wrap64 (x7_1 + 1))) else (some false))) else (none)) else (none)) else (laws_FnNames.l0 k1 t275 t276 t277 t278 (wrap64 (x7_1 + 1)))) else (some false)) = some r := H
                                    have A46 := Aside0.mk A460
                                    clear A460
                                    by_cases c47 : t298 = (wrap64 ((wrap64 ((t278.length : Int) - 1)) - x7_1))
                                    · rw [if_pos c47] at H
                                      have c47b0 : (t298 == (wrap64 ((wrap64 ((t278.length : Int) - 1)) - x7_1))) = true := beq_iff_eq.mpr c47
                                      (try rw [hji23] at c47b0)
                                      have c47b1 : (t298 != (wrap64 ((wrap64 ((t278.length : Int) - 1)) - x7_1))) = false := bne_eq_false_iff_eq.mpr c47
                                      (try rw [hji23] at c47b1)
                                      clear c47
                                      by_cases c48 : x7_1 > 0
                                      · rw [if_pos c48] at H
                                        have c48b0 : decide (0 < x7_1) = true := decide_eq_true c48
                                        clear c48
                                        obtain ⟨ji49, hji49⟩ : ∃ j_ : Int, (wrap64 (x7_1 - 1)) = j_ := ⟨_, rfl⟩
                                        replace H : (if 0 ≤ (ji49) then (if (ji49) < (t278.length : Int) then ((impl_Up.f (rdOf ByteArray.empty t278 (ji49))).bind fun t300 => (if t300.toList = (rdOf ByteArray.empty t278 x7_1).toList then (laws_FnNames.l0 k1 t275 t276 t277 t278 (wrap64 (x7_1 + 1))) else (some false))) else (none)) else (none)) = some r := by first | (rw [hji49] at H; exact H) | (simp only [hji49] at H ⊢; exact H)
                                        (try rw [hji49] at A41)
                                        (try rw [hji49] at A44)
                                        (try rw [hji49] at A46)
                                        have hji49w : (IntKind.i64.wrap (x7_1 - 1)) = ji49 := (i64_w _).trans hji49
                                        by_cases c50 : 0 ≤ (ji49)
                                        · rw [if_pos c50] at H
                                          have c50b0 : decide (0 ≤ (ji49)) = true := decide_eq_true c50
                                          clear c50
                                          by_cases c51 : (ji49) < (t278.length : Int)
                                          · rw [if_pos c51] at H
                                            have c51b0 : decide ((ji49) < (t278.length : Int)) = true := decide_eq_true c51
                                            clear c51
                                            replace H := Option.bind_eq_some_iff.mp H
                                            obtain ⟨t300, A520, H⟩ := H
                                            replace H : (if t300.toList = (rdOf ByteArray.empty t278 x7_1).toList then (laws_FnNames.l0 k1 t275 t276 t277 t278 (wrap64 (x7_1 + 1))) else (some false)) = some r := H
                                            have A52 := Aside0.mk A520
                                            clear A520
                                            by_cases c53 : t300.toList = (rdOf ByteArray.empty t278 x7_1).toList
                                            · rw [if_pos c53] at H
                                              have c53b0 : (t300.toList == (rdOf ByteArray.empty t278 x7_1).toList) = true := beq_iff_eq.mpr c53
                                              have c53b1 : (t300.toList != (rdOf ByteArray.empty t278 x7_1).toList) = false := bne_eq_false_iff_eq.mpr c53
                                              clear c53
                                              have H' := Aside0.mk H
                                              clear H
                                              try go_wp2_with (first | (go_at_call 39; (with_reducible refine (impl_NameOk.calls k1 t275 true _ A41.out).mono ?_); rintro e w54 ⟨rfl, hb⟩; have n0_ := Aside0.mk (Kd.R_below (rU HO_6.out) hb); have n1_ := Aside0.mk (below_step (wU HB.out) hb); clear HO_6; clear HB; have HO_6 := n0_; have HB := n1_; clear n0_ n1_; (try clear hb); (try clear hb2); (try clear hk); (try clear hi)))
                                              have n0_ := Aside0.mk (Kd.R_drew HO_6.out)
                                              have n1_ := Aside0.mk (below_drew1 HB.out)
                                              clear HO_6
                                              clear HB
                                              have HO_6 := n0_
                                              have HB := n1_
                                              clear n0_ n1_
                                              have p295 : 0 ≤ (x7_1 : Int) := of_decide_eq_true (by first | (with_reducible assumption) | assumption)
                                              have q295 : x7_1 < (t278.length : Int) := of_decide_eq_true (by first | (with_reducible assumption) | assumption)
                                              obtain ⟨ad295, e295, hx295_0⟩ := Kd.at_string (Kd.R_reads' HO_6.out).2.2 x7_1 p295 q295
                                              obtain rfl : ad292 = ad295 := (by injection e295)
                                              replace p295 := eq_true p295
                                              replace q295 := eq_true q295
                                              have p297 : 0 ≤ (x7_1 : Int) := of_decide_eq_true (by first | (with_reducible assumption) | assumption)
                                              have q297 : x7_1 < (t278.length : Int) := of_decide_eq_true (by first | (with_reducible assumption) | assumption)
                                              obtain ⟨ad297, e297, hx297_0⟩ := Kd.at_string (Kd.R_reads' HO_6.out).2.2 x7_1 p297 q297
                                              obtain rfl : ad292 = ad297 := (by injection e297)
                                              replace p297 := eq_true p297
                                              replace q297 := eq_true q297
                                              have p299 : 0 ≤ ((ji49) : Int) := of_decide_eq_true (by first | (with_reducible assumption) | assumption)
                                              have q299 : (ji49) < (t278.length : Int) := of_decide_eq_true (by first | (with_reducible assumption) | assumption)
                                              obtain ⟨ad299, e299, hx299_0⟩ := Kd.at_string (Kd.R_reads' HO_6.out).2.2 (ji49) p299 q299
                                              obtain rfl : ad292 = ad299 := (by injection e299)
                                              replace p299 := eq_true p299
                                              replace q299 := eq_true q299
                                              have p301 : 0 ≤ (x7_1 : Int) := of_decide_eq_true (by first | (with_reducible assumption) | assumption)
                                              have q301 : x7_1 < (t278.length : Int) := of_decide_eq_true (by first | (with_reducible assumption) | assumption)
                                              obtain ⟨ad301, e301, hx301_0⟩ := Kd.at_string (Kd.R_reads' HO_6.out).2.2 x7_1 p301 q301
                                              obtain rfl : ad292 = ad301 := (by injection e301)
                                              replace p301 := eq_true p301
                                              replace q301 := eq_true q301
                                              refine start_ (n := 37) (S := fun w' => w'.cell? (ad292.add (x7_1).toNat) = some (.string (rdOf ByteArray.empty t278 x7_1)) ∧ w'.cell? (ad292.add (x7_1).toNat) = some (.string (rdOf ByteArray.empty t278 x7_1)) ∧ w'.cell? (ad292.add ((ji49)).toNat) = some (.string (rdOf ByteArray.empty t278 (ji49))) ∧ w'.cell? (ad292.add (x7_1).toNat) = some (.string (rdOf ByteArray.empty t278 x7_1))) (ds := []) #[false, false, false, false, false, false, false, false, false, false, false, false, false, false, false, false, false, false, false, false, false, false, false, false, false, false, false, false, false, false, false, false, false, false, false, false, false] (by kernel_rfl) rfl rfl ⟨hx295_0, hx297_0, hx299_0, hx301_0⟩ (fun hHeld => ?_); refine with_tabW laws_FnNames.tab11 laws_FnNames.bits11 (fun HT_ HW_ => ?_)
                                              generalize w54.drew = w55 at HO_6 HB hx295_0 hx297_0 hx299_0 hx301_0 hHeld ⊢
                                              refine pure_ (i := 0) (N := some 81) (v := ?_) (a' := ?_) #[true, false, false, false, false, false, false, false, false, false, false, false, false, false, false, false, false, false, false, false, false, false, false, false, false, false, false, false, false, false, false, false, false, false, false, false, false] rfl rfl (any_of HT_.out (by kernel_rfl)) (fun _ _ _ h => h) (Or.inl ⟨by rfl, ?_⟩) ?_ ?_
                                              rotate_left
                                              · intro w'
                                                go_simp
                                                with_reducible rfl
                                              rotate_left
                                              · simp only [Act.put, List.setIfInBounds_toArray, List.set_cons_zero, List.set_cons_succ, i64_w, i32_w]
                                                rfl
                                              refine pure_ (i := 1) (N := some 82) (v := ?_) (a' := ?_) #[true, true, false, false, false, false, false, false, false, false, false, false, false, false, false, false, false, false, false, false, false, false, false, false, false, false, false, false, false, false, false, false, false, false, false, false, false] rfl rfl (any_of HT_.out (by kernel_rfl)) (fun _ _ _ h => h) (Or.inl ⟨by rfl, ?_⟩) ?_ ?_
                                              rotate_left
                                              · intro w'
                                                go_simp
                                                with_reducible rfl
                                              rotate_left
                                              · simp only [Act.put, List.setIfInBounds_toArray, List.set_cons_zero, List.set_cons_succ, i64_w, i32_w]
                                                rfl
                                              refine pure_ (i := 2) (N := some 83) (v := ?_) (a' := ?_) #[true, true, true, false, false, false, false, false, false, false, false, false, false, false, false, false, false, false, false, false, false, false, false, false, false, false, false, false, false, false, false, false, false, false, false, false, false] rfl rfl (any_of HT_.out (by kernel_rfl)) (fun _ _ _ h => h) (Or.inl ⟨by rfl, ?_⟩) ?_ ?_
                                              rotate_left
                                              · intro w'
                                                go_simp
                                                with_reducible rfl
                                              rotate_left
                                              · simp only [Act.put, List.setIfInBounds_toArray, List.set_cons_zero, List.set_cons_succ, i64_w, i32_w]
                                                rfl
                                              refine pure_ (i := 3) (N := some 84) (v := ?_) (a' := ?_) #[true, true, true, true, false, false, false, false, false, false, false, false, false, false, false, false, false, false, false, false, false, false, false, false, false, false, false, false, false, false, false, false, false, false, false, false, false] rfl rfl (any_of HT_.out (by kernel_rfl)) (fun _ _ _ h => h) (Or.inl ⟨by rfl, ?_⟩) ?_ ?_
                                              rotate_left
                                              · intro w'
                                                go_simp
                                                with_reducible rfl
                                              rotate_left
                                              · simp only [Act.put, List.setIfInBounds_toArray, List.set_cons_zero, List.set_cons_succ, i64_w, i32_w]
                                                rfl
                                              refine take_ (i := 4) (N := some 85) (v := ?_) (a' := ?_) #[true, true, true, true, true, false, false, false, false, false, false, false, false, false, false, false, false, false, false, false, false, false, false, false, false, false, false, false, false, false, false, false, false, false, false, false, false] rfl rfl (take_ofW HT_.out HW_.out (by kernel_rfl)) (fun _ _ _ h => h) (Or.inl ⟨by rfl, ?_⟩) hHeld ?_ ?_
                                              rotate_left
                                              · rintro w' ⟨s0, s1, s2, s3⟩
                                                go_simp
                                                with_reducible rfl
                                              rotate_left
                                              · simp only [Act.put, List.setIfInBounds_toArray, List.set_cons_zero, List.set_cons_succ, i64_w, i32_w]
                                                rfl
                                              refine one_ (i := 5) (N := some 86) #[true, true, true, true, true, true, false, false, false, false, false, false, false, false, false, false, false, false, false, false, false, false, false, false, false, false, false, false, false, false, false, false, false, false, false, false, false] rfl rfl (one_of HT_.out (by kernel_rfl)) (by decide) (fun K hK => ?_)
                                              refine goes_ Tryd.func25 (by kernel_rfl) rfl #[.string t275, .string (rdOf ByteArray.empty t278 x7_1)] (by rfl) rfl rfl (by (try simp only [List.map_toArray, List.map_cons, List.map_nil]); first | done | rfl | (simp only [List.length_drop, List.length_take]; rfl)) ?_
                                              with_reducible refine (impl_Under.calls k1 t275 (rdOf ByteArray.empty t278 x7_1) true _ A44.out).mono ?_
                                              rintro e w56 ⟨rfl, hb⟩
                                              have HS0_ := (hb.cell (World.block_lt_of_cell? _ _ (hHeld.1))).trans (hHeld.1)
                                              have HS1_ := (hb.cell (World.block_lt_of_cell? _ _ (hHeld.2.1))).trans (hHeld.2.1)
                                              have HS2_ := (hb.cell (World.block_lt_of_cell? _ _ (hHeld.2.2.1))).trans (hHeld.2.2.1)
                                              have HS3_ := (hb.cell (World.block_lt_of_cell? _ _ (hHeld.2.2.2))).trans (hHeld.2.2.2)
                                              refine ⟨_, rfl, ?_⟩
                                              have n0_ := Aside0.mk (Kd.R_below (rU HO_6.out) hb)
                                              have n1_ := Aside0.mk (below_step (wU HB.out) hb)
                                              clear HO_6
                                              clear HB
                                              have HO_6 := n0_
                                              have HB := n1_
                                              clear n0_ n1_
                                              (try clear hb)
                                              (try clear hb2)
                                              (try clear hk)
                                              (try clear hi)
                                              refine hK.out _ _ ⟨HS0_, HS1_, HS2_, HS3_⟩ (fun hHeld => ?_)
                                              clear hK K
                                              refine norm_ (a' := ?_) ?_ ?_
                                              rotate_left
                                              · show Act.put _ (some 86) _ = _
                                                simp only [Act.put, List.setIfInBounds_toArray, List.set_cons_zero, List.set_cons_succ, i64_w, i32_w]
                                                rfl
                                              refine pure_ (i := 6) (N := some 87) (v := ?_) (a' := ?_) #[true, true, true, true, true, true, true, false, false, false, false, false, false, false, false, false, false, false, false, false, false, false, false, false, false, false, false, false, false, false, false, false, false, false, false, false, false] rfl rfl (any_of HT_.out (by kernel_rfl)) (fun _ _ _ h => h) (Or.inl ⟨by rfl, ?_⟩) ?_ ?_
                                              rotate_left
                                              · intro w'
                                                go_simp
                                                with_reducible rfl
                                              rotate_left
                                              · simp only [Act.put, List.setIfInBounds_toArray, List.set_cons_zero, List.set_cons_succ, i64_w, i32_w]
                                                rfl
                                              refine pure_ (i := 7) (N := some 88) (v := ?_) (a' := ?_) #[true, true, true, true, true, true, true, true, false, false, false, false, false, false, false, false, false, false, false, false, false, false, false, false, false, false, false, false, false, false, false, false, false, false, false, false, false] rfl rfl (any_of HT_.out (by kernel_rfl)) (fun _ _ _ h => h) (Or.inl ⟨by rfl, ?_⟩) ?_ ?_
                                              rotate_left
                                              · intro w'
                                                go_simp
                                                with_reducible rfl
                                              rotate_left
                                              · simp only [Act.put, List.setIfInBounds_toArray, List.set_cons_zero, List.set_cons_succ, i64_w, i32_w]
                                                rfl
                                              refine pure_ (i := 8) (N := some 89) (v := ?_) (a' := ?_) #[true, true, true, true, true, true, true, true, true, false, false, false, false, false, false, false, false, false, false, false, false, false, false, false, false, false, false, false, false, false, false, false, false, false, false, false, false] rfl rfl (any_of HT_.out (by kernel_rfl)) (fun _ _ _ h => h) (Or.inl ⟨by rfl, ?_⟩) ?_ ?_
                                              rotate_left
                                              · intro w'
                                                go_simp
                                                with_reducible rfl
                                              rotate_left
                                              · simp only [Act.put, List.setIfInBounds_toArray, List.set_cons_zero, List.set_cons_succ, i64_w, i32_w]
                                                rfl
                                              refine pure_ (i := 9) (N := some 90) (v := ?_) (a' := ?_) #[true, true, true, true, true, true, true, true, true, true, false, false, false, false, false, false, false, false, false, false, false, false, false, false, false, false, false, false, false, false, false, false, false, false, false, false, false] rfl rfl (any_of HT_.out (by kernel_rfl)) (fun _ _ _ h => h) (Or.inl ⟨by rfl, ?_⟩) ?_ ?_
                                              rotate_left
                                              · intro w'
                                                go_simp
                                                with_reducible rfl
                                              rotate_left
                                              · simp only [Act.put, List.setIfInBounds_toArray, List.set_cons_zero, List.set_cons_succ, i64_w, i32_w]
                                                rfl
                                              refine pure_ (i := 10) (N := some 91) (v := ?_) (a' := ?_) #[true, true, true, true, true, true, true, true, true, true, true, false, false, false, false, false, false, false, false, false, false, false, false, false, false, false, false, false, false, false, false, false, false, false, false, false, false] rfl rfl (any_of HT_.out (by kernel_rfl)) (fun _ _ _ h => h) (Or.inl ⟨by rfl, ?_⟩) ?_ ?_
                                              rotate_left
                                              · intro w'
                                                go_simp
                                                with_reducible rfl
                                              rotate_left
                                              · simp only [Act.put, List.setIfInBounds_toArray, List.set_cons_zero, List.set_cons_succ, i64_w, i32_w]
                                                rfl
                                              refine pure_ (i := 13) (N := some 94) (v := ?_) (a' := ?_) #[true, true, true, true, true, true, true, true, true, true, true, false, false, true, false, false, false, false, false, false, false, false, false, false, false, false, false, false, false, false, false, false, false, false, false, false, false] rfl rfl (any_of HT_.out (by kernel_rfl)) (fun _ _ _ h => h) (Or.inl ⟨by rfl, ?_⟩) ?_ ?_
                                              rotate_left
                                              · intro w'
                                                go_simp
                                                with_reducible rfl
                                              rotate_left
                                              · simp only [Act.put, List.setIfInBounds_toArray, List.set_cons_zero, List.set_cons_succ, i64_w, i32_w]
                                                rfl
                                              refine pure_ (i := 14) (N := some 95) (v := ?_) (a' := ?_) #[true, true, true, true, true, true, true, true, true, true, true, false, false, true, true, false, false, false, false, false, false, false, false, false, false, false, false, false, false, false, false, false, false, false, false, false, false] rfl rfl (any_of HT_.out (by kernel_rfl)) (fun _ _ _ h => h) (Or.inl ⟨by rfl, ?_⟩) ?_ ?_
                                              rotate_left
                                              · intro w'
                                                go_simp
                                                with_reducible rfl
                                              rotate_left
                                              · simp only [Act.put, List.setIfInBounds_toArray, List.set_cons_zero, List.set_cons_succ, i64_w, i32_w]
                                                rfl
                                              refine pure_ (i := 15) (N := some 96) (v := ?_) (a' := ?_) #[true, true, true, true, true, true, true, true, true, true, true, false, false, true, true, true, false, false, false, false, false, false, false, false, false, false, false, false, false, false, false, false, false, false, false, false, false] rfl rfl (any_of HT_.out (by kernel_rfl)) (fun _ _ _ h => h) (Or.inl ⟨by rfl, ?_⟩) ?_ ?_
                                              rotate_left
                                              · intro w'
                                                go_simp
                                                with_reducible rfl
                                              rotate_left
                                              · simp only [Act.put, List.setIfInBounds_toArray, List.set_cons_zero, List.set_cons_succ, i64_w, i32_w]
                                                rfl
                                              refine pure_ (i := 16) (N := some 97) (v := ?_) (a' := ?_) #[true, true, true, true, true, true, true, true, true, true, true, false, false, true, true, true, true, false, false, false, false, false, false, false, false, false, false, false, false, false, false, false, false, false, false, false, false] rfl rfl (any_of HT_.out (by kernel_rfl)) (fun _ _ _ h => h) (Or.inl ⟨by rfl, ?_⟩) ?_ ?_
                                              rotate_left
                                              · intro w'
                                                go_simp
                                                with_reducible rfl
                                              rotate_left
                                              · simp only [Act.put, List.setIfInBounds_toArray, List.set_cons_zero, List.set_cons_succ, i64_w, i32_w]
                                                rfl
                                              refine pure_ (i := 17) (N := some 98) (v := ?_) (a' := ?_) #[true, true, true, true, true, true, true, true, true, true, true, false, false, true, true, true, true, true, false, false, false, false, false, false, false, false, false, false, false, false, false, false, false, false, false, false, false] rfl rfl (any_of HT_.out (by kernel_rfl)) (fun _ _ _ h => h) (Or.inl ⟨by rfl, ?_⟩) ?_ ?_
                                              rotate_left
                                              · intro w'
                                                go_simp
                                                with_reducible rfl
                                              rotate_left
                                              · simp only [Act.put, List.setIfInBounds_toArray, List.set_cons_zero, List.set_cons_succ, i64_w, i32_w]
                                                rfl
                                              refine take_ (i := 11) (N := some 92) (v := ?_) (a' := ?_) #[true, true, true, true, true, true, true, true, true, true, true, true, false, true, true, true, true, true, false, false, false, false, false, false, false, false, false, false, false, false, false, false, false, false, false, false, false] rfl rfl (take_ofW HT_.out HW_.out (by kernel_rfl)) (fun _ _ _ h => h) (Or.inl ⟨by rfl, ?_⟩) hHeld ?_ ?_
                                              rotate_left
                                              · rintro w' ⟨s0, s1, s2, s3⟩
                                                go_simp
                                                with_reducible rfl
                                              rotate_left
                                              · simp only [Act.put, List.setIfInBounds_toArray, List.set_cons_zero, List.set_cons_succ, i64_w, i32_w]
                                                rfl
                                              refine one_ (i := 12) (N := some 93) #[true, true, true, true, true, true, true, true, true, true, true, true, true, true, true, true, true, true, false, false, false, false, false, false, false, false, false, false, false, false, false, false, false, false, false, false, false] rfl rfl (one_of HT_.out (by kernel_rfl)) (by decide) (fun K hK => ?_)
                                              refine goes_ Tryd.func43 (by kernel_rfl) rfl #[.string (rdOf ByteArray.empty t278 x7_1)] (by rfl) rfl rfl (by (try simp only [List.map_toArray, List.map_cons, List.map_nil]); first | done | rfl | (simp only [List.length_drop, List.length_take]; rfl)) ?_
                                              with_reducible refine (impl_PartsOf.calls (rdOf ByteArray.empty t278 x7_1) t298 _ A46.out).mono ?_
                                              rintro e w57 ⟨rfl, hb⟩
                                              have HS0_ := (hb.cell (World.block_lt_of_cell? _ _ (hHeld.1))).trans (hHeld.1)
                                              have HS1_ := (hb.cell (World.block_lt_of_cell? _ _ (hHeld.2.1))).trans (hHeld.2.1)
                                              have HS2_ := (hb.cell (World.block_lt_of_cell? _ _ (hHeld.2.2.1))).trans (hHeld.2.2.1)
                                              have HS3_ := (hb.cell (World.block_lt_of_cell? _ _ (hHeld.2.2.2))).trans (hHeld.2.2.2)
                                              refine ⟨_, rfl, ?_⟩
                                              have n0_ := Aside0.mk (Kd.R_below (rU HO_6.out) hb)
                                              have n1_ := Aside0.mk (below_step (wU HB.out) hb)
                                              clear HO_6
                                              clear HB
                                              have HO_6 := n0_
                                              have HB := n1_
                                              clear n0_ n1_
                                              (try clear hb)
                                              (try clear hb2)
                                              (try clear hk)
                                              (try clear hi)
                                              refine hK.out _ _ ⟨HS0_, HS1_, HS2_, HS3_⟩ (fun hHeld => ?_)
                                              clear hK K
                                              refine norm_ (a' := ?_) ?_ ?_
                                              rotate_left
                                              · show Act.put _ (some 93) _ = _
                                                simp only [Act.put, List.setIfInBounds_toArray, List.set_cons_zero, List.set_cons_succ, i64_w, i32_w]
                                                rfl
                                              refine pure_ (i := 18) (N := some 99) (v := ?_) (a' := ?_) #[true, true, true, true, true, true, true, true, true, true, true, true, true, true, true, true, true, true, true, false, false, false, false, false, false, false, false, false, false, false, false, false, false, false, false, false, false] rfl rfl (any_of HT_.out (by kernel_rfl)) (fun _ _ _ h => h) (Or.inl ⟨by rfl, ?_⟩) ?_ ?_
                                              rotate_left
                                              · intro w'
                                                go_simp
                                                with_reducible rfl
                                              rotate_left
                                              · simp only [Act.put, List.setIfInBounds_toArray, List.set_cons_zero, List.set_cons_succ, i64_w, i32_w]
                                                rfl
                                              refine pure_ (i := 19) (N := some 100) (v := ?_) (a' := ?_) #[true, true, true, true, true, true, true, true, true, true, true, true, true, true, true, true, true, true, true, true, false, false, false, false, false, false, false, false, false, false, false, false, false, false, false, false, false] rfl rfl (any_of HT_.out (by kernel_rfl)) (fun _ _ _ h => h) (Or.inl ⟨by rfl, ?_⟩) ?_ ?_
                                              rotate_left
                                              · intro w'
                                                go_simp
                                                with_reducible rfl
                                              rotate_left
                                              · simp only [Act.put, List.setIfInBounds_toArray, List.set_cons_zero, List.set_cons_succ, i64_w, i32_w]
                                                rfl
                                              refine pure_ (i := 20) (N := some 101) (v := ?_) (a' := ?_) #[true, true, true, true, true, true, true, true, true, true, true, true, true, true, true, true, true, true, true, true, true, false, false, false, false, false, false, false, false, false, false, false, false, false, false, false, false] rfl rfl (any_of HT_.out (by kernel_rfl)) (fun _ _ _ h => h) (Or.inl ⟨by rfl, ?_⟩) ?_ ?_
                                              rotate_left
                                              · intro w'
                                                go_simp
                                                with_reducible rfl
                                              rotate_left
                                              · simp only [Act.put, List.setIfInBounds_toArray, List.set_cons_zero, List.set_cons_succ, i64_w, i32_w]
                                                rfl
                                              refine pure_ (i := 21) (N := some 102) (v := ?_) (a' := ?_) #[true, true, true, true, true, true, true, true, true, true, true, true, true, true, true, true, true, true, true, true, true, true, false, false, false, false, false, false, false, false, false, false, false, false, false, false, false] rfl rfl (any_of HT_.out (by kernel_rfl)) (fun _ _ _ h => h) (Or.inl ⟨by rfl, ?_⟩) ?_ ?_
                                              rotate_left
                                              · intro w'
                                                go_simp
                                                with_reducible rfl
                                              rotate_left
                                              · simp only [Act.put, List.setIfInBounds_toArray, List.set_cons_zero, List.set_cons_succ, i64_w, i32_w]
                                                rfl
                                              refine pure_ (i := 22) (N := some 103) (v := ?_) (a' := ?_) #[true, true, true, true, true, true, true, true, true, true, true, true, true, true, true, true, true, true, true, true, true, true, true, false, false, false, false, false, false, false, false, false, false, false, false, false, false] rfl rfl (any_of HT_.out (by kernel_rfl)) (fun _ _ _ h => h) (Or.inl ⟨by rfl, ?_⟩) ?_ ?_
                                              rotate_left
                                              · intro w'
                                                go_simp
                                                with_reducible rfl
                                              rotate_left
                                              · simp only [Act.put, List.setIfInBounds_toArray, List.set_cons_zero, List.set_cons_succ, i64_w, i32_w]
                                                rfl
                                              refine pure_ (i := 23) (N := some 104) (v := ?_) (a' := ?_) #[true, true, true, true, true, true, true, true, true, true, true, true, true, true, true, true, true, true, true, true, true, true, true, true, false, false, false, false, false, false, false, false, false, false, false, false, false] rfl rfl (any_of HT_.out (by kernel_rfl)) (fun _ _ _ h => h) (Or.inl ⟨by rfl, ?_⟩) ?_ ?_
                                              rotate_left
                                              · intro w'
                                                go_simp
                                                with_reducible rfl
                                              rotate_left
                                              · simp only [Act.put, List.setIfInBounds_toArray, List.set_cons_zero, List.set_cons_succ, i64_w, i32_w]
                                                rfl
                                              refine pure_ (i := 24) (N := some 105) (v := ?_) (a' := ?_) #[true, true, true, true, true, true, true, true, true, true, true, true, true, true, true, true, true, true, true, true, true, true, true, true, true, false, false, false, false, false, false, false, false, false, false, false, false] rfl rfl (any_of HT_.out (by kernel_rfl)) (fun _ _ _ h => h) (Or.inl ⟨by rfl, ?_⟩) ?_ ?_
                                              rotate_left
                                              · intro w'
                                                go_simp
                                                with_reducible rfl
                                              rotate_left
                                              · simp only [Act.put, List.setIfInBounds_toArray, List.set_cons_zero, List.set_cons_succ, i64_w, i32_w]
                                                rfl
                                              refine pure_ (i := 25) (N := some 106) (v := ?_) (a' := ?_) #[true, true, true, true, true, true, true, true, true, true, true, true, true, true, true, true, true, true, true, true, true, true, true, true, true, true, false, false, false, false, false, false, false, false, false, false, false] rfl rfl (any_of HT_.out (by kernel_rfl)) (fun _ _ _ h => h) (Or.inl ⟨by rfl, ?_⟩) ?_ ?_
                                              rotate_left
                                              · intro w'
                                                go_simp
                                                with_reducible rfl
                                              rotate_left
                                              · simp only [Act.put, List.setIfInBounds_toArray, List.set_cons_zero, List.set_cons_succ, i64_w, i32_w]
                                                rfl
                                              refine pure_ (i := 26) (N := some 107) (v := ?_) (a' := ?_) #[true, true, true, true, true, true, true, true, true, true, true, true, true, true, true, true, true, true, true, true, true, true, true, true, true, true, true, false, false, false, false, false, false, false, false, false, false] rfl rfl (any_of HT_.out (by kernel_rfl)) (fun _ _ _ h => h) (Or.inl ⟨by rfl, ?_⟩) ?_ ?_
                                              rotate_left
                                              · intro w'
                                                go_simp
                                                with_reducible rfl
                                              rotate_left
                                              · simp only [Act.put, List.setIfInBounds_toArray, List.set_cons_zero, List.set_cons_succ, i64_w, i32_w]
                                                rfl
                                              refine pure_ (i := 27) (N := some 108) (v := ?_) (a' := ?_) #[true, true, true, true, true, true, true, true, true, true, true, true, true, true, true, true, true, true, true, true, true, true, true, true, true, true, true, true, false, false, false, false, false, false, false, false, false] rfl rfl (any_of HT_.out (by kernel_rfl)) (fun _ _ _ h => h) (Or.inl ⟨by rfl, ?_⟩) ?_ ?_
                                              rotate_left
                                              · intro w'
                                                go_simp
                                                with_reducible rfl
                                              rotate_left
                                              · simp only [Act.put, List.setIfInBounds_toArray, List.set_cons_zero, List.set_cons_succ, i64_w, i32_w]
                                                rfl
                                              refine pure_ (i := 30) (N := some 111) (v := ?_) (a' := ?_) #[true, true, true, true, true, true, true, true, true, true, true, true, true, true, true, true, true, true, true, true, true, true, true, true, true, true, true, true, false, false, true, false, false, false, false, false, false] rfl rfl (any_of HT_.out (by kernel_rfl)) (fun _ _ _ h => h) (Or.inl ⟨by rfl, ?_⟩) ?_ ?_
                                              rotate_left
                                              · intro w'
                                                go_simp
                                                with_reducible rfl
                                              rotate_left
                                              · simp only [Act.put, List.setIfInBounds_toArray, List.set_cons_zero, List.set_cons_succ, i64_w, i32_w]
                                                rfl
                                              refine pure_ (i := 31) (N := some 112) (v := ?_) (a' := ?_) #[true, true, true, true, true, true, true, true, true, true, true, true, true, true, true, true, true, true, true, true, true, true, true, true, true, true, true, true, false, false, true, true, false, false, false, false, false] rfl rfl (any_of HT_.out (by kernel_rfl)) (fun _ _ _ h => h) (Or.inl ⟨by rfl, ?_⟩) ?_ ?_
                                              rotate_left
                                              · intro w'
                                                go_simp
                                                with_reducible rfl
                                              rotate_left
                                              · simp only [Act.put, List.setIfInBounds_toArray, List.set_cons_zero, List.set_cons_succ, i64_w, i32_w]
                                                rfl
                                              refine pure_ (i := 32) (N := some 113) (v := ?_) (a' := ?_) #[true, true, true, true, true, true, true, true, true, true, true, true, true, true, true, true, true, true, true, true, true, true, true, true, true, true, true, true, false, false, true, true, true, false, false, false, false] rfl rfl (any_of HT_.out (by kernel_rfl)) (fun _ _ _ h => h) (Or.inl ⟨by rfl, ?_⟩) ?_ ?_
                                              rotate_left
                                              · intro w'
                                                go_simp
                                                with_reducible rfl
                                              rotate_left
                                              · simp only [Act.put, List.setIfInBounds_toArray, List.set_cons_zero, List.set_cons_succ, i64_w, i32_w]
                                                rfl
                                              refine take_ (i := 28) (N := some 109) (v := ?_) (a' := ?_) #[true, true, true, true, true, true, true, true, true, true, true, true, true, true, true, true, true, true, true, true, true, true, true, true, true, true, true, true, true, false, true, true, true, false, false, false, false] rfl rfl (take_ofW HT_.out HW_.out (by kernel_rfl)) (fun _ _ _ h => h) (Or.inl ⟨by rfl, ?_⟩) hHeld ?_ ?_
                                              rotate_left
                                              · rintro w' ⟨s0, s1, s2, s3⟩
                                                go_simp
                                                with_reducible rfl
                                              rotate_left
                                              · simp only [Act.put, List.setIfInBounds_toArray, List.set_cons_zero, List.set_cons_succ, i64_w, i32_w]
                                                rfl
                                              refine take_ (i := 33) (N := some 114) (v := ?_) (a' := ?_) #[true, true, true, true, true, true, true, true, true, true, true, true, true, true, true, true, true, true, true, true, true, true, true, true, true, true, true, true, true, false, true, true, true, true, false, false, false] rfl rfl (take_ofW HT_.out HW_.out (by kernel_rfl)) (fun _ _ _ h => h) (Or.inl ⟨by rfl, ?_⟩) hHeld ?_ ?_
                                              rotate_left
                                              · rintro w' ⟨s0, s1, s2, s3⟩
                                                go_simp
                                                with_reducible rfl
                                              rotate_left
                                              · simp only [Act.put, List.setIfInBounds_toArray, List.set_cons_zero, List.set_cons_succ, i64_w, i32_w]
                                                rfl
                                              refine one_ (i := 29) (N := some 110) #[true, true, true, true, true, true, true, true, true, true, true, true, true, true, true, true, true, true, true, true, true, true, true, true, true, true, true, true, true, true, true, true, true, true, false, false, false] rfl rfl (one_of HT_.out (by kernel_rfl)) (by decide) (fun K hK => ?_)
                                              refine goes_ Tryd.func41 (by kernel_rfl) rfl #[.string (rdOf ByteArray.empty t278 (ji49))] (by rfl) rfl rfl (by (try simp only [List.map_toArray, List.map_cons, List.map_nil]); first | done | (simp only [hji49]; rfl) | rfl | (simp only [List.length_drop, List.length_take]; rfl)) ?_
                                              with_reducible refine (impl_Up.calls (rdOf ByteArray.empty t278 (ji49)) t300 _ A52.out).mono ?_
                                              rintro e w58 ⟨rfl, hb⟩
                                              have HS0_ := (hb.cell (World.block_lt_of_cell? _ _ (hHeld.1))).trans (hHeld.1)
                                              have HS1_ := (hb.cell (World.block_lt_of_cell? _ _ (hHeld.2.1))).trans (hHeld.2.1)
                                              have HS2_ := (hb.cell (World.block_lt_of_cell? _ _ (hHeld.2.2.1))).trans (hHeld.2.2.1)
                                              have HS3_ := (hb.cell (World.block_lt_of_cell? _ _ (hHeld.2.2.2))).trans (hHeld.2.2.2)
                                              refine ⟨_, rfl, ?_⟩
                                              have n0_ := Aside0.mk (Kd.R_below (rU HO_6.out) hb)
                                              have n1_ := Aside0.mk (below_step (wU HB.out) hb)
                                              clear HO_6
                                              clear HB
                                              have HO_6 := n0_
                                              have HB := n1_
                                              clear n0_ n1_
                                              (try clear hb)
                                              (try clear hb2)
                                              (try clear hk)
                                              (try clear hi)
                                              refine hK.out _ _ ⟨HS0_, HS1_, HS2_, HS3_⟩ (fun hHeld => ?_)
                                              clear hK K
                                              refine norm_ (a' := ?_) ?_ ?_
                                              rotate_left
                                              · show Act.put _ (some 110) _ = _
                                                simp only [Act.put, List.setIfInBounds_toArray, List.set_cons_zero, List.set_cons_succ, i64_w, i32_w]
                                                rfl
                                              refine pure_ (i := 34) (N := some 115) (v := ?_) (a' := ?_) #[true, true, true, true, true, true, true, true, true, true, true, true, true, true, true, true, true, true, true, true, true, true, true, true, true, true, true, true, true, true, true, true, true, true, true, false, false] rfl rfl (any_of HT_.out (by kernel_rfl)) (fun _ _ _ h => h) (Or.inl ⟨by rfl, ?_⟩) ?_ ?_
                                              rotate_left
                                              · intro w'
                                                go_simp
                                                with_reducible rfl
                                              rotate_left
                                              · simp only [Act.put, List.setIfInBounds_toArray, List.set_cons_zero, List.set_cons_succ, i64_w, i32_w]
                                                rfl
                                              refine pure_ (i := 35) (N := some 116) (v := ?_) (a' := ?_) #[true, true, true, true, true, true, true, true, true, true, true, true, true, true, true, true, true, true, true, true, true, true, true, true, true, true, true, true, true, true, true, true, true, true, true, true, false] rfl rfl (any_of HT_.out (by kernel_rfl)) (fun _ _ _ h => h) (Or.inl ⟨by rfl, ?_⟩) ?_ ?_
                                              rotate_left
                                              · intro w'
                                                go_simp
                                                with_reducible rfl
                                              rotate_left
                                              · simp only [Act.put, List.setIfInBounds_toArray, List.set_cons_zero, List.set_cons_succ, i64_w, i32_w]
                                                rfl
                                              refine pure_ (i := 36) (N := some 117) (v := ?_) (a' := ?_) #[true, true, true, true, true, true, true, true, true, true, true, true, true, true, true, true, true, true, true, true, true, true, true, true, true, true, true, true, true, true, true, true, true, true, true, true, true] rfl rfl (any_of HT_.out (by kernel_rfl)) (fun _ _ _ h => h) (Or.inl ⟨by rfl, ?_⟩) ?_ ?_
                                              rotate_left
                                              · intro w'
                                                go_simp
                                                with_reducible rfl
                                              rotate_left
                                              · simp only [Act.put, List.setIfInBounds_toArray, List.set_cons_zero, List.set_cons_succ, i64_w, i32_w]
                                                rfl
                                              refine done_ (done_of HT_.out (by kernel_rfl)) ?_
                                              try go_wp2
                                              go_roundg k1
                                              case measure => have := HK1.out; omega
                                              case rel => exact ⟨(wrap64 (x7_1 + 1)), (by first | rfl | (simp; done) | (simp [*]; done) | (simp [X.bne_nil, X.beq_nil]; done) | (simp [*, X.bne_nil, X.beq_nil]; done)), H', ⟨by have := HK1.out; omega⟩, ⟨by (with_reducible repeat (first | apply Kd.R_alloc | apply Kd.R_drewN | apply Kd.R_drew)); exact HO_6.out⟩, ⟨by repeat (first | (with_reducible first | exact HB.out | apply below_alloc | apply pw_below_drewN | apply below_drew1) | exact HB.out)⟩⟩
                                            · rw [if_neg c53] at H
                                              have c53b0 : (t300.toList == (rdOf ByteArray.empty t278 x7_1).toList) = false := beq_eq_false_iff_ne.mpr c53
                                              have c53b1 : (t300.toList != (rdOf ByteArray.empty t278 x7_1).toList) = true := bne_iff_ne.mpr c53
                                              exact absurd (H.trans (congrArg some hrt_)) (by simp)
                                          · rw [if_neg c51] at H
                                            exact absurd H (by simp)
                                        · rw [if_neg c50] at H
                                          exact absurd H (by simp)
                                      · rw [if_neg c48] at H
                                        have c48b0 : decide (0 < x7_1) = false := decide_eq_false c48
                                        clear c48
                                        have H' := Aside0.mk H
                                        clear H
                                        try go_wp2_with (first | (go_at_call 39; (with_reducible refine (impl_NameOk.calls k1 t275 true _ A41.out).mono ?_); rintro e w59 ⟨rfl, hb⟩; have n0_ := Aside0.mk (Kd.R_below (rU HO_6.out) hb); have n1_ := Aside0.mk (below_step (wU HB.out) hb); clear HO_6; clear HB; have HO_6 := n0_; have HB := n1_; clear n0_ n1_; (try clear hb); (try clear hb2); (try clear hk); (try clear hi)))
                                        have n0_ := Aside0.mk (Kd.R_drew HO_6.out)
                                        have n1_ := Aside0.mk (below_drew1 HB.out)
                                        clear HO_6
                                        clear HB
                                        have HO_6 := n0_
                                        have HB := n1_
                                        clear n0_ n1_
                                        have p295 : 0 ≤ (x7_1 : Int) := of_decide_eq_true (by first | (with_reducible assumption) | assumption)
                                        have q295 : x7_1 < (t278.length : Int) := of_decide_eq_true (by first | (with_reducible assumption) | assumption)
                                        obtain ⟨ad295, e295, hx295_0⟩ := Kd.at_string (Kd.R_reads' HO_6.out).2.2 x7_1 p295 q295
                                        obtain rfl : ad292 = ad295 := (by injection e295)
                                        replace p295 := eq_true p295
                                        replace q295 := eq_true q295
                                        have p297 : 0 ≤ (x7_1 : Int) := of_decide_eq_true (by first | (with_reducible assumption) | assumption)
                                        have q297 : x7_1 < (t278.length : Int) := of_decide_eq_true (by first | (with_reducible assumption) | assumption)
                                        obtain ⟨ad297, e297, hx297_0⟩ := Kd.at_string (Kd.R_reads' HO_6.out).2.2 x7_1 p297 q297
                                        obtain rfl : ad292 = ad297 := (by injection e297)
                                        replace p297 := eq_true p297
                                        replace q297 := eq_true q297
                                        refine start_ (n := 37) (S := fun w' => w'.cell? (ad292.add (x7_1).toNat) = some (.string (rdOf ByteArray.empty t278 x7_1)) ∧ w'.cell? (ad292.add (x7_1).toNat) = some (.string (rdOf ByteArray.empty t278 x7_1))) (ds := []) #[false, false, false, false, false, false, false, false, false, false, false, false, false, false, false, false, false, false, false, false, false, false, false, false, false, false, false, false, false, false, false, false, false, false, false, false, false] (by kernel_rfl) rfl rfl ⟨hx295_0, hx297_0⟩ (fun hHeld => ?_); refine with_tabW laws_FnNames.tab11 laws_FnNames.bits11 (fun HT_ HW_ => ?_)
                                        generalize w59.drew = w60 at HO_6 HB hx295_0 hx297_0 hHeld ⊢
                                        refine pure_ (i := 0) (N := some 81) (v := ?_) (a' := ?_) #[true, false, false, false, false, false, false, false, false, false, false, false, false, false, false, false, false, false, false, false, false, false, false, false, false, false, false, false, false, false, false, false, false, false, false, false, false] rfl rfl (any_of HT_.out (by kernel_rfl)) (fun _ _ _ h => h) (Or.inl ⟨by rfl, ?_⟩) ?_ ?_
                                        rotate_left
                                        · intro w'
                                          go_simp
                                          with_reducible rfl
                                        rotate_left
                                        · simp only [Act.put, List.setIfInBounds_toArray, List.set_cons_zero, List.set_cons_succ, i64_w, i32_w]
                                          rfl
                                        refine pure_ (i := 1) (N := some 82) (v := ?_) (a' := ?_) #[true, true, false, false, false, false, false, false, false, false, false, false, false, false, false, false, false, false, false, false, false, false, false, false, false, false, false, false, false, false, false, false, false, false, false, false, false] rfl rfl (any_of HT_.out (by kernel_rfl)) (fun _ _ _ h => h) (Or.inl ⟨by rfl, ?_⟩) ?_ ?_
                                        rotate_left
                                        · intro w'
                                          go_simp
                                          with_reducible rfl
                                        rotate_left
                                        · simp only [Act.put, List.setIfInBounds_toArray, List.set_cons_zero, List.set_cons_succ, i64_w, i32_w]
                                          rfl
                                        refine pure_ (i := 2) (N := some 83) (v := ?_) (a' := ?_) #[true, true, true, false, false, false, false, false, false, false, false, false, false, false, false, false, false, false, false, false, false, false, false, false, false, false, false, false, false, false, false, false, false, false, false, false, false] rfl rfl (any_of HT_.out (by kernel_rfl)) (fun _ _ _ h => h) (Or.inl ⟨by rfl, ?_⟩) ?_ ?_
                                        rotate_left
                                        · intro w'
                                          go_simp
                                          with_reducible rfl
                                        rotate_left
                                        · simp only [Act.put, List.setIfInBounds_toArray, List.set_cons_zero, List.set_cons_succ, i64_w, i32_w]
                                          rfl
                                        refine pure_ (i := 3) (N := some 84) (v := ?_) (a' := ?_) #[true, true, true, true, false, false, false, false, false, false, false, false, false, false, false, false, false, false, false, false, false, false, false, false, false, false, false, false, false, false, false, false, false, false, false, false, false] rfl rfl (any_of HT_.out (by kernel_rfl)) (fun _ _ _ h => h) (Or.inl ⟨by rfl, ?_⟩) ?_ ?_
                                        rotate_left
                                        · intro w'
                                          go_simp
                                          with_reducible rfl
                                        rotate_left
                                        · simp only [Act.put, List.setIfInBounds_toArray, List.set_cons_zero, List.set_cons_succ, i64_w, i32_w]
                                          rfl
                                        refine take_ (i := 4) (N := some 85) (v := ?_) (a' := ?_) #[true, true, true, true, true, false, false, false, false, false, false, false, false, false, false, false, false, false, false, false, false, false, false, false, false, false, false, false, false, false, false, false, false, false, false, false, false] rfl rfl (take_ofW HT_.out HW_.out (by kernel_rfl)) (fun _ _ _ h => h) (Or.inl ⟨by rfl, ?_⟩) hHeld ?_ ?_
                                        rotate_left
                                        · rintro w' ⟨s0, s1⟩
                                          go_simp
                                          with_reducible rfl
                                        rotate_left
                                        · simp only [Act.put, List.setIfInBounds_toArray, List.set_cons_zero, List.set_cons_succ, i64_w, i32_w]
                                          rfl
                                        refine one_ (i := 5) (N := some 86) #[true, true, true, true, true, true, false, false, false, false, false, false, false, false, false, false, false, false, false, false, false, false, false, false, false, false, false, false, false, false, false, false, false, false, false, false, false] rfl rfl (one_of HT_.out (by kernel_rfl)) (by decide) (fun K hK => ?_)
                                        refine goes_ Tryd.func25 (by kernel_rfl) rfl #[.string t275, .string (rdOf ByteArray.empty t278 x7_1)] (by rfl) rfl rfl (by (try simp only [List.map_toArray, List.map_cons, List.map_nil]); first | done | rfl | (simp only [List.length_drop, List.length_take]; rfl)) ?_
                                        with_reducible refine (impl_Under.calls k1 t275 (rdOf ByteArray.empty t278 x7_1) true _ A44.out).mono ?_
                                        rintro e w61 ⟨rfl, hb⟩
                                        have HS0_ := (hb.cell (World.block_lt_of_cell? _ _ (hHeld.1))).trans (hHeld.1)
                                        have HS1_ := (hb.cell (World.block_lt_of_cell? _ _ (hHeld.2))).trans (hHeld.2)
                                        refine ⟨_, rfl, ?_⟩
                                        have n0_ := Aside0.mk (Kd.R_below (rU HO_6.out) hb)
                                        have n1_ := Aside0.mk (below_step (wU HB.out) hb)
                                        clear HO_6
                                        clear HB
                                        have HO_6 := n0_
                                        have HB := n1_
                                        clear n0_ n1_
                                        (try clear hb)
                                        (try clear hb2)
                                        (try clear hk)
                                        (try clear hi)
                                        refine hK.out _ _ ⟨HS0_, HS1_⟩ (fun hHeld => ?_)
                                        clear hK K
                                        refine norm_ (a' := ?_) ?_ ?_
                                        rotate_left
                                        · show Act.put _ (some 86) _ = _
                                          simp only [Act.put, List.setIfInBounds_toArray, List.set_cons_zero, List.set_cons_succ, i64_w, i32_w]
                                          rfl
                                        refine pure_ (i := 6) (N := some 87) (v := ?_) (a' := ?_) #[true, true, true, true, true, true, true, false, false, false, false, false, false, false, false, false, false, false, false, false, false, false, false, false, false, false, false, false, false, false, false, false, false, false, false, false, false] rfl rfl (any_of HT_.out (by kernel_rfl)) (fun _ _ _ h => h) (Or.inl ⟨by rfl, ?_⟩) ?_ ?_
                                        rotate_left
                                        · intro w'
                                          go_simp
                                          with_reducible rfl
                                        rotate_left
                                        · simp only [Act.put, List.setIfInBounds_toArray, List.set_cons_zero, List.set_cons_succ, i64_w, i32_w]
                                          rfl
                                        refine pure_ (i := 7) (N := some 88) (v := ?_) (a' := ?_) #[true, true, true, true, true, true, true, true, false, false, false, false, false, false, false, false, false, false, false, false, false, false, false, false, false, false, false, false, false, false, false, false, false, false, false, false, false] rfl rfl (any_of HT_.out (by kernel_rfl)) (fun _ _ _ h => h) (Or.inl ⟨by rfl, ?_⟩) ?_ ?_
                                        rotate_left
                                        · intro w'
                                          go_simp
                                          with_reducible rfl
                                        rotate_left
                                        · simp only [Act.put, List.setIfInBounds_toArray, List.set_cons_zero, List.set_cons_succ, i64_w, i32_w]
                                          rfl
                                        refine pure_ (i := 8) (N := some 89) (v := ?_) (a' := ?_) #[true, true, true, true, true, true, true, true, true, false, false, false, false, false, false, false, false, false, false, false, false, false, false, false, false, false, false, false, false, false, false, false, false, false, false, false, false] rfl rfl (any_of HT_.out (by kernel_rfl)) (fun _ _ _ h => h) (Or.inl ⟨by rfl, ?_⟩) ?_ ?_
                                        rotate_left
                                        · intro w'
                                          go_simp
                                          with_reducible rfl
                                        rotate_left
                                        · simp only [Act.put, List.setIfInBounds_toArray, List.set_cons_zero, List.set_cons_succ, i64_w, i32_w]
                                          rfl
                                        refine pure_ (i := 9) (N := some 90) (v := ?_) (a' := ?_) #[true, true, true, true, true, true, true, true, true, true, false, false, false, false, false, false, false, false, false, false, false, false, false, false, false, false, false, false, false, false, false, false, false, false, false, false, false] rfl rfl (any_of HT_.out (by kernel_rfl)) (fun _ _ _ h => h) (Or.inl ⟨by rfl, ?_⟩) ?_ ?_
                                        rotate_left
                                        · intro w'
                                          go_simp
                                          with_reducible rfl
                                        rotate_left
                                        · simp only [Act.put, List.setIfInBounds_toArray, List.set_cons_zero, List.set_cons_succ, i64_w, i32_w]
                                          rfl
                                        refine pure_ (i := 10) (N := some 91) (v := ?_) (a' := ?_) #[true, true, true, true, true, true, true, true, true, true, true, false, false, false, false, false, false, false, false, false, false, false, false, false, false, false, false, false, false, false, false, false, false, false, false, false, false] rfl rfl (any_of HT_.out (by kernel_rfl)) (fun _ _ _ h => h) (Or.inl ⟨by rfl, ?_⟩) ?_ ?_
                                        rotate_left
                                        · intro w'
                                          go_simp
                                          with_reducible rfl
                                        rotate_left
                                        · simp only [Act.put, List.setIfInBounds_toArray, List.set_cons_zero, List.set_cons_succ, i64_w, i32_w]
                                          rfl
                                        refine pure_ (i := 13) (N := some 94) (v := ?_) (a' := ?_) #[true, true, true, true, true, true, true, true, true, true, true, false, false, true, false, false, false, false, false, false, false, false, false, false, false, false, false, false, false, false, false, false, false, false, false, false, false] rfl rfl (any_of HT_.out (by kernel_rfl)) (fun _ _ _ h => h) (Or.inl ⟨by rfl, ?_⟩) ?_ ?_
                                        rotate_left
                                        · intro w'
                                          go_simp
                                          with_reducible rfl
                                        rotate_left
                                        · simp only [Act.put, List.setIfInBounds_toArray, List.set_cons_zero, List.set_cons_succ, i64_w, i32_w]
                                          rfl
                                        refine pure_ (i := 14) (N := some 95) (v := ?_) (a' := ?_) #[true, true, true, true, true, true, true, true, true, true, true, false, false, true, true, false, false, false, false, false, false, false, false, false, false, false, false, false, false, false, false, false, false, false, false, false, false] rfl rfl (any_of HT_.out (by kernel_rfl)) (fun _ _ _ h => h) (Or.inl ⟨by rfl, ?_⟩) ?_ ?_
                                        rotate_left
                                        · intro w'
                                          go_simp
                                          with_reducible rfl
                                        rotate_left
                                        · simp only [Act.put, List.setIfInBounds_toArray, List.set_cons_zero, List.set_cons_succ, i64_w, i32_w]
                                          rfl
                                        refine pure_ (i := 15) (N := some 96) (v := ?_) (a' := ?_) #[true, true, true, true, true, true, true, true, true, true, true, false, false, true, true, true, false, false, false, false, false, false, false, false, false, false, false, false, false, false, false, false, false, false, false, false, false] rfl rfl (any_of HT_.out (by kernel_rfl)) (fun _ _ _ h => h) (Or.inl ⟨by rfl, ?_⟩) ?_ ?_
                                        rotate_left
                                        · intro w'
                                          go_simp
                                          with_reducible rfl
                                        rotate_left
                                        · simp only [Act.put, List.setIfInBounds_toArray, List.set_cons_zero, List.set_cons_succ, i64_w, i32_w]
                                          rfl
                                        refine pure_ (i := 16) (N := some 97) (v := ?_) (a' := ?_) #[true, true, true, true, true, true, true, true, true, true, true, false, false, true, true, true, true, false, false, false, false, false, false, false, false, false, false, false, false, false, false, false, false, false, false, false, false] rfl rfl (any_of HT_.out (by kernel_rfl)) (fun _ _ _ h => h) (Or.inl ⟨by rfl, ?_⟩) ?_ ?_
                                        rotate_left
                                        · intro w'
                                          go_simp
                                          with_reducible rfl
                                        rotate_left
                                        · simp only [Act.put, List.setIfInBounds_toArray, List.set_cons_zero, List.set_cons_succ, i64_w, i32_w]
                                          rfl
                                        refine pure_ (i := 17) (N := some 98) (v := ?_) (a' := ?_) #[true, true, true, true, true, true, true, true, true, true, true, false, false, true, true, true, true, true, false, false, false, false, false, false, false, false, false, false, false, false, false, false, false, false, false, false, false] rfl rfl (any_of HT_.out (by kernel_rfl)) (fun _ _ _ h => h) (Or.inl ⟨by rfl, ?_⟩) ?_ ?_
                                        rotate_left
                                        · intro w'
                                          go_simp
                                          with_reducible rfl
                                        rotate_left
                                        · simp only [Act.put, List.setIfInBounds_toArray, List.set_cons_zero, List.set_cons_succ, i64_w, i32_w]
                                          rfl
                                        refine take_ (i := 11) (N := some 92) (v := ?_) (a' := ?_) #[true, true, true, true, true, true, true, true, true, true, true, true, false, true, true, true, true, true, false, false, false, false, false, false, false, false, false, false, false, false, false, false, false, false, false, false, false] rfl rfl (take_ofW HT_.out HW_.out (by kernel_rfl)) (fun _ _ _ h => h) (Or.inl ⟨by rfl, ?_⟩) hHeld ?_ ?_
                                        rotate_left
                                        · rintro w' ⟨s0, s1⟩
                                          go_simp
                                          with_reducible rfl
                                        rotate_left
                                        · simp only [Act.put, List.setIfInBounds_toArray, List.set_cons_zero, List.set_cons_succ, i64_w, i32_w]
                                          rfl
                                        refine one_ (i := 12) (N := some 93) #[true, true, true, true, true, true, true, true, true, true, true, true, true, true, true, true, true, true, false, false, false, false, false, false, false, false, false, false, false, false, false, false, false, false, false, false, false] rfl rfl (one_of HT_.out (by kernel_rfl)) (by decide) (fun K hK => ?_)
                                        refine goes_ Tryd.func43 (by kernel_rfl) rfl #[.string (rdOf ByteArray.empty t278 x7_1)] (by rfl) rfl rfl (by (try simp only [List.map_toArray, List.map_cons, List.map_nil]); first | done | rfl | (simp only [List.length_drop, List.length_take]; rfl)) ?_
                                        with_reducible refine (impl_PartsOf.calls (rdOf ByteArray.empty t278 x7_1) t298 _ A46.out).mono ?_
                                        rintro e w62 ⟨rfl, hb⟩
                                        have HS0_ := (hb.cell (World.block_lt_of_cell? _ _ (hHeld.1))).trans (hHeld.1)
                                        have HS1_ := (hb.cell (World.block_lt_of_cell? _ _ (hHeld.2))).trans (hHeld.2)
                                        refine ⟨_, rfl, ?_⟩
                                        have n0_ := Aside0.mk (Kd.R_below (rU HO_6.out) hb)
                                        have n1_ := Aside0.mk (below_step (wU HB.out) hb)
                                        clear HO_6
                                        clear HB
                                        have HO_6 := n0_
                                        have HB := n1_
                                        clear n0_ n1_
                                        (try clear hb)
                                        (try clear hb2)
                                        (try clear hk)
                                        (try clear hi)
                                        refine hK.out _ _ ⟨HS0_, HS1_⟩ (fun hHeld => ?_)
                                        clear hK K
                                        refine norm_ (a' := ?_) ?_ ?_
                                        rotate_left
                                        · show Act.put _ (some 93) _ = _
                                          simp only [Act.put, List.setIfInBounds_toArray, List.set_cons_zero, List.set_cons_succ, i64_w, i32_w]
                                          rfl
                                        refine pure_ (i := 18) (N := some 99) (v := ?_) (a' := ?_) #[true, true, true, true, true, true, true, true, true, true, true, true, true, true, true, true, true, true, true, false, false, false, false, false, false, false, false, false, false, false, false, false, false, false, false, false, false] rfl rfl (any_of HT_.out (by kernel_rfl)) (fun _ _ _ h => h) (Or.inl ⟨by rfl, ?_⟩) ?_ ?_
                                        rotate_left
                                        · intro w'
                                          go_simp
                                          with_reducible rfl
                                        rotate_left
                                        · simp only [Act.put, List.setIfInBounds_toArray, List.set_cons_zero, List.set_cons_succ, i64_w, i32_w]
                                          rfl
                                        refine pure_ (i := 19) (N := some 100) (v := ?_) (a' := ?_) #[true, true, true, true, true, true, true, true, true, true, true, true, true, true, true, true, true, true, true, true, false, false, false, false, false, false, false, false, false, false, false, false, false, false, false, false, false] rfl rfl (any_of HT_.out (by kernel_rfl)) (fun _ _ _ h => h) (Or.inl ⟨by rfl, ?_⟩) ?_ ?_
                                        rotate_left
                                        · intro w'
                                          go_simp
                                          with_reducible rfl
                                        rotate_left
                                        · simp only [Act.put, List.setIfInBounds_toArray, List.set_cons_zero, List.set_cons_succ, i64_w, i32_w]
                                          rfl
                                        refine pure_ (i := 20) (N := some 101) (v := ?_) (a' := ?_) #[true, true, true, true, true, true, true, true, true, true, true, true, true, true, true, true, true, true, true, true, true, false, false, false, false, false, false, false, false, false, false, false, false, false, false, false, false] rfl rfl (any_of HT_.out (by kernel_rfl)) (fun _ _ _ h => h) (Or.inl ⟨by rfl, ?_⟩) ?_ ?_
                                        rotate_left
                                        · intro w'
                                          go_simp
                                          with_reducible rfl
                                        rotate_left
                                        · simp only [Act.put, List.setIfInBounds_toArray, List.set_cons_zero, List.set_cons_succ, i64_w, i32_w]
                                          rfl
                                        refine pure_ (i := 21) (N := some 102) (v := ?_) (a' := ?_) #[true, true, true, true, true, true, true, true, true, true, true, true, true, true, true, true, true, true, true, true, true, true, false, false, false, false, false, false, false, false, false, false, false, false, false, false, false] rfl rfl (any_of HT_.out (by kernel_rfl)) (fun _ _ _ h => h) (Or.inl ⟨by rfl, ?_⟩) ?_ ?_
                                        rotate_left
                                        · intro w'
                                          go_simp
                                          with_reducible rfl
                                        rotate_left
                                        · simp only [Act.put, List.setIfInBounds_toArray, List.set_cons_zero, List.set_cons_succ, i64_w, i32_w]
                                          rfl
                                        refine pure_ (i := 22) (N := some 103) (v := ?_) (a' := ?_) #[true, true, true, true, true, true, true, true, true, true, true, true, true, true, true, true, true, true, true, true, true, true, true, false, false, false, false, false, false, false, false, false, false, false, false, false, false] rfl rfl (any_of HT_.out (by kernel_rfl)) (fun _ _ _ h => h) (Or.inl ⟨by rfl, ?_⟩) ?_ ?_
                                        rotate_left
                                        · intro w'
                                          go_simp
                                          with_reducible rfl
                                        rotate_left
                                        · simp only [Act.put, List.setIfInBounds_toArray, List.set_cons_zero, List.set_cons_succ, i64_w, i32_w]
                                          rfl
                                        refine pure_ (i := 23) (N := some 104) (v := ?_) (a' := ?_) #[true, true, true, true, true, true, true, true, true, true, true, true, true, true, true, true, true, true, true, true, true, true, true, true, false, false, false, false, false, false, false, false, false, false, false, false, false] rfl rfl (any_of HT_.out (by kernel_rfl)) (fun _ _ _ h => h) (Or.inl ⟨by rfl, ?_⟩) ?_ ?_
                                        rotate_left
                                        · intro w'
                                          go_simp
                                          with_reducible rfl
                                        rotate_left
                                        · simp only [Act.put, List.setIfInBounds_toArray, List.set_cons_zero, List.set_cons_succ, i64_w, i32_w]
                                          rfl
                                        refine pure_ (i := 24) (N := some 105) (v := undef) (a' := ?_) #[true, true, true, true, true, true, true, true, true, true, true, true, true, true, true, true, true, true, true, true, true, true, true, true, true, false, false, false, false, false, false, false, false, false, false, false, false] rfl rfl (any_of HT_.out (by kernel_rfl)) (fun _ _ _ h => h) (Or.inr ⟨by rfl, rfl⟩) ?_ ?_
                                        rotate_left
                                        · simp only [Act.put, List.setIfInBounds_toArray, List.set_cons_zero, List.set_cons_succ, i64_w, i32_w]
                                          rfl
                                        refine pure_ (i := 25) (N := some 106) (v := undef) (a' := ?_) #[true, true, true, true, true, true, true, true, true, true, true, true, true, true, true, true, true, true, true, true, true, true, true, true, true, true, false, false, false, false, false, false, false, false, false, false, false] rfl rfl (any_of HT_.out (by kernel_rfl)) (fun _ _ _ h => h) (Or.inr ⟨by rfl, rfl⟩) ?_ ?_
                                        rotate_left
                                        · simp only [Act.put, List.setIfInBounds_toArray, List.set_cons_zero, List.set_cons_succ, i64_w, i32_w]
                                          rfl
                                        refine pure_ (i := 26) (N := some 107) (v := undef) (a' := ?_) #[true, true, true, true, true, true, true, true, true, true, true, true, true, true, true, true, true, true, true, true, true, true, true, true, true, true, true, false, false, false, false, false, false, false, false, false, false] rfl rfl (any_of HT_.out (by kernel_rfl)) (fun _ _ _ h => h) (Or.inr ⟨by rfl, rfl⟩) ?_ ?_
                                        rotate_left
                                        · simp only [Act.put, List.setIfInBounds_toArray, List.set_cons_zero, List.set_cons_succ, i64_w, i32_w]
                                          rfl
                                        refine pure_ (i := 27) (N := some 108) (v := undef) (a' := ?_) #[true, true, true, true, true, true, true, true, true, true, true, true, true, true, true, true, true, true, true, true, true, true, true, true, true, true, true, true, false, false, false, false, false, false, false, false, false] rfl rfl (any_of HT_.out (by kernel_rfl)) (fun _ _ _ h => h) (Or.inr ⟨by rfl, rfl⟩) ?_ ?_
                                        rotate_left
                                        · simp only [Act.put, List.setIfInBounds_toArray, List.set_cons_zero, List.set_cons_succ, i64_w, i32_w]
                                          rfl
                                        refine pure_ (i := 28) (N := some 109) (v := undef) (a' := ?_) #[true, true, true, true, true, true, true, true, true, true, true, true, true, true, true, true, true, true, true, true, true, true, true, true, true, true, true, true, true, false, false, false, false, false, false, false, false] rfl rfl (any_of HT_.out (by kernel_rfl)) (fun _ _ _ h => h) (Or.inr ⟨by rfl, rfl⟩) ?_ ?_
                                        rotate_left
                                        · simp only [Act.put, List.setIfInBounds_toArray, List.set_cons_zero, List.set_cons_succ, i64_w, i32_w]
                                          rfl
                                        refine pure_ (i := 29) (N := some 110) (v := undef) (a' := ?_) #[true, true, true, true, true, true, true, true, true, true, true, true, true, true, true, true, true, true, true, true, true, true, true, true, true, true, true, true, true, true, false, false, false, false, false, false, false] rfl rfl (any_of HT_.out (by kernel_rfl)) (fun _ _ _ h => h) (Or.inr ⟨by rfl, rfl⟩) ?_ ?_
                                        rotate_left
                                        · simp only [Act.put, List.setIfInBounds_toArray, List.set_cons_zero, List.set_cons_succ, i64_w, i32_w]
                                          rfl
                                        refine pure_ (i := 30) (N := some 111) (v := undef) (a' := ?_) #[true, true, true, true, true, true, true, true, true, true, true, true, true, true, true, true, true, true, true, true, true, true, true, true, true, true, true, true, true, true, true, false, false, false, false, false, false] rfl rfl (any_of HT_.out (by kernel_rfl)) (fun _ _ _ h => h) (Or.inr ⟨by rfl, rfl⟩) ?_ ?_
                                        rotate_left
                                        · simp only [Act.put, List.setIfInBounds_toArray, List.set_cons_zero, List.set_cons_succ, i64_w, i32_w]
                                          rfl
                                        refine pure_ (i := 31) (N := some 112) (v := undef) (a' := ?_) #[true, true, true, true, true, true, true, true, true, true, true, true, true, true, true, true, true, true, true, true, true, true, true, true, true, true, true, true, true, true, true, true, false, false, false, false, false] rfl rfl (any_of HT_.out (by kernel_rfl)) (fun _ _ _ h => h) (Or.inr ⟨by rfl, rfl⟩) ?_ ?_
                                        rotate_left
                                        · simp only [Act.put, List.setIfInBounds_toArray, List.set_cons_zero, List.set_cons_succ, i64_w, i32_w]
                                          rfl
                                        refine pure_ (i := 32) (N := some 113) (v := undef) (a' := ?_) #[true, true, true, true, true, true, true, true, true, true, true, true, true, true, true, true, true, true, true, true, true, true, true, true, true, true, true, true, true, true, true, true, true, false, false, false, false] rfl rfl (any_of HT_.out (by kernel_rfl)) (fun _ _ _ h => h) (Or.inr ⟨by rfl, rfl⟩) ?_ ?_
                                        rotate_left
                                        · simp only [Act.put, List.setIfInBounds_toArray, List.set_cons_zero, List.set_cons_succ, i64_w, i32_w]
                                          rfl
                                        refine pure_ (i := 33) (N := some 114) (v := undef) (a' := ?_) #[true, true, true, true, true, true, true, true, true, true, true, true, true, true, true, true, true, true, true, true, true, true, true, true, true, true, true, true, true, true, true, true, true, true, false, false, false] rfl rfl (any_of HT_.out (by kernel_rfl)) (fun _ _ _ h => h) (Or.inr ⟨by rfl, rfl⟩) ?_ ?_
                                        rotate_left
                                        · simp only [Act.put, List.setIfInBounds_toArray, List.set_cons_zero, List.set_cons_succ, i64_w, i32_w]
                                          rfl
                                        refine pure_ (i := 34) (N := some 115) (v := undef) (a' := ?_) #[true, true, true, true, true, true, true, true, true, true, true, true, true, true, true, true, true, true, true, true, true, true, true, true, true, true, true, true, true, true, true, true, true, true, true, false, false] rfl rfl (any_of HT_.out (by kernel_rfl)) (fun _ _ _ h => h) (Or.inr ⟨by rfl, rfl⟩) ?_ ?_
                                        rotate_left
                                        · simp only [Act.put, List.setIfInBounds_toArray, List.set_cons_zero, List.set_cons_succ, i64_w, i32_w]
                                          rfl
                                        refine pure_ (i := 35) (N := some 116) (v := ?_) (a' := ?_) #[true, true, true, true, true, true, true, true, true, true, true, true, true, true, true, true, true, true, true, true, true, true, true, true, true, true, true, true, true, true, true, true, true, true, true, true, false] rfl rfl (any_of HT_.out (by kernel_rfl)) (fun _ _ _ h => h) (Or.inl ⟨by rfl, ?_⟩) ?_ ?_
                                        rotate_left
                                        · intro w'
                                          go_simp
                                          with_reducible rfl
                                        rotate_left
                                        · simp only [Act.put, List.setIfInBounds_toArray, List.set_cons_zero, List.set_cons_succ, i64_w, i32_w]
                                          rfl
                                        refine pure_ (i := 36) (N := some 117) (v := ?_) (a' := ?_) #[true, true, true, true, true, true, true, true, true, true, true, true, true, true, true, true, true, true, true, true, true, true, true, true, true, true, true, true, true, true, true, true, true, true, true, true, true] rfl rfl (any_of HT_.out (by kernel_rfl)) (fun _ _ _ h => h) (Or.inl ⟨by rfl, ?_⟩) ?_ ?_
                                        rotate_left
                                        · intro w'
                                          go_simp
                                          with_reducible rfl
                                        rotate_left
                                        · simp only [Act.put, List.setIfInBounds_toArray, List.set_cons_zero, List.set_cons_succ, i64_w, i32_w]
                                          rfl
                                        refine done_ (done_of HT_.out (by kernel_rfl)) ?_
                                        try go_wp2
                                        go_roundg k1
                                        case measure => have := HK1.out; omega
                                        case rel => exact ⟨(wrap64 (x7_1 + 1)), (by first | rfl | (simp; done) | (simp [*]; done) | (simp [X.bne_nil, X.beq_nil]; done) | (simp [*, X.bne_nil, X.beq_nil]; done)), H', ⟨by have := HK1.out; omega⟩, ⟨by (with_reducible repeat (first | apply Kd.R_alloc | apply Kd.R_drewN | apply Kd.R_drew)); exact HO_6.out⟩, ⟨by repeat (first | (with_reducible first | exact HB.out | apply below_alloc | apply pw_below_drewN | apply below_drew1) | exact HB.out)⟩⟩
                                    · rw [if_neg c47] at H
                                      have c47b0 : (t298 == (wrap64 ((wrap64 ((t278.length : Int) - 1)) - x7_1))) = false := beq_eq_false_iff_ne.mpr c47
                                      (try rw [hji23] at c47b0)
                                      have c47b1 : (t298 != (wrap64 ((wrap64 ((t278.length : Int) - 1)) - x7_1))) = true := bne_iff_ne.mpr c47
                                      (try rw [hji23] at c47b1)
                                      exact absurd (H.trans (congrArg some hrt_)) (by simp)
                                  · replace c45 := Bool.eq_false_iff.mpr c45
                                    subst c45
                                    have H1 : (some false) = some r := by rw [if_neg (show ¬ (false = true) by decide)] at H; exact H
                                    clear H
                                    have H := H1
                                    clear H1
                                    exact absurd (H.trans (congrArg some hrt_)) (by simp)
                                · rw [if_neg c43] at H
                                  exact absurd H (by simp)
                              · replace c42 := Bool.eq_false_iff.mpr c42
                                subst c42
                                have H1 : ((impl_Under.f k1 t276 t276).bind fun t302 => (if t302 = true then ((impl_Under.f k1 t276 t277).bind fun t303 => (if t303 = true then ((impl_Under.f k1 t277 t276).bind fun t304 => (if t304 = true then (if t276.toList = t277.toList then ((impl_Under.f k1 t276 t277).bind fun t305 => (if t305 = true then ((impl_PartsOf.f t276).bind fun t306 => ((impl_PartsOf.f t277).bind fun t307 => (some (decide (t306 ≥ t307))))) else (some true))) else (some false)) else ((impl_Under.f k1 t276 t277).bind fun t308 => (if t308 = true then ((impl_PartsOf.f t276).bind fun t309 => ((impl_PartsOf.f t277).bind fun t310 => (some (decide (t309 ≥ t310))))) else (some true))))) else ((impl_Under.f k1 t276 t277).bind fun t311 => (if t311 = true then ((impl_PartsOf.f t276).bind fun t312 => ((impl_PartsOf.f t277).bind fun t313 => (some (decide (t312 ≥ t313))))) else (some true))))) else (some false))) = some r := by rw [if_neg (show ¬ (false = true) by decide)] at H; exact H
                                clear H
                                have H := H1
                                clear H1
                                replace H := Option.bind_eq_some_iff.mp H
                                obtain ⟨t302, A630, H⟩ := H
                                replace H : (if t302 = true then ((impl_Under.f k1 t276 t277).bind fun t303 => (if t303 = true then ((impl_Under.f k1 t277 t276).bind fun t304 => (if t304 = true then (if t276.toList = t277.toList then ((impl_Under.f k1 t276 t277).bind fun t305 => (if t305 = true then ((impl_PartsOf.f t276).bind fun t306 => ((impl_PartsOf.f t277).bind fun t307 => (some (decide (t306 ≥ t307))))) else (some true))) else (some false)) else ((impl_Under.f k1 t276 t277).bind fun t308 => (if t308 = true then ((impl_PartsOf.f t276).bind fun t309 => ((impl_PartsOf.f t277).bind fun t310 => (some (decide (t309 ≥ t310))))) else (some true))))) else ((impl_Under.f k1 t276 t277).bind fun t311 => (if t311 = true then ((impl_PartsOf.f t276).bind fun t312 => ((impl_PartsOf.f t277).bind fun t313 => (some (decide (t312 ≥ t313))))) else (some true))))) else (some false)) = some r := H
                                have A63 := Aside0.mk A630
                                clear A630
                                by_cases c64 : t302 = true
                                · subst c64
                                  have H1 : ((impl_Under.f k1 t276 t277).bind fun t303 => (if t303 = true then ((impl_Under.f k1 t277 t276).bind fun t304 => (if t304 = true then (if t276.toList = t277.toList then ((impl_Under.f k1 t276 t277).bind fun t305 => (if t305 = true then ((impl_PartsOf.f t276).bind fun t306 => ((impl_PartsOf.f t277).bind fun t307 => (some (decide (t306 ≥ t307))))) else (some true))) else (some false)) else ((impl_Under.f k1 t276 t277).bind fun t308 => (if t308 = true then ((impl_PartsOf.f t276).bind fun t309 => ((impl_PartsOf.f t277).bind fun t310 => (some (decide (t309 ≥ t310))))) else (some true))))) else ((impl_Under.f k1 t276 t277).bind fun t311 => (if t311 = true then ((impl_PartsOf.f t276).bind fun t312 => ((impl_PartsOf.f t277).bind fun t313 => (some (decide (t312 ≥ t313))))) else (some true))))) = some r := by rw [if_pos rfl] at H; exact H
                                  clear H
                                  have H := H1
                                  clear H1
                                  replace H := Option.bind_eq_some_iff.mp H
                                  obtain ⟨t303, A650, H⟩ := H
                                  replace H : (if t303 = true then ((impl_Under.f k1 t277 t276).bind fun t304 => (if t304 = true then (if t276.toList = t277.toList then ((impl_Under.f k1 t276 t277).bind fun t305 => (if t305 = true then ((impl_PartsOf.f t276).bind fun t306 => ((impl_PartsOf.f t277).bind fun t307 => (some (decide (t306 ≥ t307))))) else (some true))) else (some false)) else ((impl_Under.f k1 t276 t277).bind fun t308 => (if t308 = true then ((impl_PartsOf.f t276).bind fun t309 => ((impl_PartsOf.f t277).bind fun t310 => (some (decide (t309 ≥ t310))))) else (some true))))) else ((impl_Under.f k1 t276 t277).bind fun t311 => (if t311 = true then ((impl_PartsOf.f t276).bind fun t312 => ((impl_PartsOf.f t277).bind fun t313 => (some (decide (t312 ≥ t313))))) else (some true)))) = some r := H
                                  have A65 := Aside0.mk A650
                                  clear A650
                                  by_cases c66 : t303 = true
                                  · subst c66
                                    have H1 : ((impl_Under.f k1 t277 t276).bind fun t304 => (if t304 = true then (if t276.toList = t277.toList then ((impl_Under.f k1 t276 t277).bind fun t305 => (if t305 = true then ((impl_PartsOf.f t276).bind fun t306 => ((impl_PartsOf.f t277).bind fun t307 => (some (decide (t306 ≥ t307))))) else (some true))) else (some false)) else ((impl_Under.f k1 t276 t277).bind fun t308 => (if t308 = true then ((impl_PartsOf.f t276).bind fun t309 => ((impl_PartsOf.f t277).bind fun t310 => (some (decide (t309 ≥ t310))))) else (some true))))) = some r := by rw [if_pos rfl] at H; exact H
                                    clear H
                                    have H := H1
                                    clear H1
                                    replace H := Option.bind_eq_some_iff.mp H
                                    obtain ⟨t304, A670, H⟩ := H
                                    replace H : (if t304 = true then (if t276.toList = t277.toList then ((impl_Under.f k1 t276 t277).bind fun t305 => (if t305 = true then ((impl_PartsOf.f t276).bind fun t306 => ((impl_PartsOf.f t277).bind fun t307 => (some (decide (t306 ≥ t307))))) else (some true))) else (some false)) else ((impl_Under.f k1 t276 t277).bind fun t308 => (if t308 = true then ((impl_PartsOf.f t276).bind fun t309 => ((impl_PartsOf.f t277).bind fun t310 => (some (decide (t309 ≥ t310))))) else (some true)))) = some r := H
                                    have A67 := Aside0.mk A670
                                    clear A670
                                    by_cases c68 : t304 = true
                                    · subst c68
                                      have H1 : (if t276.toList = t277.toList then ((impl_Under.f k1 t276 t277).bind fun t305 => (if t305 = true then ((impl_PartsOf.f t276).bind fun t306 => ((impl_PartsOf.f t277).bind fun t307 => (some (decide (t306 ≥ t307))))) else (some true))) else (some false)) = some r := by rw [if_pos rfl] at H; exact H
                                      clear H
                                      have H := H1
                                      clear H1
                                      by_cases c69 : t276.toList = t277.toList
                                      · rw [if_pos c69] at H
                                        have c69b0 : (t276.toList == t277.toList) = true := beq_iff_eq.mpr c69
                                        have c69b1 : (t276.toList != t277.toList) = false := bne_eq_false_iff_eq.mpr c69
                                        clear c69
                                        replace H := Option.bind_eq_some_iff.mp H
                                        obtain ⟨t305, A700, H⟩ := H
                                        replace H : (if t305 = true then ((impl_PartsOf.f t276).bind fun t306 => ((impl_PartsOf.f t277).bind fun t307 => (some (decide (t306 ≥ t307))))) else (some true)) = some r := H
                                        have A70 := Aside0.mk A700
                                        clear A700
                                        by_cases c71 : t305 = true
                                        · subst c71
                                          have H1 : ((impl_PartsOf.f t276).bind fun t306 => ((impl_PartsOf.f t277).bind fun t307 => (some (decide (t306 ≥ t307))))) = some r := by rw [if_pos rfl] at H; exact H
                                          clear H
                                          have H := H1
                                          clear H1
                                          replace H := Option.bind_eq_some_iff.mp H
                                          obtain ⟨t306, A720, H⟩ := H
                                          replace H : ((impl_PartsOf.f t277).bind fun t307 => (some (decide (t306 ≥ t307)))) = some r := H
                                          have A72 := Aside0.mk A720
                                          clear A720
                                          replace H := Option.bind_eq_some_iff.mp H
                                          obtain ⟨t307, A730, H⟩ := H
                                          replace H : (some (decide (t306 ≥ t307))) = some r := H
                                          have A73 := Aside0.mk A730
                                          clear A730
                                          obtain rfl := Option.some.inj H
                                          go_wp2_with (first | (go_at_call 39; (with_reducible refine (impl_NameOk.calls k1 t275 false _ A41.out).mono ?_); rintro e w74 ⟨rfl, hb⟩; have n0_ := Aside0.mk (Kd.R_below (rU HO_6.out) hb); have n1_ := Aside0.mk (below_step (wU HB.out) hb); clear HO_6; clear HB; have HO_6 := n0_; have HB := n1_; clear n0_ n1_; (try clear hb); (try clear hb2); (try clear hk); (try clear hi)) | ((with_reducible refine gate_callee (f := 25) rfl ?_); refine goesL_ (some 120) rfl rfl Tryd.func25 (by kernel_rfl) rfl #[.string t276, .string t276] rfl (by (try simp only [List.map_toArray, List.map_cons, List.map_nil]); first | done | rfl | (simp only [List.length_drop, List.length_take]; rfl)) ?_; (with_reducible refine (impl_Under.calls k1 t276 t276 true _ A63.out).mono ?_); rintro e w75 ⟨rfl, hb⟩; refine ⟨_, rfl, ?_⟩; have n0_ := Aside0.mk (Kd.R_below (rU HO_6.out) hb); have n1_ := Aside0.mk (below_step (wU HB.out) hb); clear HO_6; clear HB; have HO_6 := n0_; have HB := n1_; clear n0_ n1_; (try clear hb); (try clear hb2); (try clear hk); (try clear hi)) | (go_at_call 25; (with_reducible refine (impl_Under.calls k1 t276 t277 true _ A65.out).mono ?_); rintro e w76 ⟨rfl, hb⟩; have n0_ := Aside0.mk (Kd.R_below (rU HO_6.out) hb); have n1_ := Aside0.mk (below_step (wU HB.out) hb); clear HO_6; clear HB; have HO_6 := n0_; have HB := n1_; clear n0_ n1_; (try clear hb); (try clear hb2); (try clear hk); (try clear hi)) | (go_at_call 25; (with_reducible refine (impl_Under.calls k1 t277 t276 true _ A67.out).mono ?_); rintro e w77 ⟨rfl, hb⟩; have n0_ := Aside0.mk (Kd.R_below (rU HO_6.out) hb); have n1_ := Aside0.mk (below_step (wU HB.out) hb); clear HO_6; clear HB; have HO_6 := n0_; have HB := n1_; clear n0_ n1_; (try clear hb); (try clear hb2); (try clear hk); (try clear hi)) | (go_at_call 25; (with_reducible refine (impl_Under.calls k1 t276 t277 true _ A70.out).mono ?_); rintro e w78 ⟨rfl, hb⟩; have n0_ := Aside0.mk (Kd.R_below (rU HO_6.out) hb); have n1_ := Aside0.mk (below_step (wU HB.out) hb); clear HO_6; clear HB; have HO_6 := n0_; have HB := n1_; clear n0_ n1_; (try clear hb); (try clear hb2); (try clear hk); (try clear hi)) | (go_at_call 43; (with_reducible refine (impl_PartsOf.calls t276 t306 _ A72.out).mono ?_); rintro e w79 ⟨rfl, hb⟩; have n0_ := Aside0.mk (Kd.R_below (rU HO_6.out) hb); have n1_ := Aside0.mk (below_step (wU HB.out) hb); clear HO_6; clear HB; have HO_6 := n0_; have HB := n1_; clear n0_ n1_; (try clear hb); (try clear hb2); (try clear hk); (try clear hi)) | (go_at_call 43; (with_reducible refine (impl_PartsOf.calls t277 t307 _ A73.out).mono ?_); rintro e w80 ⟨rfl, hb⟩; have n0_ := Aside0.mk (Kd.R_below (rU HO_6.out) hb); have n1_ := Aside0.mk (below_step (wU HB.out) hb); clear HO_6; clear HB; have HO_6 := n0_; have HB := n1_; clear n0_ n1_; (try clear hb); (try clear hb2); (try clear hk); (try clear hi)))
                                          go_ret
                                          exact ⟨by first | rfl | (simp [errW_none, errW_some] <;> rfl) | (simp only [← hji23]; first | rfl | (simp [errW_none, errW_some] <;> rfl)) | (simp [*, errW_none, errW_some] <;> rfl) | (exfalso; simp_all; done) | ((have ai_ : ∀ p : Prop, Aside0 p ↔ p := fun p => ⟨fun h => h.out, fun h => ⟨h⟩⟩); simp_all [ai_]; done), by repeat (first | (with_reducible first | exact HB.out | apply below_alloc | apply pw_below_drewN | apply below_drew1) | exact HB.out)⟩
                                        · replace c71 := Bool.eq_false_iff.mpr c71
                                          subst c71
                                          exact absurd (Option.some.inj (A65.out.symm.trans A70.out)) (by decide)
                                      · rw [if_neg c69] at H
                                        have c69b0 : (t276.toList == t277.toList) = false := beq_eq_false_iff_ne.mpr c69
                                        have c69b1 : (t276.toList != t277.toList) = true := bne_iff_ne.mpr c69
                                        exact absurd (H.trans (congrArg some hrt_)) (by simp)
                                    · replace c68 := Bool.eq_false_iff.mpr c68
                                      subst c68
                                      have H1 : ((impl_Under.f k1 t276 t277).bind fun t308 => (if t308 = true then ((impl_PartsOf.f t276).bind fun t309 => ((impl_PartsOf.f t277).bind fun t310 => (some (decide (t309 ≥ t310))))) else (some true))) = some r := by rw [if_neg (show ¬ (false = true) by decide)] at H; exact H
                                      clear H
                                      have H := H1
                                      clear H1
                                      replace H := Option.bind_eq_some_iff.mp H
                                      obtain ⟨t308, A860, H⟩ := H
                                      replace H : (if t308 = true then ((impl_PartsOf.f t276).bind fun t309 => ((impl_PartsOf.f t277).bind fun t310 => (some (decide (t309 ≥ t310))))) else (some true)) = some r := H
                                      have A86 := Aside0.mk A860
                                      clear A860
                                      by_cases c87 : t308 = true
                                      · subst c87
                                        have H1 : ((impl_PartsOf.f t276).bind fun t309 => ((impl_PartsOf.f t277).bind fun t310 => (some (decide (t309 ≥ t310))))) = some r := by rw [if_pos rfl] at H; exact H
                                        clear H
                                        have H := H1
                                        clear H1
                                        replace H := Option.bind_eq_some_iff.mp H
                                        obtain ⟨t309, A880, H⟩ := H
                                        replace H : ((impl_PartsOf.f t277).bind fun t310 => (some (decide (t309 ≥ t310)))) = some r := H
                                        have A88 := Aside0.mk A880
                                        clear A880
                                        replace H := Option.bind_eq_some_iff.mp H
                                        obtain ⟨t310, A890, H⟩ := H
                                        replace H : (some (decide (t309 ≥ t310))) = some r := H
                                        have A89 := Aside0.mk A890
                                        clear A890
                                        obtain rfl := Option.some.inj H
                                        go_wp2_with (first | (go_at_call 39; (with_reducible refine (impl_NameOk.calls k1 t275 false _ A41.out).mono ?_); rintro e w90 ⟨rfl, hb⟩; have n0_ := Aside0.mk (Kd.R_below (rU HO_6.out) hb); have n1_ := Aside0.mk (below_step (wU HB.out) hb); clear HO_6; clear HB; have HO_6 := n0_; have HB := n1_; clear n0_ n1_; (try clear hb); (try clear hb2); (try clear hk); (try clear hi)) | ((with_reducible refine gate_callee (f := 25) rfl ?_); refine goesL_ (some 120) rfl rfl Tryd.func25 (by kernel_rfl) rfl #[.string t276, .string t276] rfl (by (try simp only [List.map_toArray, List.map_cons, List.map_nil]); first | done | rfl | (simp only [List.length_drop, List.length_take]; rfl)) ?_; (with_reducible refine (impl_Under.calls k1 t276 t276 true _ A63.out).mono ?_); rintro e w91 ⟨rfl, hb⟩; refine ⟨_, rfl, ?_⟩; have n0_ := Aside0.mk (Kd.R_below (rU HO_6.out) hb); have n1_ := Aside0.mk (below_step (wU HB.out) hb); clear HO_6; clear HB; have HO_6 := n0_; have HB := n1_; clear n0_ n1_; (try clear hb); (try clear hb2); (try clear hk); (try clear hi)) | (go_at_call 25; (with_reducible refine (impl_Under.calls k1 t276 t277 true _ A65.out).mono ?_); rintro e w92 ⟨rfl, hb⟩; have n0_ := Aside0.mk (Kd.R_below (rU HO_6.out) hb); have n1_ := Aside0.mk (below_step (wU HB.out) hb); clear HO_6; clear HB; have HO_6 := n0_; have HB := n1_; clear n0_ n1_; (try clear hb); (try clear hb2); (try clear hk); (try clear hi)) | (go_at_call 25; (with_reducible refine (impl_Under.calls k1 t277 t276 false _ A67.out).mono ?_); rintro e w93 ⟨rfl, hb⟩; have n0_ := Aside0.mk (Kd.R_below (rU HO_6.out) hb); have n1_ := Aside0.mk (below_step (wU HB.out) hb); clear HO_6; clear HB; have HO_6 := n0_; have HB := n1_; clear n0_ n1_; (try clear hb); (try clear hb2); (try clear hk); (try clear hi)) | (go_at_call 25; (with_reducible refine (impl_Under.calls k1 t276 t277 true _ A86.out).mono ?_); rintro e w94 ⟨rfl, hb⟩; have n0_ := Aside0.mk (Kd.R_below (rU HO_6.out) hb); have n1_ := Aside0.mk (below_step (wU HB.out) hb); clear HO_6; clear HB; have HO_6 := n0_; have HB := n1_; clear n0_ n1_; (try clear hb); (try clear hb2); (try clear hk); (try clear hi)) | (go_at_call 43; (with_reducible refine (impl_PartsOf.calls t276 t309 _ A88.out).mono ?_); rintro e w95 ⟨rfl, hb⟩; have n0_ := Aside0.mk (Kd.R_below (rU HO_6.out) hb); have n1_ := Aside0.mk (below_step (wU HB.out) hb); clear HO_6; clear HB; have HO_6 := n0_; have HB := n1_; clear n0_ n1_; (try clear hb); (try clear hb2); (try clear hk); (try clear hi)) | (go_at_call 43; (with_reducible refine (impl_PartsOf.calls t277 t310 _ A89.out).mono ?_); rintro e w96 ⟨rfl, hb⟩; have n0_ := Aside0.mk (Kd.R_below (rU HO_6.out) hb); have n1_ := Aside0.mk (below_step (wU HB.out) hb); clear HO_6; clear HB; have HO_6 := n0_; have HB := n1_; clear n0_ n1_; (try clear hb); (try clear hb2); (try clear hk); (try clear hi)))
                                        go_ret
                                        exact ⟨by first | rfl | (simp [errW_none, errW_some] <;> rfl) | (simp only [← hji23]; first | rfl | (simp [errW_none, errW_some] <;> rfl)) | (simp [*, errW_none, errW_some] <;> rfl) | (exfalso; simp_all; done) | ((have ai_ : ∀ p : Prop, Aside0 p ↔ p := fun p => ⟨fun h => h.out, fun h => ⟨h⟩⟩); simp_all [ai_]; done), by repeat (first | (with_reducible first | exact HB.out | apply below_alloc | apply pw_below_drewN | apply below_drew1) | exact HB.out)⟩
                                      · replace c87 := Bool.eq_false_iff.mpr c87
                                        subst c87
                                        exact absurd (Option.some.inj (A65.out.symm.trans A86.out)) (by decide)
                                  · replace c66 := Bool.eq_false_iff.mpr c66
                                    subst c66
                                    have H1 : ((impl_Under.f k1 t276 t277).bind fun t311 => (if t311 = true then ((impl_PartsOf.f t276).bind fun t312 => ((impl_PartsOf.f t277).bind fun t313 => (some (decide (t312 ≥ t313))))) else (some true))) = some r := by rw [if_neg (show ¬ (false = true) by decide)] at H; exact H
                                    clear H
                                    have H := H1
                                    clear H1
                                    replace H := Option.bind_eq_some_iff.mp H
                                    obtain ⟨t311, A1020, H⟩ := H
                                    replace H : (if t311 = true then ((impl_PartsOf.f t276).bind fun t312 => ((impl_PartsOf.f t277).bind fun t313 => (some (decide (t312 ≥ t313))))) else (some true)) = some r := H
                                    have A102 := Aside0.mk A1020
                                    clear A1020
                                    by_cases c103 : t311 = true
                                    · subst c103
                                      exact absurd (Option.some.inj (A65.out.symm.trans A102.out)) (by decide)
                                    · replace c103 := Bool.eq_false_iff.mpr c103
                                      subst c103
                                      have H1 : (some true) = some r := by rw [if_neg (show ¬ (false = true) by decide)] at H; exact H
                                      clear H
                                      have H := H1
                                      clear H1
                                      obtain rfl := Option.some.inj H
                                      go_wp2_with (first | (go_at_call 39; (with_reducible refine (impl_NameOk.calls k1 t275 false _ A41.out).mono ?_); rintro e w112 ⟨rfl, hb⟩; have n0_ := Aside0.mk (Kd.R_below (rU HO_6.out) hb); have n1_ := Aside0.mk (below_step (wU HB.out) hb); clear HO_6; clear HB; have HO_6 := n0_; have HB := n1_; clear n0_ n1_; (try clear hb); (try clear hb2); (try clear hk); (try clear hi)) | ((with_reducible refine gate_callee (f := 25) rfl ?_); refine goesL_ (some 120) rfl rfl Tryd.func25 (by kernel_rfl) rfl #[.string t276, .string t276] rfl (by (try simp only [List.map_toArray, List.map_cons, List.map_nil]); first | done | rfl | (simp only [List.length_drop, List.length_take]; rfl)) ?_; (with_reducible refine (impl_Under.calls k1 t276 t276 true _ A63.out).mono ?_); rintro e w113 ⟨rfl, hb⟩; refine ⟨_, rfl, ?_⟩; have n0_ := Aside0.mk (Kd.R_below (rU HO_6.out) hb); have n1_ := Aside0.mk (below_step (wU HB.out) hb); clear HO_6; clear HB; have HO_6 := n0_; have HB := n1_; clear n0_ n1_; (try clear hb); (try clear hb2); (try clear hk); (try clear hi)) | (go_at_call 25; (with_reducible refine (impl_Under.calls k1 t276 t277 false _ A65.out).mono ?_); rintro e w114 ⟨rfl, hb⟩; have n0_ := Aside0.mk (Kd.R_below (rU HO_6.out) hb); have n1_ := Aside0.mk (below_step (wU HB.out) hb); clear HO_6; clear HB; have HO_6 := n0_; have HB := n1_; clear n0_ n1_; (try clear hb); (try clear hb2); (try clear hk); (try clear hi)) | (go_at_call 25; (with_reducible refine (impl_Under.calls k1 t276 t277 false _ A102.out).mono ?_); rintro e w115 ⟨rfl, hb⟩; have n0_ := Aside0.mk (Kd.R_below (rU HO_6.out) hb); have n1_ := Aside0.mk (below_step (wU HB.out) hb); clear HO_6; clear HB; have HO_6 := n0_; have HB := n1_; clear n0_ n1_; (try clear hb); (try clear hb2); (try clear hk); (try clear hi)))
                                      go_ret
                                      exact ⟨by first | rfl | (simp [errW_none, errW_some] <;> rfl) | (simp only [← hji23]; first | rfl | (simp [errW_none, errW_some] <;> rfl)) | (simp [*, errW_none, errW_some] <;> rfl) | (exfalso; simp_all; done) | ((have ai_ : ∀ p : Prop, Aside0 p ↔ p := fun p => ⟨fun h => h.out, fun h => ⟨h⟩⟩); simp_all [ai_]; done), by repeat (first | (with_reducible first | exact HB.out | apply below_alloc | apply pw_below_drewN | apply below_drew1) | exact HB.out)⟩
                                · replace c64 := Bool.eq_false_iff.mpr c64
                                  subst c64
                                  have H1 : (some false) = some r := by rw [if_neg (show ¬ (false = true) by decide)] at H; exact H
                                  clear H
                                  have H := H1
                                  clear H1
                                  exact absurd (H.trans (congrArg some hrt_)) (by simp)
                            · rw [if_neg c40] at H
                              have c40b0 : decide (x7_1 < (t278.length : Int)) = false := decide_eq_false c40
                              clear c40
                              replace H := Option.bind_eq_some_iff.mp H
                              obtain ⟨t314, A1160, H⟩ := H
                              replace H : (if t314 = true then ((impl_Under.f k1 t276 t277).bind fun t315 => (if t315 = true then ((impl_Under.f k1 t277 t276).bind fun t316 => (if t316 = true then (if t276.toList = t277.toList then ((impl_Under.f k1 t276 t277).bind fun t317 => (if t317 = true then ((impl_PartsOf.f t276).bind fun t318 => ((impl_PartsOf.f t277).bind fun t319 => (some (decide (t318 ≥ t319))))) else (some true))) else (some false)) else ((impl_Under.f k1 t276 t277).bind fun t320 => (if t320 = true then ((impl_PartsOf.f t276).bind fun t321 => ((impl_PartsOf.f t277).bind fun t322 => (some (decide (t321 ≥ t322))))) else (some true))))) else ((impl_Under.f k1 t276 t277).bind fun t323 => (if t323 = true then ((impl_PartsOf.f t276).bind fun t324 => ((impl_PartsOf.f t277).bind fun t325 => (some (decide (t324 ≥ t325))))) else (some true))))) else (some false)) = some r := H
                              have A116 := Aside0.mk A1160
                              clear A1160
                              by_cases c117 : t314 = true
                              · subst c117
                                have H1 : ((impl_Under.f k1 t276 t277).bind fun t315 => (if t315 = true then ((impl_Under.f k1 t277 t276).bind fun t316 => (if t316 = true then (if t276.toList = t277.toList then ((impl_Under.f k1 t276 t277).bind fun t317 => (if t317 = true then ((impl_PartsOf.f t276).bind fun t318 => ((impl_PartsOf.f t277).bind fun t319 => (some (decide (t318 ≥ t319))))) else (some true))) else (some false)) else ((impl_Under.f k1 t276 t277).bind fun t320 => (if t320 = true then ((impl_PartsOf.f t276).bind fun t321 => ((impl_PartsOf.f t277).bind fun t322 => (some (decide (t321 ≥ t322))))) else (some true))))) else ((impl_Under.f k1 t276 t277).bind fun t323 => (if t323 = true then ((impl_PartsOf.f t276).bind fun t324 => ((impl_PartsOf.f t277).bind fun t325 => (some (decide (t324 ≥ t325))))) else (some true))))) = some r := by rw [if_pos rfl] at H; exact H
                                clear H
                                have H := H1
                                clear H1
                                replace H := Option.bind_eq_some_iff.mp H
                                obtain ⟨t315, A1180, H⟩ := H
                                replace H : (if t315 = true then ((impl_Under.f k1 t277 t276).bind fun t316 => (if t316 = true then (if t276.toList = t277.toList then ((impl_Under.f k1 t276 t277).bind fun t317 => (if t317 = true then ((impl_PartsOf.f t276).bind fun t318 => ((impl_PartsOf.f t277).bind fun t319 => (some (decide (t318 ≥ t319))))) else (some true))) else (some false)) else ((impl_Under.f k1 t276 t277).bind fun t320 => (if t320 = true then ((impl_PartsOf.f t276).bind fun t321 => ((impl_PartsOf.f t277).bind fun t322 => (some (decide (t321 ≥ t322))))) else (some true))))) else ((impl_Under.f k1 t276 t277).bind fun t323 => (if t323 = true then ((impl_PartsOf.f t276).bind fun t324 => ((impl_PartsOf.f t277).bind fun t325 => (some (decide (t324 ≥ t325))))) else (some true)))) = some r := H
                                have A118 := Aside0.mk A1180
                                clear A1180
                                by_cases c119 : t315 = true
                                · subst c119
                                  have H1 : ((impl_Under.f k1 t277 t276).bind fun t316 => (if t316 = true then (if t276.toList = t277.toList then ((impl_Under.f k1 t276 t277).bind fun t317 => (if t317 = true then ((impl_PartsOf.f t276).bind fun t318 => ((impl_PartsOf.f t277).bind fun t319 => (some (decide (t318 ≥ t319))))) else (some true))) else (some false)) else ((impl_Under.f k1 t276 t277).bind fun t320 => (if t320 = true then ((impl_PartsOf.f t276).bind fun t321 => ((impl_PartsOf.f t277).bind fun t322 => (some (decide (t321 ≥ t322))))) else (some true))))) = some r := by rw [if_pos rfl] at H; exact H
                                  clear H
                                  have H := H1
                                  clear H1
                                  replace H := Option.bind_eq_some_iff.mp H
                                  obtain ⟨t316, A1200, H⟩ := H
                                  replace H : (if t316 = true then (if t276.toList = t277.toList then ((impl_Under.f k1 t276 t277).bind fun t317 => (if t317 = true then ((impl_PartsOf.f t276).bind fun t318 => ((impl_PartsOf.f t277).bind fun t319 => (some (decide (t318 ≥ t319))))) else (some true))) else (some false)) else ((impl_Under.f k1 t276 t277).bind fun t320 => (if t320 = true then ((impl_PartsOf.f t276).bind fun t321 => ((impl_PartsOf.f t277).bind fun t322 => (some (decide (t321 ≥ t322))))) else (some true)))) = some r := H
                                  have A120 := Aside0.mk A1200
                                  clear A1200
                                  by_cases c121 : t316 = true
                                  · subst c121
                                    have H1 : (if t276.toList = t277.toList then ((impl_Under.f k1 t276 t277).bind fun t317 => (if t317 = true then ((impl_PartsOf.f t276).bind fun t318 => ((impl_PartsOf.f t277).bind fun t319 => (some (decide (t318 ≥ t319))))) else (some true))) else (some false)) = some r := by rw [if_pos rfl] at H; exact H
                                    clear H
                                    have H := H1
                                    clear H1
                                    by_cases c122 : t276.toList = t277.toList
                                    · rw [if_pos c122] at H
                                      have c122b0 : (t276.toList == t277.toList) = true := beq_iff_eq.mpr c122
                                      have c122b1 : (t276.toList != t277.toList) = false := bne_eq_false_iff_eq.mpr c122
                                      clear c122
                                      replace H := Option.bind_eq_some_iff.mp H
                                      obtain ⟨t317, A1230, H⟩ := H
                                      replace H : (if t317 = true then ((impl_PartsOf.f t276).bind fun t318 => ((impl_PartsOf.f t277).bind fun t319 => (some (decide (t318 ≥ t319))))) else (some true)) = some r := H
                                      have A123 := Aside0.mk A1230
                                      clear A1230
                                      by_cases c124 : t317 = true
                                      · subst c124
                                        have H1 : ((impl_PartsOf.f t276).bind fun t318 => ((impl_PartsOf.f t277).bind fun t319 => (some (decide (t318 ≥ t319))))) = some r := by rw [if_pos rfl] at H; exact H
                                        clear H
                                        have H := H1
                                        clear H1
                                        replace H := Option.bind_eq_some_iff.mp H
                                        obtain ⟨t318, A1250, H⟩ := H
                                        replace H : ((impl_PartsOf.f t277).bind fun t319 => (some (decide (t318 ≥ t319)))) = some r := H
                                        have A125 := Aside0.mk A1250
                                        clear A1250
                                        replace H := Option.bind_eq_some_iff.mp H
                                        obtain ⟨t319, A1260, H⟩ := H
                                        replace H : (some (decide (t318 ≥ t319))) = some r := H
                                        have A126 := Aside0.mk A1260
                                        clear A1260
                                        obtain rfl := Option.some.inj H
                                        go_wp2_with (first | ((with_reducible refine gate_callee (f := 25) rfl ?_); refine goesL_ (some 120) rfl rfl Tryd.func25 (by kernel_rfl) rfl #[.string t276, .string t276] rfl (by (try simp only [List.map_toArray, List.map_cons, List.map_nil]); first | done | rfl | (simp only [List.length_drop, List.length_take]; rfl)) ?_; (with_reducible refine (impl_Under.calls k1 t276 t276 true _ A116.out).mono ?_); rintro e w127 ⟨rfl, hb⟩; refine ⟨_, rfl, ?_⟩; have n0_ := Aside0.mk (Kd.R_below (rU HO_6.out) hb); have n1_ := Aside0.mk (below_step (wU HB.out) hb); clear HO_6; clear HB; have HO_6 := n0_; have HB := n1_; clear n0_ n1_; (try clear hb); (try clear hb2); (try clear hk); (try clear hi)) | (go_at_call 25; (with_reducible refine (impl_Under.calls k1 t276 t277 true _ A118.out).mono ?_); rintro e w128 ⟨rfl, hb⟩; have n0_ := Aside0.mk (Kd.R_below (rU HO_6.out) hb); have n1_ := Aside0.mk (below_step (wU HB.out) hb); clear HO_6; clear HB; have HO_6 := n0_; have HB := n1_; clear n0_ n1_; (try clear hb); (try clear hb2); (try clear hk); (try clear hi)) | (go_at_call 25; (with_reducible refine (impl_Under.calls k1 t277 t276 true _ A120.out).mono ?_); rintro e w129 ⟨rfl, hb⟩; have n0_ := Aside0.mk (Kd.R_below (rU HO_6.out) hb); have n1_ := Aside0.mk (below_step (wU HB.out) hb); clear HO_6; clear HB; have HO_6 := n0_; have HB := n1_; clear n0_ n1_; (try clear hb); (try clear hb2); (try clear hk); (try clear hi)) | (go_at_call 25; (with_reducible refine (impl_Under.calls k1 t276 t277 true _ A123.out).mono ?_); rintro e w130 ⟨rfl, hb⟩; have n0_ := Aside0.mk (Kd.R_below (rU HO_6.out) hb); have n1_ := Aside0.mk (below_step (wU HB.out) hb); clear HO_6; clear HB; have HO_6 := n0_; have HB := n1_; clear n0_ n1_; (try clear hb); (try clear hb2); (try clear hk); (try clear hi)) | (go_at_call 43; (with_reducible refine (impl_PartsOf.calls t276 t318 _ A125.out).mono ?_); rintro e w131 ⟨rfl, hb⟩; have n0_ := Aside0.mk (Kd.R_below (rU HO_6.out) hb); have n1_ := Aside0.mk (below_step (wU HB.out) hb); clear HO_6; clear HB; have HO_6 := n0_; have HB := n1_; clear n0_ n1_; (try clear hb); (try clear hb2); (try clear hk); (try clear hi)) | (go_at_call 43; (with_reducible refine (impl_PartsOf.calls t277 t319 _ A126.out).mono ?_); rintro e w132 ⟨rfl, hb⟩; have n0_ := Aside0.mk (Kd.R_below (rU HO_6.out) hb); have n1_ := Aside0.mk (below_step (wU HB.out) hb); clear HO_6; clear HB; have HO_6 := n0_; have HB := n1_; clear n0_ n1_; (try clear hb); (try clear hb2); (try clear hk); (try clear hi)))
                                        go_ret
                                        exact ⟨by first | rfl | (simp [errW_none, errW_some] <;> rfl) | (simp only [← hji23]; first | rfl | (simp [errW_none, errW_some] <;> rfl)) | (simp [*, errW_none, errW_some] <;> rfl) | (exfalso; simp_all; done) | ((have ai_ : ∀ p : Prop, Aside0 p ↔ p := fun p => ⟨fun h => h.out, fun h => ⟨h⟩⟩); simp_all [ai_]; done), by repeat (first | (with_reducible first | exact HB.out | apply below_alloc | apply pw_below_drewN | apply below_drew1) | exact HB.out)⟩
                                      · replace c124 := Bool.eq_false_iff.mpr c124
                                        subst c124
                                        exact absurd (Option.some.inj (A118.out.symm.trans A123.out)) (by decide)
                                    · rw [if_neg c122] at H
                                      have c122b0 : (t276.toList == t277.toList) = false := beq_eq_false_iff_ne.mpr c122
                                      have c122b1 : (t276.toList != t277.toList) = true := bne_iff_ne.mpr c122
                                      exact absurd (H.trans (congrArg some hrt_)) (by simp)
                                  · replace c121 := Bool.eq_false_iff.mpr c121
                                    subst c121
                                    have H1 : ((impl_Under.f k1 t276 t277).bind fun t320 => (if t320 = true then ((impl_PartsOf.f t276).bind fun t321 => ((impl_PartsOf.f t277).bind fun t322 => (some (decide (t321 ≥ t322))))) else (some true))) = some r := by rw [if_neg (show ¬ (false = true) by decide)] at H; exact H
                                    clear H
                                    have H := H1
                                    clear H1
                                    replace H := Option.bind_eq_some_iff.mp H
                                    obtain ⟨t320, A1370, H⟩ := H
                                    replace H : (if t320 = true then ((impl_PartsOf.f t276).bind fun t321 => ((impl_PartsOf.f t277).bind fun t322 => (some (decide (t321 ≥ t322))))) else (some true)) = some r := H
                                    have A137 := Aside0.mk A1370
                                    clear A1370
                                    by_cases c138 : t320 = true
                                    · subst c138
                                      have H1 : ((impl_PartsOf.f t276).bind fun t321 => ((impl_PartsOf.f t277).bind fun t322 => (some (decide (t321 ≥ t322))))) = some r := by rw [if_pos rfl] at H; exact H
                                      clear H
                                      have H := H1
                                      clear H1
                                      replace H := Option.bind_eq_some_iff.mp H
                                      obtain ⟨t321, A1390, H⟩ := H
                                      replace H : ((impl_PartsOf.f t277).bind fun t322 => (some (decide (t321 ≥ t322)))) = some r := H
                                      have A139 := Aside0.mk A1390
                                      clear A1390
                                      replace H := Option.bind_eq_some_iff.mp H
                                      obtain ⟨t322, A1400, H⟩ := H
                                      replace H : (some (decide (t321 ≥ t322))) = some r := H
                                      have A140 := Aside0.mk A1400
                                      clear A1400
                                      obtain rfl := Option.some.inj H
                                      go_wp2_with (first | ((with_reducible refine gate_callee (f := 25) rfl ?_); refine goesL_ (some 120) rfl rfl Tryd.func25 (by kernel_rfl) rfl #[.string t276, .string t276] rfl (by (try simp only [List.map_toArray, List.map_cons, List.map_nil]); first | done | rfl | (simp only [List.length_drop, List.length_take]; rfl)) ?_; (with_reducible refine (impl_Under.calls k1 t276 t276 true _ A116.out).mono ?_); rintro e w141 ⟨rfl, hb⟩; refine ⟨_, rfl, ?_⟩; have n0_ := Aside0.mk (Kd.R_below (rU HO_6.out) hb); have n1_ := Aside0.mk (below_step (wU HB.out) hb); clear HO_6; clear HB; have HO_6 := n0_; have HB := n1_; clear n0_ n1_; (try clear hb); (try clear hb2); (try clear hk); (try clear hi)) | (go_at_call 25; (with_reducible refine (impl_Under.calls k1 t276 t277 true _ A118.out).mono ?_); rintro e w142 ⟨rfl, hb⟩; have n0_ := Aside0.mk (Kd.R_below (rU HO_6.out) hb); have n1_ := Aside0.mk (below_step (wU HB.out) hb); clear HO_6; clear HB; have HO_6 := n0_; have HB := n1_; clear n0_ n1_; (try clear hb); (try clear hb2); (try clear hk); (try clear hi)) | (go_at_call 25; (with_reducible refine (impl_Under.calls k1 t277 t276 false _ A120.out).mono ?_); rintro e w143 ⟨rfl, hb⟩; have n0_ := Aside0.mk (Kd.R_below (rU HO_6.out) hb); have n1_ := Aside0.mk (below_step (wU HB.out) hb); clear HO_6; clear HB; have HO_6 := n0_; have HB := n1_; clear n0_ n1_; (try clear hb); (try clear hb2); (try clear hk); (try clear hi)) | (go_at_call 25; (with_reducible refine (impl_Under.calls k1 t276 t277 true _ A137.out).mono ?_); rintro e w144 ⟨rfl, hb⟩; have n0_ := Aside0.mk (Kd.R_below (rU HO_6.out) hb); have n1_ := Aside0.mk (below_step (wU HB.out) hb); clear HO_6; clear HB; have HO_6 := n0_; have HB := n1_; clear n0_ n1_; (try clear hb); (try clear hb2); (try clear hk); (try clear hi)) | (go_at_call 43; (with_reducible refine (impl_PartsOf.calls t276 t321 _ A139.out).mono ?_); rintro e w145 ⟨rfl, hb⟩; have n0_ := Aside0.mk (Kd.R_below (rU HO_6.out) hb); have n1_ := Aside0.mk (below_step (wU HB.out) hb); clear HO_6; clear HB; have HO_6 := n0_; have HB := n1_; clear n0_ n1_; (try clear hb); (try clear hb2); (try clear hk); (try clear hi)) | (go_at_call 43; (with_reducible refine (impl_PartsOf.calls t277 t322 _ A140.out).mono ?_); rintro e w146 ⟨rfl, hb⟩; have n0_ := Aside0.mk (Kd.R_below (rU HO_6.out) hb); have n1_ := Aside0.mk (below_step (wU HB.out) hb); clear HO_6; clear HB; have HO_6 := n0_; have HB := n1_; clear n0_ n1_; (try clear hb); (try clear hb2); (try clear hk); (try clear hi)))
                                      go_ret
                                      exact ⟨by first | rfl | (simp [errW_none, errW_some] <;> rfl) | (simp only [← hji23]; first | rfl | (simp [errW_none, errW_some] <;> rfl)) | (simp [*, errW_none, errW_some] <;> rfl) | (exfalso; simp_all; done) | ((have ai_ : ∀ p : Prop, Aside0 p ↔ p := fun p => ⟨fun h => h.out, fun h => ⟨h⟩⟩); simp_all [ai_]; done), by repeat (first | (with_reducible first | exact HB.out | apply below_alloc | apply pw_below_drewN | apply below_drew1) | exact HB.out)⟩
                                    · replace c138 := Bool.eq_false_iff.mpr c138
                                      subst c138
                                      exact absurd (Option.some.inj (A118.out.symm.trans A137.out)) (by decide)
                                · replace c119 := Bool.eq_false_iff.mpr c119
                                  subst c119
                                  have H1 : ((impl_Under.f k1 t276 t277).bind fun t323 => (if t323 = true then ((impl_PartsOf.f t276).bind fun t324 => ((impl_PartsOf.f t277).bind fun t325 => (some (decide (t324 ≥ t325))))) else (some true))) = some r := by rw [if_neg (show ¬ (false = true) by decide)] at H; exact H
                                  clear H
                                  have H := H1
                                  clear H1
                                  replace H := Option.bind_eq_some_iff.mp H
                                  obtain ⟨t323, A1510, H⟩ := H
                                  replace H : (if t323 = true then ((impl_PartsOf.f t276).bind fun t324 => ((impl_PartsOf.f t277).bind fun t325 => (some (decide (t324 ≥ t325))))) else (some true)) = some r := H
                                  have A151 := Aside0.mk A1510
                                  clear A1510
                                  by_cases c152 : t323 = true
                                  · subst c152
                                    exact absurd (Option.some.inj (A118.out.symm.trans A151.out)) (by decide)
                                  · replace c152 := Bool.eq_false_iff.mpr c152
                                    subst c152
                                    have H1 : (some true) = some r := by rw [if_neg (show ¬ (false = true) by decide)] at H; exact H
                                    clear H
                                    have H := H1
                                    clear H1
                                    obtain rfl := Option.some.inj H
                                    go_wp2_with (first | ((with_reducible refine gate_callee (f := 25) rfl ?_); refine goesL_ (some 120) rfl rfl Tryd.func25 (by kernel_rfl) rfl #[.string t276, .string t276] rfl (by (try simp only [List.map_toArray, List.map_cons, List.map_nil]); first | done | rfl | (simp only [List.length_drop, List.length_take]; rfl)) ?_; (with_reducible refine (impl_Under.calls k1 t276 t276 true _ A116.out).mono ?_); rintro e w160 ⟨rfl, hb⟩; refine ⟨_, rfl, ?_⟩; have n0_ := Aside0.mk (Kd.R_below (rU HO_6.out) hb); have n1_ := Aside0.mk (below_step (wU HB.out) hb); clear HO_6; clear HB; have HO_6 := n0_; have HB := n1_; clear n0_ n1_; (try clear hb); (try clear hb2); (try clear hk); (try clear hi)) | (go_at_call 25; (with_reducible refine (impl_Under.calls k1 t276 t277 false _ A118.out).mono ?_); rintro e w161 ⟨rfl, hb⟩; have n0_ := Aside0.mk (Kd.R_below (rU HO_6.out) hb); have n1_ := Aside0.mk (below_step (wU HB.out) hb); clear HO_6; clear HB; have HO_6 := n0_; have HB := n1_; clear n0_ n1_; (try clear hb); (try clear hb2); (try clear hk); (try clear hi)) | (go_at_call 25; (with_reducible refine (impl_Under.calls k1 t276 t277 false _ A151.out).mono ?_); rintro e w162 ⟨rfl, hb⟩; have n0_ := Aside0.mk (Kd.R_below (rU HO_6.out) hb); have n1_ := Aside0.mk (below_step (wU HB.out) hb); clear HO_6; clear HB; have HO_6 := n0_; have HB := n1_; clear n0_ n1_; (try clear hb); (try clear hb2); (try clear hk); (try clear hi)))
                                    go_ret
                                    exact ⟨by first | rfl | (simp [errW_none, errW_some] <;> rfl) | (simp only [← hji23]; first | rfl | (simp [errW_none, errW_some] <;> rfl)) | (simp [*, errW_none, errW_some] <;> rfl) | (exfalso; simp_all; done) | ((have ai_ : ∀ p : Prop, Aside0 p ↔ p := fun p => ⟨fun h => h.out, fun h => ⟨h⟩⟩); simp_all [ai_]; done), by repeat (first | (with_reducible first | exact HB.out | apply below_alloc | apply pw_below_drewN | apply below_drew1) | exact HB.out)⟩
                              · replace c117 := Bool.eq_false_iff.mpr c117
                                subst c117
                                have H1 : (some false) = some r := by rw [if_neg (show ¬ (false = true) by decide)] at H; exact H
                                clear H
                                have H := H1
                                clear H1
                                exact absurd (H.trans (congrArg some hrt_)) (by simp)
                      · rw [if_neg c26] at H
                        have c26b0 : ((rdOf ByteArray.empty t278 (ji23)).toList == ([] : List UInt8)) = false := beq_eq_false_iff_ne.mpr c26
                        have c26b1 : ((rdOf ByteArray.empty t278 (ji23)).toList != ([] : List UInt8)) = true := bne_iff_ne.mpr c26
                        exact absurd (H.trans (congrArg some hrt_)) (by simp)
                    · rw [if_neg c25] at H
                      exact absurd H (by simp)
                  · rw [if_neg c24] at H
                    exact absurd H (by simp)
                · rw [if_neg c22] at H
                  have c22b0 : ((rdOf ByteArray.empty t278 0).toList == t275.toList) = false := beq_eq_false_iff_ne.mpr c22
                  have c22b1 : ((rdOf ByteArray.empty t278 0).toList != t275.toList) = true := bne_iff_ne.mpr c22
                  exact absurd (H.trans (congrArg some hrt_)) (by simp)
              · rw [if_neg c21] at H
                exact absurd H (by simp)
            · rw [if_neg c20] at H
              have c20b0 : ((t278.length : Int) == (wrap64 (t291 + 1))) = false := beq_eq_false_iff_ne.mpr c20
              have c20b1 : ((t278.length : Int) != (wrap64 (t291 + 1))) = true := bne_iff_ne.mpr c20
              exact absurd (H.trans (congrArg some hrt_)) (by simp)
          · rw [if_neg c18] at H
            have c18b0 : (t289.toList == t290.toList) = false := beq_eq_false_iff_ne.mpr c18
            have c18b1 : (t289.toList != t290.toList) = true := bne_iff_ne.mpr c18
            exact absurd (H.trans (congrArg some hrt_)) (by simp)
    · replace c9 := Bool.eq_false_iff.mpr c9
      subst c9
      have H1 : (some false) = some r := by rw [if_neg (show ¬ (false = true) by decide)] at H; exact H
      clear H
      have H := H1
      clear H1
      exact absurd (H.trans (congrArg some hrt_)) (by simp)

/-- The one pure statement of laws_FnNames. -/
def laws_FnNames.Pure : Prop := ∀ (l0 : List Int), (l0.length ≤ maxLen ∧ l0.length * 1 ≤ 140737488351232 ∧ ∀ y_ ∈ l0, (Lit.int .u8 y_).wf = true) → ∃ k, laws_FnNames.f k l0 = some true

end Go.Proofs.YtbohkphbgkgaeaaDoor.Pr
