-- Written for this claim by a program of this session (wip/tool/pr.py, over the kit's printer).
-- half
import Derived.Test.YtdigilidomimdaaDoorPrx0
import Derived.Test.YtdigilidomimdaaDoorPrx2
import Derived.Test.YtdigilidomimdaaDoorPrx3
import Derived.Test.YtdigilidomimdaaDoorPrx4
namespace Go.Proofs.YtdigilidomimdaaDoor.Pr
open Go.RowKit Go.Proofs.YtdigilidomimdaaDoorW.PrintWords Go.Proofs.YtdigilidomimdaaDoorW.PrintLast Go.Proofs.YtdigilidomimdaaDoorW.PrintMore
attribute [local go_sem] max2_int min2_int max_two min_two max_three min_three max_four min_four   -- for this text's walks alone
set_option linter.unusedVariables false
set_option linter.unusedSimpArgs false

/-! ### impl_putBytes: function 119 -/
mutual
def impl_putBytes.j0 : Nat → Int → Int → List Int → Bool → Option (List Int)
 | 0, _, _, _, _ => none
 | k + 1, x1, x2, x9, x19 => if x19 = true then (some x9) else (impl_putBytes.l0 k x1 x9 (wrap64 (x2 - 1)))
def impl_putBytes.l0 : Nat → Int → List Int → Int → Option (List Int)
 | 0, _, _, _ => none
 | k + 1, x1, x9, x10 => if x10 ≥ 0 then (if 0 ≤ (wrap64 (8 * x10)) then (if x9.length < 140737488355328 then (impl_putBytes.l0 k x1 (x9 ++ [(shr .i64 x1 (wrap64 (8 * x10))) % 256]) (wrap64 (x10 - 1))) else (none)) else (none)) else (some x9)
end
def impl_putBytes.f (k : Nat) (l0 : List Int) (a1 : Int) (a2 : Int) (a3 : Int) : Option (List Int) := (slices_Clone_byte.f l0).bind fun t322 => (if a1 < 0 then (impl_putBytes.j0 k a1 a2 t322 true) else (impl_putBytes.j0 k a1 a2 t322 (decide (a1 > a3))))
theorem impl_putBytes.mono_l : ∀ k, (∀ y0 y1 y2 y3, LeO (impl_putBytes.j0 k y0 y1 y2 y3) (impl_putBytes.j0 (k + 1) y0 y1 y2 y3)) ∧ (∀ y0 y1 y2, LeO (impl_putBytes.l0 k y0 y1 y2) (impl_putBytes.l0 (k + 1) y0 y1 y2))
 | 0 => ⟨fun _ _ _ _ r h => by simp [impl_putBytes.j0] at h, fun _ _ _ r h => by simp [impl_putBytes.l0] at h⟩
 | k + 1 => by
  obtain ⟨ih0, ih1⟩ := impl_putBytes.mono_l k
  refine ⟨?_, ?_⟩
  ·intro y0 y1 y2 y3
   unfold impl_putBytes.j0
   repeat' first
   | (with_reducible first | exact ih0 _ _ _ _ | exact ih1 _ _ _ | exact LeO.refl _ | exact LeO.none _ | refine LeO.ite ?_ ?_ | refine LeO.bind ?_ (fun _ => ?_))
   | exact ih0 _ _ _ _
   | exact ih1 _ _ _
   | exact LeO.none _
   | refine LeO.ite ?_ ?_
   | refine LeO.bind ?_ (fun _ => ?_)
  ·intro y0 y1 y2
   unfold impl_putBytes.l0
   repeat' first
   | (with_reducible first | exact ih0 _ _ _ _ | exact ih1 _ _ _ | exact LeO.refl _ | exact LeO.none _ | refine LeO.ite ?_ ?_ | refine LeO.bind ?_ (fun _ => ?_))
   | exact ih0 _ _ _ _
   | exact ih1 _ _ _
   | exact LeO.none _
   | refine LeO.ite ?_ ?_
   | refine LeO.bind ?_ (fun _ => ?_)
theorem impl_putBytes.mono : ∀ a0 a1 a2 a3 k, LeO (impl_putBytes.f k a0 a1 a2 a3) (impl_putBytes.f (k + 1) a0 a1 a2 a3) := by
 intro a0 a1 a2 a3 k
 obtain ⟨ih0, ih1⟩ := impl_putBytes.mono_l k
 unfold impl_putBytes.f
 repeat' first
   | (with_reducible first | exact ih0 _ _ _ _ | exact ih1 _ _ _ | exact LeO.refl _ | exact LeO.none _ | refine LeO.ite ?_ ?_ | refine LeO.bind ?_ (fun _ => ?_))
   | exact ih0 _ _ _ _
   | exact ih1 _ _ _
   | exact LeO.none _
   | refine LeO.ite ?_ ?_
   | refine LeO.bind ?_ (fun _ => ?_)
set_option maxHeartbeats 8000000 in
set_option maxRecDepth 100000 in
theorem impl_putBytes.calls (k : Nat) (A0 : Option Addr) (c0 : Nat) (l0 : List Int) (a1 : Int) (a2 : Int) (a3 : Int) (r : List Int) (w : World) (hr0 : Kd.C (Kd.int .u8) w A0 l0.length l0) (hc0 : l0.length ≤ c0) (h : impl_putBytes.f k l0 a1 a2 a3 = some r) :
  Calls Tryd.prog 119 #[.slice A0 l0.length c0, .int .i64 a1, .int .i64 a2, .int .i64 a3] w fun e w' => ∃ v0_ : Value, e = .returned (v0_) ∧ Kd.R (Kd.int .u8) 5 w' w.heap.size (fun _ => True) v0_ r ∧ Below w.heap.size w w' := by
 have HR0 := aS hr0
 have HC0 := aS hc0
 clear hr0 hc0
 have HB := aS (Below.refl w.heap.size w)
 have H : ((slices_Clone_byte.f l0).bind fun t322 => (if a1 < 0 then (impl_putBytes.j0 k a1 a2 t322 true) else (impl_putBytes.j0 k a1 a2 t322 (decide (a1 > a3))))) = some r := h
 clear h
 obtain ⟨t322, A5, H⟩ := bM H
 try dsimp only at H
 have HC6 := aS H
 clear H
 go_enter Tryd.func119, Tryd.ntmps119
 go_upto_region 2 with (first | ((with_reducible refine gate_callee (f := 114) rfl ?_); refine goesL_ (some 12) rfl rfl Tryd.func114 jK rfl #[.slice A0 l0.length c0] rfl jA ?_; (with_reducible refine (slices_Clone_byte.calls _ _ l0 t322 _ ?side1 ?side2 A5.out).mono ?_); (case side1 => exact cU (HR0.out)); (case side2 => exact HC0.out); rintro e w7 ⟨v323, rfl, ho0, hb⟩; refine ⟨_, rfl, ?_⟩; have HO324 := aS (Kd.R_lower ho0 (below_size (wU HB.out))); replace HB := aS (below_step (wU HB.out) hb); clear hb; (try clear ho0)))
 (try simp only [Act.put, List.setIfInBounds_toArray, List.set_cons_zero, List.set_cons_succ])
 go_cut [19] (fun v19 wc => ∃ (kq : Nat) (x19_5 : Bool), v19 = .bool x19_5 ∧ Aside0 (impl_putBytes.j0 kq a1 a2 t322 x19_5 = some r) ∧ Aside0 (kq ≤ k) ∧ Aside0 (Kd.R (Kd.int .u8) 5 wc w.heap.size (fun _ => True) v323 t322) ∧ Aside0 (Below w.heap.size w wc))
 case first =>
  have H := HC6.out
  clear HC6
  by_cases c8 : a1 < 0
  ·rw [if_pos c8] at H
   have c8b0 := decide_eq_true c8
   clear c8
   (first | rw [c8b0] | (simp only [i64_w, i32_w]; rw [c8b0]) | skip)
   have H' := aS H
   clear H
   go_wp2
   go_meet
   case rel => exact ⟨_, (true), jB, H', ⟨by first | omega | exact Nat.le_refl _⟩, ⟨by exact rU HO324.out⟩, ⟨by exact wU HB.out⟩⟩
  ·rw [if_neg c8] at H
   have c8b0 := decide_eq_false c8
   clear c8
   (first | rw [c8b0] | (simp only [i64_w, i32_w]; rw [c8b0]) | skip)
   have H' := aS H
   clear H
   go_wp2
   go_meet
   case rel => exact ⟨_, (decide (a1 > a3)), jB, H', ⟨by first | omega | exact Nat.le_refl _⟩, ⟨by exact rU HO324.out⟩, ⟨by exact wU HB.out⟩⟩
 case rest =>
  clear HC6
  try clear c1
  try clear p2
  try clear c8
  try clear c8b0
  obtain ⟨kq, x19_5, rfl, HA, HJ5, HO_9, HB⟩ := hcut
  cases kq with
  | zero => exact absurd HA.out (by simp [impl_putBytes.j0])
  | succ kj5 =>
   have H := HA.out
   clear HA
   simp only [impl_putBytes.j0] at H
   by_cases c9 : x19_5 = true
   ·subst c9
    rw [if_pos rfl] at H
    obtain rfl := Option.some.inj H
    go_wp2
    go_ret
    exact ⟨_, jE, by exact rU HO_9.out, by exact wU HB.out⟩
   ·replace c9 := Bool.eq_false_iff.mpr c9
    subst c9
    rw [if_neg Bool.false_ne_true] at H
    have H' := aS H
    clear H
    go_wp2
    go_loopg [9, 10] kj5 (fun kq v9 v10 w' => ∃ (x9_2 : List Int) (x10_2 : Int), v10 = .int .i64 x10_2 ∧ Aside0 (impl_putBytes.l0 kq a1 x9_2 x10_2 = some r) ∧ Aside0 (kq ≤ kj5) ∧ Aside0 (Kd.R (Kd.int .u8) 5 w' w.heap.size (fun _ => True) v9 x9_2) ∧ Aside0 (Below w.heap.size w w'))
    case atStart => exact ⟨(t322), (wrap64 (a2 - 1)), jB, H', ⟨Nat.le_refl _⟩, ⟨by exact rU HO_9.out⟩, ⟨by exact wU HB.out⟩⟩
    case round =>
     clear H'
     try clear c1
     try clear p2
     try clear p6
     try clear c8
     try clear c8b0
     try clear c9
     try clear p2
     obtain ⟨x9_2, x10_2, rfl, HA, HK2, HO_9, HB⟩ := hrel
     cases gk with
     | zero => exact absurd HA.out (by simp [impl_putBytes.l0])
     | succ k2 =>
      have H := HA.out
      clear HA
      simp only [impl_putBytes.l0] at H
      by_cases c10 : x10_2 ≥ 0
      ·rw [if_pos c10] at H
       have c10b0 := decide_eq_true c10
       clear c10
       obtain ⟨ji11, hji11⟩ : ∃ j_ : Int, (wrap64 (8 * x10_2)) = j_ := ⟨_, rfl⟩
       replace H : (if 0 ≤ (ji11) then (if x9_2.length < 140737488355328 then (impl_putBytes.l0 k2 a1 (x9_2 ++ [(shr .i64 a1 (ji11)) % 256]) (wrap64 (x10_2 - 1))) else (none)) else (none)) = some r := by first | (rw [hji11] at H; exact H) | (simp only [hji11] at H ⊢; exact H)
       have hji11w : (IntKind.i64.wrap (8 * x10_2)) = ji11 := (i64_w _).trans hji11
       by_cases c12 : 0 ≤ (ji11)
       ·rw [if_pos c12] at H
        have c12b0 := eq_true c12
        have c12b1 := decide_eq_true c12
        clear c12
        obtain ⟨ji13, hji13⟩ : ∃ j_ : Int, (shr .i64 a1 (ji11)) = j_ := ⟨_, rfl⟩
        replace H : (if x9_2.length < 140737488355328 then (impl_putBytes.l0 k2 a1 (x9_2 ++ [(ji13) % 256]) (wrap64 (x10_2 - 1))) else (none)) = some r := by first | (rw [hji13] at H; exact H) | (simp only [hji13] at H ⊢; exact H)
        have hji13_ : (a1 / 2 ^ min (ji11).toNat 64) = ji13 := hji13
        have hji13z : (ji11) ≤ 64 → (a1 / 2 ^ (ji11).toNat) = ji13 := shr_small hji13
        by_cases c14 : x9_2.length < 140737488355328
        ·rw [if_pos c14] at H
         have LMc14 := aS c14
         clear c14
         obtain ⟨y325, hy_⟩ : ∃ y_ : List Int, y_ = (x9_2 ++ [(ji13) % 256]) := ⟨_, rfl⟩
         replace H : (impl_putBytes.l0 k2 a1 y325 (wrap64 (x10_2 - 1))) = some r := jD
         have Ny325 := aS hy_
         clear hy_
         have H' := aS H
         clear H
         go_wp2_with (first | ((with_reducible refine gate_builtin (b := .append) (xs := #[.tmp 27, .tmp 33]) rfl ?_); at_builtin; refine Kd.R_append (Kd.int .u8) (w0 := w) w.heap.size rfl (.tmp 27) (.tmp 33) 22 5 (.int .u8 0) 1 rfl Tryd.underlying22 info5 rfl (by decide) (by omega) u9 x9_2 ((ji13) % 256) [.int .u8 ((ji13) % 256)] (fun _ => True) (fun _ => False) rfl rfl ?aP (fun _ hk => hk.elim) ?aF ?aO ?aB ?aS ?aL ?_; (case aP => exact rfl); (case aB => exact (wU HB.out)); (case aF => exact (fun _ _ => trivial)); (case aO => exact (rU HO_9.out)); (case aS => exact (below_size (wU HB.out))); (case aL => have := LMc14.out; omega); intro v326 w15 ho hb hg hat; rw [← Ny325.out] at ho; replace HB := aS (hb); have HO327 := aS (ho); clear HO_9; clear ho hb hg hat))
         go_roundg k2
         case measure => have := HJ5.out; have := HK2.out; omega
         case rel => exact ⟨(y325), (wrap64 (x10_2 - 1)), jB, H', ⟨by have := HJ5.out; have := HK2.out; omega⟩, ⟨by exact rU HO327.out⟩, ⟨by exact wU HB.out⟩⟩
        ·rw [if_neg c14] at H
         exact absurd H (by simp)
       ·rw [if_neg c12] at H
        exact absurd H (by simp)
      ·rw [if_neg c10] at H
       have c10b0 := decide_eq_false c10
       clear c10
       obtain rfl := Option.some.inj H
       go_wp2
       go_ret
       exact ⟨_, jE, by exact rU HO_9.out, by exact wU HB.out⟩

/-! ### impl_Put4: function 60 -/
def impl_Put4.f (k : Nat) (l0 : List Int) (a1 : Int) : Option (List Int) := (impl_putBytes.f k l0 a1 4 2147483647).bind fun t328 => (some t328)
theorem impl_Put4.mono : ∀ a0 a1 k, LeO (impl_Put4.f k a0 a1) (impl_Put4.f (k + 1) a0 a1) := by
 intro a0 a1 k
 unfold impl_Put4.f
 repeat' first
   | (with_reducible first | exact impl_putBytes.mono _ _ _ _ _ | exact LeO.refl _ | exact LeO.none _ | refine LeO.ite ?_ ?_ | refine LeO.bind ?_ (fun _ => ?_))
   | exact impl_putBytes.mono _ _ _ _ _
   | exact LeO.none _
   | refine LeO.ite ?_ ?_
   | refine LeO.bind ?_ (fun _ => ?_)
set_option maxHeartbeats 8000000 in
set_option maxRecDepth 100000 in
theorem impl_Put4.calls (k : Nat) (A0 : Option Addr) (c0 : Nat) (l0 : List Int) (a1 : Int) (r : List Int) (w : World) (hr0 : Kd.C (Kd.int .u8) w A0 l0.length l0) (hc0 : l0.length ≤ c0) (h : impl_Put4.f k l0 a1 = some r) :
  Calls Tryd.prog 60 #[.slice A0 l0.length c0, .int .i64 a1] w fun e w' => ∃ v0_ : Value, e = .returned (v0_) ∧ Kd.R (Kd.int .u8) 5 w' w.heap.size (fun _ => True) v0_ r ∧ Below w.heap.size w w' := by
 have HR0 := aS hr0
 have HC0 := aS hc0
 clear hr0 hc0
 have HB := aS (Below.refl w.heap.size w)
 have H : ((impl_putBytes.f k l0 a1 4 2147483647).bind fun t328 => (some t328)) = some r := h
 clear h
 obtain ⟨t328, A3, H⟩ := bM H
 try dsimp only at H
 obtain rfl := Option.some.inj H
 go_enter Tryd.func60, Tryd.ntmps60
 go_wp2_with (first | ((with_reducible refine gate_callee (f := 119) rfl ?_); refine goesL_ (some 7) rfl rfl Tryd.func119 jK rfl #[.slice A0 l0.length c0, .int .i64 a1, .int .i64 4, .int .i64 2147483647] rfl jA ?_; (with_reducible refine (impl_putBytes.calls k _ _ l0 a1 4 2147483647 t328 _ ?side1 ?side2 A3.out).mono ?_); (case side1 => exact cU (HR0.out)); (case side2 => exact HC0.out); rintro e w4 ⟨v329, rfl, ho0, hb⟩; refine ⟨_, rfl, ?_⟩; have HO330 := aS (Kd.R_lower ho0 (below_size (wU HB.out))); replace HB := aS (below_step (wU HB.out) hb); clear hb; (try clear ho0)))
 go_ret
 exact ⟨_, jE, by exact rU HO330.out, by exact wU HB.out⟩

/-! ### impl_PutLabel: function 118 -/
def impl_PutLabel.f (k : Nat) (l0 : List Int) (a1 : ByteArray) : Option (List Int) := (slices_Clone_byte.f l0).bind fun t331 => ((impl_LabelOk.f k a1).bind fun t334 => (if t334 = true then (if t331.length < 140737488355328 then ((some (t331 ++ [((a1.size : Int)) % 256] : List Int)).bind fun y335 => (if y335.length + a1.size < 140737488355328 then (some (y335 ++ bytesOf a1)) else (none))) else (none)) else (some t331)))
theorem impl_PutLabel.mono : ∀ a0 a1 k, LeO (impl_PutLabel.f k a0 a1) (impl_PutLabel.f (k + 1) a0 a1) := by
 intro a0 a1 k
 unfold impl_PutLabel.f
 repeat' first
   | (with_reducible first | exact impl_LabelOk.mono _ _ | exact LeO.refl _ | exact LeO.none _ | refine LeO.ite ?_ ?_ | refine LeO.bind ?_ (fun _ => ?_))
   | exact impl_LabelOk.mono _ _
   | exact LeO.none _
   | refine LeO.ite ?_ ?_
   | refine LeO.bind ?_ (fun _ => ?_)
set_option maxHeartbeats 8000000 in
set_option maxRecDepth 100000 in
theorem impl_PutLabel.calls (k : Nat) (A0 : Option Addr) (c0 : Nat) (l0 : List Int) (a1 : ByteArray) (r : List Int) (w : World) (hr0 : Kd.C (Kd.int .u8) w A0 l0.length l0) (hc0 : l0.length ≤ c0) (h : impl_PutLabel.f k l0 a1 = some r) :
  Calls Tryd.prog 118 #[.slice A0 l0.length c0, .string a1] w fun e w' => ∃ v0_ : Value, e = .returned (v0_) ∧ Kd.R (Kd.int .u8) 5 w' w.heap.size (fun _ => True) v0_ r ∧ Below w.heap.size w w' := by
 have HR0 := aS hr0
 have HC0 := aS hc0
 clear hr0 hc0
 have HB := aS (Below.refl w.heap.size w)
 have H : ((slices_Clone_byte.f l0).bind fun t331 => ((impl_LabelOk.f k a1).bind fun t334 => (if t334 = true then (if t331.length < 140737488355328 then ((some (t331 ++ [((a1.size : Int)) % 256] : List Int)).bind fun y335 => (if y335.length + a1.size < 140737488355328 then (some (y335 ++ bytesOf a1)) else (none))) else (none)) else (some t331)))) = some r := h
 clear h
 obtain ⟨t331, A3, H⟩ := bM H
 try dsimp only at H
 obtain ⟨t334, A4, H⟩ := bM H
 try dsimp only at H
 by_cases c5 : t334 = true
 ·subst c5
  rw [if_pos rfl] at H
  by_cases c6 : t331.length < 140737488355328
  ·rw [if_pos c6] at H
   have LMc6 := aS c6
   clear c6
   obtain ⟨y335, hy_⟩ : ∃ y_ : List Int, y_ = (t331 ++ [((a1.size : Int)) % 256]) := ⟨_, rfl⟩
   replace H : (if y335.length + a1.size < 140737488355328 then (some (y335 ++ bytesOf a1)) else (none)) = some r := jD
   have Ny335 := aS hy_
   clear hy_
   by_cases c7 : y335.length + a1.size < 140737488355328
   ·rw [if_pos c7] at H
    have LMc7 := aS c7
    clear c7
    obtain ⟨y338, hy_⟩ : ∃ y_ : List Int, y_ = (y335 ++ bytesOf a1) := ⟨_, rfl⟩
    replace H : (some y338) = some r := jD
    have Ny338 := aS hy_
    clear hy_
    obtain rfl := Option.some.inj H
    go_enter Tryd.func118, Tryd.ntmps118
    go_wp2_with (first | ((with_reducible refine gate_callee (f := 114) rfl ?_); refine goesL_ (some 7) rfl rfl Tryd.func114 jK rfl #[.slice A0 l0.length c0] rfl jA ?_; (with_reducible refine (slices_Clone_byte.calls _ _ l0 t331 _ ?side1 ?side2 A3.out).mono ?_); (case side1 => exact cU (HR0.out)); (case side2 => exact HC0.out); rintro e w8 ⟨v332, rfl, ho0, hb⟩; refine ⟨_, rfl, ?_⟩; have HO333 := aS (Kd.R_lower ho0 (below_size (wU HB.out))); replace HB := aS (below_step (wU HB.out) hb); clear hb; (try clear ho0)) | ((with_reducible refine gate_callee (f := 126) rfl ?_); refine goesL_ (some 9) rfl rfl Tryd.func126 jK rfl #[.string a1] rfl jA ?_; (with_reducible refine (impl_LabelOk.calls k a1 true _ A4.out).mono ?_); rintro e w' ⟨rfl, ⟨nd, rfl⟩⟩; refine ⟨_, rfl, ?_⟩) | ((with_reducible refine gate_builtin (b := .append) (xs := #[.tmp 12, .tmp 16]) rfl ?_); at_builtin; refine Kd.R_append (Kd.int .u8) (w0 := w) w.heap.size rfl (.tmp 12) (.tmp 16) 22 5 (.int .u8 0) 1 rfl Tryd.underlying22 info5 rfl (by decide) (by omega) v332 t331 (((a1.size : Int)) % 256) [.int .u8 (((a1.size : Int)) % 256)] (fun _ => True) (fun _ => False) rfl rfl ?aP (fun _ hk => hk.elim) ?aF ?aO ?aB ?aS ?aL ?_; (case aP => exact rfl); (case aB => exact (wU HB.out)); (case aF => exact (fun _ _ => trivial)); (case aO => exact (rU HO333.out)); (case aS => exact (below_size (wU HB.out))); (case aL => have := LMc6.out; omega); intro v336 w9 ho hb hg hat; rw [← Ny335.out] at ho; replace HB := aS (hb); have HO337 := aS (ho); clear HO333; clear ho hb hg hat) | (at_builtin; refine print_append_str (w0 := w) w.heap.size rfl (.tmp 17) _ 22 9 5 rfl Tryd.underlying22 Tryd.underlying9 info5 v336 y335 a1 rfl rfl ?aO ?aB ?aS ?aL ?_; (case aB => exact (wU HB.out)); (case aO => exact (Kd.own_of_R (rU HO337.out))); (case aS => exact (below_size (wU HB.out))); (case aL => have := LMc7.out; omega); intro v339 w10 ho0 hb hg; have ho := Kd.R_of_own (h1 := fun _ => rfl) (ok := fun _ => True) ho0 (fun _ _ => trivial); clear ho0; have hat := True.intro; rw [← Ny338.out] at ho; change Kd.R (Kd.int .u8) 5 w10 w.heap.size (fun _ => True) v339 y338 at ho; replace HB := aS (hb); have HO340 := aS (ho); clear HO337; clear ho hb hg hat))
    go_ret
    exact ⟨_, jE, by exact rU HO340.out, by exact wU HB.out⟩
   ·rw [if_neg c7] at H
    exact absurd H (by simp)
  ·rw [if_neg c6] at H
   exact absurd H (by simp)
 ·replace c5 := Bool.eq_false_iff.mpr c5
  subst c5
  rw [if_neg Bool.false_ne_true] at H
  obtain rfl := Option.some.inj H
  go_enter Tryd.func118, Tryd.ntmps118
  go_wp2_with (first | ((with_reducible refine gate_callee (f := 114) rfl ?_); refine goesL_ (some 7) rfl rfl Tryd.func114 jK rfl #[.slice A0 l0.length c0] rfl jA ?_; (with_reducible refine (slices_Clone_byte.calls _ _ l0 t331 _ ?side1 ?side2 A3.out).mono ?_); (case side1 => exact cU (HR0.out)); (case side2 => exact HC0.out); rintro e w11 ⟨v332, rfl, ho0, hb⟩; refine ⟨_, rfl, ?_⟩; have HO333 := aS (Kd.R_lower ho0 (below_size (wU HB.out))); replace HB := aS (below_step (wU HB.out) hb); clear hb; (try clear ho0)) | ((with_reducible refine gate_callee (f := 126) rfl ?_); refine goesL_ (some 9) rfl rfl Tryd.func126 jK rfl #[.string a1] rfl jA ?_; (with_reducible refine (impl_LabelOk.calls k a1 false _ A4.out).mono ?_); rintro e w' ⟨rfl, ⟨nd, rfl⟩⟩; refine ⟨_, rfl, ?_⟩))
  go_ret
  exact ⟨_, jE, by exact rU HO333.out, by exact wU HB.out⟩

/-! ### impl_PutPlain: function 62 -/
def impl_PutPlain.l0 : Nat → List Int → List ByteArray → Int → Int → Option (List Int)
 | 0, _, _, _, _ => none
 | k + 1, x5, x15, x16, x17 => if x17 < x16 then (if 0 ≤ x17 then (if x17 < (x15.length : Int) then ((impl_PutLabel.f k x5 (rdOf ByteArray.empty x15 x17)).bind fun t349 => (impl_PutPlain.l0 k t349 x15 x16 (wrap64 (x17 + 1)))) else (none)) else (none)) else (if x5.length < 140737488355328 then (some (x5 ++ [0])) else (none))
def impl_PutPlain.f (k : Nat) (l0 : List Int) (a1 : ByteArray) : Option (List Int) := (slices_Clone_byte.f l0).bind fun t341 => ((impl_NameOk.f k a1).bind fun t344 => (if t344 = true then ((impl_Labels.f a1).bind fun t345 => (impl_PutPlain.l0 k t341 t345 (t345.length : Int) 0)) else (some t341)))
theorem impl_PutPlain.mono_l : ∀ k, (∀ y0 y1 y2 y3, LeO (impl_PutPlain.l0 k y0 y1 y2 y3) (impl_PutPlain.l0 (k + 1) y0 y1 y2 y3))
 | 0 => fun _ _ _ _ r h => by simp [impl_PutPlain.l0] at h
 | k + 1 => by
  have ih0 := impl_PutPlain.mono_l k
  ·intro y0 y1 y2 y3
   unfold impl_PutPlain.l0
   repeat' first
   | (with_reducible first | exact ih0 _ _ _ _ | exact impl_NameOk.mono _ _ | exact impl_PutLabel.mono _ _ _ | exact LeO.refl _ | exact LeO.none _ | refine LeO.ite ?_ ?_ | refine LeO.bind ?_ (fun _ => ?_))
   | exact ih0 _ _ _ _
   | exact impl_NameOk.mono _ _
   | exact impl_PutLabel.mono _ _ _
   | exact LeO.none _
   | refine LeO.ite ?_ ?_
   | refine LeO.bind ?_ (fun _ => ?_)
theorem impl_PutPlain.mono : ∀ a0 a1 k, LeO (impl_PutPlain.f k a0 a1) (impl_PutPlain.f (k + 1) a0 a1) := by
 intro a0 a1 k
 have ih0 := impl_PutPlain.mono_l k
 unfold impl_PutPlain.f
 repeat' first
   | (with_reducible first | exact ih0 _ _ _ _ | exact impl_NameOk.mono _ _ | exact impl_PutLabel.mono _ _ _ | exact LeO.refl _ | exact LeO.none _ | refine LeO.ite ?_ ?_ | refine LeO.bind ?_ (fun _ => ?_))
   | exact ih0 _ _ _ _
   | exact impl_NameOk.mono _ _
   | exact impl_PutLabel.mono _ _ _
   | exact LeO.none _
   | refine LeO.ite ?_ ?_
   | refine LeO.bind ?_ (fun _ => ?_)
set_option maxHeartbeats 8000000 in
set_option maxRecDepth 100000 in
theorem impl_PutPlain.calls (k : Nat) (A0 : Option Addr) (c0 : Nat) (l0 : List Int) (a1 : ByteArray) (r : List Int) (w : World) (hr0 : Kd.C (Kd.int .u8) w A0 l0.length l0) (hc0 : l0.length ≤ c0) (h : impl_PutPlain.f k l0 a1 = some r) :
  Calls Tryd.prog 62 #[.slice A0 l0.length c0, .string a1] w fun e w' => ∃ v0_ : Value, e = .returned (v0_) ∧ Kd.R (Kd.int .u8) 5 w' w.heap.size (fun _ => True) v0_ r ∧ Below w.heap.size w w' := by
 have HR0 := aS hr0
 have HC0 := aS hc0
 clear hr0 hc0
 have HB := aS (Below.refl w.heap.size w)
 have H : ((slices_Clone_byte.f l0).bind fun t341 => ((impl_NameOk.f k a1).bind fun t344 => (if t344 = true then ((impl_Labels.f a1).bind fun t345 => (impl_PutPlain.l0 k t341 t345 (t345.length : Int) 0)) else (some t341)))) = some r := h
 clear h
 obtain ⟨t341, A3, H⟩ := bM H
 try dsimp only at H
 obtain ⟨t344, A4, H⟩ := bM H
 try dsimp only at H
 by_cases c5 : t344 = true
 ·subst c5
  rw [if_pos rfl] at H
  obtain ⟨t345, A6, H⟩ := bM H
  try dsimp only at H
  have H' := aS H
  clear H
  go_enter Tryd.func62, Tryd.ntmps62
  go_wp2_with (first | ((with_reducible refine gate_callee (f := 114) rfl ?_); refine goesL_ (some 9) rfl rfl Tryd.func114 jK rfl #[.slice A0 l0.length c0] rfl jA ?_; (with_reducible refine (slices_Clone_byte.calls _ _ l0 t341 _ ?side1 ?side2 A3.out).mono ?_); (case side1 => exact cU (HR0.out)); (case side2 => exact HC0.out); rintro e w7 ⟨v342, rfl, ho0, hb⟩; refine ⟨_, rfl, ?_⟩; have HO343 := aS (Kd.R_lower ho0 (below_size (wU HB.out))); replace HB := aS (below_step (wU HB.out) hb); clear hb; (try clear ho0)) | ((with_reducible refine gate_callee (f := 67) rfl ?_); refine goesL_ (some 11) rfl rfl Tryd.func67 jK rfl #[.string a1] rfl jA ?_; (with_reducible refine (impl_NameOk.calls k a1 true _ A4.out).mono ?_); rintro e w8 ⟨rfl, hb⟩; refine ⟨_, rfl, ?_⟩; replace HO343 := aS (Kd.R_below (rU HO343.out) hb); replace HB := aS (below_step (wU HB.out) hb); clear hb) | ((with_reducible refine gate_callee (f := 115) rfl ?_); refine goesL_ (some 15) rfl rfl Tryd.func115 jK rfl #[.string a1] rfl jA ?_; (with_reducible refine (impl_Labels.calls a1 t345 _ A6.out).mono ?_); rintro e w9 ⟨v346, rfl, ho0, hb⟩; refine ⟨_, rfl, ?_⟩; replace HO343 := aS (Kd.R_below (rU HO343.out) hb); have HO347 := aS (Kd.R_lower ho0 (below_size (wU HB.out))); replace HB := aS (below_step (wU HB.out) hb); clear hb; (try clear ho0); obtain ⟨Ao10, co10, eo10⟩ := Kd.R_slice HO347.out; subst eo10))
  go_loopg [5, 17] k (fun kq v5 v17 w' => ∃ (x5_1 : List Int) (x17_1 : Int), v17 = .int .i64 x17_1 ∧ Aside0 (impl_PutPlain.l0 kq x5_1 t345 (t345.length : Int) x17_1 = some r) ∧ Aside0 (kq ≤ k) ∧ Aside0 (Kd.R (Kd.int .u8) 5 w' w.heap.size (fun _ => True) v5 x5_1) ∧ Aside0 (Kd.R Kd.string 9 w' w.heap.size (fun _ => True) (.slice Ao10 t345.length co10) t345) ∧ Aside0 (Below w.heap.size w w'))
  case atStart => exact ⟨(t341), (0), jB, H', ⟨Nat.le_refl _⟩, ⟨by exact rU HO343.out⟩, ⟨by exact rU HO347.out⟩, ⟨by exact wU HB.out⟩⟩
  case round =>
   clear H'
   try clear c1
   try clear p2
   try clear c5
   try clear c6
   obtain ⟨x5_1, x17_1, rfl, HA, HK1, HO_5, HO_15, HB⟩ := hrel
   cases gk with
   | zero => exact absurd HA.out (by simp [impl_PutPlain.l0])
   | succ k1 =>
    have H := HA.out
    clear HA
    simp only [impl_PutPlain.l0] at H
    by_cases c11 : x17_1 < (t345.length : Int)
    ·rw [if_pos c11] at H
     have c11b0 := decide_eq_true c11
     clear c11
     by_cases c12 : 0 ≤ x17_1
     ·rw [if_pos c12] at H
      have c12b0 := decide_eq_true c12
      clear c12
      by_cases c13 : x17_1 < (t345.length : Int)
      ·rw [if_pos c13] at H
       have c13b0 := decide_eq_true c13
       clear c13
       obtain ⟨t349, A14, H⟩ := bM H
       try dsimp only at H
       have H' := aS H
       clear H
       have p348 : 0 ≤ (x17_1 : Int) := of_decide_eq_true jC
       have q348 : x17_1 < (t345.length : Int) := of_decide_eq_true jC
       obtain ⟨ad348, e348, hx348_0⟩ := Kd.at_string (Kd.R_reads' HO_15.out).2.2 x17_1 p348 q348
       cases e348
       replace p348 := eq_true p348
       replace q348 := eq_true q348
       obtain ⟨Ao15, co15, eo15⟩ := Kd.R_slice HO_5.out
       subst eo15
       go_wp2_with (first | ((with_reducible refine gate_callee (f := 118) rfl ?_); refine goesL_ (some 23) rfl rfl Tryd.func118 jK rfl #[.slice Ao15 x5_1.length co15, .string (rdOf ByteArray.empty t345 x17_1)] rfl jA ?_; (with_reducible refine (impl_PutLabel.calls k1 _ _ x5_1 (rdOf ByteArray.empty t345 x17_1) t349 _ ?side1 ?side2 A14.out).mono ?_); (case side1 => exact cU ((Kd.R_reads' HO_5.out).2.2)); (case side2 => exact (Kd.R_reads' HO_5.out).2.1); rintro e w16 ⟨v350, rfl, ho0, hb⟩; refine ⟨_, rfl, ?_⟩; replace HO_15 := aS (Kd.R_below (rU HO_15.out) hb); have HO351 := aS (Kd.R_lower (Kd.R_new' ho0 (Kd.R_lt (rU HO_5.out))) (below_size (wU HB.out))); replace HO_5 := aS (Kd.R_elder' (rU HO_5.out) (Kd.R_base ho0) hb); replace HB := aS (below_step (wU HB.out) hb); clear hb; (try clear ho0)))
       go_roundg k1
       case measure => have := HK1.out; omega
       case rel => exact ⟨(t349), (wrap64 (x17_1 + 1)), jB, H', ⟨by have := HK1.out; omega⟩, ⟨Kd.R_mono (rU HO351.out) (fun _ hk => trivial)⟩, ⟨by exact rU HO_15.out⟩, ⟨by exact wU HB.out⟩⟩
      ·rw [if_neg c13] at H
       exact absurd H (by simp)
     ·rw [if_neg c12] at H
      exact absurd H (by simp)
    ·rw [if_neg c11] at H
     have c11b0 := decide_eq_false c11
     clear c11
     by_cases c17 : x5_1.length < 140737488355328
     ·rw [if_pos c17] at H
      have LMc17 := aS c17
      clear c17
      obtain ⟨y352, hy_⟩ : ∃ y_ : List Int, y_ = (x5_1 ++ [0]) := ⟨_, rfl⟩
      replace H : (some y352) = some r := jD
      have Ny352 := aS hy_
      clear hy_
      obtain rfl := Option.some.inj H
      go_wp2_with (first | ((with_reducible refine gate_builtin (b := .append) (xs := #[.tmp 25, .tmp 26]) rfl ?_); at_builtin; refine Kd.R_append (Kd.int .u8) (w0 := w) w.heap.size rfl (.tmp 25) (.tmp 26) 22 5 (.int .u8 0) 1 rfl Tryd.underlying22 info5 rfl (by decide) (by omega) u5 x5_1 0 [.int .u8 0] (fun _ => True) (fun _ => False) rfl rfl ?aP (fun _ hk => hk.elim) ?aF ?aO ?aB ?aS ?aL ?_; (case aP => exact rfl); (case aB => exact (wU HB.out)); (case aF => exact (fun _ _ => trivial)); (case aO => exact (rU HO_5.out)); (case aS => exact (below_size (wU HB.out))); (case aL => have := LMc17.out; omega); intro v353 w18 ho hb hg hat; rw [← Ny352.out] at ho; replace HO_15 := aS (Kd.R_over' (rU HO_15.out) (Kd.R_typed (rU HO_5.out)) (by decide) hg); replace HB := aS (hb); have HO354 := aS (ho); clear HO_5; clear ho hb hg hat))
      go_ret
      exact ⟨_, jE, by exact rU HO354.out, by exact wU HB.out⟩
     ·rw [if_neg c17] at H
      exact absurd H (by simp)
 ·replace c5 := Bool.eq_false_iff.mpr c5
  subst c5
  rw [if_neg Bool.false_ne_true] at H
  obtain rfl := Option.some.inj H
  go_enter Tryd.func62, Tryd.ntmps62
  go_wp2_with (first | ((with_reducible refine gate_callee (f := 114) rfl ?_); refine goesL_ (some 9) rfl rfl Tryd.func114 jK rfl #[.slice A0 l0.length c0] rfl jA ?_; (with_reducible refine (slices_Clone_byte.calls _ _ l0 t341 _ ?side1 ?side2 A3.out).mono ?_); (case side1 => exact cU (HR0.out)); (case side2 => exact HC0.out); rintro e w19 ⟨v342, rfl, ho0, hb⟩; refine ⟨_, rfl, ?_⟩; have HO343 := aS (Kd.R_lower ho0 (below_size (wU HB.out))); replace HB := aS (below_step (wU HB.out) hb); clear hb; (try clear ho0)) | ((with_reducible refine gate_callee (f := 67) rfl ?_); refine goesL_ (some 11) rfl rfl Tryd.func67 jK rfl #[.string a1] rfl jA ?_; (with_reducible refine (impl_NameOk.calls k a1 false _ A4.out).mono ?_); rintro e w20 ⟨rfl, hb⟩; refine ⟨_, rfl, ?_⟩; replace HO343 := aS (Kd.R_below (rU HO343.out) hb); replace HB := aS (below_step (wU HB.out) hb); clear hb))
  go_ret
  exact ⟨_, jE, by exact rU HO343.out, by exact wU HB.out⟩

/-! ### impl_PutData: function 11 -/
def impl_PutData.j0 : Nat → Int → Bool → ByteArray → Int → Int → Int → ByteArray → ByteArray → Option (List Int)
 | 0, _, _, _, _, _, _, _, _ => none
 | k + 1, x7, x13, x356000, x356001, x356002, x356003, x356004, x356005 => if x13 = true then ((impl_PutPlain.f k ([] : List Int) x356004).bind fun t360 => (some t360)) else (if x7 = 6 then ((impl_PutPlain.f k ([] : List Int) x356004).bind fun t363 => ((impl_Put4.f k t363 x356003).bind fun t366 => (some t366))) else ((some (([((x356005.size : Int)) % 256] : List Int) : List Int)).bind fun y369 => (if y369.length + x356005.size < 140737488355328 then (some (y369 ++ bytesOf x356005)) else (none))))
def impl_PutData.f (k : Nat) (a0_0 : ByteArray) (a0_1 : Int) (a0_2 : Int) (a0_3 : Int) (a0_4 : ByteArray) (a0_5 : ByteArray) : Option (List Int) := (impl_RecordOk.f k a0_0 a0_1 a0_2 a0_3 a0_4 a0_5).bind fun t356 => (if t356 = true then (if a0_1 = 1 then ((impl_Put4.f k ([] : List Int) a0_3).bind fun t357 => (some t357)) else (if a0_1 = 2 then (impl_PutData.j0 k a0_1 (a0_1 == 2) a0_0 a0_1 a0_2 a0_3 a0_4 a0_5) else (impl_PutData.j0 k a0_1 (a0_1 == 5) a0_0 a0_1 a0_2 a0_3 a0_4 a0_5))) else (some ([] : List Int)))
theorem impl_PutData.mono_l : ∀ k, (∀ y0 y1 y2 y3 y4 y5 y6 y7, LeO (impl_PutData.j0 k y0 y1 y2 y3 y4 y5 y6 y7) (impl_PutData.j0 (k + 1) y0 y1 y2 y3 y4 y5 y6 y7))
 | 0 => fun _ _ _ _ _ _ _ _ r h => by simp [impl_PutData.j0] at h
 | k + 1 => by
  have ih0 := impl_PutData.mono_l k
  ·intro y0 y1 y2 y3 y4 y5 y6 y7
   unfold impl_PutData.j0
   repeat' first
   | (with_reducible first | exact ih0 _ _ _ _ _ _ _ _ | exact impl_Put4.mono _ _ _ | exact impl_PutPlain.mono _ _ _ | exact impl_RecordOk.mono _ _ _ _ _ _ _ | exact LeO.refl _ | exact LeO.none _ | refine LeO.ite ?_ ?_ | refine LeO.bind ?_ (fun _ => ?_))
   | exact ih0 _ _ _ _ _ _ _ _
   | exact impl_Put4.mono _ _ _
   | exact impl_PutPlain.mono _ _ _
   | exact impl_RecordOk.mono _ _ _ _ _ _ _
   | exact LeO.none _
   | refine LeO.ite ?_ ?_
   | refine LeO.bind ?_ (fun _ => ?_)
theorem impl_PutData.mono : ∀ a0 a1 a2 a3 a4 a5 k, LeO (impl_PutData.f k a0 a1 a2 a3 a4 a5) (impl_PutData.f (k + 1) a0 a1 a2 a3 a4 a5) := by
 intro a0 a1 a2 a3 a4 a5 k
 have ih0 := impl_PutData.mono_l k
 unfold impl_PutData.f
 repeat' first
   | (with_reducible first | exact ih0 _ _ _ _ _ _ _ _ | exact impl_Put4.mono _ _ _ | exact impl_PutPlain.mono _ _ _ | exact impl_RecordOk.mono _ _ _ _ _ _ _ | exact LeO.refl _ | exact LeO.none _ | refine LeO.ite ?_ ?_ | refine LeO.bind ?_ (fun _ => ?_))
   | exact ih0 _ _ _ _ _ _ _ _
   | exact impl_Put4.mono _ _ _
   | exact impl_PutPlain.mono _ _ _
   | exact impl_RecordOk.mono _ _ _ _ _ _ _
   | exact LeO.none _
   | refine LeO.ite ?_ ?_
   | refine LeO.bind ?_ (fun _ => ?_)
set_option maxHeartbeats 8000000 in
set_option maxRecDepth 100000 in
theorem impl_PutData.calls (k : Nat) (a0_0 : ByteArray) (a0_1 : Int) (a0_2 : Int) (a0_3 : Int) (a0_4 : ByteArray) (a0_5 : ByteArray) (r : List Int) (w : World) (h : impl_PutData.f k a0_0 a0_1 a0_2 a0_3 a0_4 a0_5 = some r) :
  Calls Tryd.prog 11 #[.agg #[.string a0_0, .int .i64 a0_1, .int .i64 a0_2, .int .i64 a0_3, .string a0_4, .string a0_5]] w fun e w' => ∃ v0_ : Value, e = .returned (v0_) ∧ Kd.R (Kd.int .u8) 5 w' w.heap.size (fun _ => True) v0_ r ∧ Below w.heap.size w w' := by
 have hu25 := Tryd.underlying25
 have HB := aS (Below.refl w.heap.size w)
 have H : ((impl_RecordOk.f k a0_0 a0_1 a0_2 a0_3 a0_4 a0_5).bind fun t356 => (if t356 = true then (if a0_1 = 1 then ((impl_Put4.f k ([] : List Int) a0_3).bind fun t357 => (some t357)) else (if a0_1 = 2 then (impl_PutData.j0 k a0_1 (a0_1 == 2) a0_0 a0_1 a0_2 a0_3 a0_4 a0_5) else (impl_PutData.j0 k a0_1 (a0_1 == 5) a0_0 a0_1 a0_2 a0_3 a0_4 a0_5))) else (some ([] : List Int)))) = some r := h
 clear h
 obtain ⟨t356, A2, H⟩ := bM H
 try dsimp only at H
 by_cases c3 : t356 = true
 ·subst c3
  rw [if_pos rfl] at H
  by_cases c4 : a0_1 = 1
  ·rw [if_pos c4] at H
   have c4b0 := beq_iff_eq.mpr c4
   have c4b1 := bne_eq_false_iff_eq.mpr c4
   clear c4
   obtain ⟨t357, A5, H⟩ := bM H
   try dsimp only at H
   obtain rfl := Option.some.inj H
   go_enter Tryd.func11, Tryd.ntmps11
   go_wp2_with (first | ((with_reducible refine gate_dst (N := 1) rfl ?_); refine box_event ?hg (N := 1) ?hd (cs := #[.string a0_0, .int .i64 a0_1, .int .i64 a0_2, .int .i64 a0_3, .string a0_4, .string a0_5]) (t := 25) ?hr ?_; (case hd => rfl); (case hg => rfl); (case hr => first | (go_simp; done) | (go_simp; rfl)); intro gb355 hg w6 hbox hb; have BK355 := aS (hbox); have GW355 := aS ((by rw [hg]; exact (below_size (wU HB.out)) : w.heap.size ≤ gb355)); have GE355 := aS ((by rw [hg]; exact (below_size (wU HB.out)) : w.heap.size ≤ gb355)); replace HB := aS (below_step (wU HB.out) hb); clear hb hbox hg; have hcz7 := cells6f BK355.out) | ((with_reducible refine gate_callee (f := 15) rfl ?_); refine goesL_ (some 4) rfl rfl Tryd.func15 jK rfl #[.agg #[.string a0_0, .int .i64 a0_1, .int .i64 a0_2, .int .i64 a0_3, .string a0_4, .string a0_5]] rfl jA ?_; (with_reducible refine (impl_RecordOk.calls k a0_0 a0_1 a0_2 a0_3 a0_4 a0_5 true _ A2.out).mono ?_); rintro e w8 ⟨rfl, hb⟩; refine ⟨_, rfl, ?_⟩; replace BK355 := aS (blk_below (bU BK355.out) hb); replace HB := aS (below_step (wS1 HB.out GE355.out) hb); clear hb; have hcz9 := cells6f BK355.out) | ((with_reducible refine gate_callee (f := 60) rfl ?_); refine goesL_ (some 12) rfl rfl Tryd.func60 jK rfl #[.slice none 0 0, .int .i64 a0_3] rfl jA ?_; (refine (impl_Put4.calls k _ _ ([] : List Int) a0_3 t357 _ ?side1 ?side2 A5.out).mono ?_); (case side1 => exact Kd.C_nil _ _); (case side2 => exact Nat.le_refl _); rintro e w10 ⟨v358, rfl, ho0, hb⟩; refine ⟨_, rfl, ?_⟩; have HO359 := aS (Kd.R_lower ho0 (below_size (wS1 HB.out GE355.out))); replace BK355 := aS (blk_below (bU BK355.out) hb); replace HB := aS (below_step (wS1 HB.out GE355.out) hb); clear hb; (try clear ho0)))
   go_ret
   exact ⟨_, jE, by exact rU HO359.out, by exact wS1 HB.out GE355.out⟩
  ·rw [if_neg c4] at H
   have c4b0 := beq_eq_false_iff_ne.mpr c4
   have c4b1 := bne_iff_ne.mpr c4
   have HC11 := aS H
   clear H
   go_enter Tryd.func11, Tryd.ntmps11
   go_upto_if 13 with (first | ((with_reducible refine gate_dst (N := 1) rfl ?_); refine box_event ?hg (N := 1) ?hd (cs := #[.string a0_0, .int .i64 a0_1, .int .i64 a0_2, .int .i64 a0_3, .string a0_4, .string a0_5]) (t := 25) ?hr ?_; (case hd => rfl); (case hg => rfl); (case hr => first | (go_simp; done) | (go_simp; rfl)); intro gb355 hg w12 hbox hb; have BK355 := aS (hbox); have GW355 := aS ((by rw [hg]; exact (below_size (wU HB.out)) : w.heap.size ≤ gb355)); have GE355 := aS ((by rw [hg]; exact (below_size (wU HB.out)) : w.heap.size ≤ gb355)); replace HB := aS (below_step (wU HB.out) hb); clear hb hbox hg; have hcz13 := cells6f BK355.out) | ((with_reducible refine gate_callee (f := 15) rfl ?_); refine goesL_ (some 4) rfl rfl Tryd.func15 jK rfl #[.agg #[.string a0_0, .int .i64 a0_1, .int .i64 a0_2, .int .i64 a0_3, .string a0_4, .string a0_5]] rfl jA ?_; (with_reducible refine (impl_RecordOk.calls k a0_0 a0_1 a0_2 a0_3 a0_4 a0_5 true _ A2.out).mono ?_); rintro e w14 ⟨rfl, hb⟩; refine ⟨_, rfl, ?_⟩; replace BK355 := aS (blk_below (bU BK355.out) hb); replace HB := aS (below_step (wS1 HB.out GE355.out) hb); clear hb; have hcz15 := cells6f BK355.out))
   (try simp only [Act.put, List.setIfInBounds_toArray, List.set_cons_zero, List.set_cons_succ])
   go_cut [13] (fun v13 wc => ∃ (kq : Nat) (x13_10 : Bool), v13 = .bool x13_10 ∧ Aside0 (impl_PutData.j0 kq a0_1 x13_10 a0_0 a0_1 a0_2 a0_3 a0_4 a0_5 = some r) ∧ Aside0 (kq ≤ k) ∧ Aside0 (wc.heap[gb355]? = some (.cells #[.string a0_0, .int .i64 a0_1, .int .i64 a0_2, .int .i64 a0_3, .string a0_4, .string a0_5] 25 (0, 0))) ∧ Aside0 (Below w.heap.size w wc))
   case first =>
    have H := HC11.out
    clear HC11
    by_cases c16 : a0_1 = 2
    ·rw [if_pos c16] at H
     have c16b0 := beq_iff_eq.mpr c16
     have c16b1 := bne_eq_false_iff_eq.mpr c16
     clear c16
     (first | rw [c16b0] | (simp only [i64_w, i32_w]; rw [c16b0]) | skip)
     have H' := aS H
     clear H
     go_wp2
     go_meet
     case rel => exact ⟨_, ((a0_1 == 2)), jB, H', ⟨by first | omega | exact Nat.le_refl _⟩, ⟨by exact bU BK355.out⟩, ⟨by exact wS1 HB.out GE355.out⟩⟩
    ·rw [if_neg c16] at H
     have c16b0 := beq_eq_false_iff_ne.mpr c16
     have c16b1 := bne_iff_ne.mpr c16
     (first | rw [c16b0] | (simp only [i64_w, i32_w]; rw [c16b0]) | skip)
     have H' := aS H
     clear H
     go_wp2
     go_meet
     case rel => exact ⟨_, ((a0_1 == 5)), jB, H', ⟨by first | omega | exact Nat.le_refl _⟩, ⟨by exact bU BK355.out⟩, ⟨by exact wS1 HB.out GE355.out⟩⟩
   case rest =>
    clear HC11
    try clear c1
    try clear p2
    try clear c3
    try clear c4
    try clear c4b0
    try clear c4b1
    try clear c6
    try clear c11
    try clear c15
    try clear c16
    try clear c16b0
    try clear c16b1
    try clear hcz13
    try clear hcz15
    try clear hcz7
    try clear hcz9
    obtain ⟨kq, x13_10, rfl, HA, HJ10, BK355, HB⟩ := hcut
    cases kq with
    | zero => exact absurd HA.out (by simp [impl_PutData.j0])
    | succ kj10 =>
     have H := HA.out
     clear HA
     simp only [impl_PutData.j0] at H
     by_cases c17 : x13_10 = true
     ·subst c17
      rw [if_pos rfl] at H
      obtain ⟨t360, A18, H⟩ := bM H
      try dsimp only at H
      obtain rfl := Option.some.inj H
      have hcz19 := cells6f BK355.out
      go_wp2_with (first | ((with_reducible refine gate_callee (f := 62) rfl ?_); refine goesL_ (some 18) rfl rfl Tryd.func62 jK rfl #[.slice none 0 0, .string a0_4] rfl jA ?_; (refine (impl_PutPlain.calls kj10 _ _ ([] : List Int) a0_4 t360 _ ?side1 ?side2 A18.out).mono ?_); (case side1 => exact Kd.C_nil _ _); (case side2 => exact Nat.le_refl _); rintro e w20 ⟨v361, rfl, ho0, hb⟩; refine ⟨_, rfl, ?_⟩; have HO362 := aS (Kd.R_lower ho0 (below_size (wS1 HB.out GE355.out))); replace BK355 := aS (blk_below (bU BK355.out) hb); replace HB := aS (below_step (wS1 HB.out GE355.out) hb); clear hb; (try clear ho0)))
      go_ret
      exact ⟨_, jE, by exact rU HO362.out, by exact wS1 HB.out GE355.out⟩
     ·replace c17 := Bool.eq_false_iff.mpr c17
      subst c17
      rw [if_neg Bool.false_ne_true] at H
      by_cases c21 : a0_1 = 6
      ·rw [if_pos c21] at H
       have c21b0 := beq_iff_eq.mpr c21
       have c21b1 := bne_eq_false_iff_eq.mpr c21
       clear c21
       obtain ⟨t363, A22, H⟩ := bM H
       try dsimp only at H
       obtain ⟨t366, A23, H⟩ := bM H
       try dsimp only at H
       obtain rfl := Option.some.inj H
       try go_wp2
       replace BK355 := aS (blk_drew BK355.out)
       replace HB := aS (below_drew1 HB.out)
       refine start_ (n := 7) (S := fun w' => w'.cell? ⟨gb355, 0, none⟩ = some (.string a0_0) ∧ w'.cell? ⟨gb355, 1, none⟩ = some (.int .i64 a0_1) ∧ w'.cell? ⟨gb355, 2, none⟩ = some (.int .i64 a0_2) ∧ w'.cell? ⟨gb355, 3, none⟩ = some (.int .i64 a0_3) ∧ w'.cell? ⟨gb355, 4, none⟩ = some (.string a0_4) ∧ w'.cell? ⟨gb355, 5, none⟩ = some (.string a0_5)) (ds := []) #[false, false, false, false, false, false, false] jK rfl rfl ⟨(blk_cell BK355.out 0).trans rfl, (blk_cell BK355.out 1).trans rfl, (blk_cell BK355.out 2).trans rfl, (blk_cell BK355.out 3).trans rfl, (blk_cell BK355.out 4).trans rfl, (blk_cell BK355.out 5).trans rfl⟩ (fun hHeld => ?_)
       generalize wc.drew = w24 at BK355 HB hHeld ⊢
       refine pure_ (i := 0) (N := some 21) (v := ?_) (a' := ?_) #[true, false, false, false, false, false, false] rfl rfl jK (fun _ _ _ h => h) (Or.inl ⟨by rfl, ?_⟩) ?_ ?_
       rotate_left
       ·intro w'
        go_simp
        with_reducible rfl
       rotate_left
       ·simp only [Act.put, List.setIfInBounds_toArray, List.set_cons_zero, List.set_cons_succ, i64_w, i32_w]
        rfl
       refine pure_ (i := 3) (N := some 24) (v := ?_) (a' := ?_) #[true, false, false, true, false, false, false] rfl rfl jK (fun _ _ _ h => h) (Or.inl ⟨by rfl, ?_⟩) ?_ ?_
       rotate_left
       ·intro w'
        go_simp
        with_reducible rfl
       rotate_left
       ·simp only [Act.put, List.setIfInBounds_toArray, List.set_cons_zero, List.set_cons_succ, i64_w, i32_w]
        rfl
       refine take_ (i := 1) (N := some 22) (v := ?_) (a' := ?_) #[true, true, false, true, false, false, false] rfl rfl jK (fun _ _ _ h => h) (Or.inl ⟨by rfl, ?_⟩) hHeld ?_ ?_
       rotate_left
       ·rintro w' ⟨s0, s1, s2, s3, s4, s5⟩
        go_simp
        with_reducible rfl
       rotate_left
       ·simp only [Act.put, List.setIfInBounds_toArray, List.set_cons_zero, List.set_cons_succ, i64_w, i32_w]
        rfl
       refine take_ (i := 4) (N := some 25) (v := ?_) (a' := ?_) #[true, true, false, true, true, false, false] rfl rfl jK (fun _ _ _ h => h) (Or.inl ⟨by rfl, ?_⟩) hHeld ?_ ?_
       rotate_left
       ·rintro w' ⟨s0, s1, s2, s3, s4, s5⟩
        go_simp
        with_reducible rfl
       rotate_left
       ·simp only [Act.put, List.setIfInBounds_toArray, List.set_cons_zero, List.set_cons_succ, i64_w, i32_w]
        rfl
       refine one_ (i := 2) (N := some 23) #[true, true, true, true, true, false, false] rfl rfl jK (by decide) (fun K hK => ?_)
       refine goes_ Tryd.func62 jK rfl #[.slice none 0 0, .string a0_4] (by rfl) rfl rfl jA ?_
       refine (impl_PutPlain.calls kj10 _ _ ([] : List Int) a0_4 t363 _ ?side1 ?side2 A22.out).mono ?_
       (case side1 => exact Kd.C_nil _ _)
       (case side2 => exact Nat.le_refl _)
       rintro e w25 ⟨v364, rfl, ho0, hb⟩
       refine ⟨_, rfl, ?_⟩
       have HO365 := aS (Kd.R_lower ho0 (below_size (wS1 HB.out GE355.out)))
       replace BK355 := aS (blk_below (bU BK355.out) hb)
       replace HB := aS (below_step (wS1 HB.out GE355.out) hb)
       (try clear hb)
       (try clear hb2)
       (try clear hk)
       (try clear hi)
       (try clear ho0)
       obtain ⟨Ao26, co26, eo26⟩ := Kd.R_slice HO365.out
       (first | subst eo26 | (injection eo26 with f1_ f2_ f3_; have f4_ := f1_.symm; have f5_ := f3_.symm; clear f1_ f2_ f3_; subst f4_; subst f5_))
       refine hK.out _ _ ⟨(blk_cell BK355.out 0).trans rfl, (blk_cell BK355.out 1).trans rfl, (blk_cell BK355.out 2).trans rfl, (blk_cell BK355.out 3).trans rfl, (blk_cell BK355.out 4).trans rfl, (blk_cell BK355.out 5).trans rfl⟩ (fun hHeld => ?_)
       clear hK K
       refine norm_ (a' := ?_) ?_ ?_
       rotate_left
       ·show Act.put _ (some 23) _ = _
        simp only [Act.put, List.setIfInBounds_toArray, List.set_cons_zero, List.set_cons_succ, i64_w, i32_w]
        rfl
       refine one_ (i := 5) (N := some 26) #[true, true, true, true, true, true, false] rfl rfl jK (by decide) (fun K hK => ?_)
       refine goes_ Tryd.func60 jK rfl #[.slice Ao26 t363.length co26, .int .i64 a0_3] (by rfl) rfl rfl jA ?_
       with_reducible refine (impl_Put4.calls kj10 _ _ t363 a0_3 t366 _ ?side1 ?side2 A23.out).mono ?_
       (case side1 => exact cU ((Kd.R_reads' HO365.out).2.2))
       (case side2 => exact (Kd.R_reads' HO365.out).2.1)
       rintro e w27 ⟨v367, rfl, ho0, hb⟩
       refine ⟨_, rfl, ?_⟩
       have HO368 := aS (Kd.R_lower (Kd.R_new' ho0 (Kd.R_lt (rU HO365.out))) (below_size (wS1 HB.out GE355.out)))
       replace HO365 := aS (Kd.R_elder' (rU HO365.out) (Kd.R_base ho0) hb)
       replace BK355 := aS (blk_below (bU BK355.out) hb)
       replace HB := aS (below_step (wS1 HB.out GE355.out) hb)
       (try clear hb)
       (try clear hb2)
       (try clear hk)
       (try clear hi)
       (try clear ho0)
       refine hK.out _ _ ⟨(blk_cell BK355.out 0).trans rfl, (blk_cell BK355.out 1).trans rfl, (blk_cell BK355.out 2).trans rfl, (blk_cell BK355.out 3).trans rfl, (blk_cell BK355.out 4).trans rfl, (blk_cell BK355.out 5).trans rfl⟩ (fun hHeld => ?_)
       clear hK K
       refine norm_ (a' := ?_) ?_ ?_
       rotate_left
       ·show Act.put _ (some 26) _ = _
        simp only [Act.put, List.setIfInBounds_toArray, List.set_cons_zero, List.set_cons_succ, i64_w, i32_w]
        rfl
       refine pure_ (i := 6) (N := some 2) (v := ?_) (a' := ?_) #[true, true, true, true, true, true, true] rfl rfl jK (fun _ _ _ h => h) (Or.inl ⟨by rfl, ?_⟩) ?_ ?_
       rotate_left
       ·intro w'
        go_simp
        with_reducible rfl
       rotate_left
       ·simp only [Act.put, List.setIfInBounds_toArray, List.set_cons_zero, List.set_cons_succ, i64_w, i32_w]
        rfl
       refine done_ jK ?_
       try go_wp2
       go_ret
       exact ⟨_, jE, Kd.R_mono (rU HO368.out) (fun _ hk => trivial), by exact wS1 HB.out GE355.out⟩
      ·rw [if_neg c21] at H
       have c21b0 := beq_eq_false_iff_ne.mpr c21
       have c21b1 := bne_iff_ne.mpr c21
       obtain ⟨y369, hy_⟩ : ∃ y_ : List Int, y_ = (([((a0_5.size : Int)) % 256] : List Int)) := ⟨_, rfl⟩
       replace H : (if y369.length + a0_5.size < 140737488355328 then (some (y369 ++ bytesOf a0_5)) else (none)) = some r := jD
       have Ny369 := aS hy_
       clear hy_
       by_cases c28 : y369.length + a0_5.size < 140737488355328
       ·rw [if_pos c28] at H
        have LMc28 := aS c28
        clear c28
        obtain ⟨y372, hy_⟩ : ∃ y_ : List Int, y_ = (y369 ++ bytesOf a0_5) := ⟨_, rfl⟩
        replace H : (some y372) = some r := jD
        have Ny372 := aS hy_
        clear hy_
        obtain rfl := Option.some.inj H
        have hcz29 := cells6f BK355.out
        go_wp2_with (first | ((with_reducible refine gate_dst (N := 31) rfl ?_); refine Kd.R_lit (Kd.int .u8) _ 5 ?hg (N := 31) ?hd (xs := ([((a0_5.size : Int)) % 256] : List Int)) (inner := [.int .u8 (((a0_5.size : Int)) % 256)]) (ok := fun _ => True) (okp := fun _ => True) ?hr ?hp (fun _ hk => hk) trivial (Below.refl _ _) (Nat.le_refl _) (by simp) ?_; (case hd => rfl); (case hg => rfl); (case hr => first | (go_simp; done) | (go_simp; rfl)); (case hp => exact (Reps.one (show Kd.M (Kd.int .u8) _ _ _ (((a0_5.size : Int)) % 256) [.int .u8 (((a0_5.size : Int)) % 256)] from rfl) (Reps.none _ _))); intro v370 w30 ho31 hb hg_ hnew_; clear hg_ hnew_; (first | rw [← Ny369.out] at ho31 | (simp only [Int.reduceToNat] at ho31; rw [← Ny369.out] at ho31)); have HO371 := aS (Kd.R_lower ho31 (below_size (wS1 HB.out GE355.out))); replace BK355 := aS (blk_below (bU BK355.out) hb); replace HB := aS (below_step (wS1 HB.out GE355.out) hb); clear hb ho31; have hcz32 := cells6f BK355.out) | (at_builtin; refine print_append_str (w0 := w) w.heap.size rfl (.tmp 31) _ 22 9 5 rfl Tryd.underlying22 Tryd.underlying9 info5 v370 y369 a0_5 rfl rfl ?aO ?aB ?aS ?aL ?_; (case aB => exact (wS1 HB.out GE355.out)); (case aO => exact (Kd.own_of_R (rU HO371.out))); (case aS => exact (below_size (wS1 HB.out GE355.out))); (case aL => have := LMc28.out; omega); intro v373 w33 ho0 hb hg; have ho := Kd.R_of_own (h1 := fun _ => rfl) (ok := fun _ => True) ho0 (fun _ _ => trivial); clear ho0; have hat := True.intro; rw [← Ny372.out] at ho; change Kd.R (Kd.int .u8) 5 w33 w.heap.size (fun _ => True) v373 y372 at ho; replace BK355 := aS (blk_grown (g := gb355) (o := .cells #[.string a0_0, .int .i64 a0_1, .int .i64 a0_2, .int .i64 a0_3, .string a0_4, .string a0_5] 25 (0, 0)) (bU BK355.out) hg (Kd.R_ne HO371.out BK355.out (by decide))); replace HB := aS (hb); have HO374 := aS (ho); clear HO371; clear ho hb hg hat))
        go_ret
        exact ⟨_, jE, by exact rU HO374.out, by exact wS1 HB.out GE355.out⟩
       ·rw [if_neg c28] at H
        exact absurd H (by simp)
 ·replace c3 := Bool.eq_false_iff.mpr c3
  subst c3
  rw [if_neg Bool.false_ne_true] at H
  obtain rfl := Option.some.inj H
  go_enter Tryd.func11, Tryd.ntmps11
  go_wp2_with (first | ((with_reducible refine gate_dst (N := 1) rfl ?_); refine box_event ?hg (N := 1) ?hd (cs := #[.string a0_0, .int .i64 a0_1, .int .i64 a0_2, .int .i64 a0_3, .string a0_4, .string a0_5]) (t := 25) ?hr ?_; (case hd => rfl); (case hg => rfl); (case hr => first | (go_simp; done) | (go_simp; rfl)); intro gb355 hg w34 hbox hb; have BK355 := aS (hbox); have GW355 := aS ((by rw [hg]; exact (below_size (wU HB.out)) : w.heap.size ≤ gb355)); have GE355 := aS ((by rw [hg]; exact (below_size (wU HB.out)) : w.heap.size ≤ gb355)); replace HB := aS (below_step (wU HB.out) hb); clear hb hbox hg; have hcz35 := cells6f BK355.out) | ((with_reducible refine gate_callee (f := 15) rfl ?_); refine goesL_ (some 4) rfl rfl Tryd.func15 jK rfl #[.agg #[.string a0_0, .int .i64 a0_1, .int .i64 a0_2, .int .i64 a0_3, .string a0_4, .string a0_5]] rfl jA ?_; (with_reducible refine (impl_RecordOk.calls k a0_0 a0_1 a0_2 a0_3 a0_4 a0_5 false _ A2.out).mono ?_); rintro e w36 ⟨rfl, hb⟩; refine ⟨_, rfl, ?_⟩; replace BK355 := aS (blk_below (bU BK355.out) hb); replace HB := aS (below_step (wS1 HB.out GE355.out) hb); clear hb))
  go_ret
  exact ⟨_, jE, by first | exact Kd.R_nil _ _ _ _ _ | exact Kd.N_nil _ _ _ _ _ | exact Kd.V_nil _ _ _ _ _ | exact Kd.Q_nil _ _ _ _ _ | exact Kd.S_nil _ _ _ _ _, by exact wS1 HB.out GE355.out⟩

/-! ### strings_Join: function 109 -/
def strings_Join.f (l0 : List ByteArray) (a1 : ByteArray) : Option (ByteArray) := if (Lib.join (l0.map (·.data.toList)) a1.data.toList).length ≤ 140737488355328 ∧ l0.length ≤ 140737488355328 then some ⟨(Lib.join (l0.map (·.data.toList)) a1.data.toList).toArray⟩ else none
theorem strings_Join.calls (A0 : Option Addr) (c0 : Nat) (l0 : List ByteArray) (a1 : ByteArray) (r : ByteArray) (w : World) (hr0 : Kd.C Kd.string w A0 l0.length l0) (hc0 : l0.length ≤ c0) (h : strings_Join.f l0 a1 = some r) :
  Calls Tryd.prog 109 #[.slice A0 l0.length c0, .string a1] w fun e w' => e = .returned (.string r) ∧ Below w.heap.size w w' := by
 by_cases hb : (Lib.join (l0.map (·.data.toList)) a1.data.toList).length ≤ 140737488355328 ∧ l0.length ≤ 140737488355328
 ·rw [strings_Join.f, if_pos hb] at h
  obtain rfl := Option.some.inj h
  by_cases hne : l0 = []
  ·subst hne
   exact (Any.strings_Join_none Tryd.lays156 Tryd.Builder_Extra_156 A0 c0 a1 w).mono fun e w' ⟨he, hw⟩ => ⟨he, hw ▸ Below.refl _ _⟩
  ·obtain ⟨b, o, rfl, hcells, hlt⟩ := X.C_strings hr0 hne
   exact Any.strings_Join Tryd.lays156 Tryd.Builder_Extra_156 b o c0 l0 a1 w hcells hlt hb.2 hc0 hb.1
 ·rw [strings_Join.f, if_neg hb] at h
  cases h


/-! ### impl_JoinLabels: function 146 -/
def impl_JoinLabels.f (l0 : List ByteArray) : Option (ByteArray) := (strings_Join.f l0 (⟨#[46]⟩ : ByteArray)).bind fun t375 => (some t375)
set_option maxHeartbeats 8000000 in
set_option maxRecDepth 100000 in
theorem impl_JoinLabels.calls (A0 : Option Addr) (c0 : Nat) (l0 : List ByteArray) (r : ByteArray) (w : World) (hr0 : Kd.C Kd.string w A0 l0.length l0) (hc0 : l0.length ≤ c0) (h : impl_JoinLabels.f l0 = some r) :
  Calls Tryd.prog 146 #[.slice A0 l0.length c0] w fun e w' => e = .returned (.string r) ∧ Below w.heap.size w w' := by
 have HR0 := aS hr0
 have HC0 := aS hc0
 clear hr0 hc0
 have HB := aS (Below.refl w.heap.size w)
 have H : ((strings_Join.f l0 (⟨#[46]⟩ : ByteArray)).bind fun t375 => (some t375)) = some r := h
 clear h
 obtain ⟨t375, A2, H⟩ := bM H
 try dsimp only at H
 obtain rfl := Option.some.inj H
 go_enter Tryd.func146, Tryd.ntmps146
 go_wp2_with (first | ((with_reducible refine gate_callee (f := 109) rfl ?_); refine goesL_ (some 4) rfl rfl Tryd.func109 jK rfl #[.slice A0 l0.length c0, .string (⟨#[46]⟩ : ByteArray)] rfl jA ?_; (with_reducible refine (strings_Join.calls _ _ l0 (⟨#[46]⟩ : ByteArray) t375 _ ?side1 ?side2 A2.out).mono ?_); (case side1 => exact cU (HR0.out)); (case side2 => exact HC0.out); rintro e w3 ⟨rfl, hb⟩; refine ⟨_, rfl, ?_⟩; replace HB := aS (below_step (wU HB.out) hb); clear hb))
 go_ret
 exact ⟨jE, by exact wU HB.out⟩

/-! ### impl_Above: function 116 -/
def impl_Above.l0 : Nat → List ByteArray → List ByteArray → Int → Int → Option (List ByteArray)
 | 0, _, _, _, _ => none
 | k + 1, x3, x4, x10, x11 => if x11 < x10 then (if 0 ≤ x11 then (if x11 ≤ (x4.length : Int) then ((impl_JoinLabels.f (x4.drop (x11 : Int).toNat)).bind fun t386 => (if x3.length < 8796093022208 then (impl_Above.l0 k (x3 ++ [t386]) x4 x10 (wrap64 (x11 + 1))) else (none))) else (none)) else (none)) else (if x3.length < 8796093022208 then (some (x3 ++ [(⟨#[]⟩ : ByteArray)])) else (none))
def impl_Above.f (k : Nat) (a0 : ByteArray) : Option (List ByteArray) := (impl_Labels.f a0).bind fun t379 => (impl_Above.l0 k (([] : List ByteArray)) t379 (t379.length : Int) 0)
theorem impl_Above.mono_l : ∀ k, (∀ y0 y1 y2 y3, LeO (impl_Above.l0 k y0 y1 y2 y3) (impl_Above.l0 (k + 1) y0 y1 y2 y3))
 | 0 => fun _ _ _ _ r h => by simp [impl_Above.l0] at h
 | k + 1 => by
  have ih0 := impl_Above.mono_l k
  ·intro y0 y1 y2 y3
   unfold impl_Above.l0
   repeat' first
   | (with_reducible first | exact ih0 _ _ _ _ | exact LeO.refl _ | exact LeO.none _ | refine LeO.ite ?_ ?_ | refine LeO.bind ?_ (fun _ => ?_))
   | exact ih0 _ _ _ _
   | exact LeO.none _
   | refine LeO.ite ?_ ?_
   | refine LeO.bind ?_ (fun _ => ?_)
theorem impl_Above.mono : ∀ a0 k, LeO (impl_Above.f k a0) (impl_Above.f (k + 1) a0) := by
 intro a0 k
 have ih0 := impl_Above.mono_l k
 unfold impl_Above.f
 repeat' first
   | (with_reducible first | exact ih0 _ _ _ _ | exact LeO.refl _ | exact LeO.none _ | refine LeO.ite ?_ ?_ | refine LeO.bind ?_ (fun _ => ?_))
   | exact ih0 _ _ _ _
   | exact LeO.none _
   | refine LeO.ite ?_ ?_
   | refine LeO.bind ?_ (fun _ => ?_)
set_option maxHeartbeats 8000000 in
set_option maxRecDepth 100000 in
theorem impl_Above.calls (k : Nat) (a0 : ByteArray) (r : List ByteArray) (w : World) (h : impl_Above.f k a0 = some r) :
  Calls Tryd.prog 116 #[.string a0] w fun e w' => ∃ v0_ : Value, e = .returned (v0_) ∧ Kd.R Kd.string 9 w' w.heap.size (fun _ => True) v0_ r ∧ Below w.heap.size w w' := by
 have HB := aS (Below.refl w.heap.size w)
 have H : ((impl_Labels.f a0).bind fun t379 => (impl_Above.l0 k (([] : List ByteArray)) t379 (t379.length : Int) 0)) = some r := h
 clear h
 obtain ⟨y376, hy_⟩ : ∃ y_ : List ByteArray, y_ = (([] : List ByteArray)) := ⟨_, rfl⟩
 replace H : ((impl_Labels.f a0).bind fun t379 => (impl_Above.l0 k y376 t379 (t379.length : Int) 0)) = some r := jD
 have Ny376 := aS hy_
 clear hy_
 obtain ⟨t379, A2, H⟩ := bM H
 try dsimp only at H
 have H' := aS H
 clear H
 go_enter Tryd.func116, Tryd.ntmps116
 go_wp2_with (first | ((with_reducible refine gate_dst (N := 6) rfl ?_); refine Kd.R_lit Kd.string _ 9 ?hg (N := 6) ?hd (xs := ([] : List ByteArray)) (inner := []) (ok := fun _ => True) (okp := fun _ => True) ?hr ?hp (fun _ hk => hk) trivial (Below.refl _ _) (Nat.le_refl _) (by simp) ?_; (case hd => rfl); (case hg => rfl); (case hr => first | (go_simp; done) | (go_simp; rfl)); (case hp => exact (Reps.none _ _)); intro v377 w3 ho4 hb hg_ hnew_; clear hg_ hnew_; (first | rw [← Ny376.out] at ho4 | (simp only [Int.reduceToNat] at ho4; rw [← Ny376.out] at ho4)); have HO378 := aS (Kd.R_lower ho4 (below_size (wU HB.out))); replace HB := aS (below_step (wU HB.out) hb); clear hb ho4) | ((with_reducible refine gate_callee (f := 115) rfl ?_); refine goesL_ (some 8) rfl rfl Tryd.func115 jK rfl #[.string a0] rfl jA ?_; (with_reducible refine (impl_Labels.calls a0 t379 _ A2.out).mono ?_); rintro e w5 ⟨v380, rfl, ho0, hb⟩; refine ⟨_, rfl, ?_⟩; have HO381 := aS (Kd.R_lower (Kd.R_new' ho0 (Kd.R_lt (rU HO378.out))) (below_size (wU HB.out))); replace HO378 := aS (Kd.R_elder' (rU HO378.out) (Kd.R_base ho0) hb); replace HB := aS (below_step (wU HB.out) hb); clear hb; (try clear ho0); obtain ⟨Ao6, co6, eo6⟩ := Kd.R_slice HO381.out; subst eo6))
 go_loopg [3, 11] k (fun kq v3 v11 w' => ∃ (x3_1 : List ByteArray) (x11_1 : Int), v11 = .int .i64 x11_1 ∧ Aside0 (impl_Above.l0 kq x3_1 t379 (t379.length : Int) x11_1 = some r) ∧ Aside0 (kq ≤ k) ∧ Aside0 (Kd.R Kd.string 9 w' w.heap.size (fun k_ => some k_ ≠ ((.slice Ao6 t379.length co6) : Value).ownBlock) v3 x3_1) ∧ Aside0 (Kd.R Kd.string 9 w' w.heap.size (fun k_ => some k_ ≠ (v3 : Value).ownBlock) (.slice Ao6 t379.length co6) t379) ∧ Aside0 (Below w.heap.size w w'))
 case atStart => exact ⟨(y376), (0), jB, H', ⟨Nat.le_refl _⟩, ⟨by (with_reducible repeat (first | apply Kd.R_alloc | apply Kd.R_drewN | apply Kd.R_drew)); exact Kd.R_mono HO378.out (fun _ hk => hk.2)⟩, ⟨by (with_reducible repeat (first | apply Kd.R_alloc | apply Kd.R_drewN | apply Kd.R_drew)); exact Kd.R_mono HO381.out (fun _ hk => hk.2)⟩, ⟨by exact wU HB.out⟩⟩
 case round =>
  clear H'
  try clear c1
  try clear p2
  obtain ⟨x3_1, x11_1, rfl, HA, HK1, HO_3, HO_4, HB⟩ := hrel
  cases gk with
  | zero => exact absurd HA.out (by simp [impl_Above.l0])
  | succ k1 =>
   have H := HA.out
   clear HA
   simp only [impl_Above.l0] at H
   by_cases c7 : x11_1 < (t379.length : Int)
   ·rw [if_pos c7] at H
    have c7b0 := decide_eq_true c7
    clear c7
    by_cases c8 : 0 ≤ x11_1
    ·rw [if_pos c8] at H
     have c8b0 := eq_true c8
     have c8b1 := decide_eq_true c8
     clear c8
     by_cases c9 : x11_1 ≤ (t379.length : Int)
     ·rw [if_pos c9] at H
      have c9b0 := eq_true c9
      have c9b1 := decide_eq_true c9
      clear c9
      obtain ⟨y382, hy_⟩ : ∃ y_ : List ByteArray, y_ = (t379.drop (x11_1 : Int).toNat) := ⟨_, rfl⟩
      replace H : ((impl_JoinLabels.f y382).bind fun t386 => (if x3_1.length < 8796093022208 then (impl_Above.l0 k1 (x3_1 ++ [t386]) t379 (t379.length : Int) (wrap64 (x11_1 + 1))) else (none))) = some r := jD
      have Ny382 := aS hy_
      clear hy_
      obtain ⟨t386, A10, H⟩ := bM H
      try dsimp only at H
      by_cases c11 : x3_1.length < 8796093022208
      ·rw [if_pos c11] at H
       have LMc11 := aS c11
       clear c11
       obtain ⟨y387, hy_⟩ : ∃ y_ : List ByteArray, y_ = (x3_1 ++ [t386]) := ⟨_, rfl⟩
       replace H : (impl_Above.l0 k1 y387 t379 (t379.length : Int) (wrap64 (x11_1 + 1))) = some r := jD
       have Ny387 := aS hy_
       clear hy_
       have H' := aS H
       clear H
       have q12 : (x11_1 : Int) ≤ ((t379.length : Int) : Int) := of_decide_eq_true jC
       obtain ⟨i012, hi012, _, hsz12, _⟩ := info_parts info9
       have hroom12 : t379.length ≤ co6 := (Kd.R_reads' HO_4.out).2.1
       have hC12 : Kd.C Kd.string _ Ao6 t379.length t379 := (Kd.R_reads' HO_4.out).2.2
       have q012 : (0 : Int) ≤ (x11_1 : Int) := of_decide_eq_true jC
       have hcut12 := cut_from (P := Tryd.prog) 108 9 .i64 Tryd.underlying108 hi012 1 hsz12 Ao6 t379.length co6 x11_1 q012 q12
       have hr12 := Kd.C_drop (m := (x11_1 : Int).toNat) (c := co6) hC12 (by omega) hroom12
       obtain ⟨A12, hA12⟩ : ∃ A1, A1 = (if co6 = (x11_1 : Int).toNat then Ao6 else (Ao6 : Option Addr).map (·.add ((x11_1 : Int).toNat * 1))) := ⟨_, rfl⟩
       obtain ⟨c12, hc12⟩ : ∃ c1, c1 = co6 - (x11_1 : Int).toNat := ⟨_, rfl⟩
       have hy12 : y382.length = t379.length - (x11_1 : Int).toNat := (by rw [Ny382.out, List.length_drop] <;> omega)
       rw [show (t379).drop (x11_1 : Int).toNat = y382 from Ny382.out.symm] at hr12
       replace hr12 : Kd.C Kd.string _ A12 y382.length y382 := (by rw [hA12]; exact hr12)
       rw [← hy12, ← hA12, ← hc12] at hcut12
       have HR385 := aS hr12
       have HC385 := aS (show y382.length ≤ c12 from by rw [hy12, hc12]; exact Nat.sub_le_sub_right hroom12 _)
       clear hr12 hC12 hroom12 hi012 hsz12 hc12
       have KY12 := aS hy12
       have KA12 := aS hA12
       clear hy12 hA12
       have KL12 := aS (show (x11_1 : Int).toNat ≤ t379.length from by omega)
       replace q12 := eq_true q12
       go_wp2_with (first | ((with_reducible refine gate_callee (f := 146) rfl ?_); refine goesL_ (some 18) rfl rfl Tryd.func146 jK rfl #[.slice A12 y382.length c12] rfl jA ?_; (with_reducible refine (impl_JoinLabels.calls _ _ y382 t386 _ ?side1 ?side2 A10.out).mono ?_); (case side1 => repeat (first | exact (by repeat (first | (with_reducible exact HR385.out) | (with_reducible refine Kd.C_alloc ?_ _) | (with_reducible refine Kd.C_drewN ?_ _) | (with_reducible refine Kd.C_drew ?_) | exact HR385.out)) | (with_reducible refine Kd.C_alloc ?_ _) | (with_reducible refine Kd.C_drewN ?_ _) | (with_reducible refine Kd.C_drew ?_))); (case side2 => exact HC385.out); rintro e w13 ⟨rfl, hb⟩; refine ⟨_, rfl, ?_⟩; replace HO_3 := aS (Kd.R_below (rU HO_3.out) hb); replace HO_4 := aS (Kd.R_below (rU HO_4.out) hb); replace HR385 := aS (Kd.C_below (by repeat (first | (with_reducible exact HR385.out) | (with_reducible refine Kd.C_alloc ?_ _) | (with_reducible refine Kd.C_drewN ?_ _) | (with_reducible refine Kd.C_drew ?_) | exact HR385.out)) hb); replace HB := aS (below_step (wU HB.out) hb); clear hb) | ((with_reducible refine gate_builtin (b := .append) (xs := #[.tmp 14, .tmp 19]) rfl ?_); at_builtin; refine Kd.R_append Kd.string (w0 := w) w.heap.size rfl (.tmp 14) (.tmp 19) 108 9 (.string ⟨#[]⟩) 16 rfl Tryd.underlying108 info9 rfl (by decide) (by omega) u3 x3_1 t386 [.string t386] (fun k_ => some k_ ≠ (.slice Ao6 t379.length co6 : Value).ownBlock) (fun _ => False) rfl rfl ?aP (fun _ hk => hk.elim) ?aF ?aO ?aB ?aS ?aL ?_; (case aP => exact rfl); (case aB => exact (wU HB.out)); (case aF => exact (fun k_ hk => Kd.fresh' (Kd.R_lt (rU HO_4.out)) k_ hk)); (case aO => exact (rU HO_3.out)); (case aS => exact (below_size (wU HB.out))); (case aL => have := LMc11.out; omega); intro v388 w14 ho hb hg hat; rw [← Ny387.out] at ho; replace HB := aS (hb); replace HR385 := aS ((show Kd.C Kd.string w14 A12 y382.length y382 from by rw [Ny382.out, KA12.out]; exact Kd.C_drop (m := (x11_1 : Int).toNat) (c := co6) ((Kd.R_reads' (Kd.R_after (ok := (fun _ => True)) (by (with_reducible repeat (first | apply Kd.R_alloc | apply Kd.R_drewN | apply Kd.R_drew)); exact Kd.R_mono HO_4.out (fun _ hk => ⟨trivial, hk⟩)) hg hat)).2.2) KL12.out ((Kd.R_reads' (Kd.R_after (ok := (fun _ => True)) (by (with_reducible repeat (first | apply Kd.R_alloc | apply Kd.R_drewN | apply Kd.R_drew)); exact Kd.R_mono HO_4.out (fun _ hk => ⟨trivial, hk⟩)) hg hat)).2.1))); replace HO_4 := aS (Kd.R_after (ok := (fun _ => True)) (by (with_reducible repeat (first | apply Kd.R_alloc | apply Kd.R_drewN | apply Kd.R_drew)); exact Kd.R_mono HO_4.out (fun _ hk => ⟨trivial, hk⟩)) hg hat); have HO389 := aS (ho); clear HO_3; clear ho hb hg hat))
       go_roundg k1
       case measure => have := HK1.out; omega
       case rel => exact ⟨(y387), (wrap64 (x11_1 + 1)), jB, H', ⟨by have := HK1.out; omega⟩, ⟨by exact rU HO389.out⟩, ⟨by (with_reducible repeat (first | apply Kd.R_alloc | apply Kd.R_drewN | apply Kd.R_drew)); exact Kd.R_mono HO_4.out (fun _ hk => hk.2)⟩, ⟨by exact wU HB.out⟩⟩
      ·rw [if_neg c11] at H
       exact absurd H (by simp)
     ·rw [if_neg c9] at H
      exact absurd H (by simp)
    ·rw [if_neg c8] at H
     exact absurd H (by simp)
   ·rw [if_neg c7] at H
    have c7b0 := decide_eq_false c7
    clear c7
    by_cases c15 : x3_1.length < 8796093022208
    ·rw [if_pos c15] at H
     have LMc15 := aS c15
     clear c15
     obtain ⟨y390, hy_⟩ : ∃ y_ : List ByteArray, y_ = (x3_1 ++ [(⟨#[]⟩ : ByteArray)]) := ⟨_, rfl⟩
     replace H : (some y390) = some r := jD
     have Ny390 := aS hy_
     clear hy_
     obtain rfl := Option.some.inj H
     go_wp2_with (first | ((with_reducible refine gate_builtin (b := .append) (xs := #[.tmp 22, .tmp 23]) rfl ?_); at_builtin; refine Kd.R_append Kd.string (w0 := w) w.heap.size rfl (.tmp 22) (.tmp 23) 108 9 (.string ⟨#[]⟩) 16 rfl Tryd.underlying108 info9 rfl (by decide) (by omega) u3 x3_1 (⟨#[]⟩ : ByteArray) [.string (⟨#[]⟩ : ByteArray)] (fun k_ => some k_ ≠ (.slice Ao6 t379.length co6 : Value).ownBlock) (fun _ => False) rfl rfl ?aP (fun _ hk => hk.elim) ?aF ?aO ?aB ?aS ?aL ?_; (case aP => exact rfl); (case aB => exact (wU HB.out)); (case aF => exact (fun k_ hk => Kd.fresh' (Kd.R_lt (rU HO_4.out)) k_ hk)); (case aO => exact (rU HO_3.out)); (case aS => exact (below_size (wU HB.out))); (case aL => have := LMc15.out; omega); intro v391 w16 ho hb hg hat; rw [← Ny390.out] at ho; replace HO_4 := aS (Kd.R_after (ok := (fun _ => True)) (by (with_reducible repeat (first | apply Kd.R_alloc | apply Kd.R_drewN | apply Kd.R_drew)); exact Kd.R_mono HO_4.out (fun _ hk => ⟨trivial, hk⟩)) hg hat); replace HB := aS (hb); have HO392 := aS (ho); clear HO_3; clear ho hb hg hat))
     go_ret
     exact ⟨_, jE, Kd.R_mono (rU HO392.out) (fun _ hk => trivial), by exact wU HB.out⟩
    ·rw [if_neg c15] at H
     exact absurd H (by simp)

end Go.Proofs.YtdigilidomimdaaDoor.Pr
