-- Written for this claim by a program of this session (wip/tool/pr.py, over the kit's printer).
-- half
import Derived.Test.YtdigilidomimdaaDoorPrx0
import Derived.Test.YtdigilidomimdaaDoorPrx8
import Derived.Test.YtdigilidomimdaaDoorPrx9
import Derived.Test.YtdigilidomimdaaDoorPrx10
import Derived.Test.YtdigilidomimdaaDoorPrx11
namespace Go.Proofs.YtdigilidomimdaaDoor.Pr
open Go.RowKit Go.Proofs.YtdigilidomimdaaDoorW.PrintWords Go.Proofs.YtdigilidomimdaaDoorW.PrintLast Go.Proofs.YtdigilidomimdaaDoorW.PrintMore
attribute [local go_sem] max2_int min2_int max_two min_two max_three min_three max_four min_four   -- for this text's walks alone
set_option linter.unusedVariables false
set_option linter.unusedSimpArgs false

/-! ### spec_PlaceOf: function 122 -/
mutual
def spec_PlaceOf.l0 : Nat → List Int → ByteArray → Int → Option (Int)
 | 0, _, _, _ => none
 | k + 1, x0, x1, x5 => if x5 < (x0.length : Int) then (spec_PlaceOf.j1 k x0 x1 x5 (decide (x5 ≤ 16383))) else (spec_PlaceOf.j1 k x0 x1 x5 false)
def spec_PlaceOf.j1 : Nat → List Int → ByteArray → Int → Bool → Option (Int)
 | 0, _, _, _, _ => none
 | k + 1, x0, x1, x5, x16 => if x16 = true then ((spec_GetName.f k x0 x5).bind fun bt646 => (if bt646.2.2 = 0 then (if bt646.1.toList = x1.toList then (some x5) else (spec_PlaceOf.l0 k x0 x1 (wrap64 (x5 + 1)))) else (spec_PlaceOf.l0 k x0 x1 (wrap64 (x5 + 1))))) else (some (-1))
end
def spec_PlaceOf.f (k : Nat) (l0 : List Int) (a1 : ByteArray) : Option (Int) := spec_PlaceOf.l0 k l0 a1 0
theorem spec_PlaceOf.mono_l : ∀ k, (∀ y0 y1 y2, LeO (spec_PlaceOf.l0 k y0 y1 y2) (spec_PlaceOf.l0 (k + 1) y0 y1 y2)) ∧ (∀ y0 y1 y2 y3, LeO (spec_PlaceOf.j1 k y0 y1 y2 y3) (spec_PlaceOf.j1 (k + 1) y0 y1 y2 y3))
 | 0 => ⟨fun _ _ _ r h => by simp [spec_PlaceOf.l0] at h, fun _ _ _ _ r h => by simp [spec_PlaceOf.j1] at h⟩
 | k + 1 => by
  obtain ⟨ih0, ih1⟩ := spec_PlaceOf.mono_l k
  refine ⟨?_, ?_⟩
  ·intro y0 y1 y2
   unfold spec_PlaceOf.l0
   repeat' first
   | (with_reducible first | exact ih0 _ _ _ | exact ih1 _ _ _ _ | exact spec_GetName.mono _ _ _ | exact LeO.refl _ | exact LeO.none _ | refine LeO.ite ?_ ?_ | refine LeO.bind ?_ (fun _ => ?_))
   | exact ih0 _ _ _
   | exact ih1 _ _ _ _
   | exact spec_GetName.mono _ _ _
   | exact LeO.none _
   | refine LeO.ite ?_ ?_
   | refine LeO.bind ?_ (fun _ => ?_)
  ·intro y0 y1 y2 y3
   unfold spec_PlaceOf.j1
   repeat' first
   | (with_reducible first | exact ih0 _ _ _ | exact ih1 _ _ _ _ | exact spec_GetName.mono _ _ _ | exact LeO.refl _ | exact LeO.none _ | refine LeO.ite ?_ ?_ | refine LeO.bind ?_ (fun _ => ?_))
   | exact ih0 _ _ _
   | exact ih1 _ _ _ _
   | exact spec_GetName.mono _ _ _
   | exact LeO.none _
   | refine LeO.ite ?_ ?_
   | refine LeO.bind ?_ (fun _ => ?_)
theorem spec_PlaceOf.mono : ∀ a0 a1 k, LeO (spec_PlaceOf.f k a0 a1) (spec_PlaceOf.f (k + 1) a0 a1) := by
 intro a0 a1 k
 obtain ⟨ih0, ih1⟩ := spec_PlaceOf.mono_l k
 unfold spec_PlaceOf.f
 repeat' first
   | (with_reducible first | exact ih0 _ _ _ | exact ih1 _ _ _ _ | exact spec_GetName.mono _ _ _ | exact LeO.refl _ | exact LeO.none _ | refine LeO.ite ?_ ?_ | refine LeO.bind ?_ (fun _ => ?_))
   | exact ih0 _ _ _
   | exact ih1 _ _ _ _
   | exact spec_GetName.mono _ _ _
   | exact LeO.none _
   | refine LeO.ite ?_ ?_
   | refine LeO.bind ?_ (fun _ => ?_)
set_option maxHeartbeats 8000000 in
set_option maxRecDepth 100000 in
theorem spec_PlaceOf.calls (k : Nat) (A0 : Option Addr) (c0 : Nat) (l0 : List Int) (a1 : ByteArray) (r : Int) (w : World) (hr0 : Kd.C (Kd.int .u8) w A0 l0.length l0) (hc0 : l0.length ≤ c0) (h : spec_PlaceOf.f k l0 a1 = some r) :
  Calls Tryd.prog 122 #[.slice A0 l0.length c0, .string a1] w fun e w' => e = .returned (.int .i64 r) ∧ Below w.heap.size w w' := by
 have HR0 := aS hr0
 have HC0 := aS hc0
 clear hr0 hc0
 have HB := aS (Below.refl w.heap.size w)
 have H : (spec_PlaceOf.l0 k l0 a1 0) = some r := h
 clear h
 have H' := aS H
 clear H
 go_enter Tryd.func122, Tryd.ntmps122
 go_wp2
 go_loopg [5] k (fun kq v5 w' => ∃ (x5_1 : Int), v5 = .int .i64 x5_1 ∧ Aside0 (spec_PlaceOf.l0 kq l0 a1 x5_1 = some r) ∧ Aside0 (kq ≤ k) ∧ Aside0 (Below w.heap.size w w'))
 case atStart => exact ⟨(0), jB, H', ⟨Nat.le_refl _⟩, ⟨by exact wU HB.out⟩⟩
 case round =>
  clear H'
  try clear c1
  try clear p2
  obtain ⟨x5_1, rfl, HA, HK1, HB⟩ := hrel
  cases gk with
  | zero => exact absurd HA.out (by simp [spec_PlaceOf.l0])
  | succ k1 =>
   have H := HA.out
   clear HA
   simp only [spec_PlaceOf.l0] at H
   have HC3 := aS H
   clear H
   go_upto_region 2 with (fail)
   go_cut [16] (fun v16 wc => ∃ (kq : Nat) (x16_2 : Bool), v16 = .bool x16_2 ∧ Aside0 (spec_PlaceOf.j1 kq l0 a1 x5_1 x16_2 = some r) ∧ Aside0 (kq ≤ k1) ∧ Aside0 (Below w.heap.size w wc))
   case first =>
    have H := HC3.out
    clear HC3
    by_cases c4 : x5_1 < (l0.length : Int)
    ·rw [if_pos c4] at H
     have c4b0 := decide_eq_true c4
     clear c4
     (first | rw [c4b0] | (simp only [i64_w, i32_w]; rw [c4b0]) | skip)
     have H' := aS H
     clear H
     go_wp2
     go_meet
     case rel => exact ⟨_, (decide (x5_1 ≤ 16383)), jB, H', ⟨by have := HK1.out; first | omega | exact Nat.le_refl _⟩, ⟨by exact wU HB.out⟩⟩
    ·rw [if_neg c4] at H
     have c4b0 := decide_eq_false c4
     clear c4
     (first | rw [c4b0] | (simp only [i64_w, i32_w]; rw [c4b0]) | skip)
     have H' := aS H
     clear H
     go_wp2
     go_meet
     case rel => exact ⟨_, (false), jB, H', ⟨by have := HK1.out; first | omega | exact Nat.le_refl _⟩, ⟨by exact wU HB.out⟩⟩
   case rest =>
    clear HC3
    try clear c1
    try clear p2
    try clear c4
    try clear c4b0
    try clear p2
    obtain ⟨kq, x16_2, rfl, HA, HJ2, HB⟩ := hcut
    cases kq with
    | zero => exact absurd HA.out (by simp [spec_PlaceOf.j1])
    | succ kj2 =>
     have H := HA.out
     clear HA
     simp only [spec_PlaceOf.j1] at H
     by_cases c5 : x16_2 = true
     ·subst c5
      rw [if_pos rfl] at H
      obtain ⟨⟨t646, t647, t648⟩, A6, H⟩ := bM H
      try dsimp only at H
      by_cases c7 : t648 = 0
      ·rw [if_pos c7] at H
       have c7b0 := beq_iff_eq.mpr c7
       have c7b1 := bne_eq_false_iff_eq.mpr c7
       clear c7
       by_cases c8 : t646.toList = a1.toList
       ·rw [if_pos c8] at H
        have c8b0 := beq_iff_eq.mpr c8
        have c8b1 := bne_eq_false_iff_eq.mpr c8
        clear c8
        obtain rfl := Option.some.inj H
        go_wp2_with (first | ((with_reducible refine gate_callee (f := 82) rfl ?_); refine goesL_ (some 22) rfl rfl Tryd.func82 jK rfl #[.slice A0 l0.length c0, .int .i64 x5_1] rfl jA ?_; (with_reducible refine (spec_GetName.calls kj2 _ _ l0 x5_1 t646 t647 t648 _ ?side1 ?side2 A6.out).mono ?_); (case side1 => exact cU ((Kd.C_below HR0.out HB.out))); (case side2 => exact HC0.out); rintro e w9 ⟨rfl, hb⟩; refine ⟨_, rfl, ?_⟩; replace HB := aS (below_step (wU HB.out) hb); clear hb))
        go_ret
        exact ⟨jE, by exact wU HB.out⟩
       ·rw [if_neg c8] at H
        have c8b0 := beq_eq_false_iff_ne.mpr c8
        have c8b1 := bne_iff_ne.mpr c8
        have H' := aS H
        clear H
        go_wp2_with (first | ((with_reducible refine gate_callee (f := 82) rfl ?_); refine goesL_ (some 22) rfl rfl Tryd.func82 jK rfl #[.slice A0 l0.length c0, .int .i64 x5_1] rfl jA ?_; (with_reducible refine (spec_GetName.calls kj2 _ _ l0 x5_1 t646 t647 t648 _ ?side1 ?side2 A6.out).mono ?_); (case side1 => exact cU ((Kd.C_below HR0.out HB.out))); (case side2 => exact HC0.out); rintro e w10 ⟨rfl, hb⟩; refine ⟨_, rfl, ?_⟩; replace HB := aS (below_step (wU HB.out) hb); clear hb))
        go_roundg kj2
        case measure => have := HK1.out; have := HJ2.out; omega
        case rel => exact ⟨(wrap64 (x5_1 + 1)), jB, H', ⟨by have := HK1.out; have := HJ2.out; omega⟩, ⟨by exact wU HB.out⟩⟩
      ·rw [if_neg c7] at H
       have c7b0 := beq_eq_false_iff_ne.mpr c7
       have c7b1 := bne_iff_ne.mpr c7
       have H' := aS H
       clear H
       go_wp2_with (first | ((with_reducible refine gate_callee (f := 82) rfl ?_); refine goesL_ (some 22) rfl rfl Tryd.func82 jK rfl #[.slice A0 l0.length c0, .int .i64 x5_1] rfl jA ?_; (with_reducible refine (spec_GetName.calls kj2 _ _ l0 x5_1 t646 t647 t648 _ ?side1 ?side2 A6.out).mono ?_); (case side1 => exact cU ((Kd.C_below HR0.out HB.out))); (case side2 => exact HC0.out); rintro e w11 ⟨rfl, hb⟩; refine ⟨_, rfl, ?_⟩; replace HB := aS (below_step (wU HB.out) hb); clear hb))
       go_roundg kj2
       case measure => have := HK1.out; have := HJ2.out; omega
       case rel => exact ⟨(wrap64 (x5_1 + 1)), jB, H', ⟨by have := HK1.out; have := HJ2.out; omega⟩, ⟨by exact wU HB.out⟩⟩
     ·replace c5 := Bool.eq_false_iff.mpr c5
      subst c5
      rw [if_neg Bool.false_ne_true] at H
      obtain rfl := Option.some.inj H
      go_wp2
      go_ret
      exact ⟨jE, by exact wU HB.out⟩

/-! ### spec_PutName: function 65 -/
def spec_PutName.l0 : Nat → List Int → List Int → List ByteArray → List ByteArray → Int → Option (List Int)
 | 0, _, _, _, _, _ => none
 | k + 1, x0, x5, x6, x7, x8 => if x8 < (x7.length : Int) then (if 0 ≤ x8 then (if x8 < (x6.length : Int) then ((spec_PlaceOf.f k x0 (rdOf ByteArray.empty x6 x8)).bind fun t666 => (if t666 ≥ 0 then ((some (([(wrap64 (192 + (wrap64 (Int.tdiv t666 256)))) % 256, (Int.tmod t666 256) % 256] : List Int) : List Int)).bind fun y667 => (if x5.length + y667.length < 140737488355328 then (some (x5 ++ y667)) else (none))) else ((spec_PutLabel.f k x5 (rdOf ByteArray.empty x7 x8)).bind fun t674 => (spec_PutName.l0 k x0 t674 x6 x7 (wrap64 (x8 + 1)))))) else (none)) else (none)) else (if x5.length < 140737488355328 then (some (x5 ++ [0])) else (none))
def spec_PutName.f (k : Nat) (l0 : List Int) (a1 : ByteArray) : Option (List Int) := (some (([] : List Int) : List Int)).bind fun y649 => (if y649.length + l0.length < 140737488355328 then ((some (y649 ++ l0 : List Int)).bind fun y652 => ((spec_NameOk.f k a1).bind fun t655 => (if t655 = true then ((spec_Above.f k a1).bind fun t656 => ((spec_Labels.f k a1).bind fun t659 => (spec_PutName.l0 k l0 y652 t656 t659 0))) else (some y652)))) else (none))
theorem spec_PutName.mono_l : ∀ k, (∀ y0 y1 y2 y3 y4, LeO (spec_PutName.l0 k y0 y1 y2 y3 y4) (spec_PutName.l0 (k + 1) y0 y1 y2 y3 y4))
 | 0 => fun _ _ _ _ _ r h => by simp [spec_PutName.l0] at h
 | k + 1 => by
  have ih0 := spec_PutName.mono_l k
  ·intro y0 y1 y2 y3 y4
   unfold spec_PutName.l0
   repeat' first
   | (with_reducible first | exact ih0 _ _ _ _ _ | exact spec_Above.mono _ _ | exact spec_Labels.mono _ _ | exact spec_NameOk.mono _ _ | exact spec_PlaceOf.mono _ _ _ | exact spec_PutLabel.mono _ _ _ | exact LeO.refl _ | exact LeO.none _ | refine LeO.ite ?_ ?_ | refine LeO.bind ?_ (fun _ => ?_))
   | exact ih0 _ _ _ _ _
   | exact spec_Above.mono _ _
   | exact spec_Labels.mono _ _
   | exact spec_NameOk.mono _ _
   | exact spec_PlaceOf.mono _ _ _
   | exact spec_PutLabel.mono _ _ _
   | exact LeO.none _
   | refine LeO.ite ?_ ?_
   | refine LeO.bind ?_ (fun _ => ?_)
theorem spec_PutName.mono : ∀ a0 a1 k, LeO (spec_PutName.f k a0 a1) (spec_PutName.f (k + 1) a0 a1) := by
 intro a0 a1 k
 have ih0 := spec_PutName.mono_l k
 unfold spec_PutName.f
 repeat' first
   | (with_reducible first | exact ih0 _ _ _ _ _ | exact spec_Above.mono _ _ | exact spec_Labels.mono _ _ | exact spec_NameOk.mono _ _ | exact spec_PlaceOf.mono _ _ _ | exact spec_PutLabel.mono _ _ _ | exact LeO.refl _ | exact LeO.none _ | refine LeO.ite ?_ ?_ | refine LeO.bind ?_ (fun _ => ?_))
   | exact ih0 _ _ _ _ _
   | exact spec_Above.mono _ _
   | exact spec_Labels.mono _ _
   | exact spec_NameOk.mono _ _
   | exact spec_PlaceOf.mono _ _ _
   | exact spec_PutLabel.mono _ _ _
   | exact LeO.none _
   | refine LeO.ite ?_ ?_
   | refine LeO.bind ?_ (fun _ => ?_)
set_option maxHeartbeats 8000000 in
set_option maxRecDepth 100000 in
theorem spec_PutName.calls (k : Nat) (A0 : Option Addr) (c0 : Nat) (l0 : List Int) (a1 : ByteArray) (r : List Int) (w : World) (hr0 : Kd.C (Kd.int .u8) w A0 l0.length l0) (hc0 : l0.length ≤ c0) (h : spec_PutName.f k l0 a1 = some r) :
  Calls Tryd.prog 65 #[.slice A0 l0.length c0, .string a1] w fun e w' => ∃ v0_ : Value, e = .returned (v0_) ∧ Kd.R (Kd.int .u8) 5 w' w.heap.size (fun _ => True) v0_ r ∧ Below w.heap.size w w' := by
 have HR0 := aS hr0
 have HC0 := aS hc0
 clear hr0 hc0
 have HB := aS (Below.refl w.heap.size w)
 have H : ((some (([] : List Int) : List Int)).bind fun y649 => (if y649.length + l0.length < 140737488355328 then ((some (y649 ++ l0 : List Int)).bind fun y652 => ((spec_NameOk.f k a1).bind fun t655 => (if t655 = true then ((spec_Above.f k a1).bind fun t656 => ((spec_Labels.f k a1).bind fun t659 => (spec_PutName.l0 k l0 y652 t656 t659 0))) else (some y652)))) else (none))) = some r := h
 clear h
 obtain ⟨y649, hy_⟩ : ∃ y_ : List Int, y_ = (([] : List Int)) := ⟨_, rfl⟩
 replace H : (if y649.length + l0.length < 140737488355328 then ((some (y649 ++ l0 : List Int)).bind fun y652 => ((spec_NameOk.f k a1).bind fun t655 => (if t655 = true then ((spec_Above.f k a1).bind fun t656 => ((spec_Labels.f k a1).bind fun t659 => (spec_PutName.l0 k l0 y652 t656 t659 0))) else (some y652)))) else (none)) = some r := jD
 have Ny649 := aS hy_
 clear hy_
 by_cases c3 : y649.length + l0.length < 140737488355328
 ·rw [if_pos c3] at H
  have LMc3 := aS c3
  clear c3
  obtain ⟨y652, hy_⟩ : ∃ y_ : List Int, y_ = (y649 ++ l0) := ⟨_, rfl⟩
  replace H : ((spec_NameOk.f k a1).bind fun t655 => (if t655 = true then ((spec_Above.f k a1).bind fun t656 => ((spec_Labels.f k a1).bind fun t659 => (spec_PutName.l0 k l0 y652 t656 t659 0))) else (some y652))) = some r := jD
  have Ny652 := aS hy_
  clear hy_
  obtain ⟨t655, A4, H⟩ := bM H
  try dsimp only at H
  have HC5 := aS H
  clear H
  go_enter Tryd.func65, Tryd.ntmps65
  go_upto_if 15 with (first | ((with_reducible refine gate_dst (N := 10) rfl ?_); refine Kd.R_lit (Kd.int .u8) _ 5 ?hg (N := 10) ?hd (xs := ([] : List Int)) (inner := []) (ok := fun _ => True) (okp := fun _ => True) ?hr ?hp (fun _ hk => hk) trivial (Below.refl _ _) (Nat.le_refl _) (by simp) ?_; (case hd => rfl); (case hg => rfl); (case hr => first | (go_simp; done) | (go_simp; rfl)); (case hp => exact (Reps.none _ _)); intro v650 w6 ho7 hb hg_ hnew_; clear hg_ hnew_; (first | rw [← Ny649.out] at ho7 | (simp only [Int.reduceToNat] at ho7; rw [← Ny649.out] at ho7)); have HO651 := aS (Kd.R_lower ho7 (below_size (wU HB.out))); replace HB := aS (below_step (wU HB.out) hb); clear hb ho7) | ((with_reducible refine gate_builtin (b := .append) (xs := #[.tmp 10, .tmp 11]) rfl ?_); at_builtin; refine Kd.R_append_rows (Kd.int .u8) (w0 := w) w.heap.size rfl (.tmp 10) (.tmp 11) 22 5 (.int .u8 0) 1 rfl Tryd.underlying22 info5 rfl (by decide) (by omega) v650 y649 l0 _ _ _ (fun _ => True) (fun _ => False) rfl rfl ?aO ?aR (fun _ _ h => h) (fun _ h => h.elim) ?aF ?aB ?aS ?aL ?_; (case aR => exact cU ((Kd.C_below HR0.out HB.out))); (case aB => exact (wU HB.out)); (case aF => exact (fun _ _ => trivial)); (case aO => exact (rU HO651.out)); (case aS => exact (below_size (wU HB.out))); (case aL => have := LMc3.out; omega); intro v653 w8 ho hb hg hat; rw [← Ny652.out] at ho; replace HB := aS (hb); have HO654 := aS (ho); clear HO651; clear ho hb hg hat) | ((with_reducible refine gate_callee (f := 110) rfl ?_); refine goesL_ (some 14) rfl rfl Tryd.func110 jK rfl #[.string a1] rfl jA ?_; (with_reducible refine (spec_NameOk.calls k a1 t655 _ A4.out).mono ?_); rintro e w9 ⟨rfl, hb⟩; refine ⟨_, rfl, ?_⟩; replace HO654 := aS (Kd.R_below (rU HO654.out) hb); replace HB := aS (below_step (wU HB.out) hb); clear hb))
  (try simp only [Act.put, List.setIfInBounds_toArray, List.set_cons_zero, List.set_cons_succ])
  have H := HC5.out
  clear HC5
  by_cases c10 : t655 = true
  ·subst c10
   rw [if_pos rfl] at H
   obtain ⟨t656, A11, H⟩ := bM H
   try dsimp only at H
   obtain ⟨t659, A12, H⟩ := bM H
   try dsimp only at H
   have H' := aS H
   clear H
   go_wp2_with (first | ((with_reducible refine gate_callee (f := 120) rfl ?_); refine goesL_ (some 18) rfl rfl Tryd.func120 jK rfl #[.string a1] rfl jA ?_; (with_reducible refine (spec_Above.calls k a1 t656 _ A11.out).mono ?_); rintro e w13 ⟨v657, rfl, ho0, hb⟩; refine ⟨_, rfl, ?_⟩; replace HO654 := aS (Kd.R_below (rU HO654.out) hb); have HO658 := aS (Kd.R_lower ho0 (below_size (wU HB.out))); replace HB := aS (below_step (wU HB.out) hb); clear hb; (try clear ho0)) | ((with_reducible refine gate_callee (f := 121) rfl ?_); refine goesL_ (some 20) rfl rfl Tryd.func121 jK rfl #[.string a1] rfl jA ?_; (with_reducible refine (spec_Labels.calls k a1 t659 _ A12.out).mono ?_); rintro e w14 ⟨v660, rfl, ho0, hb⟩; refine ⟨_, rfl, ?_⟩; replace HO654 := aS (Kd.R_below (rU HO654.out) hb); have HO661 := aS (Kd.R_lower (Kd.R_new' ho0 (Kd.R_lt (rU HO658.out))) (below_size (wU HB.out))); replace HO658 := aS (Kd.R_elder' (rU HO658.out) (Kd.R_base ho0) hb); replace HB := aS (below_step (wU HB.out) hb); clear hb; (try clear ho0)))
   go_loopg [5, 8] k (fun kq v5 v8 w' => ∃ (x5_1 : List Int) (x8_1 : Int), v8 = .int .i64 x8_1 ∧ Aside0 (spec_PutName.l0 kq l0 x5_1 t656 t659 x8_1 = some r) ∧ Aside0 (kq ≤ k) ∧ Aside0 (Kd.R (Kd.int .u8) 5 w' w.heap.size (fun _ => True) v5 x5_1) ∧ Aside0 (Kd.R Kd.string 9 w' w.heap.size (fun k_ => some k_ ≠ (v660 : Value).ownBlock) v657 t656) ∧ Aside0 (Kd.R Kd.string 9 w' w.heap.size (fun k_ => some k_ ≠ (v657 : Value).ownBlock) v660 t659) ∧ Aside0 (Below w.heap.size w w'))
   case atStart => exact ⟨(y652), (0), jB, H', ⟨Nat.le_refl _⟩, ⟨by exact rU HO654.out⟩, ⟨by (with_reducible repeat (first | apply Kd.R_alloc | apply Kd.R_drewN | apply Kd.R_drew)); exact Kd.R_mono HO658.out (fun _ hk => hk.2)⟩, ⟨by (with_reducible repeat (first | apply Kd.R_alloc | apply Kd.R_drewN | apply Kd.R_drew)); exact Kd.R_mono HO661.out (fun _ hk => hk.2)⟩, ⟨by exact wU HB.out⟩⟩
   case round =>
    clear H'
    try clear c1
    try clear p2
    try clear c3
    try clear c6
    try clear c10
    try clear c11
    try clear c12
    obtain ⟨x5_1, x8_1, rfl, HA, HK1, HO_5, HO_6, HO_7, HB⟩ := hrel
    cases gk with
    | zero => exact absurd HA.out (by simp [spec_PutName.l0])
    | succ k1 =>
     have H := HA.out
     clear HA
     simp only [spec_PutName.l0] at H
     by_cases c15 : x8_1 < (t659.length : Int)
     ·rw [if_pos c15] at H
      have c15b0 := decide_eq_true c15
      clear c15
      (first | rw [c15b0] | (simp only [i64_w, i32_w]; rw [c15b0]) | skip)
      by_cases c16 : 0 ≤ x8_1
      ·rw [if_pos c16] at H
       have c16b0 := decide_eq_true c16
       clear c16
       by_cases c17 : x8_1 < (t656.length : Int)
       ·rw [if_pos c17] at H
        have c17b0 := decide_eq_true c17
        clear c17
        obtain ⟨t666, A18, H⟩ := bM H
        try dsimp only at H
        by_cases c19 : t666 ≥ 0
        ·rw [if_pos c19] at H
         have c19b0 := decide_eq_true c19
         clear c19
         obtain ⟨y667, hy_⟩ : ∃ y_ : List Int, y_ = (([(wrap64 (192 + (wrap64 (Int.tdiv t666 256)))) % 256, (Int.tmod t666 256) % 256] : List Int)) := ⟨_, rfl⟩
         replace H : (if x5_1.length + y667.length < 140737488355328 then (some (x5_1 ++ y667)) else (none)) = some r := jD
         have Ny667 := aS hy_
         clear hy_
         by_cases c20 : x5_1.length + y667.length < 140737488355328
         ·rw [if_pos c20] at H
          have LMc20 := aS c20
          clear c20
          obtain ⟨y670, hy_⟩ : ∃ y_ : List Int, y_ = (x5_1 ++ y667) := ⟨_, rfl⟩
          replace H : (some y670) = some r := jD
          have Ny670 := aS hy_
          clear hy_
          obtain rfl := Option.some.inj H
          obtain ⟨Ao21, co21, eo21⟩ := Kd.R_slice HO_7.out
          subst eo21
          obtain ⟨Ao22, co22, eo22⟩ := Kd.R_slice HO_6.out
          subst eo22
          have p665 : 0 ≤ (x8_1 : Int) := of_decide_eq_true jC
          have q665 : x8_1 < (t656.length : Int) := of_decide_eq_true jC
          obtain ⟨ad665, e665, hx665_0⟩ := Kd.at_string (Kd.R_reads' HO_6.out).2.2 x8_1 p665 q665
          cases e665
          replace p665 := eq_true p665
          replace q665 := eq_true q665
          go_wp2_with (first | ((with_reducible refine gate_callee (f := 122) rfl ?_); refine goesL_ (some 32) rfl rfl Tryd.func122 jK rfl #[.slice A0 l0.length c0, .string (rdOf ByteArray.empty t656 x8_1)] rfl jA ?_; (with_reducible refine (spec_PlaceOf.calls k1 _ _ l0 (rdOf ByteArray.empty t656 x8_1) t666 _ ?side1 ?side2 A18.out).mono ?_); (case side1 => exact cU ((Kd.C_below HR0.out HB.out))); (case side2 => exact HC0.out); rintro e w23 ⟨rfl, hb⟩; refine ⟨_, rfl, ?_⟩; replace HO_5 := aS (Kd.R_below (rU HO_5.out) hb); replace HO_6 := aS (Kd.R_below (rU HO_6.out) hb); replace HO_7 := aS (Kd.R_below (rU HO_7.out) hb); replace HB := aS (below_step (wU HB.out) hb); clear hb) | ((with_reducible refine gate_dst (N := 43) rfl ?_); refine Kd.R_lit (Kd.int .u8) _ 5 ?hg (N := 43) ?hd (xs := ([(wrap64 (192 + (wrap64 (Int.tdiv t666 256)))) % 256, (Int.tmod t666 256) % 256] : List Int)) (inner := [.int .u8 ((wrap64 (192 + (wrap64 (Int.tdiv t666 256)))) % 256), .int .u8 ((Int.tmod t666 256) % 256)]) (ok := fun _ => True) (okp := fun _ => True) ?hr ?hp (fun _ hk => hk) trivial (Below.refl _ _) (Nat.le_refl _) (by simp) ?_; (case hd => rfl); (case hg => rfl); (case hr => first | (go_simp; done) | (go_simp; rfl)); (case hp => exact (Reps.one (show Kd.M (Kd.int .u8) _ _ _ ((wrap64 (192 + (wrap64 (Int.tdiv t666 256)))) % 256) [.int .u8 ((wrap64 (192 + (wrap64 (Int.tdiv t666 256)))) % 256)] from rfl) (Reps.one (show Kd.M (Kd.int .u8) _ _ _ ((Int.tmod t666 256) % 256) [.int .u8 ((Int.tmod t666 256) % 256)] from rfl) (Reps.none _ _)))); intro v668 w24 ho25 hb hg_ hnew_; clear hg_ hnew_; (first | rw [← Ny667.out] at ho25 | (simp only [Int.reduceToNat] at ho25; rw [← Ny667.out] at ho25)); replace HO_6 := aS (Kd.R_below (rU HO_6.out) hb); replace HO_7 := aS (Kd.R_below (rU HO_7.out) hb); have HO669 := aS (Kd.R_lower (Kd.R_new' ho25 (Kd.R_lt (rU HO_5.out))) (below_size (wU HB.out))); replace HO_5 := aS (Kd.R_elder' (rU HO_5.out) (Kd.R_base ho25) hb); replace HB := aS (below_step (wU HB.out) hb); clear hb ho25; obtain ⟨Ao27, co27, eo27⟩ := Kd.R_slice HO669.out; subst eo27) | ((with_reducible refine gate_builtin (b := .append) (xs := #[.tmp 35, .tmp 43]) rfl ?_); at_builtin; refine Kd.R_append_rows (Kd.int .u8) (w0 := w) w.heap.size rfl (.tmp 35) (.tmp 43) 22 5 (.int .u8 0) 1 rfl Tryd.underlying22 info5 rfl (by decide) (by omega) u5 x5_1 y667 _ _ _ (fun k_ => some k_ ≠ (.slice Ao27 y667.length co27 : Value).ownBlock) (fun _ => False) rfl rfl ?aO ?aR (fun _ _ h => h) (fun _ h => h.elim) ?aF ?aB ?aS ?aL ?_; (case aR => exact cU ((Kd.R_reads' HO669.out).2.2)); (case aB => exact (wU HB.out)); (case aF => exact (fun k_ hk => Kd.fresh' (Kd.R_lt (rU HO669.out)) k_ hk)); (case aO => exact (by (with_reducible repeat (first | apply Kd.R_alloc | apply Kd.R_drewN | apply Kd.R_drew)); exact Kd.R_mono HO_5.out (fun _ hk => hk.2))); (case aS => exact (below_size (wU HB.out))); (case aL => have := LMc20.out; omega); intro v671 w26 ho hb hg hat; rw [← Ny670.out] at ho; replace HO_6 := aS (Kd.R_over' (rU HO_6.out) (Kd.R_typed (rU HO_5.out)) (by decide) hg); replace HO_7 := aS (Kd.R_over' (rU HO_7.out) (Kd.R_typed (rU HO_5.out)) (by decide) hg); replace HO669 := aS (Kd.R_after (ok := (fun _ => True)) (rU HO669.out) hg hat); replace HB := aS (hb); have HO672 := aS (ho); clear HO_5; clear ho hb hg hat))
          go_ret
          exact ⟨_, jE, Kd.R_mono (rU HO672.out) (fun _ hk => trivial), by exact wU HB.out⟩
         ·rw [if_neg c20] at H
          exact absurd H (by simp)
        ·rw [if_neg c19] at H
         have c19b0 := decide_eq_false c19
         clear c19
         obtain ⟨t674, A28, H⟩ := bM H
         try dsimp only at H
         have H' := aS H
         clear H
         obtain ⟨Ao29, co29, eo29⟩ := Kd.R_slice HO_7.out
         subst eo29
         obtain ⟨Ao30, co30, eo30⟩ := Kd.R_slice HO_6.out
         subst eo30
         have p665 : 0 ≤ (x8_1 : Int) := of_decide_eq_true jC
         have q665 : x8_1 < (t656.length : Int) := of_decide_eq_true jC
         obtain ⟨ad665, e665, hx665_0⟩ := Kd.at_string (Kd.R_reads' HO_6.out).2.2 x8_1 p665 q665
         cases e665
         replace p665 := eq_true p665
         replace q665 := eq_true q665
         go_wp2_with (first | ((with_reducible refine gate_callee (f := 122) rfl ?_); refine goesL_ (some 32) rfl rfl Tryd.func122 jK rfl #[.slice A0 l0.length c0, .string (rdOf ByteArray.empty t656 x8_1)] rfl jA ?_; (with_reducible refine (spec_PlaceOf.calls k1 _ _ l0 (rdOf ByteArray.empty t656 x8_1) t666 _ ?side1 ?side2 A18.out).mono ?_); (case side1 => exact cU ((Kd.C_below HR0.out HB.out))); (case side2 => exact HC0.out); rintro e w31 ⟨rfl, hb⟩; refine ⟨_, rfl, ?_⟩; replace HO_5 := aS (Kd.R_below (rU HO_5.out) hb); replace HO_6 := aS (Kd.R_below (rU HO_6.out) hb); replace HO_7 := aS (Kd.R_below (rU HO_7.out) hb); replace HB := aS (below_step (wU HB.out) hb); clear hb; have p673 : 0 ≤ (x8_1 : Int) := of_decide_eq_true jC; have q673 : x8_1 < (t659.length : Int) := of_decide_eq_true jC; obtain ⟨ad673, e673, hx673_0⟩ := Kd.at_string (Kd.R_reads' HO_7.out).2.2 x8_1 p673 q673; cases e673; replace p673 := eq_true p673; replace q673 := eq_true q673; obtain ⟨Ao32, co32, eo32⟩ := Kd.R_slice HO_5.out; subst eo32) | ((with_reducible refine gate_callee (f := 123) rfl ?_); refine goesL_ (some 50) rfl rfl Tryd.func123 jK rfl #[.slice Ao32 x5_1.length co32, .string (rdOf ByteArray.empty t659 x8_1)] rfl jA ?_; (with_reducible refine (spec_PutLabel.calls k1 _ _ x5_1 (rdOf ByteArray.empty t659 x8_1) t674 _ ?side1 ?side2 A28.out).mono ?_); (case side1 => exact cU ((Kd.R_reads' HO_5.out).2.2)); (case side2 => exact (Kd.R_reads' HO_5.out).2.1); rintro e w33 ⟨v675, rfl, ho0, hb⟩; refine ⟨_, rfl, ?_⟩; replace HO_6 := aS (Kd.R_below (rU HO_6.out) hb); replace HO_7 := aS (Kd.R_below (rU HO_7.out) hb); have HO676 := aS (Kd.R_lower (Kd.R_new' ho0 (Kd.R_lt (rU HO_5.out))) (below_size (wU HB.out))); replace HO_5 := aS (Kd.R_elder' (rU HO_5.out) (Kd.R_base ho0) hb); replace HB := aS (below_step (wU HB.out) hb); clear hb; (try clear ho0)))
         go_roundg k1
         case measure => have := HK1.out; omega
         case rel => exact ⟨(t674), (wrap64 (x8_1 + 1)), jB, H', ⟨by have := HK1.out; omega⟩, ⟨Kd.R_mono (rU HO676.out) (fun _ hk => trivial)⟩, ⟨by exact rU HO_6.out⟩, ⟨by exact rU HO_7.out⟩, ⟨by exact wU HB.out⟩⟩
       ·rw [if_neg c17] at H
        exact absurd H (by simp)
      ·rw [if_neg c16] at H
       exact absurd H (by simp)
     ·rw [if_neg c15] at H
      have c15b0 := decide_eq_false c15
      clear c15
      (first | rw [c15b0] | (simp only [i64_w, i32_w]; rw [c15b0]) | skip)
      by_cases c34 : x5_1.length < 140737488355328
      ·rw [if_pos c34] at H
       have LMc34 := aS c34
       clear c34
       obtain ⟨y662, hy_⟩ : ∃ y_ : List Int, y_ = (x5_1 ++ [0]) := ⟨_, rfl⟩
       replace H : (some y662) = some r := jD
       have Ny662 := aS hy_
       clear hy_
       obtain rfl := Option.some.inj H
       obtain ⟨Ao35, co35, eo35⟩ := Kd.R_slice HO_7.out
       subst eo35
       go_wp2_with (first | ((with_reducible refine gate_builtin (b := .append) (xs := #[.tmp 51, .tmp 52]) rfl ?_); at_builtin; refine Kd.R_append (Kd.int .u8) (w0 := w) w.heap.size rfl (.tmp 51) (.tmp 52) 22 5 (.int .u8 0) 1 rfl Tryd.underlying22 info5 rfl (by decide) (by omega) u5 x5_1 0 [.int .u8 0] (fun _ => True) (fun _ => False) rfl rfl ?aP (fun _ hk => hk.elim) ?aF ?aO ?aB ?aS ?aL ?_; (case aP => exact rfl); (case aB => exact (wU HB.out)); (case aF => exact (fun _ _ => trivial)); (case aO => exact (rU HO_5.out)); (case aS => exact (below_size (wU HB.out))); (case aL => have := LMc34.out; omega); intro v663 w36 ho hb hg hat; rw [← Ny662.out] at ho; replace HO_6 := aS (Kd.R_over' (rU HO_6.out) (Kd.R_typed (rU HO_5.out)) (by decide) hg); replace HO_7 := aS (Kd.R_over' (rU HO_7.out) (Kd.R_typed (rU HO_5.out)) (by decide) hg); replace HB := aS (hb); have HO664 := aS (ho); clear HO_5; clear ho hb hg hat))
       go_ret
       exact ⟨_, jE, by exact rU HO664.out, by exact wU HB.out⟩
      ·rw [if_neg c34] at H
       exact absurd H (by simp)
  ·replace c10 := Bool.eq_false_iff.mpr c10
   subst c10
   rw [if_neg Bool.false_ne_true] at H
   obtain rfl := Option.some.inj H
   go_wp2
   go_ret
   exact ⟨_, jE, by exact rU HO654.out, by exact wU HB.out⟩
 ·rw [if_neg c3] at H
  exact absurd H (by simp)

/-! ### spec_PutRecord: function 13 -/
def spec_PutRecord.f (k : Nat) (l0 : List Int) (a1_0 : ByteArray) (a1_1 : Int) (a1_2 : Int) (a1_3 : Int) (a1_4 : ByteArray) (a1_5 : ByteArray) : Option (List Int) := (spec_RecordOk.f k a1_0 a1_1 a1_2 a1_3 a1_4 a1_5).bind fun t678 => (if t678 = true then ((spec_PutName.f k l0 a1_0).bind fun t685 => ((spec_Put2.f t685 a1_1).bind fun t688 => ((spec_Put2.f t688 1).bind fun t691 => ((spec_Put4.f t691 a1_2).bind fun t694 => ((spec_PutData.f k a1_0 a1_1 a1_2 a1_3 a1_4 a1_5).bind fun t697 => ((spec_Put2.f t694 (t697.length : Int)).bind fun t700 => (if t700.length + t697.length < 140737488355328 then (some (t700 ++ t697)) else (none)))))))) else ((some (([] : List Int) : List Int)).bind fun y679 => (if y679.length + l0.length < 140737488355328 then (some (y679 ++ l0)) else (none))))
theorem spec_PutRecord.mono : ∀ a0 a1 a2 a3 a4 a5 a6 k, LeO (spec_PutRecord.f k a0 a1 a2 a3 a4 a5 a6) (spec_PutRecord.f (k + 1) a0 a1 a2 a3 a4 a5 a6) := by
 intro a0 a1 a2 a3 a4 a5 a6 k
 unfold spec_PutRecord.f
 repeat' first
   | (with_reducible first | exact spec_PutData.mono _ _ _ _ _ _ _ | exact spec_PutName.mono _ _ _ | exact spec_RecordOk.mono _ _ _ _ _ _ _ | exact LeO.refl _ | exact LeO.none _ | refine LeO.ite ?_ ?_ | refine LeO.bind ?_ (fun _ => ?_))
   | exact spec_PutData.mono _ _ _ _ _ _ _
   | exact spec_PutName.mono _ _ _
   | exact spec_RecordOk.mono _ _ _ _ _ _ _
   | exact LeO.none _
   | refine LeO.ite ?_ ?_
   | refine LeO.bind ?_ (fun _ => ?_)
def spec_PutRecord.T3 : Bool × List (List Nat × List Nat) := (true, [([], []), ([], []), ([1], [1]), ([0, 2], [0, 2]), ([], []), ([4], [4]), ([3, 5, 3], [3, 5]), ([6, 6], [6]), ([], []), ([8], [8]), ([7, 9, 7], [7, 9]), ([10, 10, 0, 1, 2, 3, 4, 5, 6, 7, 8, 9, 10], [10])])
def spec_PutRecord.B3 : List Nat := [0, 0, 2, 7, 0, 16, 63, 127, 0, 256, 1023, 2047]
theorem spec_PutRecord.tab3 : rtab .any (opsOf Tryd.f13 3) = spec_PutRecord.T3 := by kernel_rfl
theorem spec_PutRecord.bits3 : waitsOk spec_PutRecord.T3.2 spec_PutRecord.B3 = true := by kernel_rfl
set_option maxHeartbeats 8000000 in
set_option maxRecDepth 100000 in
theorem spec_PutRecord.calls (k : Nat) (A0 : Option Addr) (c0 : Nat) (l0 : List Int) (a1_0 : ByteArray) (a1_1 : Int) (a1_2 : Int) (a1_3 : Int) (a1_4 : ByteArray) (a1_5 : ByteArray) (r : List Int) (w : World) (hr0 : Kd.C (Kd.int .u8) w A0 l0.length l0) (hc0 : l0.length ≤ c0) (h : spec_PutRecord.f k l0 a1_0 a1_1 a1_2 a1_3 a1_4 a1_5 = some r) :
  Calls Tryd.prog 13 #[.slice A0 l0.length c0, .agg #[.string a1_0, .int .i64 a1_1, .int .i64 a1_2, .int .i64 a1_3, .string a1_4, .string a1_5]] w fun e w' => ∃ v0_ : Value, e = .returned (v0_) ∧ Kd.R (Kd.int .u8) 5 w' w.heap.size (fun _ => True) v0_ r ∧ Below w.heap.size w w' := by
 have hu25 := Tryd.underlying25
 have HR0 := aS hr0
 have HC0 := aS hc0
 clear hr0 hc0
 have HB := aS (Below.refl w.heap.size w)
 have H : ((spec_RecordOk.f k a1_0 a1_1 a1_2 a1_3 a1_4 a1_5).bind fun t678 => (if t678 = true then ((spec_PutName.f k l0 a1_0).bind fun t685 => ((spec_Put2.f t685 a1_1).bind fun t688 => ((spec_Put2.f t688 1).bind fun t691 => ((spec_Put4.f t691 a1_2).bind fun t694 => ((spec_PutData.f k a1_0 a1_1 a1_2 a1_3 a1_4 a1_5).bind fun t697 => ((spec_Put2.f t694 (t697.length : Int)).bind fun t700 => (if t700.length + t697.length < 140737488355328 then (some (t700 ++ t697)) else (none)))))))) else ((some (([] : List Int) : List Int)).bind fun y679 => (if y679.length + l0.length < 140737488355328 then (some (y679 ++ l0)) else (none))))) = some r := h
 clear h
 obtain ⟨t678, A3, H⟩ := bM H
 try dsimp only at H
 by_cases c4 : t678 = true
 ·subst c4
  rw [if_pos rfl] at H
  obtain ⟨t685, A5, H⟩ := bM H
  try dsimp only at H
  obtain ⟨t688, A6, H⟩ := bM H
  try dsimp only at H
  obtain ⟨t691, A7, H⟩ := bM H
  try dsimp only at H
  obtain ⟨t694, A8, H⟩ := bM H
  try dsimp only at H
  obtain ⟨t697, A9, H⟩ := bM H
  try dsimp only at H
  obtain ⟨t700, A10, H⟩ := bM H
  try dsimp only at H
  by_cases c11 : t700.length + t697.length < 140737488355328
  ·rw [if_pos c11] at H
   have LMc11 := aS c11
   clear c11
   obtain ⟨y703, hy_⟩ : ∃ y_ : List Int, y_ = (t700 ++ t697) := ⟨_, rfl⟩
   replace H : (some y703) = some r := jD
   have Ny703 := aS hy_
   clear hy_
   obtain rfl := Option.some.inj H
   go_enter Tryd.func13, Tryd.ntmps13
   try go_wp2_with (first | ((with_reducible refine gate_dst (N := 3) rfl ?_); refine box_event ?hg (N := 3) ?hd (cs := #[.string a1_0, .int .i64 a1_1, .int .i64 a1_2, .int .i64 a1_3, .string a1_4, .string a1_5]) (t := 25) ?hr ?_; (case hd => rfl); (case hg => rfl); (case hr => first | (go_simp; done) | (go_simp; rfl)); intro gb677 hg w12 hbox hb; have BK677 := aS (hbox); have GW677 := aS ((by rw [hg]; exact (below_size (wU HB.out)) : w.heap.size ≤ gb677)); have GE677 := aS ((by rw [hg]; exact (below_size (wU HB.out)) : w.heap.size ≤ gb677)); replace HB := aS (below_step (wU HB.out) hb); clear hb hbox hg; have hcz13 := cells6f BK677.out) | ((with_reducible refine gate_callee (f := 54) rfl ?_); refine goesL_ (some 8) rfl rfl Tryd.func54 jK rfl #[.agg #[.string a1_0, .int .i64 a1_1, .int .i64 a1_2, .int .i64 a1_3, .string a1_4, .string a1_5]] rfl jA ?_; (with_reducible refine (spec_RecordOk.calls k a1_0 a1_1 a1_2 a1_3 a1_4 a1_5 true _ A3.out).mono ?_); rintro e w14 ⟨rfl, hb⟩; refine ⟨_, rfl, ?_⟩; replace BK677 := aS (blk_below (bU BK677.out) hb); replace HB := aS (below_step (wS1 HB.out GE677.out) hb); clear hb))
   replace BK677 := aS (blk_drew BK677.out)
   replace HB := aS (below_drew1 HB.out)
   refine start_ (n := 12) (S := fun w' => w'.cell? ⟨gb677, 0, none⟩ = some (.string a1_0) ∧ w'.cell? ⟨gb677, 1, none⟩ = some (.int .i64 a1_1) ∧ w'.cell? ⟨gb677, 2, none⟩ = some (.int .i64 a1_2) ∧ w'.cell? ⟨gb677, 3, none⟩ = some (.int .i64 a1_3) ∧ w'.cell? ⟨gb677, 4, none⟩ = some (.string a1_4) ∧ w'.cell? ⟨gb677, 5, none⟩ = some (.string a1_5)) (ds := []) #[false, false, false, false, false, false, false, false, false, false, false, false] jK rfl rfl ⟨(blk_cell BK677.out 0).trans rfl, (blk_cell BK677.out 1).trans rfl, (blk_cell BK677.out 2).trans rfl, (blk_cell BK677.out 3).trans rfl, (blk_cell BK677.out 4).trans rfl, (blk_cell BK677.out 5).trans rfl⟩ (fun hHeld => ?_); refine with_tabW spec_PutRecord.tab3 spec_PutRecord.bits3 (fun HT_ HW_ => ?_)
   generalize w14.drew = w15 at BK677 HB hHeld ⊢
   refine pure_ (i := 0) (N := some 13) (v := ?_) (a' := ?_) #[true, false, false, false, false, false, false, false, false, false, false, false] rfl rfl (any_of HT_.out jK) (fun _ _ _ h => h) (Or.inl ⟨by rfl, ?_⟩) ?_ ?_
   rotate_left
   ·intro w'
    go_simp
    with_reducible rfl
   rotate_left
   ·simp only [Act.put, List.setIfInBounds_toArray, List.set_cons_zero, List.set_cons_succ, i64_w, i32_w]
    rfl
   refine pure_ (i := 1) (N := some 14) (v := ?_) (a' := ?_) #[true, true, false, false, false, false, false, false, false, false, false, false] rfl rfl (any_of HT_.out jK) (fun _ _ _ h => h) (Or.inl ⟨by rfl, ?_⟩) ?_ ?_
   rotate_left
   ·intro w'
    go_simp
    with_reducible rfl
   rotate_left
   ·simp only [Act.put, List.setIfInBounds_toArray, List.set_cons_zero, List.set_cons_succ, i64_w, i32_w]
    rfl
   refine pure_ (i := 4) (N := some 17) (v := ?_) (a' := ?_) #[true, true, false, false, true, false, false, false, false, false, false, false] rfl rfl (any_of HT_.out jK) (fun _ _ _ h => h) (Or.inl ⟨by rfl, ?_⟩) ?_ ?_
   rotate_left
   ·intro w'
    go_simp
    with_reducible rfl
   rotate_left
   ·simp only [Act.put, List.setIfInBounds_toArray, List.set_cons_zero, List.set_cons_succ, i64_w, i32_w]
    rfl
   refine pure_ (i := 8) (N := some 21) (v := ?_) (a' := ?_) #[true, true, false, false, true, false, false, false, true, false, false, false] rfl rfl (any_of HT_.out jK) (fun _ _ _ h => h) (Or.inl ⟨by rfl, ?_⟩) ?_ ?_
   rotate_left
   ·intro w'
    go_simp
    with_reducible rfl
   rotate_left
   ·simp only [Act.put, List.setIfInBounds_toArray, List.set_cons_zero, List.set_cons_succ, i64_w, i32_w]
    rfl
   refine take_ (i := 2) (N := some 15) (v := ?_) (a' := ?_) #[true, true, true, false, true, false, false, false, true, false, false, false] rfl rfl (take_ofW HT_.out HW_.out jK) (fun _ _ _ h => h) (Or.inl ⟨by rfl, ?_⟩) hHeld ?_ ?_
   rotate_left
   ·rintro w' ⟨s0, s1, s2, s3, s4, s5⟩
    go_simp
    with_reducible rfl
   rotate_left
   ·simp only [Act.put, List.setIfInBounds_toArray, List.set_cons_zero, List.set_cons_succ, i64_w, i32_w]
    rfl
   refine take_ (i := 5) (N := some 18) (v := ?_) (a' := ?_) #[true, true, true, false, true, true, false, false, true, false, false, false] rfl rfl (take_ofW HT_.out HW_.out jK) (fun _ _ _ h => h) (Or.inl ⟨by rfl, ?_⟩) hHeld ?_ ?_
   rotate_left
   ·rintro w' ⟨s0, s1, s2, s3, s4, s5⟩
    go_simp
    with_reducible rfl
   rotate_left
   ·simp only [Act.put, List.setIfInBounds_toArray, List.set_cons_zero, List.set_cons_succ, i64_w, i32_w]
    rfl
   refine take_ (i := 9) (N := some 22) (v := ?_) (a' := ?_) #[true, true, true, false, true, true, false, false, true, true, false, false] rfl rfl (take_ofW HT_.out HW_.out jK) (fun _ _ _ h => h) (Or.inl ⟨by rfl, ?_⟩) hHeld ?_ ?_
   rotate_left
   ·rintro w' ⟨s0, s1, s2, s3, s4, s5⟩
    go_simp
    with_reducible rfl
   rotate_left
   ·simp only [Act.put, List.setIfInBounds_toArray, List.set_cons_zero, List.set_cons_succ, i64_w, i32_w]
    rfl
   refine one_ (i := 3) (N := some 16) #[true, true, true, true, true, true, false, false, true, true, false, false] rfl rfl (one_of HT_.out jK) (by decide) (fun K hK => ?_)
   refine goes_ Tryd.func65 jK rfl #[.slice A0 l0.length c0, .string a1_0] (by rfl) rfl rfl jA ?_
   with_reducible refine (spec_PutName.calls k _ _ l0 a1_0 t685 _ ?side1 ?side2 A5.out).mono ?_
   (case side1 => exact cU ((Kd.C_below HR0.out HB.out)))
   (case side2 => exact HC0.out)
   rintro e w16 ⟨v686, rfl, ho0, hb⟩
   refine ⟨_, rfl, ?_⟩
   have HO687 := aS (Kd.R_lower ho0 (below_size (wS1 HB.out GE677.out)))
   replace BK677 := aS (blk_below (bU BK677.out) hb)
   replace HB := aS (below_step (wS1 HB.out GE677.out) hb)
   (try clear hb)
   (try clear hb2)
   (try clear hk)
   (try clear hi)
   (try clear ho0)
   obtain ⟨Ao17, co17, eo17⟩ := Kd.R_slice HO687.out
   (first | subst eo17 | (injection eo17 with f1_ f2_ f3_; have f4_ := f1_.symm; have f5_ := f3_.symm; clear f1_ f2_ f3_; subst f4_; subst f5_))
   refine hK.out _ _ ⟨(blk_cell BK677.out 0).trans rfl, (blk_cell BK677.out 1).trans rfl, (blk_cell BK677.out 2).trans rfl, (blk_cell BK677.out 3).trans rfl, (blk_cell BK677.out 4).trans rfl, (blk_cell BK677.out 5).trans rfl⟩ (fun hHeld => ?_)
   clear hK K
   refine norm_ (a' := ?_) ?_ ?_
   rotate_left
   ·show Act.put _ (some 16) _ = _
    simp only [Act.put, List.setIfInBounds_toArray, List.set_cons_zero, List.set_cons_succ, i64_w, i32_w]
    rfl
   refine one_ (i := 6) (N := some 19) #[true, true, true, true, true, true, true, false, true, true, false, false] rfl rfl (one_of HT_.out jK) (by decide) (fun K hK => ?_)
   refine goes_ Tryd.func64 jK rfl #[.slice Ao17 t685.length co17, .int .i64 a1_1] (by rfl) rfl rfl jA ?_
   with_reducible refine (spec_Put2.calls _ _ t685 a1_1 t688 _ ?side1 ?side2 A6.out).mono ?_
   (case side1 => exact cU ((Kd.R_reads' HO687.out).2.2))
   (case side2 => exact (Kd.R_reads' HO687.out).2.1)
   rintro e w18 ⟨v689, rfl, ho0, hb⟩
   refine ⟨_, rfl, ?_⟩
   have HO690 := aS (Kd.R_lower (Kd.R_new' ho0 (Kd.R_lt (rU HO687.out))) (below_size (wS1 HB.out GE677.out)))
   replace HO687 := aS (Kd.R_elder' (rU HO687.out) (Kd.R_base ho0) hb)
   replace BK677 := aS (blk_below (bU BK677.out) hb)
   replace HB := aS (below_step (wS1 HB.out GE677.out) hb)
   (try clear hb)
   (try clear hb2)
   (try clear hk)
   (try clear hi)
   (try clear ho0)
   obtain ⟨Ao19, co19, eo19⟩ := Kd.R_slice HO690.out
   (first | subst eo19 | (injection eo19 with f1_ f2_ f3_; have f4_ := f1_.symm; have f5_ := f3_.symm; clear f1_ f2_ f3_; subst f4_; subst f5_))
   refine hK.out _ _ ⟨(blk_cell BK677.out 0).trans rfl, (blk_cell BK677.out 1).trans rfl, (blk_cell BK677.out 2).trans rfl, (blk_cell BK677.out 3).trans rfl, (blk_cell BK677.out 4).trans rfl, (blk_cell BK677.out 5).trans rfl⟩ (fun hHeld => ?_)
   clear hK K
   refine norm_ (a' := ?_) ?_ ?_
   rotate_left
   ·show Act.put _ (some 19) _ = _
    simp only [Act.put, List.setIfInBounds_toArray, List.set_cons_zero, List.set_cons_succ, i64_w, i32_w]
    rfl
   refine one_ (i := 7) (N := some 20) #[true, true, true, true, true, true, true, true, true, true, false, false] rfl rfl (one_of HT_.out jK) (by decide) (fun K hK => ?_)
   refine goes_ Tryd.func64 jK rfl #[.slice Ao19 t688.length co19, .int .i64 1] (by rfl) rfl rfl jA ?_
   with_reducible refine (spec_Put2.calls _ _ t688 1 t691 _ ?side1 ?side2 A7.out).mono ?_
   (case side1 => exact cU ((Kd.R_reads' HO690.out).2.2))
   (case side2 => exact (Kd.R_reads' HO690.out).2.1)
   rintro e w20 ⟨v692, rfl, ho0, hb⟩
   refine ⟨_, rfl, ?_⟩
   have HO693 := aS (Kd.R_lower (Kd.R_new' (Kd.R_new' ho0 (Kd.R_lt (rU HO687.out))) (Kd.R_lt (rU HO690.out))) (below_size (wS1 HB.out GE677.out)))
   replace HO687 := aS (Kd.R_elder' (rU HO687.out) (Kd.R_base ho0) hb)
   replace HO690 := aS (Kd.R_elder' (rU HO690.out) (Kd.R_base ho0) hb)
   replace BK677 := aS (blk_below (bU BK677.out) hb)
   replace HB := aS (below_step (wS1 HB.out GE677.out) hb)
   (try clear hb)
   (try clear hb2)
   (try clear hk)
   (try clear hi)
   (try clear ho0)
   obtain ⟨Ao21, co21, eo21⟩ := Kd.R_slice HO693.out
   (first | subst eo21 | (injection eo21 with f1_ f2_ f3_; have f4_ := f1_.symm; have f5_ := f3_.symm; clear f1_ f2_ f3_; subst f4_; subst f5_))
   refine hK.out _ _ ⟨(blk_cell BK677.out 0).trans rfl, (blk_cell BK677.out 1).trans rfl, (blk_cell BK677.out 2).trans rfl, (blk_cell BK677.out 3).trans rfl, (blk_cell BK677.out 4).trans rfl, (blk_cell BK677.out 5).trans rfl⟩ (fun hHeld => ?_)
   clear hK K
   refine norm_ (a' := ?_) ?_ ?_
   rotate_left
   ·show Act.put _ (some 20) _ = _
    simp only [Act.put, List.setIfInBounds_toArray, List.set_cons_zero, List.set_cons_succ, i64_w, i32_w]
    rfl
   refine one_ (i := 10) (N := some 23) #[true, true, true, true, true, true, true, true, true, true, true, false] rfl rfl (one_of HT_.out jK) (by decide) (fun K hK => ?_)
   refine goes_ Tryd.func63 jK rfl #[.slice Ao21 t691.length co21, .int .i64 a1_2] (by rfl) rfl rfl jA ?_
   with_reducible refine (spec_Put4.calls _ _ t691 a1_2 t694 _ ?side1 ?side2 A8.out).mono ?_
   (case side1 => exact cU ((Kd.R_reads' HO693.out).2.2))
   (case side2 => exact (Kd.R_reads' HO693.out).2.1)
   rintro e w22 ⟨v695, rfl, ho0, hb⟩
   refine ⟨_, rfl, ?_⟩
   have HO696 := aS (Kd.R_lower (Kd.R_new' (Kd.R_new' (Kd.R_new' ho0 (Kd.R_lt (rU HO687.out))) (Kd.R_lt (rU HO690.out))) (Kd.R_lt (rU HO693.out))) (below_size (wS1 HB.out GE677.out)))
   replace HO687 := aS (Kd.R_elder' (rU HO687.out) (Kd.R_base ho0) hb)
   replace HO690 := aS (Kd.R_elder' (rU HO690.out) (Kd.R_base ho0) hb)
   replace HO693 := aS (Kd.R_elder' (rU HO693.out) (Kd.R_base ho0) hb)
   replace BK677 := aS (blk_below (bU BK677.out) hb)
   replace HB := aS (below_step (wS1 HB.out GE677.out) hb)
   (try clear hb)
   (try clear hb2)
   (try clear hk)
   (try clear hi)
   (try clear ho0)
   refine hK.out _ _ ⟨(blk_cell BK677.out 0).trans rfl, (blk_cell BK677.out 1).trans rfl, (blk_cell BK677.out 2).trans rfl, (blk_cell BK677.out 3).trans rfl, (blk_cell BK677.out 4).trans rfl, (blk_cell BK677.out 5).trans rfl⟩ (fun hHeld => ?_)
   clear hK K
   refine norm_ (a' := ?_) ?_ ?_
   rotate_left
   ·show Act.put _ (some 23) _ = _
    simp only [Act.put, List.setIfInBounds_toArray, List.set_cons_zero, List.set_cons_succ, i64_w, i32_w]
    rfl
   refine pure_ (i := 11) (N := some 5) (v := ?_) (a' := ?_) #[true, true, true, true, true, true, true, true, true, true, true, true] rfl rfl (any_of HT_.out jK) (fun _ _ _ h => h) (Or.inl ⟨by rfl, ?_⟩) ?_ ?_
   rotate_left
   ·intro w'
    go_simp
    with_reducible rfl
   rotate_left
   ·simp only [Act.put, List.setIfInBounds_toArray, List.set_cons_zero, List.set_cons_succ, i64_w, i32_w]
    rfl
   refine done_ (done_of HT_.out jK) ?_
   have hcz23 := cells6f BK677.out
   try go_wp2_with (first | ((with_reducible refine gate_callee (f := 14) rfl ?_); refine goesL_ (some 25) rfl rfl Tryd.func14 jK rfl #[.agg #[.string a1_0, .int .i64 a1_1, .int .i64 a1_2, .int .i64 a1_3, .string a1_4, .string a1_5]] rfl jA ?_; (with_reducible refine (spec_PutData.calls k a1_0 a1_1 a1_2 a1_3 a1_4 a1_5 t697 _ A9.out).mono ?_); rintro e w24 ⟨v698, rfl, ho0, hb⟩; refine ⟨_, rfl, ?_⟩; have HO699 := aS (Kd.R_lower (Kd.R_new' (Kd.R_new' (Kd.R_new' (Kd.R_new' ho0 (Kd.R_lt (rU HO687.out))) (Kd.R_lt (rU HO690.out))) (Kd.R_lt (rU HO693.out))) (Kd.R_lt (rU HO696.out))) (below_size (wS1 HB.out GE677.out))); replace HO687 := aS (Kd.R_elder' (rU HO687.out) (Kd.R_base ho0) hb); replace HO690 := aS (Kd.R_elder' (rU HO690.out) (Kd.R_base ho0) hb); replace HO693 := aS (Kd.R_elder' (rU HO693.out) (Kd.R_base ho0) hb); replace HO696 := aS (Kd.R_elder' (rU HO696.out) (Kd.R_base ho0) hb); replace BK677 := aS (blk_below (bU BK677.out) hb); replace HB := aS (below_step (wS1 HB.out GE677.out) hb); clear hb; (try clear ho0); obtain ⟨Ao25, co25, eo25⟩ := Kd.R_slice HO699.out; subst eo25; obtain ⟨Ao26, co26, eo26⟩ := Kd.R_slice HO696.out; subst eo26) | ((with_reducible refine gate_callee (f := 64) rfl ?_); refine goesL_ (some 29) rfl rfl Tryd.func64 jK rfl #[.slice Ao26 t694.length co26, .int .i64 (t697.length : Int)] rfl jA ?_; (with_reducible refine (spec_Put2.calls _ _ t694 (t697.length : Int) t700 _ ?side1 ?side2 A10.out).mono ?_); (case side1 => exact cU ((Kd.R_reads' HO696.out).2.2)); (case side2 => exact (Kd.R_reads' HO696.out).2.1); rintro e w27 ⟨v701, rfl, ho0, hb⟩; refine ⟨_, rfl, ?_⟩; have HO702 := aS (Kd.R_lower (Kd.R_new' (Kd.R_new' (Kd.R_new' (Kd.R_new' (Kd.R_new' ho0 (Kd.R_lt (rU HO687.out))) (Kd.R_lt (rU HO690.out))) (Kd.R_lt (rU HO693.out))) (Kd.R_lt (rU HO696.out))) (Kd.R_lt (rU HO699.out))) (below_size (wS1 HB.out GE677.out))); replace HO687 := aS (Kd.R_elder' (rU HO687.out) (Kd.R_base ho0) hb); replace HO690 := aS (Kd.R_elder' (rU HO690.out) (Kd.R_base ho0) hb); replace HO693 := aS (Kd.R_elder' (rU HO693.out) (Kd.R_base ho0) hb); replace HO696 := aS (Kd.R_elder' (rU HO696.out) (Kd.R_base ho0) hb); replace HO699 := aS (Kd.R_elder' (rU HO699.out) (Kd.R_base ho0) hb); replace BK677 := aS (blk_below (bU BK677.out) hb); replace HB := aS (below_step (wS1 HB.out GE677.out) hb); clear hb; (try clear ho0)) | ((with_reducible refine gate_builtin (b := .append) (xs := #[.tmp 29, .tmp 30]) rfl ?_); at_builtin; refine Kd.R_append_rows (Kd.int .u8) (w0 := w) w.heap.size rfl (.tmp 29) (.tmp 30) 22 5 (.int .u8 0) 1 rfl Tryd.underlying22 info5 rfl (by decide) (by omega) v701 t700 t697 _ _ _ (fun k_ => some k_ ≠ (.slice Ao17 t685.length co17 : Value).ownBlock ∧ some k_ ≠ (.slice Ao19 t688.length co19 : Value).ownBlock ∧ some k_ ≠ (.slice Ao21 t691.length co21 : Value).ownBlock ∧ some k_ ≠ (.slice Ao26 t694.length co26 : Value).ownBlock ∧ some k_ ≠ (.slice Ao25 t697.length co25 : Value).ownBlock) (fun _ => False) rfl rfl ?aO ?aR (fun _ _ h => h) (fun _ h => h.elim) ?aF ?aB ?aS ?aL ?_; (case aR => exact cU ((Kd.R_reads' HO699.out).2.2)); (case aB => exact (wS1 HB.out GE677.out)); (case aF => exact (fun k_ hk => ⟨Kd.fresh' (Kd.R_lt (rU HO687.out)) k_ hk, Kd.fresh' (Kd.R_lt (rU HO690.out)) k_ hk, Kd.fresh' (Kd.R_lt (rU HO693.out)) k_ hk, Kd.fresh' (Kd.R_lt (rU HO696.out)) k_ hk, Kd.fresh' (Kd.R_lt (rU HO699.out)) k_ hk⟩)); (case aO => exact (by (with_reducible repeat (first | apply Kd.R_alloc | apply Kd.R_drewN | apply Kd.R_drew)); exact Kd.R_mono HO702.out (fun _ hk => ⟨hk.1.1.1.1.2, ⟨hk.1.1.1.2, ⟨hk.1.1.2, ⟨hk.1.2, hk.2⟩⟩⟩⟩))); (case aS => exact (below_size (wS1 HB.out GE677.out))); (case aL => have := LMc11.out; omega); intro v704 w28 ho hb hg hat; rw [← Ny703.out] at ho; replace BK677 := aS (blk_grown (g := gb677) (o := .cells #[.string a1_0, .int .i64 a1_1, .int .i64 a1_2, .int .i64 a1_3, .string a1_4, .string a1_5] 25 (0, 0)) (bU BK677.out) hg (Kd.R_ne HO702.out BK677.out (by decide))); replace HO687 := aS (Kd.R_after (ok := (fun k_ => some k_ ≠ (.slice Ao19 t688.length co19 : Value).ownBlock ∧ some k_ ≠ (.slice Ao21 t691.length co21 : Value).ownBlock ∧ some k_ ≠ (.slice Ao26 t694.length co26 : Value).ownBlock ∧ some k_ ≠ (.slice Ao25 t697.length co25 : Value).ownBlock)) (by (with_reducible repeat (first | apply Kd.R_alloc | apply Kd.R_drewN | apply Kd.R_drew)); exact Kd.R_mono HO687.out (fun _ hk => ⟨⟨hk.1.1.1.1.2, ⟨hk.1.1.1.2, ⟨hk.1.1.2, hk.1.2⟩⟩⟩, hk.2⟩)) hg hat); replace HO690 := aS (Kd.R_after (ok := (fun k_ => some k_ ≠ (.slice Ao17 t685.length co17 : Value).ownBlock ∧ some k_ ≠ (.slice Ao21 t691.length co21 : Value).ownBlock ∧ some k_ ≠ (.slice Ao26 t694.length co26 : Value).ownBlock ∧ some k_ ≠ (.slice Ao25 t697.length co25 : Value).ownBlock)) (by (with_reducible repeat (first | apply Kd.R_alloc | apply Kd.R_drewN | apply Kd.R_drew)); exact Kd.R_mono HO690.out (fun _ hk => ⟨⟨hk.1.1.1.1.2, ⟨hk.1.1.1.2, ⟨hk.1.1.2, hk.1.2⟩⟩⟩, hk.2⟩)) hg hat); replace HO693 := aS (Kd.R_after (ok := (fun k_ => some k_ ≠ (.slice Ao17 t685.length co17 : Value).ownBlock ∧ some k_ ≠ (.slice Ao19 t688.length co19 : Value).ownBlock ∧ some k_ ≠ (.slice Ao26 t694.length co26 : Value).ownBlock ∧ some k_ ≠ (.slice Ao25 t697.length co25 : Value).ownBlock)) (by (with_reducible repeat (first | apply Kd.R_alloc | apply Kd.R_drewN | apply Kd.R_drew)); exact Kd.R_mono HO693.out (fun _ hk => ⟨⟨hk.1.1.1.1.2, ⟨hk.1.1.1.2, ⟨hk.1.1.2, hk.1.2⟩⟩⟩, hk.2⟩)) hg hat); replace HO696 := aS (Kd.R_after (ok := (fun k_ => some k_ ≠ (.slice Ao17 t685.length co17 : Value).ownBlock ∧ some k_ ≠ (.slice Ao19 t688.length co19 : Value).ownBlock ∧ some k_ ≠ (.slice Ao21 t691.length co21 : Value).ownBlock ∧ some k_ ≠ (.slice Ao25 t697.length co25 : Value).ownBlock)) (by (with_reducible repeat (first | apply Kd.R_alloc | apply Kd.R_drewN | apply Kd.R_drew)); exact Kd.R_mono HO696.out (fun _ hk => ⟨⟨hk.1.1.1.1.2, ⟨hk.1.1.1.2, ⟨hk.1.1.2, hk.1.2⟩⟩⟩, hk.2⟩)) hg hat); replace HO699 := aS (Kd.R_after (ok := (fun k_ => some k_ ≠ (.slice Ao17 t685.length co17 : Value).ownBlock ∧ some k_ ≠ (.slice Ao19 t688.length co19 : Value).ownBlock ∧ some k_ ≠ (.slice Ao21 t691.length co21 : Value).ownBlock ∧ some k_ ≠ (.slice Ao26 t694.length co26 : Value).ownBlock)) (by (with_reducible repeat (first | apply Kd.R_alloc | apply Kd.R_drewN | apply Kd.R_drew)); exact Kd.R_mono HO699.out (fun _ hk => ⟨⟨hk.1.1.1.1.2, ⟨hk.1.1.1.2, ⟨hk.1.1.2, hk.1.2⟩⟩⟩, hk.2⟩)) hg hat); replace HB := aS (hb); have HO705 := aS (ho); clear HO702; clear ho hb hg hat))
   go_ret
   exact ⟨_, jE, Kd.R_mono (rU HO705.out) (fun _ hk => trivial), by exact wS1 HB.out GE677.out⟩
  ·rw [if_neg c11] at H
   exact absurd H (by simp)
 ·replace c4 := Bool.eq_false_iff.mpr c4
  subst c4
  rw [if_neg Bool.false_ne_true] at H
  obtain ⟨y679, hy_⟩ : ∃ y_ : List Int, y_ = (([] : List Int)) := ⟨_, rfl⟩
  replace H : (if y679.length + l0.length < 140737488355328 then (some (y679 ++ l0)) else (none)) = some r := jD
  have Ny679 := aS hy_
  clear hy_
  by_cases c29 : y679.length + l0.length < 140737488355328
  ·rw [if_pos c29] at H
   have LMc29 := aS c29
   clear c29
   obtain ⟨y682, hy_⟩ : ∃ y_ : List Int, y_ = (y679 ++ l0) := ⟨_, rfl⟩
   replace H : (some y682) = some r := jD
   have Ny682 := aS hy_
   clear hy_
   obtain rfl := Option.some.inj H
   go_enter Tryd.func13, Tryd.ntmps13
   go_wp2_with (first | ((with_reducible refine gate_dst (N := 3) rfl ?_); refine box_event ?hg (N := 3) ?hd (cs := #[.string a1_0, .int .i64 a1_1, .int .i64 a1_2, .int .i64 a1_3, .string a1_4, .string a1_5]) (t := 25) ?hr ?_; (case hd => rfl); (case hg => rfl); (case hr => first | (go_simp; done) | (go_simp; rfl)); intro gb677 hg w30 hbox hb; have BK677 := aS (hbox); have GW677 := aS ((by rw [hg]; exact (below_size (wU HB.out)) : w.heap.size ≤ gb677)); have GE677 := aS ((by rw [hg]; exact (below_size (wU HB.out)) : w.heap.size ≤ gb677)); replace HB := aS (below_step (wU HB.out) hb); clear hb hbox hg; have hcz31 := cells6f BK677.out) | ((with_reducible refine gate_callee (f := 54) rfl ?_); refine goesL_ (some 8) rfl rfl Tryd.func54 jK rfl #[.agg #[.string a1_0, .int .i64 a1_1, .int .i64 a1_2, .int .i64 a1_3, .string a1_4, .string a1_5]] rfl jA ?_; (with_reducible refine (spec_RecordOk.calls k a1_0 a1_1 a1_2 a1_3 a1_4 a1_5 false _ A3.out).mono ?_); rintro e w32 ⟨rfl, hb⟩; refine ⟨_, rfl, ?_⟩; replace BK677 := aS (blk_below (bU BK677.out) hb); replace HB := aS (below_step (wS1 HB.out GE677.out) hb); clear hb) | ((with_reducible refine gate_dst (N := 10) rfl ?_); refine Kd.R_lit (Kd.int .u8) _ 5 ?hg (N := 10) ?hd (xs := ([] : List Int)) (inner := []) (ok := fun _ => True) (okp := fun _ => True) ?hr ?hp (fun _ hk => hk) trivial (Below.refl _ _) (Nat.le_refl _) (by simp) ?_; (case hd => rfl); (case hg => rfl); (case hr => first | (go_simp; done) | (go_simp; rfl)); (case hp => exact (Reps.none _ _)); intro v680 w33 ho34 hb hg_ hnew_; clear hg_ hnew_; (first | rw [← Ny679.out] at ho34 | (simp only [Int.reduceToNat] at ho34; rw [← Ny679.out] at ho34)); have HO681 := aS (Kd.R_lower ho34 (below_size (wS1 HB.out GE677.out))); replace BK677 := aS (blk_below (bU BK677.out) hb); replace HB := aS (below_step (wS1 HB.out GE677.out) hb); clear hb ho34) | ((with_reducible refine gate_builtin (b := .append) (xs := #[.tmp 10, .tmp 11]) rfl ?_); at_builtin; refine Kd.R_append_rows (Kd.int .u8) (w0 := w) w.heap.size rfl (.tmp 10) (.tmp 11) 22 5 (.int .u8 0) 1 rfl Tryd.underlying22 info5 rfl (by decide) (by omega) v680 y679 l0 _ _ _ (fun _ => True) (fun _ => False) rfl rfl ?aO ?aR (fun _ _ h => h) (fun _ h => h.elim) ?aF ?aB ?aS ?aL ?_; (case aR => exact cU ((Kd.C_below HR0.out HB.out))); (case aB => exact (wS1 HB.out GE677.out)); (case aF => exact (fun _ _ => trivial)); (case aO => exact (rU HO681.out)); (case aS => exact (below_size (wS1 HB.out GE677.out))); (case aL => have := LMc29.out; omega); intro v683 w35 ho hb hg hat; rw [← Ny682.out] at ho; replace BK677 := aS (blk_grown (g := gb677) (o := .cells #[.string a1_0, .int .i64 a1_1, .int .i64 a1_2, .int .i64 a1_3, .string a1_4, .string a1_5] 25 (0, 0)) (bU BK677.out) hg (Kd.R_ne HO681.out BK677.out (by decide))); replace HB := aS (hb); have HO684 := aS (ho); clear HO681; clear ho hb hg hat))
   go_ret
   exact ⟨_, jE, by exact rU HO684.out, by exact wS1 HB.out GE677.out⟩
  ·rw [if_neg c29] at H
   exact absurd H (by simp)

/-! ### spec_PutRecords: function 20 -/
def spec_PutRecords.l0 : Nat → List (S25) → List Int → Int → Option (List Int)
 | 0, _, _, _ => none
 | k + 1, x1, x5, x6 => if x6 < (x1.length : Int) then (if 0 ≤ x6 then ((spec_PutRecord.f k x5 ((rd_T25 x1 x6).f0) ((rd_T25 x1 x6).f1) ((rd_T25 x1 x6).f2) ((rd_T25 x1 x6).f3) ((rd_T25 x1 x6).f4) ((rd_T25 x1 x6).f5)).bind fun t713 => (spec_PutRecords.l0 k x1 t713 (wrap64 (x6 + 1)))) else (none)) else (some x5)
def spec_PutRecords.f (k : Nat) (l0 : List Int) (l1 : List (S25)) : Option (List Int) := (some (([] : List Int) : List Int)).bind fun y706 => (if y706.length + l0.length < 140737488355328 then (spec_PutRecords.l0 k l1 (y706 ++ l0) 0) else (none))
theorem spec_PutRecords.mono_l : ∀ k, (∀ y0 y1 y2, LeO (spec_PutRecords.l0 k y0 y1 y2) (spec_PutRecords.l0 (k + 1) y0 y1 y2))
 | 0 => fun _ _ _ r h => by simp [spec_PutRecords.l0] at h
 | k + 1 => by
  have ih0 := spec_PutRecords.mono_l k
  ·intro y0 y1 y2
   unfold spec_PutRecords.l0
   repeat' first
   | (with_reducible first | exact ih0 _ _ _ | exact spec_PutRecord.mono _ _ _ _ _ _ _ _ | exact LeO.refl _ | exact LeO.none _ | refine LeO.ite ?_ ?_ | refine LeO.bind ?_ (fun _ => ?_))
   | exact ih0 _ _ _
   | exact spec_PutRecord.mono _ _ _ _ _ _ _ _
   | exact LeO.none _
   | refine LeO.ite ?_ ?_
   | refine LeO.bind ?_ (fun _ => ?_)
theorem spec_PutRecords.mono : ∀ a0 a1 k, LeO (spec_PutRecords.f k a0 a1) (spec_PutRecords.f (k + 1) a0 a1) := by
 intro a0 a1 k
 have ih0 := spec_PutRecords.mono_l k
 unfold spec_PutRecords.f
 repeat' first
   | (with_reducible first | exact ih0 _ _ _ | exact spec_PutRecord.mono _ _ _ _ _ _ _ _ | exact LeO.refl _ | exact LeO.none _ | refine LeO.ite ?_ ?_ | refine LeO.bind ?_ (fun _ => ?_))
   | exact ih0 _ _ _
   | exact spec_PutRecord.mono _ _ _ _ _ _ _ _
   | exact LeO.none _
   | refine LeO.ite ?_ ?_
   | refine LeO.bind ?_ (fun _ => ?_)
set_option maxHeartbeats 8000000 in
set_option maxRecDepth 100000 in
theorem spec_PutRecords.calls (k : Nat) (A0 : Option Addr) (c0 : Nat) (l0 : List Int) (A1 : Option Addr) (c1 : Nat) (l1 : List (S25)) (r : List Int) (w : World) (hr0 : Kd.C (Kd.int .u8) w A0 l0.length l0) (hc0 : l0.length ≤ c0) (hr1 : Kd.C k25 w A1 l1.length l1) (hc1 : l1.length ≤ c1) (h : spec_PutRecords.f k l0 l1 = some r) :
  Calls Tryd.prog 20 #[.slice A0 l0.length c0, .slice A1 l1.length c1] w fun e w' => ∃ v0_ : Value, e = .returned (v0_) ∧ Kd.R (Kd.int .u8) 5 w' w.heap.size (fun _ => True) v0_ r ∧ Below w.heap.size w w' := by
 have hu25 := Tryd.underlying25
 have HR0 := aS hr0
 have HC0 := aS hc0
 clear hr0 hc0
 have HR1 := aS hr1
 have HC1 := aS hc1
 clear hr1 hc1
 have HB := aS (Below.refl w.heap.size w)
 have H : ((some (([] : List Int) : List Int)).bind fun y706 => (if y706.length + l0.length < 140737488355328 then (spec_PutRecords.l0 k l1 (y706 ++ l0) 0) else (none))) = some r := h
 clear h
 obtain ⟨y706, hy_⟩ : ∃ y_ : List Int, y_ = (([] : List Int)) := ⟨_, rfl⟩
 replace H : (if y706.length + l0.length < 140737488355328 then (spec_PutRecords.l0 k l1 (y706 ++ l0) 0) else (none)) = some r := jD
 have Ny706 := aS hy_
 clear hy_
 by_cases c3 : y706.length + l0.length < 140737488355328
 ·rw [if_pos c3] at H
  have LMc3 := aS c3
  clear c3
  obtain ⟨y709, hy_⟩ : ∃ y_ : List Int, y_ = (y706 ++ l0) := ⟨_, rfl⟩
  replace H : (spec_PutRecords.l0 k l1 y709 0) = some r := jD
  have Ny709 := aS hy_
  clear hy_
  have H' := aS H
  clear H
  go_enter Tryd.func20, Tryd.ntmps20
  go_wp2_with (first | ((with_reducible refine gate_dst (N := 7) rfl ?_); refine Kd.R_lit (Kd.int .u8) _ 5 ?hg (N := 7) ?hd (xs := ([] : List Int)) (inner := []) (ok := fun _ => True) (okp := fun _ => True) ?hr ?hp (fun _ hk => hk) trivial (Below.refl _ _) (Nat.le_refl _) (by simp) ?_; (case hd => rfl); (case hg => rfl); (case hr => first | (go_simp; done) | (go_simp; rfl)); (case hp => exact (Reps.none _ _)); intro v707 w4 ho5 hb hg_ hnew_; clear hg_ hnew_; (first | rw [← Ny706.out] at ho5 | (simp only [Int.reduceToNat] at ho5; rw [← Ny706.out] at ho5)); have HO708 := aS (Kd.R_lower ho5 (below_size (wU HB.out))); replace HB := aS (below_step (wU HB.out) hb); clear hb ho5) | ((with_reducible refine gate_builtin (b := .append) (xs := #[.tmp 7, .tmp 8]) rfl ?_); at_builtin; refine Kd.R_append_rows (Kd.int .u8) (w0 := w) w.heap.size rfl (.tmp 7) (.tmp 8) 22 5 (.int .u8 0) 1 rfl Tryd.underlying22 info5 rfl (by decide) (by omega) v707 y706 l0 _ _ _ (fun _ => True) (fun _ => False) rfl rfl ?aO ?aR (fun _ _ h => h) (fun _ h => h.elim) ?aF ?aB ?aS ?aL ?_; (case aR => exact cU ((Kd.C_below HR0.out HB.out))); (case aB => exact (wU HB.out)); (case aF => exact (fun _ _ => trivial)); (case aO => exact (rU HO708.out)); (case aS => exact (below_size (wU HB.out))); (case aL => have := LMc3.out; omega); intro v710 w6 ho hb hg hat; rw [← Ny709.out] at ho; replace HB := aS (hb); have HO711 := aS (ho); clear HO708; clear ho hb hg hat))
  go_loopg [5, 6] k (fun kq v5 v6 w' => ∃ (x5_1 : List Int) (x6_1 : Int), v6 = .int .i64 x6_1 ∧ Aside0 (spec_PutRecords.l0 kq l1 x5_1 x6_1 = some r) ∧ Aside0 (kq ≤ k) ∧ Aside0 (Kd.R (Kd.int .u8) 5 w' w.heap.size (fun _ => True) v5 x5_1) ∧ Aside0 (Below w.heap.size w w'))
  case atStart => exact ⟨(y709), (0), jB, H', ⟨Nat.le_refl _⟩, ⟨by exact rU HO711.out⟩, ⟨by exact wU HB.out⟩⟩
  case round =>
   clear H'
   try clear c1
   try clear c2
   try clear p2
   try clear c3
   obtain ⟨x5_1, x6_1, rfl, HA, HK1, HO_5, HB⟩ := hrel
   cases gk with
   | zero => exact absurd HA.out (by simp [spec_PutRecords.l0])
   | succ k1 =>
    have H := HA.out
    clear HA
    simp only [spec_PutRecords.l0] at H
    by_cases c7 : x6_1 < (l1.length : Int)
    ·rw [if_pos c7] at H
     have c7b0 := decide_eq_true c7
     clear c7
     by_cases c8 : 0 ≤ x6_1
     ·rw [if_pos c8] at H
      have c8b0 := decide_eq_true c8
      clear c8
      obtain ⟨t713, A9, H⟩ := bM H
      try dsimp only at H
      have H' := aS H
      clear H
      have p712 : 0 ≤ (x6_1 : Int) := of_decide_eq_true jC
      have q712 : x6_1 < (l1.length : Int) := of_decide_eq_true jC
      obtain ⟨ad712, e712, hx712_0, hx712_1, hx712_2, hx712_3, hx712_4, hx712_5⟩ := at_T25 HR1.out x6_1 p712 q712
      cases e712
      try replace hx712_0 := (HB.out.cell (World.block_lt_of_cell? w _ hx712_0)).trans hx712_0
      try replace hx712_1 := (HB.out.cell (World.block_lt_of_cell? w _ hx712_1)).trans hx712_1
      try replace hx712_2 := (HB.out.cell (World.block_lt_of_cell? w _ hx712_2)).trans hx712_2
      try replace hx712_3 := (HB.out.cell (World.block_lt_of_cell? w _ hx712_3)).trans hx712_3
      try replace hx712_4 := (HB.out.cell (World.block_lt_of_cell? w _ hx712_4)).trans hx712_4
      try replace hx712_5 := (HB.out.cell (World.block_lt_of_cell? w _ hx712_5)).trans hx712_5
      replace p712 := eq_true p712
      replace q712 := eq_true q712
      obtain ⟨Ao10, co10, eo10⟩ := Kd.R_slice HO_5.out
      subst eo10
      go_wp2_with (first | ((with_reducible refine gate_callee (f := 13) rfl ?_); refine goesL_ (some 21) rfl rfl Tryd.func13 jK rfl #[.slice Ao10 x5_1.length co10, .agg #[.string ((rd_T25 l1 x6_1).f0), .int .i64 ((rd_T25 l1 x6_1).f1), .int .i64 ((rd_T25 l1 x6_1).f2), .int .i64 ((rd_T25 l1 x6_1).f3), .string ((rd_T25 l1 x6_1).f4), .string ((rd_T25 l1 x6_1).f5)]] rfl jA ?_; (with_reducible refine (spec_PutRecord.calls k1 _ _ x5_1 ((rd_T25 l1 x6_1).f0) ((rd_T25 l1 x6_1).f1) ((rd_T25 l1 x6_1).f2) ((rd_T25 l1 x6_1).f3) ((rd_T25 l1 x6_1).f4) ((rd_T25 l1 x6_1).f5) t713 _ ?side1 ?side2 A9.out).mono ?_); (case side1 => exact cU ((Kd.R_reads' HO_5.out).2.2)); (case side2 => exact (Kd.R_reads' HO_5.out).2.1); rintro e w11 ⟨v714, rfl, ho0, hb⟩; refine ⟨_, rfl, ?_⟩; have HO715 := aS (Kd.R_lower (Kd.R_new' ho0 (Kd.R_lt (rU HO_5.out))) (below_size (wU HB.out))); replace HO_5 := aS (Kd.R_elder' (rU HO_5.out) (Kd.R_base ho0) hb); replace HB := aS (below_step (wU HB.out) hb); clear hb; (try clear ho0)))
      go_roundg k1
      case measure => have := HK1.out; omega
      case rel => exact ⟨(t713), (wrap64 (x6_1 + 1)), jB, H', ⟨by have := HK1.out; omega⟩, ⟨Kd.R_mono (rU HO715.out) (fun _ hk => trivial)⟩, ⟨by exact wU HB.out⟩⟩
     ·rw [if_neg c8] at H
      exact absurd H (by simp)
    ·rw [if_neg c7] at H
     have c7b0 := decide_eq_false c7
     clear c7
     obtain rfl := Option.some.inj H
     go_wp2
     go_ret
     exact ⟨_, jE, by exact rU HO_5.out, by exact wU HB.out⟩
 ·rw [if_neg c3] at H
  exact absurd H (by simp)

end Go.Proofs.YtdigilidomimdaaDoor.Pr
