-- Written for this claim by a program of this session (wip/tool/pr.py, over the kit's printer).
-- half
import Derived.Test.YtdigilidomimdaaDoorPrx0
import Derived.Test.YtdigilidomimdaaDoorPrx6
import Derived.Test.YtdigilidomimdaaDoorPrx7
import Derived.Test.YtdigilidomimdaaDoorPrx8
import Derived.Test.YtdigilidomimdaaDoorPrx9
namespace Go.Proofs.YtdigilidomimdaaDoor.Pr
open Go.RowKit Go.Proofs.YtdigilidomimdaaDoorW.PrintWords Go.Proofs.YtdigilidomimdaaDoorW.PrintLast Go.Proofs.YtdigilidomimdaaDoorW.PrintMore
attribute [local go_sem] max2_int min2_int max_two min_two max_three min_three max_four min_four   -- for this text's walks alone
set_option linter.unusedVariables false
set_option linter.unusedSimpArgs false

/-! ### spec_PlaceOf: function 122 -/
mutual
def spec_PlaceOf.l0 : Nat → List Int → ByteArray → Int → Option (Int)
 | 0, _, _, _ => none
 | k + 1, x0, x1, x5 => if x5 < (x0.length : Int) then (spec_PlaceOf.j1 k x0 x1 x5 (decide (x5 ≤ 16383))) else (spec_PlaceOf.j1 k x0 x1 x5 false)
def spec_PlaceOf.j1 : Nat → List Int → ByteArray → Int → Bool → Option (Int)
 | 0, _, _, _, _ => none
 | k + 1, x0, x1, x5, x16 => if x16 = true then ((spec_GetName.f k x0 x5).bind fun bt363 => (if bt363.2.2 = 0 then (if bt363.1.toList = x1.toList then (some x5) else (spec_PlaceOf.l0 k x0 x1 (wrap64 (x5 + 1)))) else (spec_PlaceOf.l0 k x0 x1 (wrap64 (x5 + 1))))) else (some (-1))
end
def spec_PlaceOf.f (k : Nat) (l0 : List Int) (a1 : ByteArray) : Option (Int) := spec_PlaceOf.l0 k l0 a1 0
theorem spec_PlaceOf.mono_l : ∀ k, (∀ y0 y1 y2, LeO (spec_PlaceOf.l0 k y0 y1 y2) (spec_PlaceOf.l0 (k + 1) y0 y1 y2)) ∧ (∀ y0 y1 y2 y3, LeO (spec_PlaceOf.j1 k y0 y1 y2 y3) (spec_PlaceOf.j1 (k + 1) y0 y1 y2 y3))
 | 0 => ⟨fun _ _ _ r h => by simp [spec_PlaceOf.l0] at h, fun _ _ _ _ r h => by simp [spec_PlaceOf.j1] at h⟩
 | k + 1 => by
  obtain ⟨ih0, ih1⟩ := spec_PlaceOf.mono_l k
  refine ⟨?_, ?_⟩
  ·intro y0 y1 y2
   unfold spec_PlaceOf.l0
   repeat' first
   | (with_reducible first | exact ih0 _ _ _ | exact ih1 _ _ _ _ | exact spec_GetName.mono _ _ _ | exact LeO.refl _ | exact LeO.none _ | refine LeO.ite ?_ ?_ | refine LeO.bind ?_ (fun _ => ?_))
   | exact ih0 _ _ _
   | exact ih1 _ _ _ _
   | exact spec_GetName.mono _ _ _
   | exact LeO.none _
   | refine LeO.ite ?_ ?_
   | refine LeO.bind ?_ (fun _ => ?_)
  ·intro y0 y1 y2 y3
   unfold spec_PlaceOf.j1
   repeat' first
   | (with_reducible first | exact ih0 _ _ _ | exact ih1 _ _ _ _ | exact spec_GetName.mono _ _ _ | exact LeO.refl _ | exact LeO.none _ | refine LeO.ite ?_ ?_ | refine LeO.bind ?_ (fun _ => ?_))
   | exact ih0 _ _ _
   | exact ih1 _ _ _ _
   | exact spec_GetName.mono _ _ _
   | exact LeO.none _
   | refine LeO.ite ?_ ?_
   | refine LeO.bind ?_ (fun _ => ?_)
theorem spec_PlaceOf.mono : ∀ a0 a1 k, LeO (spec_PlaceOf.f k a0 a1) (spec_PlaceOf.f (k + 1) a0 a1) := by
 intro a0 a1 k
 obtain ⟨ih0, ih1⟩ := spec_PlaceOf.mono_l k
 unfold spec_PlaceOf.f
 repeat' first
   | (with_reducible first | exact ih0 _ _ _ | exact ih1 _ _ _ _ | exact spec_GetName.mono _ _ _ | exact LeO.refl _ | exact LeO.none _ | refine LeO.ite ?_ ?_ | refine LeO.bind ?_ (fun _ => ?_))
   | exact ih0 _ _ _
   | exact ih1 _ _ _ _
   | exact spec_GetName.mono _ _ _
   | exact LeO.none _
   | refine LeO.ite ?_ ?_
   | refine LeO.bind ?_ (fun _ => ?_)
set_option maxHeartbeats 8000000 in
set_option maxRecDepth 100000 in
theorem spec_PlaceOf.calls (k : Nat) (A0 : Option Addr) (c0 : Nat) (l0 : List Int) (a1 : ByteArray) (r : Int) (w : World) (hr0 : Kd.C (Kd.int .u8) w A0 l0.length l0) (hc0 : l0.length ≤ c0) (h : spec_PlaceOf.f k l0 a1 = some r) :
  Calls Tryd.prog 122 #[.slice A0 l0.length c0, .string a1] w fun e w' => e = .returned (.int .i64 r) ∧ Below w.heap.size w w' := by
 have HR0 := aS hr0
 have HC0 := aS hc0
 clear hr0 hc0
 have HB := aS (Below.refl w.heap.size w)
 have H : (spec_PlaceOf.l0 k l0 a1 0) = some r := h
 clear h
 have H' := aS H
 clear H
 go_enter Tryd.func122, Tryd.ntmps122
 go_wp2
 go_loopg [5] k (fun kq v5 w' => ∃ (x5_1 : Int), v5 = .int .i64 x5_1 ∧ Aside0 (spec_PlaceOf.l0 kq l0 a1 x5_1 = some r) ∧ Aside0 (kq ≤ k) ∧ Aside0 (Below w.heap.size w w'))
 case atStart => exact ⟨(0), jB, H', ⟨Nat.le_refl _⟩, ⟨by exact wU HB.out⟩⟩
 case round =>
  clear H'
  try clear c1
  try clear p2
  obtain ⟨x5_1, rfl, HA, HK1, HB⟩ := hrel
  cases gk with
  | zero => exact absurd HA.out (by simp [spec_PlaceOf.l0])
  | succ k1 =>
   have H := HA.out
   clear HA
   simp only [spec_PlaceOf.l0] at H
   have HC3 := aS H
   clear H
   go_upto_region 2 with (fail)
   go_cut [16] (fun v16 wc => ∃ (kq : Nat) (x16_2 : Bool), v16 = .bool x16_2 ∧ Aside0 (spec_PlaceOf.j1 kq l0 a1 x5_1 x16_2 = some r) ∧ Aside0 (kq ≤ k1) ∧ Aside0 (Below w.heap.size w wc))
   case first =>
    have H := HC3.out
    clear HC3
    by_cases c4 : x5_1 < (l0.length : Int)
    ·rw [if_pos c4] at H
     have c4b0 := decide_eq_true c4
     clear c4
     (first | rw [c4b0] | (simp only [i64_w, i32_w]; rw [c4b0]) | skip)
     have H' := aS H
     clear H
     go_wp2
     go_meet
     case rel => exact ⟨_, (decide (x5_1 ≤ 16383)), jB, H', ⟨by have := HK1.out; first | omega | exact Nat.le_refl _⟩, ⟨by exact wU HB.out⟩⟩
    ·rw [if_neg c4] at H
     have c4b0 := decide_eq_false c4
     clear c4
     (first | rw [c4b0] | (simp only [i64_w, i32_w]; rw [c4b0]) | skip)
     have H' := aS H
     clear H
     go_wp2
     go_meet
     case rel => exact ⟨_, (false), jB, H', ⟨by have := HK1.out; first | omega | exact Nat.le_refl _⟩, ⟨by exact wU HB.out⟩⟩
   case rest =>
    clear HC3
    try clear c1
    try clear p2
    try clear c4
    try clear c4b0
    try clear p2
    obtain ⟨kq, x16_2, rfl, HA, HJ2, HB⟩ := hcut
    cases kq with
    | zero => exact absurd HA.out (by simp [spec_PlaceOf.j1])
    | succ kj2 =>
     have H := HA.out
     clear HA
     simp only [spec_PlaceOf.j1] at H
     by_cases c5 : x16_2 = true
     ·subst c5
      rw [if_pos rfl] at H
      obtain ⟨⟨t363, t364, t365⟩, A6, H⟩ := bM H
      try dsimp only at H
      by_cases c7 : t365 = 0
      ·rw [if_pos c7] at H
       have c7b0 := beq_iff_eq.mpr c7
       have c7b1 := bne_eq_false_iff_eq.mpr c7
       clear c7
       by_cases c8 : t363.toList = a1.toList
       ·rw [if_pos c8] at H
        have c8b0 := beq_iff_eq.mpr c8
        have c8b1 := bne_eq_false_iff_eq.mpr c8
        clear c8
        obtain rfl := Option.some.inj H
        go_wp2_with (first | ((with_reducible refine gate_callee (f := 82) rfl ?_); refine goesL_ (some 22) rfl rfl Tryd.func82 jK rfl #[.slice A0 l0.length c0, .int .i64 x5_1] rfl jA ?_; (with_reducible refine (spec_GetName.calls kj2 _ _ l0 x5_1 t363 t364 t365 _ ?side1 ?side2 A6.out).mono ?_); (case side1 => exact cU ((Kd.C_below HR0.out HB.out))); (case side2 => exact HC0.out); rintro e w9 ⟨rfl, hb⟩; refine ⟨_, rfl, ?_⟩; replace HB := aS (below_step (wU HB.out) hb); clear hb))
        go_ret
        exact ⟨jE, by exact wU HB.out⟩
       ·rw [if_neg c8] at H
        have c8b0 := beq_eq_false_iff_ne.mpr c8
        have c8b1 := bne_iff_ne.mpr c8
        have H' := aS H
        clear H
        go_wp2_with (first | ((with_reducible refine gate_callee (f := 82) rfl ?_); refine goesL_ (some 22) rfl rfl Tryd.func82 jK rfl #[.slice A0 l0.length c0, .int .i64 x5_1] rfl jA ?_; (with_reducible refine (spec_GetName.calls kj2 _ _ l0 x5_1 t363 t364 t365 _ ?side1 ?side2 A6.out).mono ?_); (case side1 => exact cU ((Kd.C_below HR0.out HB.out))); (case side2 => exact HC0.out); rintro e w10 ⟨rfl, hb⟩; refine ⟨_, rfl, ?_⟩; replace HB := aS (below_step (wU HB.out) hb); clear hb))
        go_roundg kj2
        case measure => have := HK1.out; have := HJ2.out; omega
        case rel => exact ⟨(wrap64 (x5_1 + 1)), jB, H', ⟨by have := HK1.out; have := HJ2.out; omega⟩, ⟨by exact wU HB.out⟩⟩
      ·rw [if_neg c7] at H
       have c7b0 := beq_eq_false_iff_ne.mpr c7
       have c7b1 := bne_iff_ne.mpr c7
       have H' := aS H
       clear H
       go_wp2_with (first | ((with_reducible refine gate_callee (f := 82) rfl ?_); refine goesL_ (some 22) rfl rfl Tryd.func82 jK rfl #[.slice A0 l0.length c0, .int .i64 x5_1] rfl jA ?_; (with_reducible refine (spec_GetName.calls kj2 _ _ l0 x5_1 t363 t364 t365 _ ?side1 ?side2 A6.out).mono ?_); (case side1 => exact cU ((Kd.C_below HR0.out HB.out))); (case side2 => exact HC0.out); rintro e w11 ⟨rfl, hb⟩; refine ⟨_, rfl, ?_⟩; replace HB := aS (below_step (wU HB.out) hb); clear hb))
       go_roundg kj2
       case measure => have := HK1.out; have := HJ2.out; omega
       case rel => exact ⟨(wrap64 (x5_1 + 1)), jB, H', ⟨by have := HK1.out; have := HJ2.out; omega⟩, ⟨by exact wU HB.out⟩⟩
     ·replace c5 := Bool.eq_false_iff.mpr c5
      subst c5
      rw [if_neg Bool.false_ne_true] at H
      obtain rfl := Option.some.inj H
      go_wp2
      go_ret
      exact ⟨jE, by exact wU HB.out⟩

/-! ### spec_PutName: function 65 -/
def spec_PutName.l0 : Nat → List Int → List Int → List ByteArray → List ByteArray → Int → Option (List Int)
 | 0, _, _, _, _, _ => none
 | k + 1, x0, x5, x6, x7, x8 => if x8 < (x7.length : Int) then (if 0 ≤ x8 then (if x8 < (x6.length : Int) then ((spec_PlaceOf.f k x0 (rdOf ByteArray.empty x6 x8)).bind fun t383 => (if t383 ≥ 0 then ((some (([(wrap64 (192 + (wrap64 (Int.tdiv t383 256)))) % 256, (Int.tmod t383 256) % 256] : List Int) : List Int)).bind fun y384 => (if x5.length + y384.length < 140737488355328 then (some (x5 ++ y384)) else (none))) else ((spec_PutLabel.f k x5 (rdOf ByteArray.empty x7 x8)).bind fun t391 => (spec_PutName.l0 k x0 t391 x6 x7 (wrap64 (x8 + 1)))))) else (none)) else (none)) else (if x5.length < 140737488355328 then (some (x5 ++ [0])) else (none))
def spec_PutName.f (k : Nat) (l0 : List Int) (a1 : ByteArray) : Option (List Int) := (some (([] : List Int) : List Int)).bind fun y366 => (if y366.length + l0.length < 140737488355328 then ((some (y366 ++ l0 : List Int)).bind fun y369 => ((spec_NameOk.f k a1).bind fun t372 => (if t372 = true then ((spec_Above.f k a1).bind fun t373 => ((spec_Labels.f k a1).bind fun t376 => (spec_PutName.l0 k l0 y369 t373 t376 0))) else (some y369)))) else (none))
theorem spec_PutName.mono_l : ∀ k, (∀ y0 y1 y2 y3 y4, LeO (spec_PutName.l0 k y0 y1 y2 y3 y4) (spec_PutName.l0 (k + 1) y0 y1 y2 y3 y4))
 | 0 => fun _ _ _ _ _ r h => by simp [spec_PutName.l0] at h
 | k + 1 => by
  have ih0 := spec_PutName.mono_l k
  ·intro y0 y1 y2 y3 y4
   unfold spec_PutName.l0
   repeat' first
   | (with_reducible first | exact ih0 _ _ _ _ _ | exact spec_Above.mono _ _ | exact spec_Labels.mono _ _ | exact spec_NameOk.mono _ _ | exact spec_PlaceOf.mono _ _ _ | exact spec_PutLabel.mono _ _ _ | exact LeO.refl _ | exact LeO.none _ | refine LeO.ite ?_ ?_ | refine LeO.bind ?_ (fun _ => ?_))
   | exact ih0 _ _ _ _ _
   | exact spec_Above.mono _ _
   | exact spec_Labels.mono _ _
   | exact spec_NameOk.mono _ _
   | exact spec_PlaceOf.mono _ _ _
   | exact spec_PutLabel.mono _ _ _
   | exact LeO.none _
   | refine LeO.ite ?_ ?_
   | refine LeO.bind ?_ (fun _ => ?_)
theorem spec_PutName.mono : ∀ a0 a1 k, LeO (spec_PutName.f k a0 a1) (spec_PutName.f (k + 1) a0 a1) := by
 intro a0 a1 k
 have ih0 := spec_PutName.mono_l k
 unfold spec_PutName.f
 repeat' first
   | (with_reducible first | exact ih0 _ _ _ _ _ | exact spec_Above.mono _ _ | exact spec_Labels.mono _ _ | exact spec_NameOk.mono _ _ | exact spec_PlaceOf.mono _ _ _ | exact spec_PutLabel.mono _ _ _ | exact LeO.refl _ | exact LeO.none _ | refine LeO.ite ?_ ?_ | refine LeO.bind ?_ (fun _ => ?_))
   | exact ih0 _ _ _ _ _
   | exact spec_Above.mono _ _
   | exact spec_Labels.mono _ _
   | exact spec_NameOk.mono _ _
   | exact spec_PlaceOf.mono _ _ _
   | exact spec_PutLabel.mono _ _ _
   | exact LeO.none _
   | refine LeO.ite ?_ ?_
   | refine LeO.bind ?_ (fun _ => ?_)
set_option maxHeartbeats 8000000 in
set_option maxRecDepth 100000 in
theorem spec_PutName.calls (k : Nat) (A0 : Option Addr) (c0 : Nat) (l0 : List Int) (a1 : ByteArray) (r : List Int) (w : World) (hr0 : Kd.C (Kd.int .u8) w A0 l0.length l0) (hc0 : l0.length ≤ c0) (h : spec_PutName.f k l0 a1 = some r) :
  Calls Tryd.prog 65 #[.slice A0 l0.length c0, .string a1] w fun e w' => ∃ v0_ : Value, e = .returned (v0_) ∧ Kd.R (Kd.int .u8) 5 w' w.heap.size (fun _ => True) v0_ r ∧ Below w.heap.size w w' := by
 have HR0 := aS hr0
 have HC0 := aS hc0
 clear hr0 hc0
 have HB := aS (Below.refl w.heap.size w)
 have H : ((some (([] : List Int) : List Int)).bind fun y366 => (if y366.length + l0.length < 140737488355328 then ((some (y366 ++ l0 : List Int)).bind fun y369 => ((spec_NameOk.f k a1).bind fun t372 => (if t372 = true then ((spec_Above.f k a1).bind fun t373 => ((spec_Labels.f k a1).bind fun t376 => (spec_PutName.l0 k l0 y369 t373 t376 0))) else (some y369)))) else (none))) = some r := h
 clear h
 obtain ⟨y366, hy_⟩ : ∃ y_ : List Int, y_ = (([] : List Int)) := ⟨_, rfl⟩
 replace H : (if y366.length + l0.length < 140737488355328 then ((some (y366 ++ l0 : List Int)).bind fun y369 => ((spec_NameOk.f k a1).bind fun t372 => (if t372 = true then ((spec_Above.f k a1).bind fun t373 => ((spec_Labels.f k a1).bind fun t376 => (spec_PutName.l0 k l0 y369 t373 t376 0))) else (some y369)))) else (none)) = some r := jD
 have Ny366 := aS hy_
 clear hy_
 by_cases c3 : y366.length + l0.length < 140737488355328
 ·rw [if_pos c3] at H
  have LMc3 := aS c3
  clear c3
  obtain ⟨y369, hy_⟩ : ∃ y_ : List Int, y_ = (y366 ++ l0) := ⟨_, rfl⟩
  replace H : ((spec_NameOk.f k a1).bind fun t372 => (if t372 = true then ((spec_Above.f k a1).bind fun t373 => ((spec_Labels.f k a1).bind fun t376 => (spec_PutName.l0 k l0 y369 t373 t376 0))) else (some y369))) = some r := jD
  have Ny369 := aS hy_
  clear hy_
  obtain ⟨t372, A4, H⟩ := bM H
  try dsimp only at H
  have HC5 := aS H
  clear H
  go_enter Tryd.func65, Tryd.ntmps65
  go_upto_if 15 with (first | ((with_reducible refine gate_dst (N := 10) rfl ?_); refine Kd.R_lit (Kd.int .u8) _ 5 ?hg (N := 10) ?hd (xs := ([] : List Int)) (inner := []) (ok := fun _ => True) (okp := fun _ => True) ?hr ?hp (fun _ hk => hk) trivial (Below.refl _ _) (Nat.le_refl _) (by simp) ?_; (case hd => rfl); (case hg => rfl); (case hr => first | (go_simp; done) | (go_simp; rfl)); (case hp => exact (Reps.none _ _)); intro v367 w6 ho7 hb hg_ hnew_; clear hg_ hnew_; (first | rw [← Ny366.out] at ho7 | (simp only [Int.reduceToNat] at ho7; rw [← Ny366.out] at ho7)); have HO368 := aS (Kd.R_lower ho7 (below_size (wU HB.out))); replace HB := aS (below_step (wU HB.out) hb); clear hb ho7) | ((with_reducible refine gate_builtin (b := .append) (xs := #[.tmp 10, .tmp 11]) rfl ?_); at_builtin; refine Kd.R_append_rows (Kd.int .u8) (w0 := w) w.heap.size rfl (.tmp 10) (.tmp 11) 22 5 (.int .u8 0) 1 rfl Tryd.underlying22 info5 rfl (by decide) (by omega) v367 y366 l0 _ _ _ (fun _ => True) (fun _ => False) rfl rfl ?aO ?aR (fun _ _ h => h) (fun _ h => h.elim) ?aF ?aB ?aS ?aL ?_; (case aR => exact cU ((Kd.C_below HR0.out HB.out))); (case aB => exact (wU HB.out)); (case aF => exact (fun _ _ => trivial)); (case aO => exact (rU HO368.out)); (case aS => exact (below_size (wU HB.out))); (case aL => have := LMc3.out; omega); intro v370 w8 ho hb hg hat; rw [← Ny369.out] at ho; replace HB := aS (hb); have HO371 := aS (ho); clear HO368; clear ho hb hg hat) | ((with_reducible refine gate_callee (f := 110) rfl ?_); refine goesL_ (some 14) rfl rfl Tryd.func110 jK rfl #[.string a1] rfl jA ?_; (with_reducible refine (spec_NameOk.calls k a1 t372 _ A4.out).mono ?_); rintro e w9 ⟨rfl, hb⟩; refine ⟨_, rfl, ?_⟩; replace HO371 := aS (Kd.R_below (rU HO371.out) hb); replace HB := aS (below_step (wU HB.out) hb); clear hb))
  (try simp only [Act.put, List.setIfInBounds_toArray, List.set_cons_zero, List.set_cons_succ])
  have H := HC5.out
  clear HC5
  by_cases c10 : t372 = true
  ·subst c10
   rw [if_pos rfl] at H
   obtain ⟨t373, A11, H⟩ := bM H
   try dsimp only at H
   obtain ⟨t376, A12, H⟩ := bM H
   try dsimp only at H
   have H' := aS H
   clear H
   go_wp2_with (first | ((with_reducible refine gate_callee (f := 120) rfl ?_); refine goesL_ (some 18) rfl rfl Tryd.func120 jK rfl #[.string a1] rfl jA ?_; (with_reducible refine (spec_Above.calls k a1 t373 _ A11.out).mono ?_); rintro e w13 ⟨v374, rfl, ho0, hb⟩; refine ⟨_, rfl, ?_⟩; replace HO371 := aS (Kd.R_below (rU HO371.out) hb); have HO375 := aS (Kd.R_lower ho0 (below_size (wU HB.out))); replace HB := aS (below_step (wU HB.out) hb); clear hb; (try clear ho0)) | ((with_reducible refine gate_callee (f := 121) rfl ?_); refine goesL_ (some 20) rfl rfl Tryd.func121 jK rfl #[.string a1] rfl jA ?_; (with_reducible refine (spec_Labels.calls k a1 t376 _ A12.out).mono ?_); rintro e w14 ⟨v377, rfl, ho0, hb⟩; refine ⟨_, rfl, ?_⟩; replace HO371 := aS (Kd.R_below (rU HO371.out) hb); have HO378 := aS (Kd.R_lower (Kd.R_new' ho0 (Kd.R_lt (rU HO375.out))) (below_size (wU HB.out))); replace HO375 := aS (Kd.R_elder' (rU HO375.out) (Kd.R_base ho0) hb); replace HB := aS (below_step (wU HB.out) hb); clear hb; (try clear ho0)))
   go_loopg [5, 8] k (fun kq v5 v8 w' => ∃ (x5_1 : List Int) (x8_1 : Int), v8 = .int .i64 x8_1 ∧ Aside0 (spec_PutName.l0 kq l0 x5_1 t373 t376 x8_1 = some r) ∧ Aside0 (kq ≤ k) ∧ Aside0 (Kd.R (Kd.int .u8) 5 w' w.heap.size (fun _ => True) v5 x5_1) ∧ Aside0 (Kd.R Kd.string 9 w' w.heap.size (fun k_ => some k_ ≠ (v377 : Value).ownBlock) v374 t373) ∧ Aside0 (Kd.R Kd.string 9 w' w.heap.size (fun k_ => some k_ ≠ (v374 : Value).ownBlock) v377 t376) ∧ Aside0 (Below w.heap.size w w'))
   case atStart => exact ⟨(y369), (0), jB, H', ⟨Nat.le_refl _⟩, ⟨by exact rU HO371.out⟩, ⟨by (with_reducible repeat (first | apply Kd.R_alloc | apply Kd.R_drewN | apply Kd.R_drew)); exact Kd.R_mono HO375.out (fun _ hk => hk.2)⟩, ⟨by (with_reducible repeat (first | apply Kd.R_alloc | apply Kd.R_drewN | apply Kd.R_drew)); exact Kd.R_mono HO378.out (fun _ hk => hk.2)⟩, ⟨by exact wU HB.out⟩⟩
   case round =>
    clear H'
    try clear c1
    try clear p2
    try clear c3
    try clear c6
    try clear c10
    try clear c11
    try clear c12
    obtain ⟨x5_1, x8_1, rfl, HA, HK1, HO_5, HO_6, HO_7, HB⟩ := hrel
    cases gk with
    | zero => exact absurd HA.out (by simp [spec_PutName.l0])
    | succ k1 =>
     have H := HA.out
     clear HA
     simp only [spec_PutName.l0] at H
     by_cases c15 : x8_1 < (t376.length : Int)
     ·rw [if_pos c15] at H
      have c15b0 := decide_eq_true c15
      clear c15
      (first | rw [c15b0] | (simp only [i64_w, i32_w]; rw [c15b0]) | skip)
      by_cases c16 : 0 ≤ x8_1
      ·rw [if_pos c16] at H
       have c16b0 := decide_eq_true c16
       clear c16
       by_cases c17 : x8_1 < (t373.length : Int)
       ·rw [if_pos c17] at H
        have c17b0 := decide_eq_true c17
        clear c17
        obtain ⟨t383, A18, H⟩ := bM H
        try dsimp only at H
        by_cases c19 : t383 ≥ 0
        ·rw [if_pos c19] at H
         have c19b0 := decide_eq_true c19
         clear c19
         obtain ⟨y384, hy_⟩ : ∃ y_ : List Int, y_ = (([(wrap64 (192 + (wrap64 (Int.tdiv t383 256)))) % 256, (Int.tmod t383 256) % 256] : List Int)) := ⟨_, rfl⟩
         replace H : (if x5_1.length + y384.length < 140737488355328 then (some (x5_1 ++ y384)) else (none)) = some r := jD
         have Ny384 := aS hy_
         clear hy_
         by_cases c20 : x5_1.length + y384.length < 140737488355328
         ·rw [if_pos c20] at H
          have LMc20 := aS c20
          clear c20
          obtain ⟨y387, hy_⟩ : ∃ y_ : List Int, y_ = (x5_1 ++ y384) := ⟨_, rfl⟩
          replace H : (some y387) = some r := jD
          have Ny387 := aS hy_
          clear hy_
          obtain rfl := Option.some.inj H
          obtain ⟨Ao21, co21, eo21⟩ := Kd.R_slice HO_7.out
          subst eo21
          obtain ⟨Ao22, co22, eo22⟩ := Kd.R_slice HO_6.out
          subst eo22
          have p382 : 0 ≤ (x8_1 : Int) := of_decide_eq_true jC
          have q382 : x8_1 < (t373.length : Int) := of_decide_eq_true jC
          obtain ⟨ad382, e382, hx382_0⟩ := Kd.at_string (Kd.R_reads' HO_6.out).2.2 x8_1 p382 q382
          cases e382
          replace p382 := eq_true p382
          replace q382 := eq_true q382
          go_wp2_with (first | ((with_reducible refine gate_callee (f := 122) rfl ?_); refine goesL_ (some 32) rfl rfl Tryd.func122 jK rfl #[.slice A0 l0.length c0, .string (rdOf ByteArray.empty t373 x8_1)] rfl jA ?_; (with_reducible refine (spec_PlaceOf.calls k1 _ _ l0 (rdOf ByteArray.empty t373 x8_1) t383 _ ?side1 ?side2 A18.out).mono ?_); (case side1 => exact cU ((Kd.C_below HR0.out HB.out))); (case side2 => exact HC0.out); rintro e w23 ⟨rfl, hb⟩; refine ⟨_, rfl, ?_⟩; replace HO_5 := aS (Kd.R_below (rU HO_5.out) hb); replace HO_6 := aS (Kd.R_below (rU HO_6.out) hb); replace HO_7 := aS (Kd.R_below (rU HO_7.out) hb); replace HB := aS (below_step (wU HB.out) hb); clear hb) | ((with_reducible refine gate_dst (N := 43) rfl ?_); refine Kd.R_lit (Kd.int .u8) _ 5 ?hg (N := 43) ?hd (xs := ([(wrap64 (192 + (wrap64 (Int.tdiv t383 256)))) % 256, (Int.tmod t383 256) % 256] : List Int)) (inner := [.int .u8 ((wrap64 (192 + (wrap64 (Int.tdiv t383 256)))) % 256), .int .u8 ((Int.tmod t383 256) % 256)]) (ok := fun _ => True) (okp := fun _ => True) ?hr ?hp (fun _ hk => hk) trivial (Below.refl _ _) (Nat.le_refl _) (by simp) ?_; (case hd => rfl); (case hg => rfl); (case hr => first | (go_simp; done) | (go_simp; rfl)); (case hp => exact (Reps.one (show Kd.M (Kd.int .u8) _ _ _ ((wrap64 (192 + (wrap64 (Int.tdiv t383 256)))) % 256) [.int .u8 ((wrap64 (192 + (wrap64 (Int.tdiv t383 256)))) % 256)] from rfl) (Reps.one (show Kd.M (Kd.int .u8) _ _ _ ((Int.tmod t383 256) % 256) [.int .u8 ((Int.tmod t383 256) % 256)] from rfl) (Reps.none _ _)))); intro v385 w24 ho25 hb hg_ hnew_; clear hg_ hnew_; (first | rw [← Ny384.out] at ho25 | (simp only [Int.reduceToNat] at ho25; rw [← Ny384.out] at ho25)); replace HO_6 := aS (Kd.R_below (rU HO_6.out) hb); replace HO_7 := aS (Kd.R_below (rU HO_7.out) hb); have HO386 := aS (Kd.R_lower (Kd.R_new' ho25 (Kd.R_lt (rU HO_5.out))) (below_size (wU HB.out))); replace HO_5 := aS (Kd.R_elder' (rU HO_5.out) (Kd.R_base ho25) hb); replace HB := aS (below_step (wU HB.out) hb); clear hb ho25; obtain ⟨Ao27, co27, eo27⟩ := Kd.R_slice HO386.out; subst eo27) | ((with_reducible refine gate_builtin (b := .append) (xs := #[.tmp 35, .tmp 43]) rfl ?_); at_builtin; refine Kd.R_append_rows (Kd.int .u8) (w0 := w) w.heap.size rfl (.tmp 35) (.tmp 43) 22 5 (.int .u8 0) 1 rfl Tryd.underlying22 info5 rfl (by decide) (by omega) u5 x5_1 y384 _ _ _ (fun k_ => some k_ ≠ (.slice Ao27 y384.length co27 : Value).ownBlock) (fun _ => False) rfl rfl ?aO ?aR (fun _ _ h => h) (fun _ h => h.elim) ?aF ?aB ?aS ?aL ?_; (case aR => exact cU ((Kd.R_reads' HO386.out).2.2)); (case aB => exact (wU HB.out)); (case aF => exact (fun k_ hk => Kd.fresh' (Kd.R_lt (rU HO386.out)) k_ hk)); (case aO => exact (by (with_reducible repeat (first | apply Kd.R_alloc | apply Kd.R_drewN | apply Kd.R_drew)); exact Kd.R_mono HO_5.out (fun _ hk => hk.2))); (case aS => exact (below_size (wU HB.out))); (case aL => have := LMc20.out; omega); intro v388 w26 ho hb hg hat; rw [← Ny387.out] at ho; replace HO_6 := aS (Kd.R_over' (rU HO_6.out) (Kd.R_typed (rU HO_5.out)) (by decide) hg); replace HO_7 := aS (Kd.R_over' (rU HO_7.out) (Kd.R_typed (rU HO_5.out)) (by decide) hg); replace HO386 := aS (Kd.R_after (ok := (fun _ => True)) (rU HO386.out) hg hat); replace HB := aS (hb); have HO389 := aS (ho); clear HO_5; clear ho hb hg hat))
          go_ret
          exact ⟨_, jE, Kd.R_mono (rU HO389.out) (fun _ hk => trivial), by exact wU HB.out⟩
         ·rw [if_neg c20] at H
          exact absurd H (by simp)
        ·rw [if_neg c19] at H
         have c19b0 := decide_eq_false c19
         clear c19
         obtain ⟨t391, A28, H⟩ := bM H
         try dsimp only at H
         have H' := aS H
         clear H
         obtain ⟨Ao29, co29, eo29⟩ := Kd.R_slice HO_7.out
         subst eo29
         obtain ⟨Ao30, co30, eo30⟩ := Kd.R_slice HO_6.out
         subst eo30
         have p382 : 0 ≤ (x8_1 : Int) := of_decide_eq_true jC
         have q382 : x8_1 < (t373.length : Int) := of_decide_eq_true jC
         obtain ⟨ad382, e382, hx382_0⟩ := Kd.at_string (Kd.R_reads' HO_6.out).2.2 x8_1 p382 q382
         cases e382
         replace p382 := eq_true p382
         replace q382 := eq_true q382
         go_wp2_with (first | ((with_reducible refine gate_callee (f := 122) rfl ?_); refine goesL_ (some 32) rfl rfl Tryd.func122 jK rfl #[.slice A0 l0.length c0, .string (rdOf ByteArray.empty t373 x8_1)] rfl jA ?_; (with_reducible refine (spec_PlaceOf.calls k1 _ _ l0 (rdOf ByteArray.empty t373 x8_1) t383 _ ?side1 ?side2 A18.out).mono ?_); (case side1 => exact cU ((Kd.C_below HR0.out HB.out))); (case side2 => exact HC0.out); rintro e w31 ⟨rfl, hb⟩; refine ⟨_, rfl, ?_⟩; replace HO_5 := aS (Kd.R_below (rU HO_5.out) hb); replace HO_6 := aS (Kd.R_below (rU HO_6.out) hb); replace HO_7 := aS (Kd.R_below (rU HO_7.out) hb); replace HB := aS (below_step (wU HB.out) hb); clear hb; have p390 : 0 ≤ (x8_1 : Int) := of_decide_eq_true jC; have q390 : x8_1 < (t376.length : Int) := of_decide_eq_true jC; obtain ⟨ad390, e390, hx390_0⟩ := Kd.at_string (Kd.R_reads' HO_7.out).2.2 x8_1 p390 q390; cases e390; replace p390 := eq_true p390; replace q390 := eq_true q390; obtain ⟨Ao32, co32, eo32⟩ := Kd.R_slice HO_5.out; subst eo32) | ((with_reducible refine gate_callee (f := 123) rfl ?_); refine goesL_ (some 50) rfl rfl Tryd.func123 jK rfl #[.slice Ao32 x5_1.length co32, .string (rdOf ByteArray.empty t376 x8_1)] rfl jA ?_; (with_reducible refine (spec_PutLabel.calls k1 _ _ x5_1 (rdOf ByteArray.empty t376 x8_1) t391 _ ?side1 ?side2 A28.out).mono ?_); (case side1 => exact cU ((Kd.R_reads' HO_5.out).2.2)); (case side2 => exact (Kd.R_reads' HO_5.out).2.1); rintro e w33 ⟨v392, rfl, ho0, hb⟩; refine ⟨_, rfl, ?_⟩; replace HO_6 := aS (Kd.R_below (rU HO_6.out) hb); replace HO_7 := aS (Kd.R_below (rU HO_7.out) hb); have HO393 := aS (Kd.R_lower (Kd.R_new' ho0 (Kd.R_lt (rU HO_5.out))) (below_size (wU HB.out))); replace HO_5 := aS (Kd.R_elder' (rU HO_5.out) (Kd.R_base ho0) hb); replace HB := aS (below_step (wU HB.out) hb); clear hb; (try clear ho0)))
         go_roundg k1
         case measure => have := HK1.out; omega
         case rel => exact ⟨(t391), (wrap64 (x8_1 + 1)), jB, H', ⟨by have := HK1.out; omega⟩, ⟨Kd.R_mono (rU HO393.out) (fun _ hk => trivial)⟩, ⟨by exact rU HO_6.out⟩, ⟨by exact rU HO_7.out⟩, ⟨by exact wU HB.out⟩⟩
       ·rw [if_neg c17] at H
        exact absurd H (by simp)
      ·rw [if_neg c16] at H
       exact absurd H (by simp)
     ·rw [if_neg c15] at H
      have c15b0 := decide_eq_false c15
      clear c15
      (first | rw [c15b0] | (simp only [i64_w, i32_w]; rw [c15b0]) | skip)
      by_cases c34 : x5_1.length < 140737488355328
      ·rw [if_pos c34] at H
       have LMc34 := aS c34
       clear c34
       obtain ⟨y379, hy_⟩ : ∃ y_ : List Int, y_ = (x5_1 ++ [0]) := ⟨_, rfl⟩
       replace H : (some y379) = some r := jD
       have Ny379 := aS hy_
       clear hy_
       obtain rfl := Option.some.inj H
       obtain ⟨Ao35, co35, eo35⟩ := Kd.R_slice HO_7.out
       subst eo35
       go_wp2_with (first | ((with_reducible refine gate_builtin (b := .append) (xs := #[.tmp 51, .tmp 52]) rfl ?_); at_builtin; refine Kd.R_append (Kd.int .u8) (w0 := w) w.heap.size rfl (.tmp 51) (.tmp 52) 22 5 (.int .u8 0) 1 rfl Tryd.underlying22 info5 rfl (by decide) (by omega) u5 x5_1 0 [.int .u8 0] (fun _ => True) (fun _ => False) rfl rfl ?aP (fun _ hk => hk.elim) ?aF ?aO ?aB ?aS ?aL ?_; (case aP => exact rfl); (case aB => exact (wU HB.out)); (case aF => exact (fun _ _ => trivial)); (case aO => exact (rU HO_5.out)); (case aS => exact (below_size (wU HB.out))); (case aL => have := LMc34.out; omega); intro v380 w36 ho hb hg hat; rw [← Ny379.out] at ho; replace HO_6 := aS (Kd.R_over' (rU HO_6.out) (Kd.R_typed (rU HO_5.out)) (by decide) hg); replace HO_7 := aS (Kd.R_over' (rU HO_7.out) (Kd.R_typed (rU HO_5.out)) (by decide) hg); replace HB := aS (hb); have HO381 := aS (ho); clear HO_5; clear ho hb hg hat))
       go_ret
       exact ⟨_, jE, by exact rU HO381.out, by exact wU HB.out⟩
      ·rw [if_neg c34] at H
       exact absurd H (by simp)
  ·replace c10 := Bool.eq_false_iff.mpr c10
   subst c10
   rw [if_neg Bool.false_ne_true] at H
   obtain rfl := Option.some.inj H
   go_wp2
   go_ret
   exact ⟨_, jE, by exact rU HO371.out, by exact wU HB.out⟩
 ·rw [if_neg c3] at H
  exact absurd H (by simp)

/-! ### spec_PutRecord: function 13 -/
def spec_PutRecord.f (k : Nat) (l0 : List Int) (a1_0 : ByteArray) (a1_1 : Int) (a1_2 : Int) (a1_3 : Int) (a1_4 : ByteArray) (a1_5 : ByteArray) : Option (List Int) := (spec_RecordOk.f k a1_0 a1_1 a1_2 a1_3 a1_4 a1_5).bind fun t395 => (if t395 = true then ((spec_PutName.f k l0 a1_0).bind fun t402 => ((spec_Put2.f t402 a1_1).bind fun t405 => ((spec_Put2.f t405 1).bind fun t408 => ((spec_Put4.f t408 a1_2).bind fun t411 => ((spec_PutData.f k a1_0 a1_1 a1_2 a1_3 a1_4 a1_5).bind fun t414 => ((spec_Put2.f t411 (t414.length : Int)).bind fun t417 => (if t417.length + t414.length < 140737488355328 then (some (t417 ++ t414)) else (none)))))))) else ((some (([] : List Int) : List Int)).bind fun y396 => (if y396.length + l0.length < 140737488355328 then (some (y396 ++ l0)) else (none))))
theorem spec_PutRecord.mono : ∀ a0 a1 a2 a3 a4 a5 a6 k, LeO (spec_PutRecord.f k a0 a1 a2 a3 a4 a5 a6) (spec_PutRecord.f (k + 1) a0 a1 a2 a3 a4 a5 a6) := by
 intro a0 a1 a2 a3 a4 a5 a6 k
 unfold spec_PutRecord.f
 repeat' first
   | (with_reducible first | exact spec_PutData.mono _ _ _ _ _ _ _ | exact spec_PutName.mono _ _ _ | exact spec_RecordOk.mono _ _ _ _ _ _ _ | exact LeO.refl _ | exact LeO.none _ | refine LeO.ite ?_ ?_ | refine LeO.bind ?_ (fun _ => ?_))
   | exact spec_PutData.mono _ _ _ _ _ _ _
   | exact spec_PutName.mono _ _ _
   | exact spec_RecordOk.mono _ _ _ _ _ _ _
   | exact LeO.none _
   | refine LeO.ite ?_ ?_
   | refine LeO.bind ?_ (fun _ => ?_)
def spec_PutRecord.T3 : Bool × List (List Nat × List Nat) := (true, [([], []), ([], []), ([1], [1]), ([0, 2], [0, 2]), ([], []), ([4], [4]), ([3, 5, 3], [3, 5]), ([6, 6], [6]), ([], []), ([8], [8]), ([7, 9, 7], [7, 9]), ([10, 10, 0, 1, 2, 3, 4, 5, 6, 7, 8, 9, 10], [10])])
def spec_PutRecord.B3 : List Nat := [0, 0, 2, 7, 0, 16, 63, 127, 0, 256, 1023, 2047]
theorem spec_PutRecord.tab3 : rtab .any (opsOf Tryd.f13 3) = spec_PutRecord.T3 := by kernel_rfl
theorem spec_PutRecord.bits3 : waitsOk spec_PutRecord.T3.2 spec_PutRecord.B3 = true := by kernel_rfl
set_option maxHeartbeats 8000000 in
set_option maxRecDepth 100000 in
theorem spec_PutRecord.calls (k : Nat) (A0 : Option Addr) (c0 : Nat) (l0 : List Int) (a1_0 : ByteArray) (a1_1 : Int) (a1_2 : Int) (a1_3 : Int) (a1_4 : ByteArray) (a1_5 : ByteArray) (r : List Int) (w : World) (hr0 : Kd.C (Kd.int .u8) w A0 l0.length l0) (hc0 : l0.length ≤ c0) (h : spec_PutRecord.f k l0 a1_0 a1_1 a1_2 a1_3 a1_4 a1_5 = some r) :
  Calls Tryd.prog 13 #[.slice A0 l0.length c0, .agg #[.string a1_0, .int .i64 a1_1, .int .i64 a1_2, .int .i64 a1_3, .string a1_4, .string a1_5]] w fun e w' => ∃ v0_ : Value, e = .returned (v0_) ∧ Kd.R (Kd.int .u8) 5 w' w.heap.size (fun _ => True) v0_ r ∧ Below w.heap.size w w' := by
 have hu25 := Tryd.underlying25
 have HR0 := aS hr0
 have HC0 := aS hc0
 clear hr0 hc0
 have HB := aS (Below.refl w.heap.size w)
 have H : ((spec_RecordOk.f k a1_0 a1_1 a1_2 a1_3 a1_4 a1_5).bind fun t395 => (if t395 = true then ((spec_PutName.f k l0 a1_0).bind fun t402 => ((spec_Put2.f t402 a1_1).bind fun t405 => ((spec_Put2.f t405 1).bind fun t408 => ((spec_Put4.f t408 a1_2).bind fun t411 => ((spec_PutData.f k a1_0 a1_1 a1_2 a1_3 a1_4 a1_5).bind fun t414 => ((spec_Put2.f t411 (t414.length : Int)).bind fun t417 => (if t417.length + t414.length < 140737488355328 then (some (t417 ++ t414)) else (none)))))))) else ((some (([] : List Int) : List Int)).bind fun y396 => (if y396.length + l0.length < 140737488355328 then (some (y396 ++ l0)) else (none))))) = some r := h
 clear h
 obtain ⟨t395, A3, H⟩ := bM H
 try dsimp only at H
 by_cases c4 : t395 = true
 ·subst c4
  rw [if_pos rfl] at H
  obtain ⟨t402, A5, H⟩ := bM H
  try dsimp only at H
  obtain ⟨t405, A6, H⟩ := bM H
  try dsimp only at H
  obtain ⟨t408, A7, H⟩ := bM H
  try dsimp only at H
  obtain ⟨t411, A8, H⟩ := bM H
  try dsimp only at H
  obtain ⟨t414, A9, H⟩ := bM H
  try dsimp only at H
  obtain ⟨t417, A10, H⟩ := bM H
  try dsimp only at H
  by_cases c11 : t417.length + t414.length < 140737488355328
  ·rw [if_pos c11] at H
   have LMc11 := aS c11
   clear c11
   obtain ⟨y420, hy_⟩ : ∃ y_ : List Int, y_ = (t417 ++ t414) := ⟨_, rfl⟩
   replace H : (some y420) = some r := jD
   have Ny420 := aS hy_
   clear hy_
   obtain rfl := Option.some.inj H
   go_enter Tryd.func13, Tryd.ntmps13
   try go_wp2_with (first | ((with_reducible refine gate_dst (N := 3) rfl ?_); refine box_event ?hg (N := 3) ?hd (cs := #[.string a1_0, .int .i64 a1_1, .int .i64 a1_2, .int .i64 a1_3, .string a1_4, .string a1_5]) (t := 25) ?hr ?_; (case hd => rfl); (case hg => rfl); (case hr => first | (go_simp; done) | (go_simp; rfl)); intro gb394 hg w12 hbox hb; have BK394 := aS (hbox); have GW394 := aS ((by rw [hg]; exact (below_size (wU HB.out)) : w.heap.size ≤ gb394)); have GE394 := aS ((by rw [hg]; exact (below_size (wU HB.out)) : w.heap.size ≤ gb394)); replace HB := aS (below_step (wU HB.out) hb); clear hb hbox hg; have hcz13 := cells6f BK394.out) | ((with_reducible refine gate_callee (f := 54) rfl ?_); refine goesL_ (some 8) rfl rfl Tryd.func54 jK rfl #[.agg #[.string a1_0, .int .i64 a1_1, .int .i64 a1_2, .int .i64 a1_3, .string a1_4, .string a1_5]] rfl jA ?_; (with_reducible refine (spec_RecordOk.calls k a1_0 a1_1 a1_2 a1_3 a1_4 a1_5 true _ A3.out).mono ?_); rintro e w14 ⟨rfl, hb⟩; refine ⟨_, rfl, ?_⟩; replace BK394 := aS (blk_below (bU BK394.out) hb); replace HB := aS (below_step (wS1 HB.out GE394.out) hb); clear hb))
   replace BK394 := aS (blk_drew BK394.out)
   replace HB := aS (below_drew1 HB.out)
   refine start_ (n := 12) (S := fun w' => w'.cell? ⟨gb394, 0, none⟩ = some (.string a1_0) ∧ w'.cell? ⟨gb394, 1, none⟩ = some (.int .i64 a1_1) ∧ w'.cell? ⟨gb394, 2, none⟩ = some (.int .i64 a1_2) ∧ w'.cell? ⟨gb394, 3, none⟩ = some (.int .i64 a1_3) ∧ w'.cell? ⟨gb394, 4, none⟩ = some (.string a1_4) ∧ w'.cell? ⟨gb394, 5, none⟩ = some (.string a1_5)) (ds := []) #[false, false, false, false, false, false, false, false, false, false, false, false] jK rfl rfl ⟨(blk_cell BK394.out 0).trans rfl, (blk_cell BK394.out 1).trans rfl, (blk_cell BK394.out 2).trans rfl, (blk_cell BK394.out 3).trans rfl, (blk_cell BK394.out 4).trans rfl, (blk_cell BK394.out 5).trans rfl⟩ (fun hHeld => ?_); refine with_tabW spec_PutRecord.tab3 spec_PutRecord.bits3 (fun HT_ HW_ => ?_)
   generalize w14.drew = w15 at BK394 HB hHeld ⊢
   refine pure_ (i := 0) (N := some 13) (v := ?_) (a' := ?_) #[true, false, false, false, false, false, false, false, false, false, false, false] rfl rfl (any_of HT_.out jK) (fun _ _ _ h => h) (Or.inl ⟨by rfl, ?_⟩) ?_ ?_
   rotate_left
   ·intro w'
    go_simp
    with_reducible rfl
   rotate_left
   ·simp only [Act.put, List.setIfInBounds_toArray, List.set_cons_zero, List.set_cons_succ, i64_w, i32_w]
    rfl
   refine pure_ (i := 1) (N := some 14) (v := ?_) (a' := ?_) #[true, true, false, false, false, false, false, false, false, false, false, false] rfl rfl (any_of HT_.out jK) (fun _ _ _ h => h) (Or.inl ⟨by rfl, ?_⟩) ?_ ?_
   rotate_left
   ·intro w'
    go_simp
    with_reducible rfl
   rotate_left
   ·simp only [Act.put, List.setIfInBounds_toArray, List.set_cons_zero, List.set_cons_succ, i64_w, i32_w]
    rfl
   refine pure_ (i := 4) (N := some 17) (v := ?_) (a' := ?_) #[true, true, false, false, true, false, false, false, false, false, false, false] rfl rfl (any_of HT_.out jK) (fun _ _ _ h => h) (Or.inl ⟨by rfl, ?_⟩) ?_ ?_
   rotate_left
   ·intro w'
    go_simp
    with_reducible rfl
   rotate_left
   ·simp only [Act.put, List.setIfInBounds_toArray, List.set_cons_zero, List.set_cons_succ, i64_w, i32_w]
    rfl
   refine pure_ (i := 8) (N := some 21) (v := ?_) (a' := ?_) #[true, true, false, false, true, false, false, false, true, false, false, false] rfl rfl (any_of HT_.out jK) (fun _ _ _ h => h) (Or.inl ⟨by rfl, ?_⟩) ?_ ?_
   rotate_left
   ·intro w'
    go_simp
    with_reducible rfl
   rotate_left
   ·simp only [Act.put, List.setIfInBounds_toArray, List.set_cons_zero, List.set_cons_succ, i64_w, i32_w]
    rfl
   refine take_ (i := 2) (N := some 15) (v := ?_) (a' := ?_) #[true, true, true, false, true, false, false, false, true, false, false, false] rfl rfl (take_ofW HT_.out HW_.out jK) (fun _ _ _ h => h) (Or.inl ⟨by rfl, ?_⟩) hHeld ?_ ?_
   rotate_left
   ·rintro w' ⟨s0, s1, s2, s3, s4, s5⟩
    go_simp
    with_reducible rfl
   rotate_left
   ·simp only [Act.put, List.setIfInBounds_toArray, List.set_cons_zero, List.set_cons_succ, i64_w, i32_w]
    rfl
   refine take_ (i := 5) (N := some 18) (v := ?_) (a' := ?_) #[true, true, true, false, true, true, false, false, true, false, false, false] rfl rfl (take_ofW HT_.out HW_.out jK) (fun _ _ _ h => h) (Or.inl ⟨by rfl, ?_⟩) hHeld ?_ ?_
   rotate_left
   ·rintro w' ⟨s0, s1, s2, s3, s4, s5⟩
    go_simp
    with_reducible rfl
   rotate_left
   ·simp only [Act.put, List.setIfInBounds_toArray, List.set_cons_zero, List.set_cons_succ, i64_w, i32_w]
    rfl
   refine take_ (i := 9) (N := some 22) (v := ?_) (a' := ?_) #[true, true, true, false, true, true, false, false, true, true, false, false] rfl rfl (take_ofW HT_.out HW_.out jK) (fun _ _ _ h => h) (Or.inl ⟨by rfl, ?_⟩) hHeld ?_ ?_
   rotate_left
   ·rintro w' ⟨s0, s1, s2, s3, s4, s5⟩
    go_simp
    with_reducible rfl
   rotate_left
   ·simp only [Act.put, List.setIfInBounds_toArray, List.set_cons_zero, List.set_cons_succ, i64_w, i32_w]
    rfl
   refine one_ (i := 3) (N := some 16) #[true, true, true, true, true, true, false, false, true, true, false, false] rfl rfl (one_of HT_.out jK) (by decide) (fun K hK => ?_)
   refine goes_ Tryd.func65 jK rfl #[.slice A0 l0.length c0, .string a1_0] (by rfl) rfl rfl jA ?_
   with_reducible refine (spec_PutName.calls k _ _ l0 a1_0 t402 _ ?side1 ?side2 A5.out).mono ?_
   (case side1 => exact cU ((Kd.C_below HR0.out HB.out)))
   (case side2 => exact HC0.out)
   rintro e w16 ⟨v403, rfl, ho0, hb⟩
   refine ⟨_, rfl, ?_⟩
   have HO404 := aS (Kd.R_lower ho0 (below_size (wS1 HB.out GE394.out)))
   replace BK394 := aS (blk_below (bU BK394.out) hb)
   replace HB := aS (below_step (wS1 HB.out GE394.out) hb)
   (try clear hb)
   (try clear hb2)
   (try clear hk)
   (try clear hi)
   (try clear ho0)
   obtain ⟨Ao17, co17, eo17⟩ := Kd.R_slice HO404.out
   (first | subst eo17 | (injection eo17 with f1_ f2_ f3_; have f4_ := f1_.symm; have f5_ := f3_.symm; clear f1_ f2_ f3_; subst f4_; subst f5_))
   refine hK.out _ _ ⟨(blk_cell BK394.out 0).trans rfl, (blk_cell BK394.out 1).trans rfl, (blk_cell BK394.out 2).trans rfl, (blk_cell BK394.out 3).trans rfl, (blk_cell BK394.out 4).trans rfl, (blk_cell BK394.out 5).trans rfl⟩ (fun hHeld => ?_)
   clear hK K
   refine norm_ (a' := ?_) ?_ ?_
   rotate_left
   ·show Act.put _ (some 16) _ = _
    simp only [Act.put, List.setIfInBounds_toArray, List.set_cons_zero, List.set_cons_succ, i64_w, i32_w]
    rfl
   refine one_ (i := 6) (N := some 19) #[true, true, true, true, true, true, true, false, true, true, false, false] rfl rfl (one_of HT_.out jK) (by decide) (fun K hK => ?_)
   refine goes_ Tryd.func64 jK rfl #[.slice Ao17 t402.length co17, .int .i64 a1_1] (by rfl) rfl rfl jA ?_
   with_reducible refine (spec_Put2.calls _ _ t402 a1_1 t405 _ ?side1 ?side2 A6.out).mono ?_
   (case side1 => exact cU ((Kd.R_reads' HO404.out).2.2))
   (case side2 => exact (Kd.R_reads' HO404.out).2.1)
   rintro e w18 ⟨v406, rfl, ho0, hb⟩
   refine ⟨_, rfl, ?_⟩
   have HO407 := aS (Kd.R_lower (Kd.R_new' ho0 (Kd.R_lt (rU HO404.out))) (below_size (wS1 HB.out GE394.out)))
   replace HO404 := aS (Kd.R_elder' (rU HO404.out) (Kd.R_base ho0) hb)
   replace BK394 := aS (blk_below (bU BK394.out) hb)
   replace HB := aS (below_step (wS1 HB.out GE394.out) hb)
   (try clear hb)
   (try clear hb2)
   (try clear hk)
   (try clear hi)
   (try clear ho0)
   obtain ⟨Ao19, co19, eo19⟩ := Kd.R_slice HO407.out
   (first | subst eo19 | (injection eo19 with f1_ f2_ f3_; have f4_ := f1_.symm; have f5_ := f3_.symm; clear f1_ f2_ f3_; subst f4_; subst f5_))
   refine hK.out _ _ ⟨(blk_cell BK394.out 0).trans rfl, (blk_cell BK394.out 1).trans rfl, (blk_cell BK394.out 2).trans rfl, (blk_cell BK394.out 3).trans rfl, (blk_cell BK394.out 4).trans rfl, (blk_cell BK394.out 5).trans rfl⟩ (fun hHeld => ?_)
   clear hK K
   refine norm_ (a' := ?_) ?_ ?_
   rotate_left
   ·show Act.put _ (some 19) _ = _
    simp only [Act.put, List.setIfInBounds_toArray, List.set_cons_zero, List.set_cons_succ, i64_w, i32_w]
    rfl
   refine one_ (i := 7) (N := some 20) #[true, true, true, true, true, true, true, true, true, true, false, false] rfl rfl (one_of HT_.out jK) (by decide) (fun K hK => ?_)
   refine goes_ Tryd.func64 jK rfl #[.slice Ao19 t405.length co19, .int .i64 1] (by rfl) rfl rfl jA ?_
   with_reducible refine (spec_Put2.calls _ _ t405 1 t408 _ ?side1 ?side2 A7.out).mono ?_
   (case side1 => exact cU ((Kd.R_reads' HO407.out).2.2))
   (case side2 => exact (Kd.R_reads' HO407.out).2.1)
   rintro e w20 ⟨v409, rfl, ho0, hb⟩
   refine ⟨_, rfl, ?_⟩
   have HO410 := aS (Kd.R_lower (Kd.R_new' (Kd.R_new' ho0 (Kd.R_lt (rU HO404.out))) (Kd.R_lt (rU HO407.out))) (below_size (wS1 HB.out GE394.out)))
   replace HO404 := aS (Kd.R_elder' (rU HO404.out) (Kd.R_base ho0) hb)
   replace HO407 := aS (Kd.R_elder' (rU HO407.out) (Kd.R_base ho0) hb)
   replace BK394 := aS (blk_below (bU BK394.out) hb)
   replace HB := aS (below_step (wS1 HB.out GE394.out) hb)
   (try clear hb)
   (try clear hb2)
   (try clear hk)
   (try clear hi)
   (try clear ho0)
   obtain ⟨Ao21, co21, eo21⟩ := Kd.R_slice HO410.out
   (first | subst eo21 | (injection eo21 with f1_ f2_ f3_; have f4_ := f1_.symm; have f5_ := f3_.symm; clear f1_ f2_ f3_; subst f4_; subst f5_))
   refine hK.out _ _ ⟨(blk_cell BK394.out 0).trans rfl, (blk_cell BK394.out 1).trans rfl, (blk_cell BK394.out 2).trans rfl, (blk_cell BK394.out 3).trans rfl, (blk_cell BK394.out 4).trans rfl, (blk_cell BK394.out 5).trans rfl⟩ (fun hHeld => ?_)
   clear hK K
   refine norm_ (a' := ?_) ?_ ?_
   rotate_left
   ·show Act.put _ (some 20) _ = _
    simp only [Act.put, List.setIfInBounds_toArray, List.set_cons_zero, List.set_cons_succ, i64_w, i32_w]
    rfl
   refine one_ (i := 10) (N := some 23) #[true, true, true, true, true, true, true, true, true, true, true, false] rfl rfl (one_of HT_.out jK) (by decide) (fun K hK => ?_)
   refine goes_ Tryd.func63 jK rfl #[.slice Ao21 t408.length co21, .int .i64 a1_2] (by rfl) rfl rfl jA ?_
   with_reducible refine (spec_Put4.calls _ _ t408 a1_2 t411 _ ?side1 ?side2 A8.out).mono ?_
   (case side1 => exact cU ((Kd.R_reads' HO410.out).2.2))
   (case side2 => exact (Kd.R_reads' HO410.out).2.1)
   rintro e w22 ⟨v412, rfl, ho0, hb⟩
   refine ⟨_, rfl, ?_⟩
   have HO413 := aS (Kd.R_lower (Kd.R_new' (Kd.R_new' (Kd.R_new' ho0 (Kd.R_lt (rU HO404.out))) (Kd.R_lt (rU HO407.out))) (Kd.R_lt (rU HO410.out))) (below_size (wS1 HB.out GE394.out)))
   replace HO404 := aS (Kd.R_elder' (rU HO404.out) (Kd.R_base ho0) hb)
   replace HO407 := aS (Kd.R_elder' (rU HO407.out) (Kd.R_base ho0) hb)
   replace HO410 := aS (Kd.R_elder' (rU HO410.out) (Kd.R_base ho0) hb)
   replace BK394 := aS (blk_below (bU BK394.out) hb)
   replace HB := aS (below_step (wS1 HB.out GE394.out) hb)
   (try clear hb)
   (try clear hb2)
   (try clear hk)
   (try clear hi)
   (try clear ho0)
   refine hK.out _ _ ⟨(blk_cell BK394.out 0).trans rfl, (blk_cell BK394.out 1).trans rfl, (blk_cell BK394.out 2).trans rfl, (blk_cell BK394.out 3).trans rfl, (blk_cell BK394.out 4).trans rfl, (blk_cell BK394.out 5).trans rfl⟩ (fun hHeld => ?_)
   clear hK K
   refine norm_ (a' := ?_) ?_ ?_
   rotate_left
   ·show Act.put _ (some 23) _ = _
    simp only [Act.put, List.setIfInBounds_toArray, List.set_cons_zero, List.set_cons_succ, i64_w, i32_w]
    rfl
   refine pure_ (i := 11) (N := some 5) (v := ?_) (a' := ?_) #[true, true, true, true, true, true, true, true, true, true, true, true] rfl rfl (any_of HT_.out jK) (fun _ _ _ h => h) (Or.inl ⟨by rfl, ?_⟩) ?_ ?_
   rotate_left
   ·intro w'
    go_simp
    with_reducible rfl
   rotate_left
   ·simp only [Act.put, List.setIfInBounds_toArray, List.set_cons_zero, List.set_cons_succ, i64_w, i32_w]
    rfl
   refine done_ (done_of HT_.out jK) ?_
   have hcz23 := cells6f BK394.out
   try go_wp2_with (first | ((with_reducible refine gate_callee (f := 14) rfl ?_); refine goesL_ (some 25) rfl rfl Tryd.func14 jK rfl #[.agg #[.string a1_0, .int .i64 a1_1, .int .i64 a1_2, .int .i64 a1_3, .string a1_4, .string a1_5]] rfl jA ?_; (with_reducible refine (spec_PutData.calls k a1_0 a1_1 a1_2 a1_3 a1_4 a1_5 t414 _ A9.out).mono ?_); rintro e w24 ⟨v415, rfl, ho0, hb⟩; refine ⟨_, rfl, ?_⟩; have HO416 := aS (Kd.R_lower (Kd.R_new' (Kd.R_new' (Kd.R_new' (Kd.R_new' ho0 (Kd.R_lt (rU HO404.out))) (Kd.R_lt (rU HO407.out))) (Kd.R_lt (rU HO410.out))) (Kd.R_lt (rU HO413.out))) (below_size (wS1 HB.out GE394.out))); replace HO404 := aS (Kd.R_elder' (rU HO404.out) (Kd.R_base ho0) hb); replace HO407 := aS (Kd.R_elder' (rU HO407.out) (Kd.R_base ho0) hb); replace HO410 := aS (Kd.R_elder' (rU HO410.out) (Kd.R_base ho0) hb); replace HO413 := aS (Kd.R_elder' (rU HO413.out) (Kd.R_base ho0) hb); replace BK394 := aS (blk_below (bU BK394.out) hb); replace HB := aS (below_step (wS1 HB.out GE394.out) hb); clear hb; (try clear ho0); obtain ⟨Ao25, co25, eo25⟩ := Kd.R_slice HO416.out; subst eo25; obtain ⟨Ao26, co26, eo26⟩ := Kd.R_slice HO413.out; subst eo26) | ((with_reducible refine gate_callee (f := 64) rfl ?_); refine goesL_ (some 29) rfl rfl Tryd.func64 jK rfl #[.slice Ao26 t411.length co26, .int .i64 (t414.length : Int)] rfl jA ?_; (with_reducible refine (spec_Put2.calls _ _ t411 (t414.length : Int) t417 _ ?side1 ?side2 A10.out).mono ?_); (case side1 => exact cU ((Kd.R_reads' HO413.out).2.2)); (case side2 => exact (Kd.R_reads' HO413.out).2.1); rintro e w27 ⟨v418, rfl, ho0, hb⟩; refine ⟨_, rfl, ?_⟩; have HO419 := aS (Kd.R_lower (Kd.R_new' (Kd.R_new' (Kd.R_new' (Kd.R_new' (Kd.R_new' ho0 (Kd.R_lt (rU HO404.out))) (Kd.R_lt (rU HO407.out))) (Kd.R_lt (rU HO410.out))) (Kd.R_lt (rU HO413.out))) (Kd.R_lt (rU HO416.out))) (below_size (wS1 HB.out GE394.out))); replace HO404 := aS (Kd.R_elder' (rU HO404.out) (Kd.R_base ho0) hb); replace HO407 := aS (Kd.R_elder' (rU HO407.out) (Kd.R_base ho0) hb); replace HO410 := aS (Kd.R_elder' (rU HO410.out) (Kd.R_base ho0) hb); replace HO413 := aS (Kd.R_elder' (rU HO413.out) (Kd.R_base ho0) hb); replace HO416 := aS (Kd.R_elder' (rU HO416.out) (Kd.R_base ho0) hb); replace BK394 := aS (blk_below (bU BK394.out) hb); replace HB := aS (below_step (wS1 HB.out GE394.out) hb); clear hb; (try clear ho0)) | ((with_reducible refine gate_builtin (b := .append) (xs := #[.tmp 29, .tmp 30]) rfl ?_); at_builtin; refine Kd.R_append_rows (Kd.int .u8) (w0 := w) w.heap.size rfl (.tmp 29) (.tmp 30) 22 5 (.int .u8 0) 1 rfl Tryd.underlying22 info5 rfl (by decide) (by omega) v418 t417 t414 _ _ _ (fun k_ => some k_ ≠ (.slice Ao17 t402.length co17 : Value).ownBlock ∧ some k_ ≠ (.slice Ao19 t405.length co19 : Value).ownBlock ∧ some k_ ≠ (.slice Ao21 t408.length co21 : Value).ownBlock ∧ some k_ ≠ (.slice Ao26 t411.length co26 : Value).ownBlock ∧ some k_ ≠ (.slice Ao25 t414.length co25 : Value).ownBlock) (fun _ => False) rfl rfl ?aO ?aR (fun _ _ h => h) (fun _ h => h.elim) ?aF ?aB ?aS ?aL ?_; (case aR => exact cU ((Kd.R_reads' HO416.out).2.2)); (case aB => exact (wS1 HB.out GE394.out)); (case aF => exact (fun k_ hk => ⟨Kd.fresh' (Kd.R_lt (rU HO404.out)) k_ hk, Kd.fresh' (Kd.R_lt (rU HO407.out)) k_ hk, Kd.fresh' (Kd.R_lt (rU HO410.out)) k_ hk, Kd.fresh' (Kd.R_lt (rU HO413.out)) k_ hk, Kd.fresh' (Kd.R_lt (rU HO416.out)) k_ hk⟩)); (case aO => exact (by (with_reducible repeat (first | apply Kd.R_alloc | apply Kd.R_drewN | apply Kd.R_drew)); exact Kd.R_mono HO419.out (fun _ hk => ⟨hk.1.1.1.1.2, ⟨hk.1.1.1.2, ⟨hk.1.1.2, ⟨hk.1.2, hk.2⟩⟩⟩⟩))); (case aS => exact (below_size (wS1 HB.out GE394.out))); (case aL => have := LMc11.out; omega); intro v421 w28 ho hb hg hat; rw [← Ny420.out] at ho; replace BK394 := aS (blk_grown (g := gb394) (o := .cells #[.string a1_0, .int .i64 a1_1, .int .i64 a1_2, .int .i64 a1_3, .string a1_4, .string a1_5] 25 (0, 0)) (bU BK394.out) hg (Kd.R_ne HO419.out BK394.out (by decide))); replace HO404 := aS (Kd.R_after (ok := (fun k_ => some k_ ≠ (.slice Ao19 t405.length co19 : Value).ownBlock ∧ some k_ ≠ (.slice Ao21 t408.length co21 : Value).ownBlock ∧ some k_ ≠ (.slice Ao26 t411.length co26 : Value).ownBlock ∧ some k_ ≠ (.slice Ao25 t414.length co25 : Value).ownBlock)) (by (with_reducible repeat (first | apply Kd.R_alloc | apply Kd.R_drewN | apply Kd.R_drew)); exact Kd.R_mono HO404.out (fun _ hk => ⟨⟨hk.1.1.1.1.2, ⟨hk.1.1.1.2, ⟨hk.1.1.2, hk.1.2⟩⟩⟩, hk.2⟩)) hg hat); replace HO407 := aS (Kd.R_after (ok := (fun k_ => some k_ ≠ (.slice Ao17 t402.length co17 : Value).ownBlock ∧ some k_ ≠ (.slice Ao21 t408.length co21 : Value).ownBlock ∧ some k_ ≠ (.slice Ao26 t411.length co26 : Value).ownBlock ∧ some k_ ≠ (.slice Ao25 t414.length co25 : Value).ownBlock)) (by (with_reducible repeat (first | apply Kd.R_alloc | apply Kd.R_drewN | apply Kd.R_drew)); exact Kd.R_mono HO407.out (fun _ hk => ⟨⟨hk.1.1.1.1.2, ⟨hk.1.1.1.2, ⟨hk.1.1.2, hk.1.2⟩⟩⟩, hk.2⟩)) hg hat); replace HO410 := aS (Kd.R_after (ok := (fun k_ => some k_ ≠ (.slice Ao17 t402.length co17 : Value).ownBlock ∧ some k_ ≠ (.slice Ao19 t405.length co19 : Value).ownBlock ∧ some k_ ≠ (.slice Ao26 t411.length co26 : Value).ownBlock ∧ some k_ ≠ (.slice Ao25 t414.length co25 : Value).ownBlock)) (by (with_reducible repeat (first | apply Kd.R_alloc | apply Kd.R_drewN | apply Kd.R_drew)); exact Kd.R_mono HO410.out (fun _ hk => ⟨⟨hk.1.1.1.1.2, ⟨hk.1.1.1.2, ⟨hk.1.1.2, hk.1.2⟩⟩⟩, hk.2⟩)) hg hat); replace HO413 := aS (Kd.R_after (ok := (fun k_ => some k_ ≠ (.slice Ao17 t402.length co17 : Value).ownBlock ∧ some k_ ≠ (.slice Ao19 t405.length co19 : Value).ownBlock ∧ some k_ ≠ (.slice Ao21 t408.length co21 : Value).ownBlock ∧ some k_ ≠ (.slice Ao25 t414.length co25 : Value).ownBlock)) (by (with_reducible repeat (first | apply Kd.R_alloc | apply Kd.R_drewN | apply Kd.R_drew)); exact Kd.R_mono HO413.out (fun _ hk => ⟨⟨hk.1.1.1.1.2, ⟨hk.1.1.1.2, ⟨hk.1.1.2, hk.1.2⟩⟩⟩, hk.2⟩)) hg hat); replace HO416 := aS (Kd.R_after (ok := (fun k_ => some k_ ≠ (.slice Ao17 t402.length co17 : Value).ownBlock ∧ some k_ ≠ (.slice Ao19 t405.length co19 : Value).ownBlock ∧ some k_ ≠ (.slice Ao21 t408.length co21 : Value).ownBlock ∧ some k_ ≠ (.slice Ao26 t411.length co26 : Value).ownBlock)) (by (with_reducible repeat (first | apply Kd.R_alloc | apply Kd.R_drewN | apply Kd.R_drew)); exact Kd.R_mono HO416.out (fun _ hk => ⟨⟨hk.1.1.1.1.2, ⟨hk.1.1.1.2, ⟨hk.1.1.2, hk.1.2⟩⟩⟩, hk.2⟩)) hg hat); replace HB := aS (hb); have HO422 := aS (ho); clear HO419; clear ho hb hg hat))
   go_ret
   exact ⟨_, jE, Kd.R_mono (rU HO422.out) (fun _ hk => trivial), by exact wS1 HB.out GE394.out⟩
  ·rw [if_neg c11] at H
   exact absurd H (by simp)
 ·replace c4 := Bool.eq_false_iff.mpr c4
  subst c4
  rw [if_neg Bool.false_ne_true] at H
  obtain ⟨y396, hy_⟩ : ∃ y_ : List Int, y_ = (([] : List Int)) := ⟨_, rfl⟩
  replace H : (if y396.length + l0.length < 140737488355328 then (some (y396 ++ l0)) else (none)) = some r := jD
  have Ny396 := aS hy_
  clear hy_
  by_cases c29 : y396.length + l0.length < 140737488355328
  ·rw [if_pos c29] at H
   have LMc29 := aS c29
   clear c29
   obtain ⟨y399, hy_⟩ : ∃ y_ : List Int, y_ = (y396 ++ l0) := ⟨_, rfl⟩
   replace H : (some y399) = some r := jD
   have Ny399 := aS hy_
   clear hy_
   obtain rfl := Option.some.inj H
   go_enter Tryd.func13, Tryd.ntmps13
   go_wp2_with (first | ((with_reducible refine gate_dst (N := 3) rfl ?_); refine box_event ?hg (N := 3) ?hd (cs := #[.string a1_0, .int .i64 a1_1, .int .i64 a1_2, .int .i64 a1_3, .string a1_4, .string a1_5]) (t := 25) ?hr ?_; (case hd => rfl); (case hg => rfl); (case hr => first | (go_simp; done) | (go_simp; rfl)); intro gb394 hg w30 hbox hb; have BK394 := aS (hbox); have GW394 := aS ((by rw [hg]; exact (below_size (wU HB.out)) : w.heap.size ≤ gb394)); have GE394 := aS ((by rw [hg]; exact (below_size (wU HB.out)) : w.heap.size ≤ gb394)); replace HB := aS (below_step (wU HB.out) hb); clear hb hbox hg; have hcz31 := cells6f BK394.out) | ((with_reducible refine gate_callee (f := 54) rfl ?_); refine goesL_ (some 8) rfl rfl Tryd.func54 jK rfl #[.agg #[.string a1_0, .int .i64 a1_1, .int .i64 a1_2, .int .i64 a1_3, .string a1_4, .string a1_5]] rfl jA ?_; (with_reducible refine (spec_RecordOk.calls k a1_0 a1_1 a1_2 a1_3 a1_4 a1_5 false _ A3.out).mono ?_); rintro e w32 ⟨rfl, hb⟩; refine ⟨_, rfl, ?_⟩; replace BK394 := aS (blk_below (bU BK394.out) hb); replace HB := aS (below_step (wS1 HB.out GE394.out) hb); clear hb) | ((with_reducible refine gate_dst (N := 10) rfl ?_); refine Kd.R_lit (Kd.int .u8) _ 5 ?hg (N := 10) ?hd (xs := ([] : List Int)) (inner := []) (ok := fun _ => True) (okp := fun _ => True) ?hr ?hp (fun _ hk => hk) trivial (Below.refl _ _) (Nat.le_refl _) (by simp) ?_; (case hd => rfl); (case hg => rfl); (case hr => first | (go_simp; done) | (go_simp; rfl)); (case hp => exact (Reps.none _ _)); intro v397 w33 ho34 hb hg_ hnew_; clear hg_ hnew_; (first | rw [← Ny396.out] at ho34 | (simp only [Int.reduceToNat] at ho34; rw [← Ny396.out] at ho34)); have HO398 := aS (Kd.R_lower ho34 (below_size (wS1 HB.out GE394.out))); replace BK394 := aS (blk_below (bU BK394.out) hb); replace HB := aS (below_step (wS1 HB.out GE394.out) hb); clear hb ho34) | ((with_reducible refine gate_builtin (b := .append) (xs := #[.tmp 10, .tmp 11]) rfl ?_); at_builtin; refine Kd.R_append_rows (Kd.int .u8) (w0 := w) w.heap.size rfl (.tmp 10) (.tmp 11) 22 5 (.int .u8 0) 1 rfl Tryd.underlying22 info5 rfl (by decide) (by omega) v397 y396 l0 _ _ _ (fun _ => True) (fun _ => False) rfl rfl ?aO ?aR (fun _ _ h => h) (fun _ h => h.elim) ?aF ?aB ?aS ?aL ?_; (case aR => exact cU ((Kd.C_below HR0.out HB.out))); (case aB => exact (wS1 HB.out GE394.out)); (case aF => exact (fun _ _ => trivial)); (case aO => exact (rU HO398.out)); (case aS => exact (below_size (wS1 HB.out GE394.out))); (case aL => have := LMc29.out; omega); intro v400 w35 ho hb hg hat; rw [← Ny399.out] at ho; replace BK394 := aS (blk_grown (g := gb394) (o := .cells #[.string a1_0, .int .i64 a1_1, .int .i64 a1_2, .int .i64 a1_3, .string a1_4, .string a1_5] 25 (0, 0)) (bU BK394.out) hg (Kd.R_ne HO398.out BK394.out (by decide))); replace HB := aS (hb); have HO401 := aS (ho); clear HO398; clear ho hb hg hat))
   go_ret
   exact ⟨_, jE, by exact rU HO401.out, by exact wS1 HB.out GE394.out⟩
  ·rw [if_neg c29] at H
   exact absurd H (by simp)

/-- A state of type 111 at block g of W; what its slices lead to came in by w0. -/
def IsS111 (w0 W : World) (g : Nat) (f0 : List Int) (f1 : Int) (f2 : Int) : Prop := ∃ A0 c0, W.heap[g]? = some (.cells #[.slice A0 f0.length c0, .int .i64 f1, .int .i64 f2] 111 (0, 0)) ∧ w0.heap.size ≤ g ∧ Kd.C (Kd.int .u8) w0 A0 f0.length f0
theorem IsS111.grown {w0 W : World} {g : Nat} {f0 : List Int} {f1 : Int} {f2 : Int} {W1 : World} {row : Option Nat} (h : IsS111 w0 W g f0 f1 f2) (hw : W.grownBy W1 row) (hne : some g ≠ row) : IsS111 w0 W1 g f0 f1 f2 := by
 obtain ⟨A0, c0, hb, hg, hr0⟩ := h
 exact ⟨A0, c0, blk_grown hb hw hne, hg, hr0⟩
theorem IsS111.own_neN {w0 W : World} {g : Nat} {f0 : List Int} {f1 : Int} {f2 : Int} {α : Type} {d : Kd α} {e : Nat} {base : Nat} {ok : Nat → Prop} {v : Value} {xs : List α} (h : IsS111 w0 W g f0 f1 f2) (ho : Kd.N d e W base ok v xs) (ht : e ≠ 111) : some g ≠ v.ownBlock := by
 obtain ⟨A0, c0, hb, hg, hr0⟩ := h
 exact Kd.N_ne ho hb ht
theorem IsS111.fresh {w0 W : World} {g : Nat} {f0 : List Int} {f1 : Int} {f2 : Int} (h : IsS111 w0 W g f0 f1 f2) : ∀ k, W.heap.size ≤ k → k ≠ g := by
 obtain ⟨A0, c0, hb, hg, hr0⟩ := h
 exact Kd.freshB hb
theorem IsS111.kept {w0 W : World} {g : Nat} {f0 : List Int} {f1 : Int} {f2 : Int} {W1 : World} {S : Nat → Prop} (h : IsS111 w0 W g f0 f1 f2) (hk : Kept W W1 S) (hne : ¬ S g) : IsS111 w0 W1 g f0 f1 f2 := by
 obtain ⟨A0, c0, hb, hg, hr0⟩ := h
 exact ⟨A0, c0, blk_kept hb hk hne, hg, hr0⟩
theorem IsS111.below {w0 W : World} {g : Nat} {f0 : List Int} {f1 : Int} {f2 : Int} {W1 : World} (h : IsS111 w0 W g f0 f1 f2) (hw : Below W.heap.size W W1) : IsS111 w0 W1 g f0 f1 f2 := h.grown (grown_of_below hw none) (by simp)
theorem IsS111.alloc {w0 W : World} {g : Nat} {f0 : List Int} {f1 : Int} {f2 : Int} (h : IsS111 w0 W g f0 f1 f2) (o : Obj) : IsS111 w0 (W.alloc o) g f0 f1 f2 := h.below (below_alloc (Below.refl _ _) o)
theorem IsS111.drewN {w0 W : World} {g : Nat} {f0 : List Int} {f1 : Int} {f2 : Int} (h : IsS111 w0 W g f0 f1 f2) (m : Nat) : IsS111 w0 (W.drewN m) g f0 f1 f2 := h
theorem IsS111.drew {w0 W : World} {g : Nat} {f0 : List Int} {f1 : Int} {f2 : Int} (h : IsS111 w0 W g f0 f1 f2) : IsS111 w0 W.drew g f0 f1 f2 := h
theorem IsS111.at_ {w0 W : World} {g : Nat} {f0 : List Int} {f1 : Int} {f2 : Int} {w' : World} {m : Nat} (hq : W.drewN m = w') (h : IsS111 w0 W g f0 f1 f2) : IsS111 w0 w' g f0 f1 f2 := by subst hq; exact IsS111.drewN h m
theorem IsS111.apart {w0 W : World} {g : Nat} {f0 : List Int} {f1 : Int} {f2 : Int} {α : Type} {d : Kd α} {e : Nat} {base : Nat} {ok : Nat → Prop} {v : Value} {xs : List α} (h : IsS111 w0 W g f0 f1 f2) (ho : d.R e W base ok v xs) (ht : ∀ q, q ∈ e :: d.E → q ≠ 111) : d.R e W base (fun k => ok k ∧ k ≠ g) v xs := by
 obtain ⟨A0, c0, hb, hg, hr0⟩ := h
 exact Kd.R_types ho hb ht
theorem IsS111.own_ne {w0 W : World} {g : Nat} {f0 : List Int} {f1 : Int} {f2 : Int} {α : Type} {d : Kd α} {e : Nat} {base : Nat} {ok : Nat → Prop} {v : Value} {xs : List α} (h : IsS111 w0 W g f0 f1 f2) (ho : d.R e W base ok v xs) (ht : e ≠ 111) : some g ≠ v.ownBlock := by
 obtain ⟨A0, c0, hb, hg, hr0⟩ := h
 exact Kd.R_ne ho hb ht
theorem IsS111.apartQ {w0 W : World} {g : Nat} {f0 : List Int} {f1 : Int} {f2 : Int} {α : Type} {d : Kd α} {e : Nat} {base : Nat} {ok : Nat → Prop} {v : Value} {xs : List α} (h : IsS111 w0 W g f0 f1 f2) (ho : d.Q e W base ok v xs) (ht : ∀ q, q ∈ e :: d.E → q ≠ 111) : d.Q e W base (fun k => ok k ∧ k ≠ g) v xs := by
 obtain ⟨A0, c0, hb, hg, hr0⟩ := h
 exact Kd.Q_types ho hb ht
theorem IsS111.own_neQ {w0 W : World} {g : Nat} {f0 : List Int} {f1 : Int} {f2 : Int} {α : Type} {d : Kd α} {e : Nat} {base : Nat} {ok : Nat → Prop} {v : Value} {xs : List α} (h : IsS111 w0 W g f0 f1 f2) (ho : d.Q e W base ok v xs) (ht : e ≠ 111) : some g ≠ v.ownBlock := by
 obtain ⟨A0, c0, hb, hg, hr0⟩ := h
 exact Kd.Q_ne ho hb ht
theorem IsS111.apartS {w0 W : World} {g : Nat} {f0 : List Int} {f1 : Int} {f2 : Int} {α : Type} {d : Kd α} {e : Nat} {base : Nat} {ok : Nat → Prop} {v : Value} {xs : List α} (h : IsS111 w0 W g f0 f1 f2) (ho : d.S e W base ok v xs) (ht : ∀ q, q ∈ e :: d.E → q ≠ 111) : d.S e W base (fun k => ok k ∧ k ≠ g) v xs := by
 obtain ⟨A0, c0, hb, hg, hr0⟩ := h
 exact Kd.S_types ho hb ht
theorem IsS111.own_neS {w0 W : World} {g : Nat} {f0 : List Int} {f1 : Int} {f2 : Int} {α : Type} {d : Kd α} {e : Nat} {base : Nat} {ok : Nat → Prop} {v : Value} {xs : List α} (h : IsS111 w0 W g f0 f1 f2) (ho : d.S e W base ok v xs) (ht : e ≠ 111) : some g ≠ v.ownBlock := by
 obtain ⟨A0, c0, hb, hg, hr0⟩ := h
 exact Kd.S_ne ho hb ht
theorem IsS111.lt {w0 W : World} {g : Nat} {f0 : List Int} {f1 : Int} {f2 : Int} (h : IsS111 w0 W g f0 f1 f2) : g < W.heap.size := by
 obtain ⟨A0, c0, hb, hg, hr0⟩ := h
 exact blk_lt hb
theorem IsS111.ge {w0 W : World} {g : Nat} {f0 : List Int} {f1 : Int} {f2 : Int} (h : IsS111 w0 W g f0 f1 f2) : w0.heap.size ≤ g := by
 obtain ⟨A0, c0, hb, hg, hr0⟩ := h
 exact hg
theorem IsS111.ne_blk {w0 W : World} {g : Nat} {f0 : List Int} {f1 : Int} {f2 : Int} {a : Nat} {cs : Array Value} {t : TypeId} {fr : Nat × Nat} (h : IsS111 w0 W g f0 f1 f2) (hb2 : W.heap[a]? = some (.cells cs t fr)) (ht : t ≠ 111) : g ≠ a := by
 obtain ⟨A0, c0, hb, hg, hr0⟩ := h
 rintro rfl
 rw [hb] at hb2
 injection hb2 with hb2
 injection hb2 with _ ht2
 exact ht ht2.symm
theorem IsS111.far {w0 W : World} {g : Nat} {f0 : List Int} {f1 : Int} {f2 : Int} {p : Addr} (h : IsS111 w0 W g f0 f1 f2) (hne : g ≠ p.block) (u : Value) : IsS111 w0 (W.setCell p u) g f0 f1 f2 := by
 obtain ⟨A0, c0, hb, hg, hr0⟩ := h
 exact ⟨A0, c0, blk_far hb hne u, hg, hr0⟩
theorem IsS111.iS0 {w0 a W : World} {g : Nat} {f0 : List Int} {f1 : Int} {f2 : Int} (h : IsS111 w0 a g f0 f1 f2)  [b : SS [] a W] : IsS111 w0 W g f0 f1 f2 := b.go (fun W => IsS111 w0 W g f0 f1 f2) (fun _ o h => IsS111.alloc h o) (fun _ n h => IsS111.drewN h n) (fun _ h => IsS111.drew h) (fun _ g _ _ hg h => by simp at hg) h
theorem IsS111.iS1 {w0 a W : World} {g : Nat} {f0 : List Int} {f1 : Int} {f2 : Int} {g0 : Nat} (h : IsS111 w0 a g f0 f1 f2) (h0 : g ≠ g0) [b : SS [g0] a W] : IsS111 w0 W g f0 f1 f2 := b.go (fun W => IsS111 w0 W g f0 f1 f2) (fun _ o h => IsS111.alloc h o) (fun _ n h => IsS111.drewN h n) (fun _ h => IsS111.drew h) (fun _ g _ _ hg h => by simp only [List.mem_cons, List.not_mem_nil, or_false] at hg; rcases hg with rfl; all_goals exact IsS111.far h (by assumption) _) h
theorem IsS111.iS2 {w0 a W : World} {g : Nat} {f0 : List Int} {f1 : Int} {f2 : Int} {g0 g1 : Nat} (h : IsS111 w0 a g f0 f1 f2) (h0 : g ≠ g0) (h1 : g ≠ g1) [b : SS [g0, g1] a W] : IsS111 w0 W g f0 f1 f2 := b.go (fun W => IsS111 w0 W g f0 f1 f2) (fun _ o h => IsS111.alloc h o) (fun _ n h => IsS111.drewN h n) (fun _ h => IsS111.drew h) (fun _ g _ _ hg h => by simp only [List.mem_cons, List.not_mem_nil, or_false] at hg; rcases hg with rfl | rfl; all_goals exact IsS111.far h (by assumption) _) h
theorem IsS111.iS3 {w0 a W : World} {g : Nat} {f0 : List Int} {f1 : Int} {f2 : Int} {g0 g1 g2 : Nat} (h : IsS111 w0 a g f0 f1 f2) (h0 : g ≠ g0) (h1 : g ≠ g1) (h2 : g ≠ g2) [b : SS [g0, g1, g2] a W] : IsS111 w0 W g f0 f1 f2 := b.go (fun W => IsS111 w0 W g f0 f1 f2) (fun _ o h => IsS111.alloc h o) (fun _ n h => IsS111.drewN h n) (fun _ h => IsS111.drew h) (fun _ g _ _ hg h => by simp only [List.mem_cons, List.not_mem_nil, or_false] at hg; rcases hg with rfl | rfl | rfl; all_goals exact IsS111.far h (by assumption) _) h
theorem IsS111.iS4 {w0 a W : World} {g : Nat} {f0 : List Int} {f1 : Int} {f2 : Int} {g0 g1 g2 g3 : Nat} (h : IsS111 w0 a g f0 f1 f2) (h0 : g ≠ g0) (h1 : g ≠ g1) (h2 : g ≠ g2) (h3 : g ≠ g3) [b : SS [g0, g1, g2, g3] a W] : IsS111 w0 W g f0 f1 f2 := b.go (fun W => IsS111 w0 W g f0 f1 f2) (fun _ o h => IsS111.alloc h o) (fun _ n h => IsS111.drewN h n) (fun _ h => IsS111.drew h) (fun _ g _ _ hg h => by simp only [List.mem_cons, List.not_mem_nil, or_false] at hg; rcases hg with rfl | rfl | rfl | rfl; all_goals exact IsS111.far h (by assumption) _) h
theorem IsS111.iS5 {w0 a W : World} {g : Nat} {f0 : List Int} {f1 : Int} {f2 : Int} {g0 g1 g2 g3 g4 : Nat} (h : IsS111 w0 a g f0 f1 f2) (h0 : g ≠ g0) (h1 : g ≠ g1) (h2 : g ≠ g2) (h3 : g ≠ g3) (h4 : g ≠ g4) [b : SS [g0, g1, g2, g3, g4] a W] : IsS111 w0 W g f0 f1 f2 := b.go (fun W => IsS111 w0 W g f0 f1 f2) (fun _ o h => IsS111.alloc h o) (fun _ n h => IsS111.drewN h n) (fun _ h => IsS111.drew h) (fun _ g _ _ hg h => by simp only [List.mem_cons, List.not_mem_nil, or_false] at hg; rcases hg with rfl | rfl | rfl | rfl | rfl; all_goals exact IsS111.far h (by assumption) _) h
theorem IsS111.iS6 {w0 a W : World} {g : Nat} {f0 : List Int} {f1 : Int} {f2 : Int} {g0 g1 g2 g3 g4 g5 : Nat} (h : IsS111 w0 a g f0 f1 f2) (h0 : g ≠ g0) (h1 : g ≠ g1) (h2 : g ≠ g2) (h3 : g ≠ g3) (h4 : g ≠ g4) (h5 : g ≠ g5) [b : SS [g0, g1, g2, g3, g4, g5] a W] : IsS111 w0 W g f0 f1 f2 := b.go (fun W => IsS111 w0 W g f0 f1 f2) (fun _ o h => IsS111.alloc h o) (fun _ n h => IsS111.drewN h n) (fun _ h => IsS111.drew h) (fun _ g _ _ hg h => by simp only [List.mem_cons, List.not_mem_nil, or_false] at hg; rcases hg with rfl | rfl | rfl | rfl | rfl | rfl; all_goals exact IsS111.far h (by assumption) _) h
theorem IsS111.iS7 {w0 a W : World} {g : Nat} {f0 : List Int} {f1 : Int} {f2 : Int} {g0 g1 g2 g3 g4 g5 g6 : Nat} (h : IsS111 w0 a g f0 f1 f2) (h0 : g ≠ g0) (h1 : g ≠ g1) (h2 : g ≠ g2) (h3 : g ≠ g3) (h4 : g ≠ g4) (h5 : g ≠ g5) (h6 : g ≠ g6) [b : SS [g0, g1, g2, g3, g4, g5, g6] a W] : IsS111 w0 W g f0 f1 f2 := b.go (fun W => IsS111 w0 W g f0 f1 f2) (fun _ o h => IsS111.alloc h o) (fun _ n h => IsS111.drewN h n) (fun _ h => IsS111.drew h) (fun _ g _ _ hg h => by simp only [List.mem_cons, List.not_mem_nil, or_false] at hg; rcases hg with rfl | rfl | rfl | rfl | rfl | rfl | rfl; all_goals exact IsS111.far h (by assumption) _) h
theorem IsS111.iS8 {w0 a W : World} {g : Nat} {f0 : List Int} {f1 : Int} {f2 : Int} {g0 g1 g2 g3 g4 g5 g6 g7 : Nat} (h : IsS111 w0 a g f0 f1 f2) (h0 : g ≠ g0) (h1 : g ≠ g1) (h2 : g ≠ g2) (h3 : g ≠ g3) (h4 : g ≠ g4) (h5 : g ≠ g5) (h6 : g ≠ g6) (h7 : g ≠ g7) [b : SS [g0, g1, g2, g3, g4, g5, g6, g7] a W] : IsS111 w0 W g f0 f1 f2 := b.go (fun W => IsS111 w0 W g f0 f1 f2) (fun _ o h => IsS111.alloc h o) (fun _ n h => IsS111.drewN h n) (fun _ h => IsS111.drew h) (fun _ g _ _ hg h => by simp only [List.mem_cons, List.not_mem_nil, or_false] at hg; rcases hg with rfl | rfl | rfl | rfl | rfl | rfl | rfl | rfl; all_goals exact IsS111.far h (by assumption) _) h
theorem cellS111_0 {W : World} {g : Nat} {A0 : Option Addr} {c0 : Nat} {f0 : List Int} {f1 : Int} {f2 : Int} (h : W.heap[g]? = some (.cells #[.slice A0 f0.length c0, .int .i64 f1, .int .i64 f2] 111 (0, 0))) : W.cell? ⟨g, 0, none⟩ = some (.slice A0 f0.length c0) := (blk_cell h 0).trans rfl
theorem cellS111_1 {W : World} {g : Nat} {A0 : Option Addr} {c0 : Nat} {f0 : List Int} {f1 : Int} {f2 : Int} (h : W.heap[g]? = some (.cells #[.slice A0 f0.length c0, .int .i64 f1, .int .i64 f2] 111 (0, 0))) : W.cell? ⟨g, 1, none⟩ = some (.int .i64 f1) := (blk_cell h 1).trans rfl
theorem IsS111.set_1 {w0 W : World} {g : Nat} {f0 : List Int} {f1 : Int} {f2 : Int} (h : IsS111 w0 W g f0 f1 f2) (x : Int) : IsS111 w0 (W.setCell ⟨g, 1, none⟩ (.int .i64 x)) g f0 x f2 := by
 obtain ⟨A0, c0, hb, hg, hr0⟩ := h
 exact ⟨A0, c0, by simpa using blk_set hb 1 (.int .i64 x), hg, hr0⟩
theorem cellS111_2 {W : World} {g : Nat} {A0 : Option Addr} {c0 : Nat} {f0 : List Int} {f1 : Int} {f2 : Int} (h : W.heap[g]? = some (.cells #[.slice A0 f0.length c0, .int .i64 f1, .int .i64 f2] 111 (0, 0))) : W.cell? ⟨g, 2, none⟩ = some (.int .i64 f2) := (blk_cell h 2).trans rfl
theorem IsS111.set_2 {w0 W : World} {g : Nat} {f0 : List Int} {f1 : Int} {f2 : Int} (h : IsS111 w0 W g f0 f1 f2) (x : Int) : IsS111 w0 (W.setCell ⟨g, 2, none⟩ (.int .i64 x)) g f0 f1 x := by
 obtain ⟨A0, c0, hb, hg, hr0⟩ := h
 exact ⟨A0, c0, by simpa using blk_set hb 2 (.int .i64 x), hg, hr0⟩
theorem IsS111.new (w0 W : World) (A0 : Option Addr) (c0 : Nat) (f0 : List Int) (f1 : Int) (f2 : Int) (hB : Below w0.heap.size w0 W) (hr0 : Kd.C (Kd.int .u8) w0 A0 f0.length f0) : IsS111 w0 (W.alloc (.cells #[.slice A0 f0.length c0, .int .i64 f1, .int .i64 f2] 111)) W.heap.size f0 f1 f2 := ⟨A0, c0, by simpa using heap_alloc_new W _, hB.size, hr0⟩

/-! ### spec_l1New: function 56 -/
def spec_l1New.l0 : Nat → List Int → Int → Int → Option (List Int × Int × Int)
 | 0, _, _, _ => none
 | k + 1, x0, x3, x4 => if x4 < (x0.length : Int) then (if x4 < 4000 then (if 0 ≤ x4 then (spec_l1New.l0 k x0 (Go.bits .and .i64 (wrap64 ((wrap64 ((wrap64 (x3 * 137)) + (wrap64 (rd x0 x4)))) + 11)) 1073741823) (wrap64 (x4 + 1))) else (none)) else (some (x0, 0, x3))) else (some (x0, 0, x3))
def spec_l1New.f (k : Nat) (l0 : List Int) : Option (List Int × Int × Int) := spec_l1New.l0 k l0 (wrap64 (160909 + (l0.length : Int))) 0
theorem spec_l1New.mono_l : ∀ k, (∀ y0 y1 y2, LeO (spec_l1New.l0 k y0 y1 y2) (spec_l1New.l0 (k + 1) y0 y1 y2))
 | 0 => fun _ _ _ r h => by simp [spec_l1New.l0] at h
 | k + 1 => by
  have ih0 := spec_l1New.mono_l k
  ·intro y0 y1 y2
   unfold spec_l1New.l0
   repeat' first
   | (with_reducible first | exact ih0 _ _ _ | exact LeO.refl _ | exact LeO.none _ | refine LeO.ite ?_ ?_ | refine LeO.bind ?_ (fun _ => ?_))
   | exact ih0 _ _ _
   | exact LeO.none _
   | refine LeO.ite ?_ ?_
   | refine LeO.bind ?_ (fun _ => ?_)
theorem spec_l1New.mono : ∀ a0 k, LeO (spec_l1New.f k a0) (spec_l1New.f (k + 1) a0) := by
 intro a0 k
 have ih0 := spec_l1New.mono_l k
 unfold spec_l1New.f
 repeat' first
   | (with_reducible first | exact ih0 _ _ _ | exact LeO.refl _ | exact LeO.none _ | refine LeO.ite ?_ ?_ | refine LeO.bind ?_ (fun _ => ?_))
   | exact ih0 _ _ _
   | exact LeO.none _
   | refine LeO.ite ?_ ?_
   | refine LeO.bind ?_ (fun _ => ?_)
set_option maxHeartbeats 8000000 in
set_option maxRecDepth 100000 in
theorem spec_l1New.calls (k : Nat) (A0 : Option Addr) (c0 : Nat) (l0 : List Int) (r1 : List Int) (r2 : Int) (r3 : Int) (w0 w : World) (hB : Below w0.heap.size w0 w) (hr0 : Kd.C (Kd.int .u8) w0 A0 l0.length l0) (hc0 : l0.length ≤ c0) (h : spec_l1New.f k l0 = some (r1, r2, r3)) :
  Calls Tryd.prog 56 #[.slice A0 l0.length c0] w fun e w' => ∃ g_ : Nat, e = .returned (.pointer (some ⟨g_, 0, none⟩)) ∧ IsS111 w0 w' g_ r1 r2 r3 ∧ Below w0.heap.size w0 w' ∧ Below w.heap.size w w' := by
 have hu111 := Tryd.underlying111
 have HR0 := aS hr0
 have HC0 := aS hc0
 clear hr0 hc0
 have HBW := aS (Below.refl w.heap.size w)
 have HW0 := aS hB.size
 have HB := aS hB
 clear hB
 have H : (spec_l1New.l0 k l0 (wrap64 (160909 + (l0.length : Int))) 0) = some (r1, r2, r3) := h
 clear h
 have H' := aS H
 clear H
 go_enter Tryd.func56, Tryd.ntmps56
 go_wp2
 go_loopg [3, 4] k (fun kq v3 v4 w' => ∃ (x3_1 : Int) (x4_1 : Int), v3 = .int .i64 x3_1 ∧ v4 = .int .i64 x4_1 ∧ Aside0 (spec_l1New.l0 kq l0 x3_1 x4_1 = some (r1, r2, r3)) ∧ Aside0 (kq ≤ k) ∧ Aside0 (Below w0.heap.size w0 w') ∧ Aside0 (Below w.heap.size w w'))
 case atStart => exact ⟨(wrap64 (160909 + (l0.length : Int))), (0), jB, jB, H', ⟨Nat.le_refl _⟩, ⟨by exact wU HB.out⟩, ⟨by repeat (first | (with_reducible first | exact HBW.out | apply below_alloc | apply pw_below_drewN | apply below_drew1) | exact HBW.out)⟩⟩
 case round =>
  clear H'
  obtain ⟨x3_1, x4_1, rfl, rfl, HA, HK1, HB, HBW⟩ := hrel
  cases gk with
  | zero => exact absurd HA.out (by simp [spec_l1New.l0])
  | succ k1 =>
   have H := HA.out
   clear HA
   simp only [spec_l1New.l0] at H
   by_cases c2 : x4_1 < (l0.length : Int)
   ·rw [if_pos c2] at H
    have c2b0 := decide_eq_true c2
    clear c2
    by_cases c3 : x4_1 < 4000
    ·rw [if_pos c3] at H
     have c3b0 := decide_eq_true c3
     clear c3
     by_cases c4 : 0 ≤ x4_1
     ·rw [if_pos c4] at H
      have c4b0 := decide_eq_true c4
      clear c4
      obtain ⟨ji5, hji5⟩ : ∃ j_ : Int, (Go.bits .and .i64 (wrap64 ((wrap64 ((wrap64 (x3_1 * 137)) + (wrap64 (rd l0 x4_1)))) + 11)) 1073741823) = j_ := ⟨_, rfl⟩
      replace H : (spec_l1New.l0 k1 l0 ji5 (wrap64 (x4_1 + 1))) = some (r1, r2, r3) := by first | (rw [hji5] at H; exact H) | (simp only [hji5] at H ⊢; exact H)
      have H' := aS H
      clear H
      have p423 : 0 ≤ (x4_1 : Int) := of_decide_eq_true jC
      have q423 : x4_1 < (l0.length : Int) := of_decide_eq_true jC
      obtain ⟨ad423, e423, hx423_0⟩ := Kd.at_int HR0.out x4_1 p423 q423
      cases e423
      replace hx423_0 := pw_cell_below HB.out hx423_0
      replace p423 := eq_true p423
      replace q423 := eq_true q423
      go_wp2
      go_roundg k1
      case measure => have := HK1.out; omega
      case rel => exact ⟨(ji5), (wrap64 (x4_1 + 1)), (by first | rfl | (simp; done) | (simp only [← hji5] <;> (first | rfl | simp)) | (simp [*]; done)), jB, H', ⟨by have := HK1.out; omega⟩, ⟨by exact wU HB.out⟩, ⟨by repeat (first | (with_reducible first | exact HBW.out | apply below_alloc | apply pw_below_drewN | apply below_drew1) | exact HBW.out)⟩⟩
     ·rw [if_neg c4] at H
      exact absurd H (by simp)
    ·rw [if_neg c3] at H
     have c3b0 := decide_eq_false c3
     clear c3
     simp only [Option.some.injEq, Prod.mk.injEq] at H
     obtain ⟨rfl, rfl, rfl⟩ := H
     go_wp2_with (first | ((with_reducible refine gate_dst (N := 31) rfl ?_); refine box_event ?hg (N := 31) ?hd (cs := #[.slice A0 l0.length c0, .int .i64 0, .int .i64 x3_1]) (t := 111) ?hr ?_; (case hd => rfl); (case hg => rfl); (case hr => first | (go_simp; done) | (go_simp; rfl)); intro gb424 hg w6 hbox hb; replace HB := aS (below_step (wU HB.out) hb); have BK424 := aS (hbox); have GW424 := aS ((by rw [hg]; exact (below_size (by repeat (first | (with_reducible first | exact HBW.out | apply below_alloc | apply pw_below_drewN | apply below_drew1) | exact HBW.out))) : w.heap.size ≤ gb424)); have GE424 := aS ((Nat.le_trans HW0.out (by rw [hg]; exact (below_size (by repeat (first | (with_reducible first | exact HBW.out | apply below_alloc | apply pw_below_drewN | apply below_drew1) | exact HBW.out))) : w.heap.size ≤ gb424) : w0.heap.size ≤ gb424)); replace HBW := aS (below_step HBW.out hb); clear hb hbox hg))
     go_ret
     exact ⟨_, rfl, (show IsS111 w0 _ gb424 l0 0 x3_1 from ⟨_, _, by (with_reducible repeat (first | refine blk_drewN ?_ _ | refine blk_drew ?_ | refine blk_alloc ?_ _)); exact BK424.out, GE424.out, HR0.out⟩), by exact wS1 HB.out GE424.out, by exact wS1 HBW.out GW424.out⟩
   ·rw [if_neg c2] at H
    have c2b0 := decide_eq_false c2
    clear c2
    simp only [Option.some.injEq, Prod.mk.injEq] at H
    obtain ⟨rfl, rfl, rfl⟩ := H
    go_wp2_with (first | ((with_reducible refine gate_dst (N := 31) rfl ?_); refine box_event ?hg (N := 31) ?hd (cs := #[.slice A0 l0.length c0, .int .i64 0, .int .i64 x3_1]) (t := 111) ?hr ?_; (case hd => rfl); (case hg => rfl); (case hr => first | (go_simp; done) | (go_simp; rfl)); intro gb425 hg w7 hbox hb; replace HB := aS (below_step (wU HB.out) hb); have BK425 := aS (hbox); have GW425 := aS ((by rw [hg]; exact (below_size (by repeat (first | (with_reducible first | exact HBW.out | apply below_alloc | apply pw_below_drewN | apply below_drew1) | exact HBW.out))) : w.heap.size ≤ gb425)); have GE425 := aS ((Nat.le_trans HW0.out (by rw [hg]; exact (below_size (by repeat (first | (with_reducible first | exact HBW.out | apply below_alloc | apply pw_below_drewN | apply below_drew1) | exact HBW.out))) : w.heap.size ≤ gb425) : w0.heap.size ≤ gb425)); replace HBW := aS (below_step HBW.out hb); clear hb hbox hg))
    go_ret
    exact ⟨_, rfl, (show IsS111 w0 _ gb425 l0 0 x3_1 from ⟨_, _, by (with_reducible repeat (first | refine blk_drewN ?_ _ | refine blk_drew ?_ | refine blk_alloc ?_ _)); exact BK425.out, GE425.out, HR0.out⟩), by exact wS1 HB.out GE425.out, by exact wS1 HBW.out GW425.out⟩

end Go.Proofs.YtdigilidomimdaaDoor.Pr
