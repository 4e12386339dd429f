-- Written for this claim by a program of this session (wip/tool/pr.py, over the kit's printer).
-- half
import Derived.Test.YtdigilidomimdaaDoorPrx0
import Derived.Test.YtdigilidomimdaaDoorPrx7
import Derived.Test.YtdigilidomimdaaDoorPrx8
namespace Go.Proofs.YtdigilidomimdaaDoor.Pr
open Go.RowKit Go.Proofs.YtdigilidomimdaaDoorW.PrintWords Go.Proofs.YtdigilidomimdaaDoorW.PrintLast Go.Proofs.YtdigilidomimdaaDoorW.PrintMore
attribute [local go_sem] max2_int min2_int max_two min_two max_three min_three max_four min_four   -- for this text's walks alone
set_option linter.unusedVariables false
set_option linter.unusedSimpArgs false

/-! ### impl_PutPlain: function 62 -/
def impl_PutPlain.l0 : Nat → List Int → List ByteArray → Int → Int → Option (List Int)
 | 0, _, _, _, _ => none
 | k + 1, x5, x15, x16, x17 => if x17 < x16 then (if 0 ≤ x17 then (if x17 < (x15.length : Int) then ((impl_PutLabel.f k x5 (rdOf ByteArray.empty x15 x17)).bind fun t489 => (impl_PutPlain.l0 k t489 x15 x16 (wrap64 (x17 + 1)))) else (none)) else (none)) else (if x5.length < 140737488355328 then (some (x5 ++ [0])) else (none))
def impl_PutPlain.f (k : Nat) (l0 : List Int) (a1 : ByteArray) : Option (List Int) := (slices_Clone_byte.f l0).bind fun t481 => ((impl_NameOk.f k a1).bind fun t484 => (if t484 = true then ((impl_Labels.f a1).bind fun t485 => (impl_PutPlain.l0 k t481 t485 (t485.length : Int) 0)) else (some t481)))
theorem impl_PutPlain.mono_l : ∀ k, (∀ y0 y1 y2 y3, LeO (impl_PutPlain.l0 k y0 y1 y2 y3) (impl_PutPlain.l0 (k + 1) y0 y1 y2 y3))
 | 0 => fun _ _ _ _ r h => by simp [impl_PutPlain.l0] at h
 | k + 1 => by
  have ih0 := impl_PutPlain.mono_l k
  ·intro y0 y1 y2 y3
   unfold impl_PutPlain.l0
   repeat' first
   | (with_reducible first | exact ih0 _ _ _ _ | exact impl_NameOk.mono _ _ | exact impl_PutLabel.mono _ _ _ | exact LeO.refl _ | exact LeO.none _ | refine LeO.ite ?_ ?_ | refine LeO.bind ?_ (fun _ => ?_))
   | exact ih0 _ _ _ _
   | exact impl_NameOk.mono _ _
   | exact impl_PutLabel.mono _ _ _
   | exact LeO.none _
   | refine LeO.ite ?_ ?_
   | refine LeO.bind ?_ (fun _ => ?_)
theorem impl_PutPlain.mono : ∀ a0 a1 k, LeO (impl_PutPlain.f k a0 a1) (impl_PutPlain.f (k + 1) a0 a1) := by
 intro a0 a1 k
 have ih0 := impl_PutPlain.mono_l k
 unfold impl_PutPlain.f
 repeat' first
   | (with_reducible first | exact ih0 _ _ _ _ | exact impl_NameOk.mono _ _ | exact impl_PutLabel.mono _ _ _ | exact LeO.refl _ | exact LeO.none _ | refine LeO.ite ?_ ?_ | refine LeO.bind ?_ (fun _ => ?_))
   | exact ih0 _ _ _ _
   | exact impl_NameOk.mono _ _
   | exact impl_PutLabel.mono _ _ _
   | exact LeO.none _
   | refine LeO.ite ?_ ?_
   | refine LeO.bind ?_ (fun _ => ?_)
set_option maxHeartbeats 8000000 in
set_option maxRecDepth 100000 in
theorem impl_PutPlain.calls (k : Nat) (A0 : Option Addr) (c0 : Nat) (l0 : List Int) (a1 : ByteArray) (r : List Int) (w : World) (hr0 : Kd.C (Kd.int .u8) w A0 l0.length l0) (hc0 : l0.length ≤ c0) (h : impl_PutPlain.f k l0 a1 = some r) :
  Calls Tryd.prog 62 #[.slice A0 l0.length c0, .string a1] w fun e w' => ∃ v0_ : Value, e = .returned (v0_) ∧ Kd.R (Kd.int .u8) 5 w' w.heap.size (fun _ => True) v0_ r ∧ Below w.heap.size w w' := by
 have HR0 := aS hr0
 have HC0 := aS hc0
 clear hr0 hc0
 have HB := aS (Below.refl w.heap.size w)
 have H : ((slices_Clone_byte.f l0).bind fun t481 => ((impl_NameOk.f k a1).bind fun t484 => (if t484 = true then ((impl_Labels.f a1).bind fun t485 => (impl_PutPlain.l0 k t481 t485 (t485.length : Int) 0)) else (some t481)))) = some r := h
 clear h
 replace H := Option.bind_eq_some_iff.mp H
 obtain ⟨t481, A3, H⟩ := H
 try dsimp only at H
 replace A3 := aS A3
 replace H := Option.bind_eq_some_iff.mp H
 obtain ⟨t484, A4, H⟩ := H
 try dsimp only at H
 replace A4 := aS A4
 by_cases c5 : t484 = true
 ·subst c5
  have H1 : ((impl_Labels.f a1).bind fun t485 => (impl_PutPlain.l0 k t481 t485 (t485.length : Int) 0)) = some r := by rw [if_pos rfl] at H; exact H
  clear H
  have H := H1
  clear H1
  replace H := Option.bind_eq_some_iff.mp H
  obtain ⟨t485, A6, H⟩ := H
  try dsimp only at H
  replace A6 := aS A6
  have H' := aS H
  clear H
  go_enter Tryd.func62, Tryd.ntmps62
  go_wp2_with (first | ((with_reducible refine gate_callee (f := 114) rfl ?_); refine goesL_ (some 9) rfl rfl Tryd.func114 jK rfl #[.slice A0 l0.length c0] rfl jA ?_; (with_reducible refine (slices_Clone_byte.calls _ _ l0 t481 _ ?side1 ?side2 A3.out).mono ?_); (case side1 => exact cU (HR0.out)); (case side2 => exact HC0.out); rintro e w7 ⟨v482, rfl, ho0, hb⟩; refine ⟨_, rfl, ?_⟩; have n0_ := aS (Kd.R_lower ho0 (below_size (wU HB.out))); have n1_ := aS (below_step (wU HB.out) hb); clear HB; revert n0_ n1_; intro HO483 HB; clear hb; (try clear ho0)) | ((with_reducible refine gate_callee (f := 67) rfl ?_); refine goesL_ (some 11) rfl rfl Tryd.func67 jK rfl #[.string a1] rfl jA ?_; (with_reducible refine (impl_NameOk.calls k a1 true _ A4.out).mono ?_); rintro e w8 ⟨rfl, hb⟩; refine ⟨_, rfl, ?_⟩; have n0_ := aS (Kd.R_below (rU HO483.out) hb); have n1_ := aS (below_step (wU HB.out) hb); clear HO483 HB; revert n0_ n1_; intro HO483 HB; clear hb) | ((with_reducible refine gate_callee (f := 115) rfl ?_); refine goesL_ (some 15) rfl rfl Tryd.func115 jK rfl #[.string a1] rfl jA ?_; (with_reducible refine (impl_Labels.calls a1 t485 _ A6.out).mono ?_); rintro e w9 ⟨v486, rfl, ho0, hb⟩; refine ⟨_, rfl, ?_⟩; have n0_ := aS (Kd.R_below (rU HO483.out) hb); have n1_ := aS (Kd.R_lower ho0 (below_size (wU HB.out))); have n2_ := aS (below_step (wU HB.out) hb); clear HO483 HB; revert n0_ n1_ n2_; intro HO483 HO487 HB; clear hb; (try clear ho0); obtain ⟨Ao10, co10, eo10⟩ := Kd.R_slice HO487.out; subst eo10))
  go_loopg [5, 17] k (fun kq v5 v17 w' => ∃ (x5_1 : List Int) (x17_1 : Int), v17 = .int .i64 x17_1 ∧ Aside0 (impl_PutPlain.l0 kq x5_1 t485 (t485.length : Int) x17_1 = some r) ∧ Aside0 (kq ≤ k) ∧ Aside0 (Kd.R (Kd.int .u8) 5 w' w.heap.size (fun _ => True) v5 x5_1) ∧ Aside0 (Kd.R Kd.string 9 w' w.heap.size (fun _ => True) (.slice Ao10 t485.length co10) t485) ∧ Aside0 (Below w.heap.size w w'))
  case atStart => exact ⟨(t481), (0), jB, H', ⟨Nat.le_refl _⟩, ⟨by (with_reducible repeat (first | apply Kd.R_alloc | apply Kd.R_drewN | apply Kd.R_drew)); exact HO483.out⟩, ⟨by (with_reducible repeat (first | apply Kd.R_alloc | apply Kd.R_drewN | apply Kd.R_drew)); exact HO487.out⟩, ⟨by repeat (first | (with_reducible first | exact HB.out | apply below_alloc | apply pw_below_drewN | apply below_drew1) | exact HB.out)⟩⟩
  case round =>
   clear H'
   try clear c1
   try clear p2
   try clear c5
   try clear c6
   obtain ⟨x5_1, x17_1, rfl, HA, HK1, HO_5, HO_15, HB⟩ := hrel
   cases gk with
   | zero => exact absurd HA.out (by simp [impl_PutPlain.l0])
   | succ k1 =>
    have H := HA.out
    clear HA
    simp only [impl_PutPlain.l0] at H
    by_cases c11 : x17_1 < (t485.length : Int)
    ·rw [if_pos c11] at H
     have c11b0 : decide (x17_1 < (t485.length : Int)) = true := decide_eq_true c11
     clear c11
     by_cases c12 : 0 ≤ x17_1
     ·rw [if_pos c12] at H
      have c12b0 : decide (0 ≤ x17_1) = true := decide_eq_true c12
      clear c12
      by_cases c13 : x17_1 < (t485.length : Int)
      ·rw [if_pos c13] at H
       have c13b0 : decide (x17_1 < (t485.length : Int)) = true := decide_eq_true c13
       clear c13
       replace H := Option.bind_eq_some_iff.mp H
       obtain ⟨t489, A14, H⟩ := H
       try dsimp only at H
       replace A14 := aS A14
       have H' := aS H
       clear H
       have p488 : 0 ≤ (x17_1 : Int) := of_decide_eq_true jC
       have q488 : x17_1 < (t485.length : Int) := of_decide_eq_true jC
       obtain ⟨ad488, e488, hx488_0⟩ := Kd.at_string (Kd.R_reads' HO_15.out).2.2 x17_1 p488 q488
       cases e488
       replace p488 := eq_true p488
       replace q488 := eq_true q488
       obtain ⟨Ao15, co15, eo15⟩ := Kd.R_slice HO_5.out
       subst eo15
       go_wp2_with (first | ((with_reducible refine gate_callee (f := 118) rfl ?_); refine goesL_ (some 23) rfl rfl Tryd.func118 jK rfl #[.slice Ao15 x5_1.length co15, .string (rdOf ByteArray.empty t485 x17_1)] rfl jA ?_; (with_reducible refine (impl_PutLabel.calls k1 _ _ x5_1 (rdOf ByteArray.empty t485 x17_1) t489 _ ?side1 ?side2 A14.out).mono ?_); (case side1 => exact cU ((Kd.R_reads' HO_5.out).2.2)); (case side2 => exact (Kd.R_reads' HO_5.out).2.1); rintro e w16 ⟨v490, rfl, ho0, hb⟩; refine ⟨_, rfl, ?_⟩; have n0_ := aS (Kd.R_elder' (rU HO_5.out) (Kd.R_base ho0) hb); have n1_ := aS (Kd.R_below (rU HO_15.out) hb); have n2_ := aS (Kd.R_lower (Kd.R_new' ho0 (Kd.R_lt (rU HO_5.out))) (below_size (wU HB.out))); have n3_ := aS (below_step (wU HB.out) hb); clear HO_5 HO_15 HB; revert n0_ n1_ n2_ n3_; intro HO_5 HO_15 HO491 HB; clear hb; (try clear ho0)))
       go_roundg k1
       case measure => have := HK1.out; omega
       case rel => exact ⟨(t489), (wrap64 (x17_1 + 1)), jB, H', ⟨by have := HK1.out; omega⟩, ⟨Kd.R_mono (rU HO491.out) (fun _ hk => trivial)⟩, ⟨by (with_reducible repeat (first | apply Kd.R_alloc | apply Kd.R_drewN | apply Kd.R_drew)); exact HO_15.out⟩, ⟨by repeat (first | (with_reducible first | exact HB.out | apply below_alloc | apply pw_below_drewN | apply below_drew1) | exact HB.out)⟩⟩
      ·rw [if_neg c13] at H
       exact absurd H (by simp)
     ·rw [if_neg c12] at H
      exact absurd H (by simp)
    ·rw [if_neg c11] at H
     have c11b0 : decide (x17_1 < (t485.length : Int)) = false := decide_eq_false c11
     clear c11
     by_cases c17 : x5_1.length < 140737488355328
     ·rw [if_pos c17] at H
      have LMc17 := aS c17
      clear c17
      obtain ⟨y492, hy_⟩ : ∃ y_ : List Int, y_ = (x5_1 ++ [0]) := ⟨_, rfl⟩
      replace H : (some y492) = some r := jD
      have Ny492 := aS hy_
      clear hy_
      obtain rfl := Option.some.inj H
      go_wp2_with (first | ((with_reducible refine gate_builtin (b := .append) (xs := #[.tmp 25, .tmp 26]) rfl ?_); at_builtin; refine Kd.R_append (Kd.int .u8) (w0 := w) w.heap.size rfl (.tmp 25) (.tmp 26) 22 5 (.int .u8 0) 1 rfl Tryd.underlying22 info5 rfl (by decide) (by omega) u5 x5_1 0 [.int .u8 0] (fun _ => True) (fun _ => False) rfl rfl ?aP (fun _ hk => hk.elim) ?aF ?aO ?aB ?aS ?aL ?_; (case aP => exact rfl); (case aB => exact (wU HB.out)); (case aF => exact (fun _ _ => trivial)); (case aO => exact (rU HO_5.out)); (case aS => exact (below_size (wU HB.out))); (case aL => have := LMc17.out; omega); intro v493 w18 ho hb hg hat; rw [← Ny492.out] at ho; have n0_ := aS (Kd.R_over' (rU HO_15.out) (Kd.R_typed (rU HO_5.out)) (by decide) hg); have n1_ := aS (hb); have n2_ := aS (ho); clear HO_15 HB HO_5; revert n0_ n1_ n2_; intro HO_15 HB HO494; clear ho hb hg hat))
      go_ret
      exact ⟨_, jE, by (with_reducible repeat (first | apply Kd.R_alloc | apply Kd.R_drewN | apply Kd.R_drew)); exact HO494.out, by repeat (first | (with_reducible first | exact HB.out | apply below_alloc | apply pw_below_drewN | apply below_drew1) | exact HB.out)⟩
     ·rw [if_neg c17] at H
      exact absurd H (by simp)
 ·replace c5 := Bool.eq_false_iff.mpr c5
  subst c5
  have H1 : (some t481) = some r := by rw [if_neg (show ¬ (false = true) by decide)] at H; exact H
  clear H
  have H := H1
  clear H1
  obtain rfl := Option.some.inj H
  go_enter Tryd.func62, Tryd.ntmps62
  go_wp2_with (first | ((with_reducible refine gate_callee (f := 114) rfl ?_); refine goesL_ (some 9) rfl rfl Tryd.func114 jK rfl #[.slice A0 l0.length c0] rfl jA ?_; (with_reducible refine (slices_Clone_byte.calls _ _ l0 t481 _ ?side1 ?side2 A3.out).mono ?_); (case side1 => exact cU (HR0.out)); (case side2 => exact HC0.out); rintro e w19 ⟨v482, rfl, ho0, hb⟩; refine ⟨_, rfl, ?_⟩; have n0_ := aS (Kd.R_lower ho0 (below_size (wU HB.out))); have n1_ := aS (below_step (wU HB.out) hb); clear HB; revert n0_ n1_; intro HO483 HB; clear hb; (try clear ho0)) | ((with_reducible refine gate_callee (f := 67) rfl ?_); refine goesL_ (some 11) rfl rfl Tryd.func67 jK rfl #[.string a1] rfl jA ?_; (with_reducible refine (impl_NameOk.calls k a1 false _ A4.out).mono ?_); rintro e w20 ⟨rfl, hb⟩; refine ⟨_, rfl, ?_⟩; have n0_ := aS (Kd.R_below (rU HO483.out) hb); have n1_ := aS (below_step (wU HB.out) hb); clear HO483 HB; revert n0_ n1_; intro HO483 HB; clear hb))
  go_ret
  exact ⟨_, jE, by (with_reducible repeat (first | apply Kd.R_alloc | apply Kd.R_drewN | apply Kd.R_drew)); exact HO483.out, by repeat (first | (with_reducible first | exact HB.out | apply below_alloc | apply pw_below_drewN | apply below_drew1) | exact HB.out)⟩

/-! ### impl_PutData: function 11 -/
def impl_PutData.j0 : Nat → Int → Bool → ByteArray → Int → Int → Int → ByteArray → ByteArray → Option (List Int)
 | 0, _, _, _, _, _, _, _, _ => none
 | k + 1, x7, x13, x496000, x496001, x496002, x496003, x496004, x496005 => if x13 = true then ((impl_PutPlain.f k ([] : List Int) x496004).bind fun t500 => (some t500)) else (if x7 = 6 then ((impl_PutPlain.f k ([] : List Int) x496004).bind fun t503 => ((impl_Put4.f k t503 x496003).bind fun t506 => (some t506))) else ((some (([((x496005.size : Int)) % 256] : List Int) : List Int)).bind fun y509 => (if y509.length + x496005.size < 140737488355328 then (some (y509 ++ bytesOf x496005)) else (none))))
def impl_PutData.f (k : Nat) (a0_0 : ByteArray) (a0_1 : Int) (a0_2 : Int) (a0_3 : Int) (a0_4 : ByteArray) (a0_5 : ByteArray) : Option (List Int) := (impl_RecordOk.f k a0_0 a0_1 a0_2 a0_3 a0_4 a0_5).bind fun t496 => (if t496 = true then (if a0_1 = 1 then ((impl_Put4.f k ([] : List Int) a0_3).bind fun t497 => (some t497)) else (if a0_1 = 2 then (impl_PutData.j0 k a0_1 (a0_1 == 2) a0_0 a0_1 a0_2 a0_3 a0_4 a0_5) else (impl_PutData.j0 k a0_1 (a0_1 == 5) a0_0 a0_1 a0_2 a0_3 a0_4 a0_5))) else (some ([] : List Int)))
theorem impl_PutData.mono_l : ∀ k, (∀ y0 y1 y2 y3 y4 y5 y6 y7, LeO (impl_PutData.j0 k y0 y1 y2 y3 y4 y5 y6 y7) (impl_PutData.j0 (k + 1) y0 y1 y2 y3 y4 y5 y6 y7))
 | 0 => fun _ _ _ _ _ _ _ _ r h => by simp [impl_PutData.j0] at h
 | k + 1 => by
  have ih0 := impl_PutData.mono_l k
  ·intro y0 y1 y2 y3 y4 y5 y6 y7
   unfold impl_PutData.j0
   repeat' first
   | (with_reducible first | exact ih0 _ _ _ _ _ _ _ _ | exact impl_Put4.mono _ _ _ | exact impl_PutPlain.mono _ _ _ | exact impl_RecordOk.mono _ _ _ _ _ _ _ | exact LeO.refl _ | exact LeO.none _ | refine LeO.ite ?_ ?_ | refine LeO.bind ?_ (fun _ => ?_))
   | exact ih0 _ _ _ _ _ _ _ _
   | exact impl_Put4.mono _ _ _
   | exact impl_PutPlain.mono _ _ _
   | exact impl_RecordOk.mono _ _ _ _ _ _ _
   | exact LeO.none _
   | refine LeO.ite ?_ ?_
   | refine LeO.bind ?_ (fun _ => ?_)
theorem impl_PutData.mono : ∀ a0 a1 a2 a3 a4 a5 k, LeO (impl_PutData.f k a0 a1 a2 a3 a4 a5) (impl_PutData.f (k + 1) a0 a1 a2 a3 a4 a5) := by
 intro a0 a1 a2 a3 a4 a5 k
 have ih0 := impl_PutData.mono_l k
 unfold impl_PutData.f
 repeat' first
   | (with_reducible first | exact ih0 _ _ _ _ _ _ _ _ | exact impl_Put4.mono _ _ _ | exact impl_PutPlain.mono _ _ _ | exact impl_RecordOk.mono _ _ _ _ _ _ _ | exact LeO.refl _ | exact LeO.none _ | refine LeO.ite ?_ ?_ | refine LeO.bind ?_ (fun _ => ?_))
   | exact ih0 _ _ _ _ _ _ _ _
   | exact impl_Put4.mono _ _ _
   | exact impl_PutPlain.mono _ _ _
   | exact impl_RecordOk.mono _ _ _ _ _ _ _
   | exact LeO.none _
   | refine LeO.ite ?_ ?_
   | refine LeO.bind ?_ (fun _ => ?_)
set_option maxHeartbeats 8000000 in
set_option maxRecDepth 100000 in
theorem impl_PutData.calls (k : Nat) (a0_0 : ByteArray) (a0_1 : Int) (a0_2 : Int) (a0_3 : Int) (a0_4 : ByteArray) (a0_5 : ByteArray) (r : List Int) (w : World) (h : impl_PutData.f k a0_0 a0_1 a0_2 a0_3 a0_4 a0_5 = some r) :
  Calls Tryd.prog 11 #[.agg #[.string a0_0, .int .i64 a0_1, .int .i64 a0_2, .int .i64 a0_3, .string a0_4, .string a0_5]] w fun e w' => ∃ v0_ : Value, e = .returned (v0_) ∧ Kd.R (Kd.int .u8) 5 w' w.heap.size (fun _ => True) v0_ r ∧ Below w.heap.size w w' := by
 have hu25 := Tryd.underlying25
 have HB := aS (Below.refl w.heap.size w)
 have H : ((impl_RecordOk.f k a0_0 a0_1 a0_2 a0_3 a0_4 a0_5).bind fun t496 => (if t496 = true then (if a0_1 = 1 then ((impl_Put4.f k ([] : List Int) a0_3).bind fun t497 => (some t497)) else (if a0_1 = 2 then (impl_PutData.j0 k a0_1 (a0_1 == 2) a0_0 a0_1 a0_2 a0_3 a0_4 a0_5) else (impl_PutData.j0 k a0_1 (a0_1 == 5) a0_0 a0_1 a0_2 a0_3 a0_4 a0_5))) else (some ([] : List Int)))) = some r := h
 clear h
 replace H := Option.bind_eq_some_iff.mp H
 obtain ⟨t496, A2, H⟩ := H
 try dsimp only at H
 replace A2 := aS A2
 by_cases c3 : t496 = true
 ·subst c3
  have H1 : (if a0_1 = 1 then ((impl_Put4.f k ([] : List Int) a0_3).bind fun t497 => (some t497)) else (if a0_1 = 2 then (impl_PutData.j0 k a0_1 (a0_1 == 2) a0_0 a0_1 a0_2 a0_3 a0_4 a0_5) else (impl_PutData.j0 k a0_1 (a0_1 == 5) a0_0 a0_1 a0_2 a0_3 a0_4 a0_5))) = some r := by rw [if_pos rfl] at H; exact H
  clear H
  have H := H1
  clear H1
  by_cases c4 : a0_1 = 1
  ·rw [if_pos c4] at H
   have c4b0 : (a0_1 == 1) = true := beq_iff_eq.mpr c4
   have c4b1 : (a0_1 != 1) = false := bne_eq_false_iff_eq.mpr c4
   clear c4
   replace H := Option.bind_eq_some_iff.mp H
   obtain ⟨t497, A5, H⟩ := H
   try dsimp only at H
   replace A5 := aS A5
   obtain rfl := Option.some.inj H
   go_enter Tryd.func11, Tryd.ntmps11
   go_wp2_with (first | ((with_reducible refine gate_dst (N := 1) rfl ?_); refine box_event ?hg (N := 1) ?hd (cs := #[.string a0_0, .int .i64 a0_1, .int .i64 a0_2, .int .i64 a0_3, .string a0_4, .string a0_5]) (t := 25) ?hr ?_; (case hd => rfl); (case hg => rfl); (case hr => first | (go_simp; done) | (go_simp; rfl)); intro gb495 hg w6 hbox hb; have n0_ := aS (below_step (wU HB.out) hb); have n1_ := aS (hbox); have n2_ := aS ((by rw [hg]; exact (below_size (wU HB.out)) : w.heap.size ≤ gb495)); have n3_ := aS ((by rw [hg]; exact (below_size (wU HB.out)) : w.heap.size ≤ gb495)); clear HB; revert n0_ n1_ n2_ n3_; intro HB BK495 GW495 GE495; clear hb hbox hg; have hcz7 := cells6f BK495.out) | ((with_reducible refine gate_callee (f := 15) rfl ?_); refine goesL_ (some 4) rfl rfl Tryd.func15 jK rfl #[.agg #[.string a0_0, .int .i64 a0_1, .int .i64 a0_2, .int .i64 a0_3, .string a0_4, .string a0_5]] rfl jA ?_; (with_reducible refine (impl_RecordOk.calls k a0_0 a0_1 a0_2 a0_3 a0_4 a0_5 true _ A2.out).mono ?_); rintro e w8 ⟨rfl, hb⟩; refine ⟨_, rfl, ?_⟩; have n0_ := aS (blk_below (bU BK495.out) hb); have n1_ := aS (below_step (wS1 HB.out GE495.out) hb); clear BK495 HB; revert n0_ n1_; intro BK495 HB; clear hb; have hcz9 := cells6f BK495.out) | ((with_reducible refine gate_callee (f := 60) rfl ?_); refine goesL_ (some 12) rfl rfl Tryd.func60 jK rfl #[.slice none 0 0, .int .i64 a0_3] rfl jA ?_; (refine (impl_Put4.calls k _ _ ([] : List Int) a0_3 t497 _ ?side1 ?side2 A5.out).mono ?_); (case side1 => exact Kd.C_nil _ _); (case side2 => exact Nat.le_refl _); rintro e w10 ⟨v498, rfl, ho0, hb⟩; refine ⟨_, rfl, ?_⟩; have n0_ := aS (Kd.R_lower ho0 (below_size (wS1 HB.out GE495.out))); have n1_ := aS (blk_below (bU BK495.out) hb); have n2_ := aS (below_step (wS1 HB.out GE495.out) hb); clear BK495 HB; revert n0_ n1_ n2_; intro HO499 BK495 HB; clear hb; (try clear ho0)))
   go_ret
   exact ⟨_, jE, by (with_reducible repeat (first | apply Kd.R_alloc | apply Kd.R_drewN | apply Kd.R_drew)); exact HO499.out, by exact wS1 HB.out GE495.out⟩
  ·rw [if_neg c4] at H
   have c4b0 : (a0_1 == 1) = false := beq_eq_false_iff_ne.mpr c4
   have c4b1 : (a0_1 != 1) = true := bne_iff_ne.mpr c4
   have HC11 := aS H
   clear H
   go_enter Tryd.func11, Tryd.ntmps11
   go_upto_if 13 with (first | ((with_reducible refine gate_dst (N := 1) rfl ?_); refine box_event ?hg (N := 1) ?hd (cs := #[.string a0_0, .int .i64 a0_1, .int .i64 a0_2, .int .i64 a0_3, .string a0_4, .string a0_5]) (t := 25) ?hr ?_; (case hd => rfl); (case hg => rfl); (case hr => first | (go_simp; done) | (go_simp; rfl)); intro gb495 hg w12 hbox hb; have n0_ := aS (below_step (wU HB.out) hb); have n1_ := aS (hbox); have n2_ := aS ((by rw [hg]; exact (below_size (wU HB.out)) : w.heap.size ≤ gb495)); have n3_ := aS ((by rw [hg]; exact (below_size (wU HB.out)) : w.heap.size ≤ gb495)); clear HB; revert n0_ n1_ n2_ n3_; intro HB BK495 GW495 GE495; clear hb hbox hg; have hcz13 := cells6f BK495.out) | ((with_reducible refine gate_callee (f := 15) rfl ?_); refine goesL_ (some 4) rfl rfl Tryd.func15 jK rfl #[.agg #[.string a0_0, .int .i64 a0_1, .int .i64 a0_2, .int .i64 a0_3, .string a0_4, .string a0_5]] rfl jA ?_; (with_reducible refine (impl_RecordOk.calls k a0_0 a0_1 a0_2 a0_3 a0_4 a0_5 true _ A2.out).mono ?_); rintro e w14 ⟨rfl, hb⟩; refine ⟨_, rfl, ?_⟩; have n0_ := aS (blk_below (bU BK495.out) hb); have n1_ := aS (below_step (wS1 HB.out GE495.out) hb); clear BK495 HB; revert n0_ n1_; intro BK495 HB; clear hb; have hcz15 := cells6f BK495.out))
   (try simp only [Act.put, List.setIfInBounds_toArray, List.set_cons_zero, List.set_cons_succ])
   go_cut [13] (fun v13 wc => ∃ (kq : Nat) (x13_10 : Bool), v13 = .bool x13_10 ∧ Aside0 (impl_PutData.j0 kq a0_1 x13_10 a0_0 a0_1 a0_2 a0_3 a0_4 a0_5 = some r) ∧ Aside0 (kq ≤ k) ∧ Aside0 (wc.heap[gb495]? = some (.cells #[.string a0_0, .int .i64 a0_1, .int .i64 a0_2, .int .i64 a0_3, .string a0_4, .string a0_5] 25 (0, 0))) ∧ Aside0 (Below w.heap.size w wc))
   case first =>
    have H := HC11.out
    clear HC11
    by_cases c16 : a0_1 = 2
    ·rw [if_pos c16] at H
     have c16b0 : (a0_1 == 2) = true := beq_iff_eq.mpr c16
     have c16b1 : (a0_1 != 2) = false := bne_eq_false_iff_eq.mpr c16
     clear c16
     (first | rw [c16b0] | (simp only [i64_w, i32_w]; rw [c16b0]) | skip)
     have H' := aS H
     clear H
     go_wp2
     go_meet
     case rel => exact ⟨_, ((a0_1 == 2)), jB, H', ⟨by first | omega | exact Nat.le_refl _⟩, ⟨by (with_reducible repeat (first | refine blk_drewN ?_ _ | refine blk_drew ?_ | refine blk_alloc ?_ _)); exact BK495.out⟩, ⟨by exact wS1 HB.out GE495.out⟩⟩
    ·rw [if_neg c16] at H
     have c16b0 : (a0_1 == 2) = false := beq_eq_false_iff_ne.mpr c16
     have c16b1 : (a0_1 != 2) = true := bne_iff_ne.mpr c16
     (first | rw [c16b0] | (simp only [i64_w, i32_w]; rw [c16b0]) | skip)
     have H' := aS H
     clear H
     go_wp2
     go_meet
     case rel => exact ⟨_, ((a0_1 == 5)), jB, H', ⟨by first | omega | exact Nat.le_refl _⟩, ⟨by (with_reducible repeat (first | refine blk_drewN ?_ _ | refine blk_drew ?_ | refine blk_alloc ?_ _)); exact BK495.out⟩, ⟨by exact wS1 HB.out GE495.out⟩⟩
   case rest =>
    clear HC11
    try clear c1
    try clear p2
    try clear c3
    try clear c4
    try clear c4b0
    try clear c4b1
    try clear c6
    try clear c11
    try clear c15
    try clear c16
    try clear c16b0
    try clear c16b1
    try clear hcz13
    try clear hcz15
    try clear hcz7
    try clear hcz9
    obtain ⟨kq, x13_10, rfl, HA, HJ10, BK495, HB⟩ := hcut
    cases kq with
    | zero => exact absurd HA.out (by simp [impl_PutData.j0])
    | succ kj10 =>
     have H := HA.out
     clear HA
     simp only [impl_PutData.j0] at H
     by_cases c17 : x13_10 = true
     ·subst c17
      have H1 : ((impl_PutPlain.f kj10 ([] : List Int) a0_4).bind fun t500 => (some t500)) = some r := by rw [if_pos rfl] at H; exact H
      clear H
      have H := H1
      clear H1
      replace H := Option.bind_eq_some_iff.mp H
      obtain ⟨t500, A18, H⟩ := H
      try dsimp only at H
      replace A18 := aS A18
      obtain rfl := Option.some.inj H
      have hcz19 := cells6f BK495.out
      go_wp2_with (first | ((with_reducible refine gate_callee (f := 62) rfl ?_); refine goesL_ (some 18) rfl rfl Tryd.func62 jK rfl #[.slice none 0 0, .string a0_4] rfl jA ?_; (refine (impl_PutPlain.calls kj10 _ _ ([] : List Int) a0_4 t500 _ ?side1 ?side2 A18.out).mono ?_); (case side1 => exact Kd.C_nil _ _); (case side2 => exact Nat.le_refl _); rintro e w20 ⟨v501, rfl, ho0, hb⟩; refine ⟨_, rfl, ?_⟩; have n0_ := aS (Kd.R_lower ho0 (below_size (wS1 HB.out GE495.out))); have n1_ := aS (blk_below (bU BK495.out) hb); have n2_ := aS (below_step (wS1 HB.out GE495.out) hb); clear BK495 HB; revert n0_ n1_ n2_; intro HO502 BK495 HB; clear hb; (try clear ho0)))
      go_ret
      exact ⟨_, jE, by (with_reducible repeat (first | apply Kd.R_alloc | apply Kd.R_drewN | apply Kd.R_drew)); exact HO502.out, by exact wS1 HB.out GE495.out⟩
     ·replace c17 := Bool.eq_false_iff.mpr c17
      subst c17
      have H1 : (if a0_1 = 6 then ((impl_PutPlain.f kj10 ([] : List Int) a0_4).bind fun t503 => ((impl_Put4.f kj10 t503 a0_3).bind fun t506 => (some t506))) else ((some (([((a0_5.size : Int)) % 256] : List Int) : List Int)).bind fun y509 => (if y509.length + a0_5.size < 140737488355328 then (some (y509 ++ bytesOf a0_5)) else (none)))) = some r := by rw [if_neg (show ¬ (false = true) by decide)] at H; exact H
      clear H
      have H := H1
      clear H1
      by_cases c21 : a0_1 = 6
      ·rw [if_pos c21] at H
       have c21b0 : (a0_1 == 6) = true := beq_iff_eq.mpr c21
       have c21b1 : (a0_1 != 6) = false := bne_eq_false_iff_eq.mpr c21
       clear c21
       replace H := Option.bind_eq_some_iff.mp H
       obtain ⟨t503, A22, H⟩ := H
       try dsimp only at H
       replace A22 := aS A22
       replace H := Option.bind_eq_some_iff.mp H
       obtain ⟨t506, A23, H⟩ := H
       try dsimp only at H
       replace A23 := aS A23
       obtain rfl := Option.some.inj H
       try go_wp2
       have n0_ := aS (blk_drew BK495.out)
       have n1_ := aS (below_drew1 HB.out)
       clear BK495
       clear HB
       have BK495 := n0_
       have HB := n1_
       clear n0_ n1_
       refine start_ (n := 7) (S := fun w' => w'.cell? ⟨gb495, 0, none⟩ = some (.string a0_0) ∧ w'.cell? ⟨gb495, 1, none⟩ = some (.int .i64 a0_1) ∧ w'.cell? ⟨gb495, 2, none⟩ = some (.int .i64 a0_2) ∧ w'.cell? ⟨gb495, 3, none⟩ = some (.int .i64 a0_3) ∧ w'.cell? ⟨gb495, 4, none⟩ = some (.string a0_4) ∧ w'.cell? ⟨gb495, 5, none⟩ = some (.string a0_5)) (ds := []) #[false, false, false, false, false, false, false] jK rfl rfl ⟨(blk_cell BK495.out 0).trans rfl, (blk_cell BK495.out 1).trans rfl, (blk_cell BK495.out 2).trans rfl, (blk_cell BK495.out 3).trans rfl, (blk_cell BK495.out 4).trans rfl, (blk_cell BK495.out 5).trans rfl⟩ (fun hHeld => ?_)
       generalize wc.drew = w24 at BK495 HB hHeld ⊢
       refine pure_ (i := 0) (N := some 21) (v := ?_) (a' := ?_) #[true, false, false, false, false, false, false] rfl rfl jK (fun _ _ _ h => h) (Or.inl ⟨by rfl, ?_⟩) ?_ ?_
       rotate_left
       ·intro w'
        go_simp
        with_reducible rfl
       rotate_left
       ·simp only [Act.put, List.setIfInBounds_toArray, List.set_cons_zero, List.set_cons_succ, i64_w, i32_w]
        rfl
       refine pure_ (i := 3) (N := some 24) (v := ?_) (a' := ?_) #[true, false, false, true, false, false, false] rfl rfl jK (fun _ _ _ h => h) (Or.inl ⟨by rfl, ?_⟩) ?_ ?_
       rotate_left
       ·intro w'
        go_simp
        with_reducible rfl
       rotate_left
       ·simp only [Act.put, List.setIfInBounds_toArray, List.set_cons_zero, List.set_cons_succ, i64_w, i32_w]
        rfl
       refine take_ (i := 1) (N := some 22) (v := ?_) (a' := ?_) #[true, true, false, true, false, false, false] rfl rfl jK (fun _ _ _ h => h) (Or.inl ⟨by rfl, ?_⟩) hHeld ?_ ?_
       rotate_left
       ·rintro w' ⟨s0, s1, s2, s3, s4, s5⟩
        go_simp
        with_reducible rfl
       rotate_left
       ·simp only [Act.put, List.setIfInBounds_toArray, List.set_cons_zero, List.set_cons_succ, i64_w, i32_w]
        rfl
       refine take_ (i := 4) (N := some 25) (v := ?_) (a' := ?_) #[true, true, false, true, true, false, false] rfl rfl jK (fun _ _ _ h => h) (Or.inl ⟨by rfl, ?_⟩) hHeld ?_ ?_
       rotate_left
       ·rintro w' ⟨s0, s1, s2, s3, s4, s5⟩
        go_simp
        with_reducible rfl
       rotate_left
       ·simp only [Act.put, List.setIfInBounds_toArray, List.set_cons_zero, List.set_cons_succ, i64_w, i32_w]
        rfl
       refine one_ (i := 2) (N := some 23) #[true, true, true, true, true, false, false] rfl rfl jK (by decide) (fun K hK => ?_)
       refine goes_ Tryd.func62 jK rfl #[.slice none 0 0, .string a0_4] (by rfl) rfl rfl jA ?_
       refine (impl_PutPlain.calls kj10 _ _ ([] : List Int) a0_4 t503 _ ?side1 ?side2 A22.out).mono ?_
       (case side1 => exact Kd.C_nil _ _)
       (case side2 => exact Nat.le_refl _)
       rintro e w25 ⟨v504, rfl, ho0, hb⟩
       refine ⟨_, rfl, ?_⟩
       have n0_ := aS (Kd.R_lower ho0 (below_size (wS1 HB.out GE495.out)))
       have n1_ := aS (blk_below (bU BK495.out) hb)
       have n2_ := aS (below_step (wS1 HB.out GE495.out) hb)
       clear BK495
       clear HB
       have HO505 := n0_
       have BK495 := n1_
       have HB := n2_
       clear n0_ n1_ n2_
       (try clear hb)
       (try clear hb2)
       (try clear hk)
       (try clear hi)
       (try clear ho0)
       obtain ⟨Ao26, co26, eo26⟩ := Kd.R_slice HO505.out
       (first | subst eo26 | (injection eo26 with f1_ f2_ f3_; have f4_ := f1_.symm; have f5_ := f3_.symm; clear f1_ f2_ f3_; subst f4_; subst f5_))
       refine hK.out _ _ ⟨(blk_cell BK495.out 0).trans rfl, (blk_cell BK495.out 1).trans rfl, (blk_cell BK495.out 2).trans rfl, (blk_cell BK495.out 3).trans rfl, (blk_cell BK495.out 4).trans rfl, (blk_cell BK495.out 5).trans rfl⟩ (fun hHeld => ?_)
       clear hK K
       refine norm_ (a' := ?_) ?_ ?_
       rotate_left
       ·show Act.put _ (some 23) _ = _
        simp only [Act.put, List.setIfInBounds_toArray, List.set_cons_zero, List.set_cons_succ, i64_w, i32_w]
        rfl
       refine one_ (i := 5) (N := some 26) #[true, true, true, true, true, true, false] rfl rfl jK (by decide) (fun K hK => ?_)
       refine goes_ Tryd.func60 jK rfl #[.slice Ao26 t503.length co26, .int .i64 a0_3] (by rfl) rfl rfl jA ?_
       with_reducible refine (impl_Put4.calls kj10 _ _ t503 a0_3 t506 _ ?side1 ?side2 A23.out).mono ?_
       (case side1 => exact cU ((Kd.R_reads' HO505.out).2.2))
       (case side2 => exact (Kd.R_reads' HO505.out).2.1)
       rintro e w27 ⟨v507, rfl, ho0, hb⟩
       refine ⟨_, rfl, ?_⟩
       have n0_ := aS (Kd.R_elder' (rU HO505.out) (Kd.R_base ho0) hb)
       have n1_ := aS (Kd.R_lower (Kd.R_new' ho0 (Kd.R_lt (rU HO505.out))) (below_size (wS1 HB.out GE495.out)))
       have n2_ := aS (blk_below (bU BK495.out) hb)
       have n3_ := aS (below_step (wS1 HB.out GE495.out) hb)
       clear HO505
       clear BK495
       clear HB
       have HO505 := n0_
       have HO508 := n1_
       have BK495 := n2_
       have HB := n3_
       clear n0_ n1_ n2_ n3_
       (try clear hb)
       (try clear hb2)
       (try clear hk)
       (try clear hi)
       (try clear ho0)
       refine hK.out _ _ ⟨(blk_cell BK495.out 0).trans rfl, (blk_cell BK495.out 1).trans rfl, (blk_cell BK495.out 2).trans rfl, (blk_cell BK495.out 3).trans rfl, (blk_cell BK495.out 4).trans rfl, (blk_cell BK495.out 5).trans rfl⟩ (fun hHeld => ?_)
       clear hK K
       refine norm_ (a' := ?_) ?_ ?_
       rotate_left
       ·show Act.put _ (some 26) _ = _
        simp only [Act.put, List.setIfInBounds_toArray, List.set_cons_zero, List.set_cons_succ, i64_w, i32_w]
        rfl
       refine pure_ (i := 6) (N := some 2) (v := ?_) (a' := ?_) #[true, true, true, true, true, true, true] rfl rfl jK (fun _ _ _ h => h) (Or.inl ⟨by rfl, ?_⟩) ?_ ?_
       rotate_left
       ·intro w'
        go_simp
        with_reducible rfl
       rotate_left
       ·simp only [Act.put, List.setIfInBounds_toArray, List.set_cons_zero, List.set_cons_succ, i64_w, i32_w]
        rfl
       refine done_ jK ?_
       try go_wp2
       go_ret
       exact ⟨_, jE, Kd.R_mono (rU HO508.out) (fun _ hk => trivial), by exact wS1 HB.out GE495.out⟩
      ·rw [if_neg c21] at H
       have c21b0 : (a0_1 == 6) = false := beq_eq_false_iff_ne.mpr c21
       have c21b1 : (a0_1 != 6) = true := bne_iff_ne.mpr c21
       obtain ⟨y509, hy_⟩ : ∃ y_ : List Int, y_ = (([((a0_5.size : Int)) % 256] : List Int)) := ⟨_, rfl⟩
       replace H : (if y509.length + a0_5.size < 140737488355328 then (some (y509 ++ bytesOf a0_5)) else (none)) = some r := jD
       have Ny509 := aS hy_
       clear hy_
       by_cases c28 : y509.length + a0_5.size < 140737488355328
       ·rw [if_pos c28] at H
        have LMc28 := aS c28
        clear c28
        obtain ⟨y512, hy_⟩ : ∃ y_ : List Int, y_ = (y509 ++ bytesOf a0_5) := ⟨_, rfl⟩
        replace H : (some y512) = some r := jD
        have Ny512 := aS hy_
        clear hy_
        obtain rfl := Option.some.inj H
        have hcz29 := cells6f BK495.out
        go_wp2_with (first | ((with_reducible refine gate_dst (N := 31) rfl ?_); refine Kd.R_lit (Kd.int .u8) _ 5 ?hg (N := 31) ?hd (xs := ([((a0_5.size : Int)) % 256] : List Int)) (inner := [.int .u8 (((a0_5.size : Int)) % 256)]) (ok := fun _ => True) (okp := fun _ => True) ?hr ?hp (fun _ hk => hk) trivial (Below.refl _ _) (Nat.le_refl _) (by simp) ?_; (case hd => rfl); (case hg => rfl); (case hr => first | (go_simp; done) | (go_simp; rfl)); (case hp => exact (Reps.one (show Kd.M (Kd.int .u8) _ _ _ (((a0_5.size : Int)) % 256) [.int .u8 (((a0_5.size : Int)) % 256)] from rfl) (Reps.none _ _))); intro v510 w30 ho31 hb hg_ hnew_; clear hg_ hnew_; (first | rw [← Ny509.out] at ho31 | (simp only [Int.reduceToNat] at ho31; rw [← Ny509.out] at ho31)); have n0_ := aS (Kd.R_lower ho31 (below_size (wS1 HB.out GE495.out))); have n1_ := aS (blk_below (bU BK495.out) hb); have n2_ := aS (below_step (wS1 HB.out GE495.out) hb); clear BK495 HB; revert n0_ n1_ n2_; intro HO511 BK495 HB; clear hb ho31; have hcz32 := cells6f BK495.out) | (at_builtin; refine print_append_str (w0 := w) w.heap.size rfl (.tmp 31) _ 22 9 5 rfl Tryd.underlying22 Tryd.underlying9 info5 v510 y509 a0_5 rfl rfl ?aO ?aB ?aS ?aL ?_; (case aB => exact (wS1 HB.out GE495.out)); (case aO => exact (Kd.own_of_R (rU HO511.out))); (case aS => exact (below_size (wS1 HB.out GE495.out))); (case aL => have := LMc28.out; omega); intro v513 w33 ho0 hb hg; have ho := Kd.R_of_own (h1 := fun _ => rfl) (ok := fun _ => True) ho0 (fun _ _ => trivial); clear ho0; have hat := True.intro; rw [← Ny512.out] at ho; change Kd.R (Kd.int .u8) 5 w33 w.heap.size (fun _ => True) v513 y512 at ho; have n0_ := aS (blk_grown (g := gb495) (o := .cells #[.string a0_0, .int .i64 a0_1, .int .i64 a0_2, .int .i64 a0_3, .string a0_4, .string a0_5] 25 (0, 0)) (bU BK495.out) hg (Kd.R_ne HO511.out BK495.out (by decide))); have n1_ := aS (hb); have n2_ := aS (ho); clear BK495 HB HO511; revert n0_ n1_ n2_; intro BK495 HB HO514; clear ho hb hg hat))
        go_ret
        exact ⟨_, jE, by (with_reducible repeat (first | apply Kd.R_alloc | apply Kd.R_drewN | apply Kd.R_drew)); exact HO514.out, by exact wS1 HB.out GE495.out⟩
       ·rw [if_neg c28] at H
        exact absurd H (by simp)
 ·replace c3 := Bool.eq_false_iff.mpr c3
  subst c3
  have H1 : (some ([] : List Int)) = some r := by rw [if_neg (show ¬ (false = true) by decide)] at H; exact H
  clear H
  have H := H1
  clear H1
  obtain rfl := Option.some.inj H
  go_enter Tryd.func11, Tryd.ntmps11
  go_wp2_with (first | ((with_reducible refine gate_dst (N := 1) rfl ?_); refine box_event ?hg (N := 1) ?hd (cs := #[.string a0_0, .int .i64 a0_1, .int .i64 a0_2, .int .i64 a0_3, .string a0_4, .string a0_5]) (t := 25) ?hr ?_; (case hd => rfl); (case hg => rfl); (case hr => first | (go_simp; done) | (go_simp; rfl)); intro gb495 hg w34 hbox hb; have n0_ := aS (below_step (wU HB.out) hb); have n1_ := aS (hbox); have n2_ := aS ((by rw [hg]; exact (below_size (wU HB.out)) : w.heap.size ≤ gb495)); have n3_ := aS ((by rw [hg]; exact (below_size (wU HB.out)) : w.heap.size ≤ gb495)); clear HB; revert n0_ n1_ n2_ n3_; intro HB BK495 GW495 GE495; clear hb hbox hg; have hcz35 := cells6f BK495.out) | ((with_reducible refine gate_callee (f := 15) rfl ?_); refine goesL_ (some 4) rfl rfl Tryd.func15 jK rfl #[.agg #[.string a0_0, .int .i64 a0_1, .int .i64 a0_2, .int .i64 a0_3, .string a0_4, .string a0_5]] rfl jA ?_; (with_reducible refine (impl_RecordOk.calls k a0_0 a0_1 a0_2 a0_3 a0_4 a0_5 false _ A2.out).mono ?_); rintro e w36 ⟨rfl, hb⟩; refine ⟨_, rfl, ?_⟩; have n0_ := aS (blk_below (bU BK495.out) hb); have n1_ := aS (below_step (wS1 HB.out GE495.out) hb); clear BK495 HB; revert n0_ n1_; intro BK495 HB; clear hb))
  go_ret
  exact ⟨_, jE, by first | exact Kd.R_nil _ _ _ _ _ | exact Kd.N_nil _ _ _ _ _ | exact Kd.V_nil _ _ _ _ _ | exact Kd.Q_nil _ _ _ _ _ | exact Kd.S_nil _ _ _ _ _, by exact wS1 HB.out GE495.out⟩

/-! ### strings_Join: function 109 -/
def strings_Join.f (l0 : List ByteArray) (a1 : ByteArray) : Option (ByteArray) := if (Lib.join (l0.map (·.data.toList)) a1.data.toList).length ≤ 140737488355328 ∧ l0.length ≤ 140737488355328 then some ⟨(Lib.join (l0.map (·.data.toList)) a1.data.toList).toArray⟩ else none
theorem strings_Join.calls (A0 : Option Addr) (c0 : Nat) (l0 : List ByteArray) (a1 : ByteArray) (r : ByteArray) (w : World) (hr0 : Kd.C Kd.string w A0 l0.length l0) (hc0 : l0.length ≤ c0) (h : strings_Join.f l0 a1 = some r) :
  Calls Tryd.prog 109 #[.slice A0 l0.length c0, .string a1] w fun e w' => e = .returned (.string r) ∧ Below w.heap.size w w' := by
 by_cases hb : (Lib.join (l0.map (·.data.toList)) a1.data.toList).length ≤ 140737488355328 ∧ l0.length ≤ 140737488355328
 ·rw [strings_Join.f, if_pos hb] at h
  obtain rfl := Option.some.inj h
  by_cases hne : l0 = []
  ·subst hne
   exact (Any.strings_Join_none Tryd.lays156 Tryd.Builder_Extra_156 A0 c0 a1 w).mono fun e w' ⟨he, hw⟩ => ⟨he, hw ▸ Below.refl _ _⟩
  ·obtain ⟨b, o, rfl, hcells, hlt⟩ := X.C_strings hr0 hne
   exact Any.strings_Join Tryd.lays156 Tryd.Builder_Extra_156 b o c0 l0 a1 w hcells hlt hb.2 hc0 hb.1
 ·rw [strings_Join.f, if_neg hb] at h
  cases h


/-! ### impl_JoinLabels: function 146 -/
def impl_JoinLabels.f (l0 : List ByteArray) : Option (ByteArray) := (strings_Join.f l0 (⟨#[46]⟩ : ByteArray)).bind fun t515 => (some t515)
set_option maxHeartbeats 8000000 in
set_option maxRecDepth 100000 in
theorem impl_JoinLabels.calls (A0 : Option Addr) (c0 : Nat) (l0 : List ByteArray) (r : ByteArray) (w : World) (hr0 : Kd.C Kd.string w A0 l0.length l0) (hc0 : l0.length ≤ c0) (h : impl_JoinLabels.f l0 = some r) :
  Calls Tryd.prog 146 #[.slice A0 l0.length c0] w fun e w' => e = .returned (.string r) ∧ Below w.heap.size w w' := by
 have HR0 := aS hr0
 have HC0 := aS hc0
 clear hr0 hc0
 have HB := aS (Below.refl w.heap.size w)
 have H : ((strings_Join.f l0 (⟨#[46]⟩ : ByteArray)).bind fun t515 => (some t515)) = some r := h
 clear h
 replace H := Option.bind_eq_some_iff.mp H
 obtain ⟨t515, A2, H⟩ := H
 try dsimp only at H
 replace A2 := aS A2
 obtain rfl := Option.some.inj H
 go_enter Tryd.func146, Tryd.ntmps146
 go_wp2_with (first | ((with_reducible refine gate_callee (f := 109) rfl ?_); refine goesL_ (some 4) rfl rfl Tryd.func109 jK rfl #[.slice A0 l0.length c0, .string (⟨#[46]⟩ : ByteArray)] rfl jA ?_; (with_reducible refine (strings_Join.calls _ _ l0 (⟨#[46]⟩ : ByteArray) t515 _ ?side1 ?side2 A2.out).mono ?_); (case side1 => exact cU (HR0.out)); (case side2 => exact HC0.out); rintro e w3 ⟨rfl, hb⟩; refine ⟨_, rfl, ?_⟩; have n0_ := aS (below_step (wU HB.out) hb); clear HB; revert n0_; intro HB; clear hb))
 go_ret
 exact ⟨jE, by repeat (first | (with_reducible first | exact HB.out | apply below_alloc | apply pw_below_drewN | apply below_drew1) | exact HB.out)⟩

/-! ### impl_Above: function 116 -/
def impl_Above.l0 : Nat → List ByteArray → List ByteArray → Int → Int → Option (List ByteArray)
 | 0, _, _, _, _ => none
 | k + 1, x3, x4, x10, x11 => if x11 < x10 then (if 0 ≤ x11 then (if x11 ≤ (x4.length : Int) then ((impl_JoinLabels.f (x4.drop (x11 : Int).toNat)).bind fun t526 => (if x3.length < 8796093022208 then (impl_Above.l0 k (x3 ++ [t526]) x4 x10 (wrap64 (x11 + 1))) else (none))) else (none)) else (none)) else (if x3.length < 8796093022208 then (some (x3 ++ [(⟨#[]⟩ : ByteArray)])) else (none))
def impl_Above.f (k : Nat) (a0 : ByteArray) : Option (List ByteArray) := (impl_Labels.f a0).bind fun t519 => (impl_Above.l0 k (([] : List ByteArray)) t519 (t519.length : Int) 0)
theorem impl_Above.mono_l : ∀ k, (∀ y0 y1 y2 y3, LeO (impl_Above.l0 k y0 y1 y2 y3) (impl_Above.l0 (k + 1) y0 y1 y2 y3))
 | 0 => fun _ _ _ _ r h => by simp [impl_Above.l0] at h
 | k + 1 => by
  have ih0 := impl_Above.mono_l k
  ·intro y0 y1 y2 y3
   unfold impl_Above.l0
   repeat' first
   | (with_reducible first | exact ih0 _ _ _ _ | exact LeO.refl _ | exact LeO.none _ | refine LeO.ite ?_ ?_ | refine LeO.bind ?_ (fun _ => ?_))
   | exact ih0 _ _ _ _
   | exact LeO.none _
   | refine LeO.ite ?_ ?_
   | refine LeO.bind ?_ (fun _ => ?_)
theorem impl_Above.mono : ∀ a0 k, LeO (impl_Above.f k a0) (impl_Above.f (k + 1) a0) := by
 intro a0 k
 have ih0 := impl_Above.mono_l k
 unfold impl_Above.f
 repeat' first
   | (with_reducible first | exact ih0 _ _ _ _ | exact LeO.refl _ | exact LeO.none _ | refine LeO.ite ?_ ?_ | refine LeO.bind ?_ (fun _ => ?_))
   | exact ih0 _ _ _ _
   | exact LeO.none _
   | refine LeO.ite ?_ ?_
   | refine LeO.bind ?_ (fun _ => ?_)
set_option maxHeartbeats 8000000 in
set_option maxRecDepth 100000 in
theorem impl_Above.calls (k : Nat) (a0 : ByteArray) (r : List ByteArray) (w : World) (h : impl_Above.f k a0 = some r) :
  Calls Tryd.prog 116 #[.string a0] w fun e w' => ∃ v0_ : Value, e = .returned (v0_) ∧ Kd.R Kd.string 9 w' w.heap.size (fun _ => True) v0_ r ∧ Below w.heap.size w w' := by
 have HB := aS (Below.refl w.heap.size w)
 have H : ((impl_Labels.f a0).bind fun t519 => (impl_Above.l0 k (([] : List ByteArray)) t519 (t519.length : Int) 0)) = some r := h
 clear h
 obtain ⟨y516, hy_⟩ : ∃ y_ : List ByteArray, y_ = (([] : List ByteArray)) := ⟨_, rfl⟩
 replace H : ((impl_Labels.f a0).bind fun t519 => (impl_Above.l0 k y516 t519 (t519.length : Int) 0)) = some r := jD
 have Ny516 := aS hy_
 clear hy_
 replace H := Option.bind_eq_some_iff.mp H
 obtain ⟨t519, A2, H⟩ := H
 try dsimp only at H
 replace A2 := aS A2
 have H' := aS H
 clear H
 go_enter Tryd.func116, Tryd.ntmps116
 go_wp2_with (first | ((with_reducible refine gate_dst (N := 6) rfl ?_); refine Kd.R_lit Kd.string _ 9 ?hg (N := 6) ?hd (xs := ([] : List ByteArray)) (inner := []) (ok := fun _ => True) (okp := fun _ => True) ?hr ?hp (fun _ hk => hk) trivial (Below.refl _ _) (Nat.le_refl _) (by simp) ?_; (case hd => rfl); (case hg => rfl); (case hr => first | (go_simp; done) | (go_simp; rfl)); (case hp => exact (Reps.none _ _)); intro v517 w3 ho4 hb hg_ hnew_; clear hg_ hnew_; (first | rw [← Ny516.out] at ho4 | (simp only [Int.reduceToNat] at ho4; rw [← Ny516.out] at ho4)); have n0_ := aS (Kd.R_lower ho4 (below_size (wU HB.out))); have n1_ := aS (below_step (wU HB.out) hb); clear HB; revert n0_ n1_; intro HO518 HB; clear hb ho4) | ((with_reducible refine gate_callee (f := 115) rfl ?_); refine goesL_ (some 8) rfl rfl Tryd.func115 jK rfl #[.string a0] rfl jA ?_; (with_reducible refine (impl_Labels.calls a0 t519 _ A2.out).mono ?_); rintro e w5 ⟨v520, rfl, ho0, hb⟩; refine ⟨_, rfl, ?_⟩; have n0_ := aS (Kd.R_elder' (rU HO518.out) (Kd.R_base ho0) hb); have n1_ := aS (Kd.R_lower (Kd.R_new' ho0 (Kd.R_lt (rU HO518.out))) (below_size (wU HB.out))); have n2_ := aS (below_step (wU HB.out) hb); clear HO518 HB; revert n0_ n1_ n2_; intro HO518 HO521 HB; clear hb; (try clear ho0); obtain ⟨Ao6, co6, eo6⟩ := Kd.R_slice HO521.out; subst eo6))
 go_loopg [3, 11] k (fun kq v3 v11 w' => ∃ (x3_1 : List ByteArray) (x11_1 : Int), v11 = .int .i64 x11_1 ∧ Aside0 (impl_Above.l0 kq x3_1 t519 (t519.length : Int) x11_1 = some r) ∧ Aside0 (kq ≤ k) ∧ Aside0 (Kd.R Kd.string 9 w' w.heap.size (fun k_ => some k_ ≠ ((.slice Ao6 t519.length co6) : Value).ownBlock) v3 x3_1) ∧ Aside0 (Kd.R Kd.string 9 w' w.heap.size (fun k_ => some k_ ≠ (v3 : Value).ownBlock) (.slice Ao6 t519.length co6) t519) ∧ Aside0 (Below w.heap.size w w'))
 case atStart => exact ⟨(y516), (0), jB, H', ⟨Nat.le_refl _⟩, ⟨by (with_reducible repeat (first | apply Kd.R_alloc | apply Kd.R_drewN | apply Kd.R_drew)); exact Kd.R_mono HO518.out (fun _ hk => hk.2)⟩, ⟨by (with_reducible repeat (first | apply Kd.R_alloc | apply Kd.R_drewN | apply Kd.R_drew)); exact Kd.R_mono HO521.out (fun _ hk => hk.2)⟩, ⟨by repeat (first | (with_reducible first | exact HB.out | apply below_alloc | apply pw_below_drewN | apply below_drew1) | exact HB.out)⟩⟩
 case round =>
  clear H'
  try clear c1
  try clear p2
  obtain ⟨x3_1, x11_1, rfl, HA, HK1, HO_3, HO_4, HB⟩ := hrel
  cases gk with
  | zero => exact absurd HA.out (by simp [impl_Above.l0])
  | succ k1 =>
   have H := HA.out
   clear HA
   simp only [impl_Above.l0] at H
   by_cases c7 : x11_1 < (t519.length : Int)
   ·rw [if_pos c7] at H
    have c7b0 : decide (x11_1 < (t519.length : Int)) = true := decide_eq_true c7
    clear c7
    by_cases c8 : 0 ≤ x11_1
    ·rw [if_pos c8] at H
     have c8b0 := eq_true c8
     have c8b1 : decide (0 ≤ x11_1) = true := decide_eq_true c8
     clear c8
     by_cases c9 : x11_1 ≤ (t519.length : Int)
     ·rw [if_pos c9] at H
      have c9b0 := eq_true c9
      have c9b1 : decide (x11_1 ≤ (t519.length : Int)) = true := decide_eq_true c9
      clear c9
      obtain ⟨y522, hy_⟩ : ∃ y_ : List ByteArray, y_ = (t519.drop (x11_1 : Int).toNat) := ⟨_, rfl⟩
      replace H : ((impl_JoinLabels.f y522).bind fun t526 => (if x3_1.length < 8796093022208 then (impl_Above.l0 k1 (x3_1 ++ [t526]) t519 (t519.length : Int) (wrap64 (x11_1 + 1))) else (none))) = some r := jD
      have Ny522 := aS hy_
      clear hy_
      replace H := Option.bind_eq_some_iff.mp H
      obtain ⟨t526, A10, H⟩ := H
      try dsimp only at H
      replace A10 := aS A10
      by_cases c11 : x3_1.length < 8796093022208
      ·rw [if_pos c11] at H
       have LMc11 := aS c11
       clear c11
       obtain ⟨y527, hy_⟩ : ∃ y_ : List ByteArray, y_ = (x3_1 ++ [t526]) := ⟨_, rfl⟩
       replace H : (impl_Above.l0 k1 y527 t519 (t519.length : Int) (wrap64 (x11_1 + 1))) = some r := jD
       have Ny527 := aS hy_
       clear hy_
       have H' := aS H
       clear H
       have q12 : (x11_1 : Int) ≤ ((t519.length : Int) : Int) := of_decide_eq_true jC
       obtain ⟨i012, hi012, _, hsz12, _⟩ := info_parts info9
       have hroom12 : t519.length ≤ co6 := (Kd.R_reads' HO_4.out).2.1
       have hC12 : Kd.C Kd.string _ Ao6 t519.length t519 := (Kd.R_reads' HO_4.out).2.2
       have q012 : (0 : Int) ≤ (x11_1 : Int) := of_decide_eq_true jC
       have hcut12 := cut_from (P := Tryd.prog) 108 9 .i64 Tryd.underlying108 hi012 1 hsz12 Ao6 t519.length co6 x11_1 q012 q12
       have hr12 := Kd.C_drop (m := (x11_1 : Int).toNat) (c := co6) hC12 (by omega) hroom12
       obtain ⟨A12, hA12⟩ : ∃ A1, A1 = (if co6 = (x11_1 : Int).toNat then Ao6 else (Ao6 : Option Addr).map (·.add ((x11_1 : Int).toNat * 1))) := ⟨_, rfl⟩
       obtain ⟨c12, hc12⟩ : ∃ c1, c1 = co6 - (x11_1 : Int).toNat := ⟨_, rfl⟩
       have hy12 : y522.length = t519.length - (x11_1 : Int).toNat := (by rw [Ny522.out, List.length_drop] <;> omega)
       rw [show (t519).drop (x11_1 : Int).toNat = y522 from Ny522.out.symm] at hr12
       replace hr12 : Kd.C Kd.string _ A12 y522.length y522 := (by rw [hA12]; exact hr12)
       rw [← hy12, ← hA12, ← hc12] at hcut12
       have HR525 := aS hr12
       have HC525 := aS (show y522.length ≤ c12 from by rw [hy12, hc12]; exact Nat.sub_le_sub_right hroom12 _)
       clear hr12 hC12 hroom12 hi012 hsz12 hc12
       have KY12 := aS hy12
       have KA12 := aS hA12
       clear hy12 hA12
       have KL12 := aS (show (x11_1 : Int).toNat ≤ t519.length from by omega)
       replace q12 := eq_true q12
       go_wp2_with (first | ((with_reducible refine gate_callee (f := 146) rfl ?_); refine goesL_ (some 18) rfl rfl Tryd.func146 jK rfl #[.slice A12 y522.length c12] rfl jA ?_; (with_reducible refine (impl_JoinLabels.calls _ _ y522 t526 _ ?side1 ?side2 A10.out).mono ?_); (case side1 => repeat (first | exact (by repeat (first | (with_reducible exact HR525.out) | (with_reducible refine Kd.C_alloc ?_ _) | (with_reducible refine Kd.C_drewN ?_ _) | (with_reducible refine Kd.C_drew ?_) | exact HR525.out)) | (with_reducible refine Kd.C_alloc ?_ _) | (with_reducible refine Kd.C_drewN ?_ _) | (with_reducible refine Kd.C_drew ?_))); (case side2 => exact HC525.out); rintro e w13 ⟨rfl, hb⟩; refine ⟨_, rfl, ?_⟩; have n0_ := aS (Kd.R_below (rU HO_3.out) hb); have n1_ := aS (Kd.R_below (rU HO_4.out) hb); have n2_ := aS (Kd.C_below (by repeat (first | (with_reducible exact HR525.out) | (with_reducible refine Kd.C_alloc ?_ _) | (with_reducible refine Kd.C_drewN ?_ _) | (with_reducible refine Kd.C_drew ?_) | exact HR525.out)) hb); have n3_ := aS (below_step (wU HB.out) hb); clear HO_3 HO_4 HR525 HB; revert n0_ n1_ n2_ n3_; intro HO_3 HO_4 HR525 HB; clear hb) | ((with_reducible refine gate_builtin (b := .append) (xs := #[.tmp 14, .tmp 19]) rfl ?_); at_builtin; refine Kd.R_append Kd.string (w0 := w) w.heap.size rfl (.tmp 14) (.tmp 19) 108 9 (.string ⟨#[]⟩) 16 rfl Tryd.underlying108 info9 rfl (by decide) (by omega) u3 x3_1 t526 [.string t526] (fun k_ => some k_ ≠ (.slice Ao6 t519.length co6 : Value).ownBlock) (fun _ => False) rfl rfl ?aP (fun _ hk => hk.elim) ?aF ?aO ?aB ?aS ?aL ?_; (case aP => exact rfl); (case aB => exact (wU HB.out)); (case aF => exact (fun k_ hk => Kd.fresh' (Kd.R_lt (rU HO_4.out)) k_ hk)); (case aO => exact (rU HO_3.out)); (case aS => exact (below_size (wU HB.out))); (case aL => have := LMc11.out; omega); intro v528 w14 ho hb hg hat; rw [← Ny527.out] at ho; have n0_ := aS (Kd.R_after (ok := (fun _ => True)) (by (with_reducible repeat (first | apply Kd.R_alloc | apply Kd.R_drewN | apply Kd.R_drew)); exact Kd.R_mono HO_4.out (fun _ hk => ⟨trivial, hk⟩)) hg hat); have n1_ := aS (hb); have n2_ := aS ((show Kd.C Kd.string w14 A12 y522.length y522 from by rw [Ny522.out, KA12.out]; exact Kd.C_drop (m := (x11_1 : Int).toNat) (c := co6) ((Kd.R_reads' (Kd.R_after (ok := (fun _ => True)) (by (with_reducible repeat (first | apply Kd.R_alloc | apply Kd.R_drewN | apply Kd.R_drew)); exact Kd.R_mono HO_4.out (fun _ hk => ⟨trivial, hk⟩)) hg hat)).2.2) KL12.out ((Kd.R_reads' (Kd.R_after (ok := (fun _ => True)) (by (with_reducible repeat (first | apply Kd.R_alloc | apply Kd.R_drewN | apply Kd.R_drew)); exact Kd.R_mono HO_4.out (fun _ hk => ⟨trivial, hk⟩)) hg hat)).2.1))); have n3_ := aS (ho); clear HO_4 HB HR525 HO_3; revert n0_ n1_ n2_ n3_; intro HO_4 HB HR525 HO529; clear ho hb hg hat))
       go_roundg k1
       case measure => have := HK1.out; omega
       case rel => exact ⟨(y527), (wrap64 (x11_1 + 1)), jB, H', ⟨by have := HK1.out; omega⟩, ⟨by (with_reducible repeat (first | apply Kd.R_alloc | apply Kd.R_drewN | apply Kd.R_drew)); exact HO529.out⟩, ⟨by (with_reducible repeat (first | apply Kd.R_alloc | apply Kd.R_drewN | apply Kd.R_drew)); exact Kd.R_mono HO_4.out (fun _ hk => hk.2)⟩, ⟨by repeat (first | (with_reducible first | exact HB.out | apply below_alloc | apply pw_below_drewN | apply below_drew1) | exact HB.out)⟩⟩
      ·rw [if_neg c11] at H
       exact absurd H (by simp)
     ·rw [if_neg c9] at H
      exact absurd H (by simp)
    ·rw [if_neg c8] at H
     exact absurd H (by simp)
   ·rw [if_neg c7] at H
    have c7b0 : decide (x11_1 < (t519.length : Int)) = false := decide_eq_false c7
    clear c7
    by_cases c15 : x3_1.length < 8796093022208
    ·rw [if_pos c15] at H
     have LMc15 := aS c15
     clear c15
     obtain ⟨y530, hy_⟩ : ∃ y_ : List ByteArray, y_ = (x3_1 ++ [(⟨#[]⟩ : ByteArray)]) := ⟨_, rfl⟩
     replace H : (some y530) = some r := jD
     have Ny530 := aS hy_
     clear hy_
     obtain rfl := Option.some.inj H
     go_wp2_with (first | ((with_reducible refine gate_builtin (b := .append) (xs := #[.tmp 22, .tmp 23]) rfl ?_); at_builtin; refine Kd.R_append Kd.string (w0 := w) w.heap.size rfl (.tmp 22) (.tmp 23) 108 9 (.string ⟨#[]⟩) 16 rfl Tryd.underlying108 info9 rfl (by decide) (by omega) u3 x3_1 (⟨#[]⟩ : ByteArray) [.string (⟨#[]⟩ : ByteArray)] (fun k_ => some k_ ≠ (.slice Ao6 t519.length co6 : Value).ownBlock) (fun _ => False) rfl rfl ?aP (fun _ hk => hk.elim) ?aF ?aO ?aB ?aS ?aL ?_; (case aP => exact rfl); (case aB => exact (wU HB.out)); (case aF => exact (fun k_ hk => Kd.fresh' (Kd.R_lt (rU HO_4.out)) k_ hk)); (case aO => exact (rU HO_3.out)); (case aS => exact (below_size (wU HB.out))); (case aL => have := LMc15.out; omega); intro v531 w16 ho hb hg hat; rw [← Ny530.out] at ho; have n0_ := aS (Kd.R_after (ok := (fun _ => True)) (by (with_reducible repeat (first | apply Kd.R_alloc | apply Kd.R_drewN | apply Kd.R_drew)); exact Kd.R_mono HO_4.out (fun _ hk => ⟨trivial, hk⟩)) hg hat); have n1_ := aS (hb); have n2_ := aS (ho); clear HO_4 HB HO_3; revert n0_ n1_ n2_; intro HO_4 HB HO532; clear ho hb hg hat))
     go_ret
     exact ⟨_, jE, Kd.R_mono (rU HO532.out) (fun _ hk => trivial), by repeat (first | (with_reducible first | exact HB.out | apply below_alloc | apply pw_below_drewN | apply below_drew1) | exact HB.out)⟩
    ·rw [if_neg c15] at H
     exact absurd H (by simp)

/-! ### impl_Fold: function 161 -/
def impl_Fold.f (a0 : ByteArray) : Option (ByteArray) := if a0.size ≤ 140737488355328 then some (strOfNums ((bytesOf a0).map X.foldB)) else none
set_option maxHeartbeats 1000000 in
theorem impl_Fold.calls (a0 : ByteArray) (r : ByteArray) (w : World) (h : impl_Fold.f a0 = some r) :
  Calls Tryd.prog 161 #[.string a0] w fun e w' => e = .returned (.string r) ∧ Below w.heap.size w w' := by
 have hs : a0.size ≤ 140737488355328 := by
  rcases Nat.lt_or_ge 140737488355328 a0.size with q | q
  ·rw [impl_Fold.f, if_neg (by omega)] at h; cases h
  ·exact q
 have hr : strOfNums ((bytesOf a0).map X.foldB) = r := by rw [impl_Fold.f, if_pos hs] at h; exact Option.some.inj h
 clear h
 have hconv : ∀ (W : World) (s : ByteArray), (convert 9 22 (.string s)).run Tryd.prog W = .ok (.slice (some ⟨W.heap.size, 0, none⟩) s.size (grownCap W s.size 0 5)) (Lib.bytesWorld W 5 s) := fun W s => Lib.run_convert_string_bytes (P := Tryd.prog) W 9 22 5 s Tryd.underlying9 Tryd.underlying22 Tryd.underlying5
 have H1 := Aside0.mk (X.Row8.new w 5 a0)
 have HB := Aside0.mk (X.below_bytesWorld w 5 a0)
 have HR := Aside0.mk hr
 have HL := Aside0.mk (bytesOf_length a0)
 clear hr
 go_enter Tryd.func161, Tryd.ntmps161
 go_wp2
 go_loopw [4, 5, 10] (fun v4 v5 v10 wr => ∃ i : Nat, i ≤ a0.size ∧ v10 = .int .i64 i ∧ Aside0 (X.Row8 wr w.heap.size a0.size (X.foldTo (bytesOf a0) i)) ∧ Aside0 (Below w.heap.size w wr)) (fun _ _ v10 _ => a0.size - (intOf v10).toNat)
 case atStart => exact ⟨0, Nat.zero_le _, rfl, ⟨by simpa [X.foldTo] using H1.out⟩, HB⟩
 case round =>
  obtain ⟨i, hi, rfl, HI, HB⟩ := hrel
  by_cases hlt : i < a0.size
  ·obtain ⟨c, hc⟩ : ∃ c, rd (bytesOf a0) i = c := ⟨_, rfl⟩
   have hcell := HI.out.cell i hlt
   rw [X.foldTo_rd _ _ (by rw [HL.out]; exact hlt), hc] at hcell
   have hfree := HI.out.free i hlt
   have hcb := X.rd_byte (X.bytes_bytesOf a0) (i : Int)
   rw [hc] at hcb
   obtain ⟨hc0, hc1⟩ := hcb
   have HC := Aside0.mk hc
   clear hc
   by_cases h65 : 65 ≤ c
   ·by_cases h90 : c ≤ 90
    ·skip
     have HE := Aside0.mk (show X.foldB c = c + 32 from if_pos ⟨h65, h90⟩)
     go_wp2
     go_roundw
     case rel => exact ⟨i + 1, by omega, by go_num, ⟨X.Row8.fold HI.out HL.out hlt HC.out (HE.out.trans (by omega))⟩, ⟨HB.out.setCell (Nat.le_refl _) _⟩⟩
     case measure => simp [intOf]; omega
    ·have HE := Aside0.mk (X.foldTo_same (bytesOf a0) i (by rw [HL.out]; exact hlt) (by rw [HC.out]; exact if_neg (fun q => h90 q.2)))
     go_wp2
     go_roundw
     case rel => exact ⟨i + 1, by omega, by go_num, ⟨by rw [← HE.out]; exact HI.out⟩, HB⟩
     case measure => simp [intOf]; omega
   ·have HE := Aside0.mk (X.foldTo_same (bytesOf a0) i (by rw [HL.out]; exact hlt) (by rw [HC.out]; exact if_neg (fun q => h65 q.1)))
    go_wp2
    go_roundw
    case rel => exact ⟨i + 1, by omega, by go_num, ⟨by rw [← HE.out]; exact HI.out⟩, HB⟩
    case measure => simp [intOf]; omega
  ·obtain rfl : i = a0.size := by omega
   have hback := run_convert_bytes_arg (P := Tryd.prog) wr 22 5 Tryd.underlying22 Tryd.underlying5 w.heap.size 0 a0.size (grownCap w a0.size 0 5) (X.foldTo (bytesOf a0) a0.size) HI.out.len (fun j hj => by rw [Nat.zero_add, HI.out.cell j hj]; rfl) 9 Tryd.underlying9
   go_wp2
   go_ret
   exact ⟨by rw [← HR.out, ← HL.out, X.foldTo_all]; rfl, HB.out⟩


end Go.Proofs.YtdigilidomimdaaDoor.Pr
