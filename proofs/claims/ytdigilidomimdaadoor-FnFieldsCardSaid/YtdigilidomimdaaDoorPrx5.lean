-- Written for this claim by a program of this session (wip/tool/pr.py, over the kit's printer).
-- half
import Derived.Test.YtdigilidomimdaaDoorPrx0
import Derived.Test.YtdigilidomimdaaDoorPrx2
import Derived.Test.YtdigilidomimdaaDoorPrx3
import Derived.Test.YtdigilidomimdaaDoorPrx4
namespace Go.Proofs.YtdigilidomimdaaDoor.Pr
open Go.RowKit Go.Proofs.YtdigilidomimdaaDoorW.PrintWords Go.Proofs.YtdigilidomimdaaDoorW.PrintLast Go.Proofs.YtdigilidomimdaaDoorW.PrintMore
attribute [local go_sem] max2_int min2_int max_two min_two max_three min_three max_four min_four   -- for this text's walks alone
set_option linter.unusedVariables false
set_option linter.unusedSimpArgs false

/-! ### spec_PutName: function 65 -/
def spec_PutName.l0 : Nat → List Int → List Int → List ByteArray → List ByteArray → Int → Option (List Int)
 | 0, _, _, _, _, _ => none
 | k + 1, x0, x5, x6, x7, x8 => if x8 < (x7.length : Int) then (if 0 ≤ x8 then (if x8 < (x6.length : Int) then ((spec_PlaceOf.f k x0 (rdOf ByteArray.empty x6 x8)).bind fun t190 => (if t190 ≥ 0 then ((some (([(wrap64 (192 + (wrap64 (Int.tdiv t190 256)))) % 256, (Int.tmod t190 256) % 256] : List Int) : List Int)).bind fun y191 => (if x5.length + y191.length < 140737488355328 then (some (x5 ++ y191)) else (none))) else ((spec_PutLabel.f k x5 (rdOf ByteArray.empty x7 x8)).bind fun t198 => (spec_PutName.l0 k x0 t198 x6 x7 (wrap64 (x8 + 1)))))) else (none)) else (none)) else (if x5.length < 140737488355328 then (some (x5 ++ [0])) else (none))
def spec_PutName.f (k : Nat) (l0 : List Int) (a1 : ByteArray) : Option (List Int) := (some (([] : List Int) : List Int)).bind fun y173 => (if y173.length + l0.length < 140737488355328 then ((some (y173 ++ l0 : List Int)).bind fun y176 => ((spec_NameOk.f k a1).bind fun t179 => (if t179 = true then ((spec_Above.f k a1).bind fun t180 => ((spec_Labels.f k a1).bind fun t183 => (spec_PutName.l0 k l0 y176 t180 t183 0))) else (some y176)))) else (none))
theorem spec_PutName.mono_l : ∀ k, (∀ y0 y1 y2 y3 y4, LeO (spec_PutName.l0 k y0 y1 y2 y3 y4) (spec_PutName.l0 (k + 1) y0 y1 y2 y3 y4))
 | 0 => fun _ _ _ _ _ r h => by simp [spec_PutName.l0] at h
 | k + 1 => by
  have ih0 := spec_PutName.mono_l k
  ·intro y0 y1 y2 y3 y4
   unfold spec_PutName.l0
   repeat' first
   | (with_reducible first | exact ih0 _ _ _ _ _ | exact spec_Above.mono _ _ | exact spec_Labels.mono _ _ | exact spec_NameOk.mono _ _ | exact spec_PlaceOf.mono _ _ _ | exact spec_PutLabel.mono _ _ _ | exact LeO.refl _ | exact LeO.none _ | refine LeO.ite ?_ ?_ | refine LeO.bind ?_ (fun _ => ?_))
   | exact ih0 _ _ _ _ _
   | exact spec_Above.mono _ _
   | exact spec_Labels.mono _ _
   | exact spec_NameOk.mono _ _
   | exact spec_PlaceOf.mono _ _ _
   | exact spec_PutLabel.mono _ _ _
   | exact LeO.none _
   | refine LeO.ite ?_ ?_
   | refine LeO.bind ?_ (fun _ => ?_)
theorem spec_PutName.mono : ∀ a0 a1 k, LeO (spec_PutName.f k a0 a1) (spec_PutName.f (k + 1) a0 a1) := by
 intro a0 a1 k
 have ih0 := spec_PutName.mono_l k
 unfold spec_PutName.f
 repeat' first
   | (with_reducible first | exact ih0 _ _ _ _ _ | exact spec_Above.mono _ _ | exact spec_Labels.mono _ _ | exact spec_NameOk.mono _ _ | exact spec_PlaceOf.mono _ _ _ | exact spec_PutLabel.mono _ _ _ | exact LeO.refl _ | exact LeO.none _ | refine LeO.ite ?_ ?_ | refine LeO.bind ?_ (fun _ => ?_))
   | exact ih0 _ _ _ _ _
   | exact spec_Above.mono _ _
   | exact spec_Labels.mono _ _
   | exact spec_NameOk.mono _ _
   | exact spec_PlaceOf.mono _ _ _
   | exact spec_PutLabel.mono _ _ _
   | exact LeO.none _
   | refine LeO.ite ?_ ?_
   | refine LeO.bind ?_ (fun _ => ?_)
set_option maxHeartbeats 8000000 in
set_option maxRecDepth 100000 in
theorem spec_PutName.calls (k : Nat) (A0 : Option Addr) (c0 : Nat) (l0 : List Int) (a1 : ByteArray) (r : List Int) (w : World) (hr0 : Kd.C (Kd.int .u8) w A0 l0.length l0) (hc0 : l0.length ≤ c0) (h : spec_PutName.f k l0 a1 = some r) :
  Calls Tryd.prog 65 #[.slice A0 l0.length c0, .string a1] w fun e w' => ∃ v0_ : Value, e = .returned (v0_) ∧ Kd.R (Kd.int .u8) 5 w' w.heap.size (fun _ => True) v0_ r ∧ Below w.heap.size w w' := by
 have HR0 := aS hr0
 have HC0 := aS hc0
 clear hr0 hc0
 have HB := aS (Below.refl w.heap.size w)
 have H : ((some (([] : List Int) : List Int)).bind fun y173 => (if y173.length + l0.length < 140737488355328 then ((some (y173 ++ l0 : List Int)).bind fun y176 => ((spec_NameOk.f k a1).bind fun t179 => (if t179 = true then ((spec_Above.f k a1).bind fun t180 => ((spec_Labels.f k a1).bind fun t183 => (spec_PutName.l0 k l0 y176 t180 t183 0))) else (some y176)))) else (none))) = some r := h
 clear h
 obtain ⟨y173, hy_⟩ : ∃ y_ : List Int, y_ = (([] : List Int)) := ⟨_, rfl⟩
 replace H : (if y173.length + l0.length < 140737488355328 then ((some (y173 ++ l0 : List Int)).bind fun y176 => ((spec_NameOk.f k a1).bind fun t179 => (if t179 = true then ((spec_Above.f k a1).bind fun t180 => ((spec_Labels.f k a1).bind fun t183 => (spec_PutName.l0 k l0 y176 t180 t183 0))) else (some y176)))) else (none)) = some r := jD
 have Ny173 := aS hy_
 clear hy_
 by_cases c3 : y173.length + l0.length < 140737488355328
 ·rw [if_pos c3] at H
  have LMc3 := aS c3
  clear c3
  obtain ⟨y176, hy_⟩ : ∃ y_ : List Int, y_ = (y173 ++ l0) := ⟨_, rfl⟩
  replace H : ((spec_NameOk.f k a1).bind fun t179 => (if t179 = true then ((spec_Above.f k a1).bind fun t180 => ((spec_Labels.f k a1).bind fun t183 => (spec_PutName.l0 k l0 y176 t180 t183 0))) else (some y176))) = some r := jD
  have Ny176 := aS hy_
  clear hy_
  replace H := Option.bind_eq_some_iff.mp H
  obtain ⟨t179, A4, H⟩ := H
  try dsimp only at H
  replace A4 := aS A4
  have HC5 := aS H
  clear H
  go_enter Tryd.func65, Tryd.ntmps65
  go_upto_if 15 with (first | ((with_reducible refine gate_dst (N := 10) rfl ?_); refine Kd.R_lit (Kd.int .u8) _ 5 ?hg (N := 10) ?hd (xs := ([] : List Int)) (inner := []) (ok := fun _ => True) (okp := fun _ => True) ?hr ?hp (fun _ hk => hk) trivial (Below.refl _ _) (Nat.le_refl _) (by simp) ?_; (case hd => rfl); (case hg => rfl); (case hr => first | (go_simp; done) | (go_simp; rfl)); (case hp => exact (Reps.none _ _)); intro v174 w6 ho7 hb hg_ hnew_; clear hg_ hnew_; (first | rw [← Ny173.out] at ho7 | (simp only [Int.reduceToNat] at ho7; rw [← Ny173.out] at ho7)); have n0_ := aS (Kd.R_lower ho7 (below_size (wU HB.out))); have n1_ := aS (below_step (wU HB.out) hb); clear HB; revert n0_ n1_; intro HO175 HB; clear hb ho7) | ((with_reducible refine gate_builtin (b := .append) (xs := #[.tmp 10, .tmp 11]) rfl ?_); at_builtin; refine Kd.R_append_rows (Kd.int .u8) (w0 := w) w.heap.size rfl (.tmp 10) (.tmp 11) 22 5 (.int .u8 0) 1 rfl Tryd.underlying22 info5 rfl (by decide) (by omega) v174 y173 l0 _ _ _ (fun _ => True) (fun _ => False) rfl rfl ?aO ?aR (fun _ _ h => h) (fun _ h => h.elim) ?aF ?aB ?aS ?aL ?_; (case aR => exact cU ((Kd.C_below HR0.out HB.out))); (case aB => exact (wU HB.out)); (case aF => exact (fun _ _ => trivial)); (case aO => exact (rU HO175.out)); (case aS => exact (below_size (wU HB.out))); (case aL => have := LMc3.out; omega); intro v177 w8 ho hb hg hat; rw [← Ny176.out] at ho; have n0_ := aS (hb); have n1_ := aS (ho); clear HB HO175; revert n0_ n1_; intro HB HO178; clear ho hb hg hat) | ((with_reducible refine gate_callee (f := 110) rfl ?_); refine goesL_ (some 14) rfl rfl Tryd.func110 jK rfl #[.string a1] rfl jA ?_; (with_reducible refine (spec_NameOk.calls k a1 t179 _ A4.out).mono ?_); rintro e w9 ⟨rfl, hb⟩; refine ⟨_, rfl, ?_⟩; have n0_ := aS (Kd.R_below (rU HO178.out) hb); have n1_ := aS (below_step (wU HB.out) hb); clear HO178 HB; revert n0_ n1_; intro HO178 HB; clear hb))
  (try simp only [Act.put, List.setIfInBounds_toArray, List.set_cons_zero, List.set_cons_succ])
  have H := HC5.out
  clear HC5
  by_cases c10 : t179 = true
  ·subst c10
   have H1 : ((spec_Above.f k a1).bind fun t180 => ((spec_Labels.f k a1).bind fun t183 => (spec_PutName.l0 k l0 y176 t180 t183 0))) = some r := by rw [if_pos rfl] at H; exact H
   clear H
   have H := H1
   clear H1
   replace H := Option.bind_eq_some_iff.mp H
   obtain ⟨t180, A11, H⟩ := H
   try dsimp only at H
   replace A11 := aS A11
   replace H := Option.bind_eq_some_iff.mp H
   obtain ⟨t183, A12, H⟩ := H
   try dsimp only at H
   replace A12 := aS A12
   have H' := aS H
   clear H
   go_wp2_with (first | ((with_reducible refine gate_callee (f := 120) rfl ?_); refine goesL_ (some 18) rfl rfl Tryd.func120 jK rfl #[.string a1] rfl jA ?_; (with_reducible refine (spec_Above.calls k a1 t180 _ A11.out).mono ?_); rintro e w13 ⟨v181, rfl, ho0, hb⟩; refine ⟨_, rfl, ?_⟩; have n0_ := aS (Kd.R_below (rU HO178.out) hb); have n1_ := aS (Kd.R_lower ho0 (below_size (wU HB.out))); have n2_ := aS (below_step (wU HB.out) hb); clear HO178 HB; revert n0_ n1_ n2_; intro HO178 HO182 HB; clear hb; (try clear ho0)) | ((with_reducible refine gate_callee (f := 121) rfl ?_); refine goesL_ (some 20) rfl rfl Tryd.func121 jK rfl #[.string a1] rfl jA ?_; (with_reducible refine (spec_Labels.calls k a1 t183 _ A12.out).mono ?_); rintro e w14 ⟨v184, rfl, ho0, hb⟩; refine ⟨_, rfl, ?_⟩; have n0_ := aS (Kd.R_below (rU HO178.out) hb); have n1_ := aS (Kd.R_elder' (rU HO182.out) (Kd.R_base ho0) hb); have n2_ := aS (Kd.R_lower (Kd.R_new' ho0 (Kd.R_lt (rU HO182.out))) (below_size (wU HB.out))); have n3_ := aS (below_step (wU HB.out) hb); clear HO178 HO182 HB; revert n0_ n1_ n2_ n3_; intro HO178 HO182 HO185 HB; clear hb; (try clear ho0)))
   go_loopg [5, 8] k (fun kq v5 v8 w' => ∃ (x5_1 : List Int) (x8_1 : Int), v8 = .int .i64 x8_1 ∧ Aside0 (spec_PutName.l0 kq l0 x5_1 t180 t183 x8_1 = some r) ∧ Aside0 (kq ≤ k) ∧ Aside0 (Kd.R (Kd.int .u8) 5 w' w.heap.size (fun _ => True) v5 x5_1) ∧ Aside0 (Kd.R Kd.string 9 w' w.heap.size (fun k_ => some k_ ≠ (v184 : Value).ownBlock) v181 t180) ∧ Aside0 (Kd.R Kd.string 9 w' w.heap.size (fun k_ => some k_ ≠ (v181 : Value).ownBlock) v184 t183) ∧ Aside0 (Below w.heap.size w w'))
   case atStart => exact ⟨(y176), (0), jB, H', ⟨Nat.le_refl _⟩, ⟨by (with_reducible repeat (first | apply Kd.R_alloc | apply Kd.R_drewN | apply Kd.R_drew)); exact HO178.out⟩, ⟨by (with_reducible repeat (first | apply Kd.R_alloc | apply Kd.R_drewN | apply Kd.R_drew)); exact Kd.R_mono HO182.out (fun _ hk => hk.2)⟩, ⟨by (with_reducible repeat (first | apply Kd.R_alloc | apply Kd.R_drewN | apply Kd.R_drew)); exact Kd.R_mono HO185.out (fun _ hk => hk.2)⟩, ⟨by repeat (first | (with_reducible first | exact HB.out | apply below_alloc | apply pw_below_drewN | apply below_drew1) | exact HB.out)⟩⟩
   case round =>
    clear H'
    try clear c1
    try clear p2
    try clear c3
    try clear c6
    try clear c10
    try clear c11
    try clear c12
    obtain ⟨x5_1, x8_1, rfl, HA, HK1, HO_5, HO_6, HO_7, HB⟩ := hrel
    cases gk with
    | zero => exact absurd HA.out (by simp [spec_PutName.l0])
    | succ k1 =>
     have H := HA.out
     clear HA
     simp only [spec_PutName.l0] at H
     by_cases c15 : x8_1 < (t183.length : Int)
     ·rw [if_pos c15] at H
      have c15b0 : decide (x8_1 < (t183.length : Int)) = true := decide_eq_true c15
      clear c15
      (first | rw [c15b0] | (simp only [i64_w, i32_w]; rw [c15b0]) | skip)
      by_cases c16 : 0 ≤ x8_1
      ·rw [if_pos c16] at H
       have c16b0 : decide (0 ≤ x8_1) = true := decide_eq_true c16
       clear c16
       by_cases c17 : x8_1 < (t180.length : Int)
       ·rw [if_pos c17] at H
        have c17b0 : decide (x8_1 < (t180.length : Int)) = true := decide_eq_true c17
        clear c17
        replace H := Option.bind_eq_some_iff.mp H
        obtain ⟨t190, A18, H⟩ := H
        try dsimp only at H
        replace A18 := aS A18
        by_cases c19 : t190 ≥ 0
        ·rw [if_pos c19] at H
         have c19b0 : decide (0 ≤ t190) = true := decide_eq_true c19
         clear c19
         obtain ⟨y191, hy_⟩ : ∃ y_ : List Int, y_ = (([(wrap64 (192 + (wrap64 (Int.tdiv t190 256)))) % 256, (Int.tmod t190 256) % 256] : List Int)) := ⟨_, rfl⟩
         replace H : (if x5_1.length + y191.length < 140737488355328 then (some (x5_1 ++ y191)) else (none)) = some r := jD
         have Ny191 := aS hy_
         clear hy_
         by_cases c20 : x5_1.length + y191.length < 140737488355328
         ·rw [if_pos c20] at H
          have LMc20 := aS c20
          clear c20
          obtain ⟨y194, hy_⟩ : ∃ y_ : List Int, y_ = (x5_1 ++ y191) := ⟨_, rfl⟩
          replace H : (some y194) = some r := jD
          have Ny194 := aS hy_
          clear hy_
          obtain rfl := Option.some.inj H
          obtain ⟨Ao21, co21, eo21⟩ := Kd.R_slice HO_7.out
          subst eo21
          obtain ⟨Ao22, co22, eo22⟩ := Kd.R_slice HO_6.out
          subst eo22
          have p189 : 0 ≤ (x8_1 : Int) := of_decide_eq_true jC
          have q189 : x8_1 < (t180.length : Int) := of_decide_eq_true jC
          obtain ⟨ad189, e189, hx189_0⟩ := Kd.at_string (Kd.R_reads' HO_6.out).2.2 x8_1 p189 q189
          cases e189
          replace p189 := eq_true p189
          replace q189 := eq_true q189
          go_wp2_with (first | ((with_reducible refine gate_callee (f := 122) rfl ?_); refine goesL_ (some 32) rfl rfl Tryd.func122 jK rfl #[.slice A0 l0.length c0, .string (rdOf ByteArray.empty t180 x8_1)] rfl jA ?_; (with_reducible refine (spec_PlaceOf.calls k1 _ _ l0 (rdOf ByteArray.empty t180 x8_1) t190 _ ?side1 ?side2 A18.out).mono ?_); (case side1 => exact cU ((Kd.C_below HR0.out HB.out))); (case side2 => exact HC0.out); rintro e w23 ⟨rfl, hb⟩; refine ⟨_, rfl, ?_⟩; have n0_ := aS (Kd.R_below (rU HO_5.out) hb); have n1_ := aS (Kd.R_below (rU HO_6.out) hb); have n2_ := aS (Kd.R_below (rU HO_7.out) hb); have n3_ := aS (below_step (wU HB.out) hb); clear HO_5 HO_6 HO_7 HB; revert n0_ n1_ n2_ n3_; intro HO_5 HO_6 HO_7 HB; clear hb) | ((with_reducible refine gate_dst (N := 43) rfl ?_); refine Kd.R_lit (Kd.int .u8) _ 5 ?hg (N := 43) ?hd (xs := ([(wrap64 (192 + (wrap64 (Int.tdiv t190 256)))) % 256, (Int.tmod t190 256) % 256] : List Int)) (inner := [.int .u8 ((wrap64 (192 + (wrap64 (Int.tdiv t190 256)))) % 256), .int .u8 ((Int.tmod t190 256) % 256)]) (ok := fun _ => True) (okp := fun _ => True) ?hr ?hp (fun _ hk => hk) trivial (Below.refl _ _) (Nat.le_refl _) (by simp) ?_; (case hd => rfl); (case hg => rfl); (case hr => first | (go_simp; done) | (go_simp; rfl)); (case hp => exact (Reps.one (show Kd.M (Kd.int .u8) _ _ _ ((wrap64 (192 + (wrap64 (Int.tdiv t190 256)))) % 256) [.int .u8 ((wrap64 (192 + (wrap64 (Int.tdiv t190 256)))) % 256)] from rfl) (Reps.one (show Kd.M (Kd.int .u8) _ _ _ ((Int.tmod t190 256) % 256) [.int .u8 ((Int.tmod t190 256) % 256)] from rfl) (Reps.none _ _)))); intro v192 w24 ho25 hb hg_ hnew_; clear hg_ hnew_; (first | rw [← Ny191.out] at ho25 | (simp only [Int.reduceToNat] at ho25; rw [← Ny191.out] at ho25)); have n0_ := aS (Kd.R_elder' (rU HO_5.out) (Kd.R_base ho25) hb); have n1_ := aS (Kd.R_below (rU HO_6.out) hb); have n2_ := aS (Kd.R_below (rU HO_7.out) hb); have n3_ := aS (Kd.R_lower (Kd.R_new' ho25 (Kd.R_lt (rU HO_5.out))) (below_size (wU HB.out))); have n4_ := aS (below_step (wU HB.out) hb); clear HO_5 HO_6 HO_7 HB; revert n0_ n1_ n2_ n3_ n4_; intro HO_5 HO_6 HO_7 HO193 HB; clear hb ho25; obtain ⟨Ao27, co27, eo27⟩ := Kd.R_slice HO193.out; subst eo27) | ((with_reducible refine gate_builtin (b := .append) (xs := #[.tmp 35, .tmp 43]) rfl ?_); at_builtin; refine Kd.R_append_rows (Kd.int .u8) (w0 := w) w.heap.size rfl (.tmp 35) (.tmp 43) 22 5 (.int .u8 0) 1 rfl Tryd.underlying22 info5 rfl (by decide) (by omega) u5 x5_1 y191 _ _ _ (fun k_ => some k_ ≠ (.slice Ao27 y191.length co27 : Value).ownBlock) (fun _ => False) rfl rfl ?aO ?aR (fun _ _ h => h) (fun _ h => h.elim) ?aF ?aB ?aS ?aL ?_; (case aR => exact cU ((Kd.R_reads' HO193.out).2.2)); (case aB => exact (wU HB.out)); (case aF => exact (fun k_ hk => Kd.fresh' (Kd.R_lt (rU HO193.out)) k_ hk)); (case aO => exact (by (with_reducible repeat (first | apply Kd.R_alloc | apply Kd.R_drewN | apply Kd.R_drew)); exact Kd.R_mono HO_5.out (fun _ hk => hk.2))); (case aS => exact (below_size (wU HB.out))); (case aL => have := LMc20.out; omega); intro v195 w26 ho hb hg hat; rw [← Ny194.out] at ho; have n0_ := aS (Kd.R_over' (rU HO_6.out) (Kd.R_typed (rU HO_5.out)) (by decide) hg); have n1_ := aS (Kd.R_over' (rU HO_7.out) (Kd.R_typed (rU HO_5.out)) (by decide) hg); have n2_ := aS (Kd.R_after (ok := (fun _ => True)) (rU HO193.out) hg hat); have n3_ := aS (hb); have n4_ := aS (ho); clear HO_6 HO_7 HO193 HB HO_5; revert n0_ n1_ n2_ n3_ n4_; intro HO_6 HO_7 HO193 HB HO196; clear ho hb hg hat))
          go_ret
          exact ⟨_, jE, Kd.R_mono (rU HO196.out) (fun _ hk => trivial), by repeat (first | (with_reducible first | exact HB.out | apply below_alloc | apply pw_below_drewN | apply below_drew1) | exact HB.out)⟩
         ·rw [if_neg c20] at H
          exact absurd H (by simp)
        ·rw [if_neg c19] at H
         have c19b0 : decide (0 ≤ t190) = false := decide_eq_false c19
         clear c19
         replace H := Option.bind_eq_some_iff.mp H
         obtain ⟨t198, A28, H⟩ := H
         try dsimp only at H
         replace A28 := aS A28
         have H' := aS H
         clear H
         obtain ⟨Ao29, co29, eo29⟩ := Kd.R_slice HO_7.out
         subst eo29
         obtain ⟨Ao30, co30, eo30⟩ := Kd.R_slice HO_6.out
         subst eo30
         have p189 : 0 ≤ (x8_1 : Int) := of_decide_eq_true jC
         have q189 : x8_1 < (t180.length : Int) := of_decide_eq_true jC
         obtain ⟨ad189, e189, hx189_0⟩ := Kd.at_string (Kd.R_reads' HO_6.out).2.2 x8_1 p189 q189
         cases e189
         replace p189 := eq_true p189
         replace q189 := eq_true q189
         go_wp2_with (first | ((with_reducible refine gate_callee (f := 122) rfl ?_); refine goesL_ (some 32) rfl rfl Tryd.func122 jK rfl #[.slice A0 l0.length c0, .string (rdOf ByteArray.empty t180 x8_1)] rfl jA ?_; (with_reducible refine (spec_PlaceOf.calls k1 _ _ l0 (rdOf ByteArray.empty t180 x8_1) t190 _ ?side1 ?side2 A18.out).mono ?_); (case side1 => exact cU ((Kd.C_below HR0.out HB.out))); (case side2 => exact HC0.out); rintro e w31 ⟨rfl, hb⟩; refine ⟨_, rfl, ?_⟩; have n0_ := aS (Kd.R_below (rU HO_5.out) hb); have n1_ := aS (Kd.R_below (rU HO_6.out) hb); have n2_ := aS (Kd.R_below (rU HO_7.out) hb); have n3_ := aS (below_step (wU HB.out) hb); clear HO_5 HO_6 HO_7 HB; revert n0_ n1_ n2_ n3_; intro HO_5 HO_6 HO_7 HB; clear hb; have p197 : 0 ≤ (x8_1 : Int) := of_decide_eq_true jC; have q197 : x8_1 < (t183.length : Int) := of_decide_eq_true jC; obtain ⟨ad197, e197, hx197_0⟩ := Kd.at_string (Kd.R_reads' HO_7.out).2.2 x8_1 p197 q197; cases e197; replace p197 := eq_true p197; replace q197 := eq_true q197; obtain ⟨Ao32, co32, eo32⟩ := Kd.R_slice HO_5.out; subst eo32) | ((with_reducible refine gate_callee (f := 123) rfl ?_); refine goesL_ (some 50) rfl rfl Tryd.func123 jK rfl #[.slice Ao32 x5_1.length co32, .string (rdOf ByteArray.empty t183 x8_1)] rfl jA ?_; (with_reducible refine (spec_PutLabel.calls k1 _ _ x5_1 (rdOf ByteArray.empty t183 x8_1) t198 _ ?side1 ?side2 A28.out).mono ?_); (case side1 => exact cU ((Kd.R_reads' HO_5.out).2.2)); (case side2 => exact (Kd.R_reads' HO_5.out).2.1); rintro e w33 ⟨v199, rfl, ho0, hb⟩; refine ⟨_, rfl, ?_⟩; have n0_ := aS (Kd.R_elder' (rU HO_5.out) (Kd.R_base ho0) hb); have n1_ := aS (Kd.R_below (rU HO_6.out) hb); have n2_ := aS (Kd.R_below (rU HO_7.out) hb); have n3_ := aS (Kd.R_lower (Kd.R_new' ho0 (Kd.R_lt (rU HO_5.out))) (below_size (wU HB.out))); have n4_ := aS (below_step (wU HB.out) hb); clear HO_5 HO_6 HO_7 HB; revert n0_ n1_ n2_ n3_ n4_; intro HO_5 HO_6 HO_7 HO200 HB; clear hb; (try clear ho0)))
         go_roundg k1
         case measure => have := HK1.out; omega
         case rel => exact ⟨(t198), (wrap64 (x8_1 + 1)), jB, H', ⟨by have := HK1.out; omega⟩, ⟨Kd.R_mono (rU HO200.out) (fun _ hk => trivial)⟩, ⟨by (with_reducible repeat (first | apply Kd.R_alloc | apply Kd.R_drewN | apply Kd.R_drew)); exact HO_6.out⟩, ⟨by (with_reducible repeat (first | apply Kd.R_alloc | apply Kd.R_drewN | apply Kd.R_drew)); exact HO_7.out⟩, ⟨by repeat (first | (with_reducible first | exact HB.out | apply below_alloc | apply pw_below_drewN | apply below_drew1) | exact HB.out)⟩⟩
       ·rw [if_neg c17] at H
        exact absurd H (by simp)
      ·rw [if_neg c16] at H
       exact absurd H (by simp)
     ·rw [if_neg c15] at H
      have c15b0 : decide (x8_1 < (t183.length : Int)) = false := decide_eq_false c15
      clear c15
      (first | rw [c15b0] | (simp only [i64_w, i32_w]; rw [c15b0]) | skip)
      by_cases c34 : x5_1.length < 140737488355328
      ·rw [if_pos c34] at H
       have LMc34 := aS c34
       clear c34
       obtain ⟨y186, hy_⟩ : ∃ y_ : List Int, y_ = (x5_1 ++ [0]) := ⟨_, rfl⟩
       replace H : (some y186) = some r := jD
       have Ny186 := aS hy_
       clear hy_
       obtain rfl := Option.some.inj H
       obtain ⟨Ao35, co35, eo35⟩ := Kd.R_slice HO_7.out
       subst eo35
       go_wp2_with (first | ((with_reducible refine gate_builtin (b := .append) (xs := #[.tmp 51, .tmp 52]) rfl ?_); at_builtin; refine Kd.R_append (Kd.int .u8) (w0 := w) w.heap.size rfl (.tmp 51) (.tmp 52) 22 5 (.int .u8 0) 1 rfl Tryd.underlying22 info5 rfl (by decide) (by omega) u5 x5_1 0 [.int .u8 0] (fun _ => True) (fun _ => False) rfl rfl ?aP (fun _ hk => hk.elim) ?aF ?aO ?aB ?aS ?aL ?_; (case aP => exact rfl); (case aB => exact (wU HB.out)); (case aF => exact (fun _ _ => trivial)); (case aO => exact (rU HO_5.out)); (case aS => exact (below_size (wU HB.out))); (case aL => have := LMc34.out; omega); intro v187 w36 ho hb hg hat; rw [← Ny186.out] at ho; have n0_ := aS (Kd.R_over' (rU HO_6.out) (Kd.R_typed (rU HO_5.out)) (by decide) hg); have n1_ := aS (Kd.R_over' (rU HO_7.out) (Kd.R_typed (rU HO_5.out)) (by decide) hg); have n2_ := aS (hb); have n3_ := aS (ho); clear HO_6 HO_7 HB HO_5; revert n0_ n1_ n2_ n3_; intro HO_6 HO_7 HB HO188; clear ho hb hg hat))
       go_ret
       exact ⟨_, jE, by (with_reducible repeat (first | apply Kd.R_alloc | apply Kd.R_drewN | apply Kd.R_drew)); exact HO188.out, by repeat (first | (with_reducible first | exact HB.out | apply below_alloc | apply pw_below_drewN | apply below_drew1) | exact HB.out)⟩
      ·rw [if_neg c34] at H
       exact absurd H (by simp)
  ·replace c10 := Bool.eq_false_iff.mpr c10
   subst c10
   have H1 : (some y176) = some r := by rw [if_neg (show ¬ (false = true) by decide)] at H; exact H
   clear H
   have H := H1
   clear H1
   obtain rfl := Option.some.inj H
   go_wp2
   go_ret
   exact ⟨_, jE, by (with_reducible repeat (first | apply Kd.R_alloc | apply Kd.R_drewN | apply Kd.R_drew)); exact HO178.out, by repeat (first | (with_reducible first | exact HB.out | apply below_alloc | apply pw_below_drewN | apply below_drew1) | exact HB.out)⟩
 ·rw [if_neg c3] at H
  exact absurd H (by simp)

/-! ### spec_l1Byte: function 129 -/
def spec_l1Byte.f (s0_0 : List Int) (s0_1 : Int) (s0_2 : Int) : Option (Int × Int × Int) := if s0_1 < (s0_0.length : Int) then (if 0 ≤ s0_1 then (some (Go.bits .and .i64 (wrap64 ((Go.bits .and .i64 (Go.bits .xor .i64 ((wrap64 ((wrap64 (s0_2 * 6364136223846793005)) + 1442695040888963407)) / 8589934592) ((wrap64 ((wrap64 (s0_2 * 6364136223846793005)) + 1442695040888963407)) / 140737488355328)) 255) + (wrap64 (rd s0_0 s0_1)))) 255, wrap64 (s0_1 + 1), wrap64 ((wrap64 (s0_2 * 6364136223846793005)) + 1442695040888963407))) else (none)) else (some (Go.bits .and .i64 (Go.bits .xor .i64 ((wrap64 ((wrap64 (s0_2 * 6364136223846793005)) + 1442695040888963407)) / 8589934592) ((wrap64 ((wrap64 (s0_2 * 6364136223846793005)) + 1442695040888963407)) / 140737488355328)) 255, s0_1, wrap64 ((wrap64 (s0_2 * 6364136223846793005)) + 1442695040888963407)))
set_option maxHeartbeats 8000000 in
set_option maxRecDepth 100000 in
theorem spec_l1Byte.calls (g : Nat) (s0_0 : List Int) (s0_1 : Int) (s0_2 : Int) (r1 : Int) (r2 : Int) (r3 : Int) (w0 w : World) (hI : IsS111 w0 w g s0_0 s0_1 s0_2) (hB : Below w0.heap.size w0 w) (h : spec_l1Byte.f s0_0 s0_1 s0_2 = some (r1, r2, r3)) :
  Calls Tryd.prog 129 #[.pointer (some ⟨g, 0, none⟩)] w fun e w' => e = .returned (.int .i64 r1) ∧ IsS111 w0 w' g s0_0 r2 r3 ∧ Below w0.heap.size w0 w' ∧ KeepBut w w' g none := by
 have HI0 := aS hI
 have HK := aS (KeepBut.refl w g none)
 have HL := aS hB.size
 clear hI
 have HW0 := aS hB.size
 have HB := aS hB
 clear hB
 have H : (if s0_1 < (s0_0.length : Int) then (if 0 ≤ s0_1 then (some (Go.bits .and .i64 (wrap64 ((Go.bits .and .i64 (Go.bits .xor .i64 ((wrap64 ((wrap64 (s0_2 * 6364136223846793005)) + 1442695040888963407)) / 8589934592) ((wrap64 ((wrap64 (s0_2 * 6364136223846793005)) + 1442695040888963407)) / 140737488355328)) 255) + (wrap64 (rd s0_0 s0_1)))) 255, wrap64 (s0_1 + 1), wrap64 ((wrap64 (s0_2 * 6364136223846793005)) + 1442695040888963407))) else (none)) else (some (Go.bits .and .i64 (Go.bits .xor .i64 ((wrap64 ((wrap64 (s0_2 * 6364136223846793005)) + 1442695040888963407)) / 8589934592) ((wrap64 ((wrap64 (s0_2 * 6364136223846793005)) + 1442695040888963407)) / 140737488355328)) 255, s0_1, wrap64 ((wrap64 (s0_2 * 6364136223846793005)) + 1442695040888963407)))) = some (r1, r2, r3) := h
 clear h
 obtain ⟨ji2, hji2⟩ : ∃ j_ : Int, (Go.bits .xor .i64 ((wrap64 ((wrap64 (s0_2 * 6364136223846793005)) + 1442695040888963407)) / 8589934592) ((wrap64 ((wrap64 (s0_2 * 6364136223846793005)) + 1442695040888963407)) / 140737488355328)) = j_ := ⟨_, rfl⟩
 replace H : (if s0_1 < (s0_0.length : Int) then (if 0 ≤ s0_1 then (some (Go.bits .and .i64 (wrap64 ((Go.bits .and .i64 (ji2) 255) + (wrap64 (rd s0_0 s0_1)))) 255, wrap64 (s0_1 + 1), wrap64 ((wrap64 (s0_2 * 6364136223846793005)) + 1442695040888963407))) else (none)) else (some (Go.bits .and .i64 (ji2) 255, s0_1, wrap64 ((wrap64 (s0_2 * 6364136223846793005)) + 1442695040888963407)))) = some (r1, r2, r3) := by first | (rw [hji2] at H; exact H) | (simp only [hji2] at H ⊢; exact H)
 obtain ⟨ji3, hji3⟩ : ∃ j_ : Int, (Go.bits .and .i64 (ji2) 255) = j_ := ⟨_, rfl⟩
 replace H : (if s0_1 < (s0_0.length : Int) then (if 0 ≤ s0_1 then (some (Go.bits .and .i64 (wrap64 ((ji3) + (wrap64 (rd s0_0 s0_1)))) 255, wrap64 (s0_1 + 1), wrap64 ((wrap64 (s0_2 * 6364136223846793005)) + 1442695040888963407))) else (none)) else (some (ji3, s0_1, wrap64 ((wrap64 (s0_2 * 6364136223846793005)) + 1442695040888963407)))) = some (r1, r2, r3) := by first | (rw [hji3] at H; exact H) | (simp only [hji3] at H ⊢; exact H)
 by_cases c4 : s0_1 < (s0_0.length : Int)
 ·rw [if_pos c4] at H
  have c4b0 : decide (s0_1 < (s0_0.length : Int)) = true := decide_eq_true c4
  clear c4
  by_cases c5 : 0 ≤ s0_1
  ·rw [if_pos c5] at H
   have c5b0 : decide (0 ≤ s0_1) = true := decide_eq_true c5
   clear c5
   obtain ⟨ji6, hji6⟩ : ∃ j_ : Int, (Go.bits .and .i64 (wrap64 ((ji3) + (wrap64 (rd s0_0 s0_1)))) 255) = j_ := ⟨_, rfl⟩
   replace H : (some (ji6, wrap64 (s0_1 + 1), wrap64 ((wrap64 (s0_2 * 6364136223846793005)) + 1442695040888963407))) = some (r1, r2, r3) := by first | (rw [hji6] at H; exact H) | (simp only [hji6] at H ⊢; exact H)
   simp only [Option.some.injEq, Prod.mk.injEq] at H
   obtain ⟨rfl, rfl, rfl⟩ := H
   obtain ⟨ASz7_0, cSz7_0, HGz7, hgz7, HSz7_0⟩ := HI0.out
   have hcz7_0 := cellS111_0 HGz7
   have hcz7_1 := cellS111_1 HGz7
   have hcz7_2 := cellS111_2 HGz7
   have hfz7_1 := blk_frozen HGz7 1
   have hfz7_2 := blk_frozen HGz7 2
   clear HGz7 hgz7
   have p201 : 0 ≤ (s0_1 : Int) := of_decide_eq_true jC
   have q201 : s0_1 < (s0_0.length : Int) := of_decide_eq_true jC
   obtain ⟨ad201, e201, hx201_0⟩ := Kd.at_int HSz7_0 s0_1 p201 q201
   cases e201
   have hn201_0 : ad201.block ≠ g := Nat.ne_of_lt (Nat.lt_of_lt_of_le (by have := World.block_lt_of_cell? _ _ hx201_0; first | rwa [add_block] at this | exact this) (IsS111.ge HI0.out))
   replace hx201_0 := pw_cell_below HB.out hx201_0
   replace hx201_0 := (cell_far (p := ⟨g, 2, none⟩) (by first | (rw [add_block]; exact hn201_0) | (show (Addr.add _ _).block ≠ _; rw [add_block]; exact hn201_0) | exact hn201_0) (.int .i64 (wrap64 ((wrap64 (s0_2 * 6364136223846793005)) + 1442695040888963407)))).trans hx201_0
   (try have hy201_0 := fun (n_ : Nat) => (show (((w.drewN n_).setCell ⟨g, 2, none⟩ (.int .i64 (wrap64 ((wrap64 (s0_2 * 6364136223846793005)) + 1442695040888963407))))).cell? _ = some _ from hx201_0))
   clear hn201_0
   replace p201 := eq_true p201
   replace q201 := eq_true q201
   go_enter Tryd.func129, Tryd.ntmps129
   go_wp2
   repeat (go_quiet (fail); try go_wp2)
   go_ret
   exact ⟨by first | rfl | (simp [errW_none, errW_some] <;> rfl) | (simp only [← hji2, ← hji3, ← hji6]; first | rfl | (simp [errW_none, errW_some] <;> rfl)) | (simp [*, errW_none, errW_some] <;> rfl), by repeat (first | (with_reducible first | exact HI0.out | apply IsS111.alloc | apply IsS111.drewN | apply IsS111.drew | apply IsS111.set_1 | apply IsS111.set_2) | exact HI0.out), by exact wS1 HB.out (IsS111.ge HI0.out), by exact kS0 HK.out⟩
  ·rw [if_neg c5] at H
   exact absurd H (by simp)
 ·rw [if_neg c4] at H
  have c4b0 : decide (s0_1 < (s0_0.length : Int)) = false := decide_eq_false c4
  clear c4
  simp only [Option.some.injEq, Prod.mk.injEq] at H
  obtain ⟨rfl, rfl, rfl⟩ := H
  obtain ⟨ASz8_0, cSz8_0, HGz8, hgz8, HSz8_0⟩ := HI0.out
  have hcz8_0 := cellS111_0 HGz8
  have hcz8_1 := cellS111_1 HGz8
  have hcz8_2 := cellS111_2 HGz8
  have hfz8_1 := blk_frozen HGz8 1
  have hfz8_2 := blk_frozen HGz8 2
  clear HGz8 hgz8
  go_enter Tryd.func129, Tryd.ntmps129
  go_wp2
  repeat (go_quiet (fail); try go_wp2)
  go_ret
  exact ⟨by first | rfl | (simp [errW_none, errW_some] <;> rfl) | (simp only [← hji2, ← hji3]; first | rfl | (simp [errW_none, errW_some] <;> rfl)) | (simp [*, errW_none, errW_some] <;> rfl), by repeat (first | (with_reducible first | exact HI0.out | apply IsS111.alloc | apply IsS111.drewN | apply IsS111.drew | apply IsS111.set_1 | apply IsS111.set_2) | exact HI0.out), by exact wS1 HB.out (IsS111.ge HI0.out), by exact kS0 HK.out⟩

/-! ### spec_l1Below: function 78 -/
def spec_l1Below.f (s0_0 : List Int) (s0_1 : Int) (s0_2 : Int) (a1 : Int) : Option (Int × Int × Int) := if a1 ≤ 0 then (some (0, s0_1, s0_2)) else (if a1 ≤ 256 then ((spec_l1Byte.f s0_0 s0_1 s0_2).bind fun bt202 => (if a1 = 0 then (none) else (some (Int.tmod bt202.1 a1, bt202.2.1, bt202.2.2)))) else ((spec_l1Byte.f s0_0 s0_1 s0_2).bind fun bt205 => ((spec_l1Byte.f s0_0 bt205.2.1 bt205.2.2).bind fun bt208 => ((spec_l1Byte.f s0_0 bt208.2.1 bt208.2.2).bind fun bt211 => (if a1 = 0 then (none) else (some (Int.tmod (wrap64 ((wrap64 ((wrap64 (bt205.1 * 65536)) + (wrap64 (bt208.1 * 256)))) + bt211.1)) a1, bt211.2.1, bt211.2.2)))))))
set_option maxHeartbeats 8000000 in
set_option maxRecDepth 100000 in
theorem spec_l1Below.calls (g : Nat) (s0_0 : List Int) (s0_1 : Int) (s0_2 : Int) (a1 : Int) (r1 : Int) (r2 : Int) (r3 : Int) (w0 w : World) (hI : IsS111 w0 w g s0_0 s0_1 s0_2) (hB : Below w0.heap.size w0 w) (h : spec_l1Below.f s0_0 s0_1 s0_2 a1 = some (r1, r2, r3)) :
  Calls Tryd.prog 78 #[.pointer (some ⟨g, 0, none⟩), .int .i64 a1] w fun e w' => e = .returned (.int .i64 r1) ∧ IsS111 w0 w' g s0_0 r2 r3 ∧ Below w0.heap.size w0 w' ∧ KeepBut w w' g none := by
 have HI0 := aS hI
 have HK := aS (KeepBut.refl w g none)
 have HL := aS hB.size
 clear hI
 have HW0 := aS hB.size
 have HB := aS hB
 clear hB
 have H : (if a1 ≤ 0 then (some (0, s0_1, s0_2)) else (if a1 ≤ 256 then ((spec_l1Byte.f s0_0 s0_1 s0_2).bind fun bt202 => (if a1 = 0 then (none) else (some (Int.tmod bt202.1 a1, bt202.2.1, bt202.2.2)))) else ((spec_l1Byte.f s0_0 s0_1 s0_2).bind fun bt205 => ((spec_l1Byte.f s0_0 bt205.2.1 bt205.2.2).bind fun bt208 => ((spec_l1Byte.f s0_0 bt208.2.1 bt208.2.2).bind fun bt211 => (if a1 = 0 then (none) else (some (Int.tmod (wrap64 ((wrap64 ((wrap64 (bt205.1 * 65536)) + (wrap64 (bt208.1 * 256)))) + bt211.1)) a1, bt211.2.1, bt211.2.2)))))))) = some (r1, r2, r3) := h
 clear h
 by_cases c3 : a1 ≤ 0
 ·rw [if_pos c3] at H
  have c3b0 : decide (a1 ≤ 0) = true := decide_eq_true c3
  clear c3
  simp only [Option.some.injEq, Prod.mk.injEq] at H
  obtain ⟨rfl, rfl, rfl⟩ := H
  go_enter Tryd.func78, Tryd.ntmps78
  go_wp2
  go_ret
  exact ⟨jE, by exact IsS111.iS0 HI0.out, by exact wS1 HB.out (IsS111.ge HI0.out), by exact kS0 HK.out⟩
 ·rw [if_neg c3] at H
  have c3b0 : decide (a1 ≤ 0) = false := decide_eq_false c3
  clear c3
  by_cases c4 : a1 ≤ 256
  ·rw [if_pos c4] at H
   have c4b0 : decide (a1 ≤ 256) = true := decide_eq_true c4
   clear c4
   replace H := Option.bind_eq_some_iff.mp H
   obtain ⟨⟨t202, t203, t204⟩, A5, H⟩ := H
   try dsimp only at H
   replace A5 := aS A5
   by_cases c6 : a1 = 0
   ·rw [if_pos c6] at H
    exact absurd H (by simp)
   ·rw [if_neg c6] at H
    have c6b0 : (a1 == 0) = false := beq_eq_false_iff_ne.mpr c6
    have c6b1 : (a1 != 0) = true := bne_iff_ne.mpr c6
    simp only [Option.some.injEq, Prod.mk.injEq] at H
    obtain ⟨rfl, rfl, rfl⟩ := H
    go_enter Tryd.func78, Tryd.ntmps78
    go_wp2_with (first | ((with_reducible refine gate_callee (f := 129) rfl ?_); refine goesL_ (some 13) rfl rfl Tryd.func129 jK rfl #[.pointer (some ⟨g, 0, none⟩)] rfl jA ?_; (with_reducible refine (spec_l1Byte.calls g s0_0 s0_1 s0_2 t202 t203 t204 w0 _ ?side1 ?side2 A5.out).mono ?_); (case side1 => exact IsS111.iS0 HI0.out); (case side2 => exact wS1 HB.out (IsS111.ge HI0.out)); rintro e w7 ⟨rfl, hi, hb, hk⟩; refine ⟨_, rfl, ?_⟩; have n0_ := aS (KeepBut.trans (kS0 HK.out) hk (.inl rfl)); have n1_ := aS (hb); have n2_ := aS (hi); clear HK HB HI0; revert n0_ n1_ n2_; intro HK HB HI0; clear hi hb hk))
    go_ret
    exact ⟨jE, by exact IsS111.iS0 HI0.out, by exact wS1 HB.out (IsS111.ge HI0.out), by exact kS0 HK.out⟩
  ·rw [if_neg c4] at H
   have c4b0 : decide (a1 ≤ 256) = false := decide_eq_false c4
   clear c4
   replace H := Option.bind_eq_some_iff.mp H
   obtain ⟨⟨t205, t206, t207⟩, A8, H⟩ := H
   try dsimp only at H
   replace A8 := aS A8
   replace H := Option.bind_eq_some_iff.mp H
   obtain ⟨⟨t208, t209, t210⟩, A9, H⟩ := H
   try dsimp only at H
   replace A9 := aS A9
   replace H := Option.bind_eq_some_iff.mp H
   obtain ⟨⟨t211, t212, t213⟩, A10, H⟩ := H
   try dsimp only at H
   replace A10 := aS A10
   by_cases c11 : a1 = 0
   ·rw [if_pos c11] at H
    exact absurd H (by simp)
   ·rw [if_neg c11] at H
    have c11b0 : (a1 == 0) = false := beq_eq_false_iff_ne.mpr c11
    have c11b1 : (a1 != 0) = true := bne_iff_ne.mpr c11
    simp only [Option.some.injEq, Prod.mk.injEq] at H
    obtain ⟨rfl, rfl, rfl⟩ := H
    go_enter Tryd.func78, Tryd.ntmps78
    go_wp2_with (first | ((with_reducible refine gate_callee (f := 129) rfl ?_); refine goesL_ (some 17) rfl rfl Tryd.func129 jK rfl #[.pointer (some ⟨g, 0, none⟩)] rfl jA ?_; (with_reducible refine (spec_l1Byte.calls g s0_0 s0_1 s0_2 t205 t206 t207 w0 _ ?side1 ?side2 A8.out).mono ?_); (case side1 => exact IsS111.iS0 HI0.out); (case side2 => exact wS1 HB.out (IsS111.ge HI0.out)); rintro e w12 ⟨rfl, hi, hb, hk⟩; refine ⟨_, rfl, ?_⟩; have n0_ := aS (KeepBut.trans (kS0 HK.out) hk (.inl rfl)); have n1_ := aS (hb); have n2_ := aS (hi); clear HK HB HI0; revert n0_ n1_ n2_; intro HK HB HI0; clear hi hb hk) | ((with_reducible refine gate_callee (f := 129) rfl ?_); refine goesL_ (some 19) rfl rfl Tryd.func129 jK rfl #[.pointer (some ⟨g, 0, none⟩)] rfl jA ?_; (with_reducible refine (spec_l1Byte.calls g s0_0 t206 t207 t208 t209 t210 w0 _ ?side1 ?side2 A9.out).mono ?_); (case side1 => exact IsS111.iS0 HI0.out); (case side2 => exact wS1 HB.out (IsS111.ge HI0.out)); rintro e w13 ⟨rfl, hi, hb, hk⟩; refine ⟨_, rfl, ?_⟩; have n0_ := aS (KeepBut.trans (kS0 HK.out) hk (.inl rfl)); have n1_ := aS (hb); have n2_ := aS (hi); clear HK HB HI0; revert n0_ n1_ n2_; intro HK HB HI0; clear hi hb hk) | ((with_reducible refine gate_callee (f := 129) rfl ?_); refine goesL_ (some 21) rfl rfl Tryd.func129 jK rfl #[.pointer (some ⟨g, 0, none⟩)] rfl jA ?_; (with_reducible refine (spec_l1Byte.calls g s0_0 t209 t210 t211 t212 t213 w0 _ ?side1 ?side2 A10.out).mono ?_); (case side1 => exact IsS111.iS0 HI0.out); (case side2 => exact wS1 HB.out (IsS111.ge HI0.out)); rintro e w14 ⟨rfl, hi, hb, hk⟩; refine ⟨_, rfl, ?_⟩; have n0_ := aS (KeepBut.trans (kS0 HK.out) hk (.inl rfl)); have n1_ := aS (hb); have n2_ := aS (hi); clear HK HB HI0; revert n0_ n1_ n2_; intro HK HB HI0; clear hi hb hk))
    go_ret
    exact ⟨jE, by exact IsS111.iS0 HI0.out, by exact wS1 HB.out (IsS111.ge HI0.out), by exact kS0 HK.out⟩

/-! ### spec_l1Once: function 76 -/
def spec_l1Once.f (s0_0 : List Int) (s0_1 : Int) (s0_2 : Int) (a1 : Int) : Option (Bool × Int × Int) := (spec_l1Below.f s0_0 s0_1 s0_2 a1).bind fun bt214 => (some ((bt214.1 == 0), bt214.2.1, bt214.2.2))
set_option maxHeartbeats 8000000 in
set_option maxRecDepth 100000 in
theorem spec_l1Once.calls (g : Nat) (s0_0 : List Int) (s0_1 : Int) (s0_2 : Int) (a1 : Int) (r1 : Bool) (r2 : Int) (r3 : Int) (w0 w : World) (hI : IsS111 w0 w g s0_0 s0_1 s0_2) (hB : Below w0.heap.size w0 w) (h : spec_l1Once.f s0_0 s0_1 s0_2 a1 = some (r1, r2, r3)) :
  Calls Tryd.prog 76 #[.pointer (some ⟨g, 0, none⟩), .int .i64 a1] w fun e w' => e = .returned (.bool r1) ∧ IsS111 w0 w' g s0_0 r2 r3 ∧ Below w0.heap.size w0 w' ∧ KeepBut w w' g none := by
 have HI0 := aS hI
 have HK := aS (KeepBut.refl w g none)
 have HL := aS hB.size
 clear hI
 have HW0 := aS hB.size
 have HB := aS hB
 clear hB
 have H : ((spec_l1Below.f s0_0 s0_1 s0_2 a1).bind fun bt214 => (some ((bt214.1 == 0), bt214.2.1, bt214.2.2))) = some (r1, r2, r3) := h
 clear h
 replace H := Option.bind_eq_some_iff.mp H
 obtain ⟨⟨t214, t215, t216⟩, A3, H⟩ := H
 try dsimp only at H
 replace A3 := aS A3
 simp only [Option.some.injEq, Prod.mk.injEq] at H
 obtain ⟨rfl, rfl, rfl⟩ := H
 go_enter Tryd.func76, Tryd.ntmps76
 go_wp2_with (first | ((with_reducible refine gate_callee (f := 78) rfl ?_); refine goesL_ (some 7) rfl rfl Tryd.func78 jK rfl #[.pointer (some ⟨g, 0, none⟩), .int .i64 a1] rfl jA ?_; (with_reducible refine (spec_l1Below.calls g s0_0 s0_1 s0_2 a1 t214 t215 t216 w0 _ ?side1 ?side2 A3.out).mono ?_); (case side1 => exact IsS111.iS0 HI0.out); (case side2 => exact wS1 HB.out (IsS111.ge HI0.out)); rintro e w4 ⟨rfl, hi, hb, hk⟩; refine ⟨_, rfl, ?_⟩; have n0_ := aS (KeepBut.trans (kS0 HK.out) hk (.inl rfl)); have n1_ := aS (hb); have n2_ := aS (hi); clear HK HB HI0; revert n0_ n1_ n2_; intro HK HB HI0; clear hi hb hk))
 go_ret
 exact ⟨jE, by exact IsS111.iS0 HI0.out, by exact wS1 HB.out (IsS111.ge HI0.out), by exact kS0 HK.out⟩

/-! ### spec_l1Bytes: function 77 -/
def spec_l1Bytes.l0 : Nat → Int → List Int → Int → List Int → Int → Int → Option (List Int × Int × Int)
 | 0, _, _, _, _, _, _ => none
 | k + 1, x1, x5, x6, x1000, x1001, x1002 => if x6 < x1 then ((spec_l1Byte.f x1000 x1001 x1002).bind fun bt220 => (if x5.length < 140737488355328 then (spec_l1Bytes.l0 k x1 (x5 ++ [(bt220.1) % 256]) (wrap64 (x6 + 1)) x1000 bt220.2.1 bt220.2.2) else (none))) else (some (x5, x1001, x1002))
def spec_l1Bytes.f (k : Nat) (s0_0 : List Int) (s0_1 : Int) (s0_2 : Int) (a1 : Int) : Option (List Int × Int × Int) := spec_l1Bytes.l0 k a1 (([] : List Int)) 0 s0_0 s0_1 s0_2
theorem spec_l1Bytes.mono_l : ∀ k, (∀ y0 y1 y2 y3 y4 y5, LeO (spec_l1Bytes.l0 k y0 y1 y2 y3 y4 y5) (spec_l1Bytes.l0 (k + 1) y0 y1 y2 y3 y4 y5))
 | 0 => fun _ _ _ _ _ _ r h => by simp [spec_l1Bytes.l0] at h
 | k + 1 => by
  have ih0 := spec_l1Bytes.mono_l k
  ·intro y0 y1 y2 y3 y4 y5
   unfold spec_l1Bytes.l0
   repeat' first
   | (with_reducible first | exact ih0 _ _ _ _ _ _ | exact LeO.refl _ | exact LeO.none _ | refine LeO.ite ?_ ?_ | refine LeO.bind ?_ (fun _ => ?_))
   | exact ih0 _ _ _ _ _ _
   | exact LeO.none _
   | refine LeO.ite ?_ ?_
   | refine LeO.bind ?_ (fun _ => ?_)
theorem spec_l1Bytes.mono : ∀ a0 a1 a2 a3 k, LeO (spec_l1Bytes.f k a0 a1 a2 a3) (spec_l1Bytes.f (k + 1) a0 a1 a2 a3) := by
 intro a0 a1 a2 a3 k
 have ih0 := spec_l1Bytes.mono_l k
 unfold spec_l1Bytes.f
 repeat' first
   | (with_reducible first | exact ih0 _ _ _ _ _ _ | exact LeO.refl _ | exact LeO.none _ | refine LeO.ite ?_ ?_ | refine LeO.bind ?_ (fun _ => ?_))
   | exact ih0 _ _ _ _ _ _
   | exact LeO.none _
   | refine LeO.ite ?_ ?_
   | refine LeO.bind ?_ (fun _ => ?_)
set_option maxHeartbeats 8000000 in
set_option maxRecDepth 100000 in
theorem spec_l1Bytes.calls (k : Nat) (g : Nat) (s0_0 : List Int) (s0_1 : Int) (s0_2 : Int) (a1 : Int) (r1 : List Int) (r2 : Int) (r3 : Int) (w0 w : World) (hI : IsS111 w0 w g s0_0 s0_1 s0_2) (hB : Below w0.heap.size w0 w) (h : spec_l1Bytes.f k s0_0 s0_1 s0_2 a1 = some (r1, r2, r3)) :
  Calls Tryd.prog 77 #[.pointer (some ⟨g, 0, none⟩), .int .i64 a1] w fun e w' => ∃ v0_ : Value, e = .returned (v0_) ∧ Kd.R (Kd.int .u8) 5 w' w.heap.size (fun _ => True) v0_ r1 ∧ IsS111 w0 w' g s0_0 r2 r3 ∧ Below w0.heap.size w0 w' ∧ KeepBut w w' g none := by
 have HI0 := aS hI
 have HK := aS (KeepBut.refl w g none)
 have HL := aS hB.size
 clear hI
 have HW0 := aS hB.size
 have HB := aS hB
 clear hB
 have H : (spec_l1Bytes.l0 k a1 (([] : List Int)) 0 s0_0 s0_1 s0_2) = some (r1, r2, r3) := h
 clear h
 obtain ⟨y217, hy_⟩ : ∃ y_ : List Int, y_ = (([] : List Int)) := ⟨_, rfl⟩
 replace H : (spec_l1Bytes.l0 k a1 y217 0 s0_0 s0_1 s0_2) = some (r1, r2, r3) := jD
 have Ny217 := aS hy_
 clear hy_
 have H' := aS H
 clear H
 go_enter Tryd.func77, Tryd.ntmps77
 go_wp2_with (first | ((with_reducible refine gate_dst (N := 7) rfl ?_); refine Kd.R_lit (Kd.int .u8) _ 5 ?hg (N := 7) ?hd (xs := ([] : List Int)) (inner := []) (ok := fun _ => True) (okp := fun _ => True) ?hr ?hp (fun _ hk => hk) trivial (Below.refl _ _) (Nat.le_refl _) (by simp) ?_; (case hd => rfl); (case hg => rfl); (case hr => first | (go_simp; done) | (go_simp; rfl)); (case hp => exact (Reps.none _ _)); intro v218 w3 ho4 hb hg_ hnew_; clear hg_ hnew_; (first | rw [← Ny217.out] at ho4 | (simp only [Int.reduceToNat] at ho4; rw [← Ny217.out] at ho4)); have n0_ := aS (Kd.R_lower ho4 (keep_size (w := w) (g := g) (row := none) (kS0 HK.out))); have n1_ := aS (IsS111.below (IsS111.iS0 HI0.out) hb); have n2_ := aS (KeepBut.trans (kS0 HK.out) (KeepBut.of_below hb g none) (.inl rfl)); have n3_ := aS (below_step (by exact wS1 HB.out (IsS111.ge HI0.out)) hb); clear HI0 HK HB; revert n0_ n1_ n2_ n3_; intro HO219 HI0 HK HB; clear hb ho4))
 go_loopg [5, 6] k (fun kq v5 v6 w' => ∃ (x5_1 : List Int) (x6_1 : Int) (x1001_1 : Int) (x1002_1 : Int), v6 = .int .i64 x6_1 ∧ Aside0 (spec_l1Bytes.l0 kq a1 x5_1 x6_1 s0_0 x1001_1 x1002_1 = some (r1, r2, r3)) ∧ Aside0 (kq ≤ k) ∧ Aside0 (Kd.R (Kd.int .u8) 5 w' w.heap.size (fun _ => True) v5 x5_1) ∧ Aside0 (IsS111 w0 w' g s0_0 x1001_1 x1002_1) ∧ Aside0 (KeepBut w w' g none) ∧ Aside0 (Below w0.heap.size w0 w'))
 case atStart => exact ⟨(y217), (0), (s0_1), (s0_2), jB, H', ⟨Nat.le_refl _⟩, ⟨by (with_reducible repeat (first | apply Kd.R_alloc | apply Kd.R_drewN | apply Kd.R_drew)); exact HO219.out⟩, ⟨by exact IsS111.iS0 HI0.out⟩, ⟨by exact kS0 HK.out⟩, ⟨by exact wS1 HB.out (IsS111.ge HI0.out)⟩⟩
 case round =>
  clear H'
  try clear p2
  obtain ⟨x5_1, x6_1, x1001_1, x1002_1, rfl, HA, HK1, HO_5, HI0, HK, HB⟩ := hrel
  cases gk with
  | zero => exact absurd HA.out (by simp [spec_l1Bytes.l0])
  | succ k1 =>
   have H := HA.out
   clear HA
   simp only [spec_l1Bytes.l0] at H
   by_cases c5 : x6_1 < a1
   ·rw [if_pos c5] at H
    have c5b0 : decide (x6_1 < a1) = true := decide_eq_true c5
    clear c5
    replace H := Option.bind_eq_some_iff.mp H
    obtain ⟨⟨t220, t221, t222⟩, A6, H⟩ := H
    try dsimp only at H
    replace A6 := aS A6
    by_cases c7 : x5_1.length < 140737488355328
    ·rw [if_pos c7] at H
     have LMc7 := aS c7
     clear c7
     obtain ⟨y223, hy_⟩ : ∃ y_ : List Int, y_ = (x5_1 ++ [(t220) % 256]) := ⟨_, rfl⟩
     replace H : (spec_l1Bytes.l0 k1 a1 y223 (wrap64 (x6_1 + 1)) s0_0 t221 t222) = some (r1, r2, r3) := jD
     have Ny223 := aS hy_
     clear hy_
     have H' := aS H
     clear H
     go_wp2_with (first | ((with_reducible refine gate_callee (f := 129) rfl ?_); refine goesL_ (some 15) rfl rfl Tryd.func129 jK rfl #[.pointer (some ⟨g, 0, none⟩)] rfl jA ?_; (with_reducible refine (spec_l1Byte.calls g s0_0 x1001_1 x1002_1 t220 t221 t222 w0 _ ?side1 ?side2 A6.out).mono ?_); (case side1 => exact IsS111.iS0 HI0.out); (case side2 => exact wS1 HB.out (IsS111.ge HI0.out)); rintro e w8 ⟨rfl, hi, hb, hk⟩; refine ⟨_, rfl, ?_⟩; have n0_ := aS (Kd.R_mono (Kd.R_keep (IsS111.apart (show IsS111 w0 _ g s0_0 x1001_1 x1002_1 from by exact IsS111.iS0 HI0.out) (rU HO_5.out) (by decide)) hk (fun _ h => h.2)) (fun _ h => h.1)); have n1_ := aS (KeepBut.trans (kS0 HK.out) hk (.inl rfl)); have n2_ := aS (hb); have n3_ := aS (hi); clear HO_5 HK HB HI0; revert n0_ n1_ n2_ n3_; intro HO_5 HK HB HI0; clear hi hb hk) | ((with_reducible refine gate_builtin (b := .append) (xs := #[.tmp 13, .tmp 17]) rfl ?_); at_builtin; refine Kd.R_append (Kd.int .u8) w.heap.size rfl (.tmp 13) (.tmp 17) 22 5 (.int .u8 0) 1 rfl Tryd.underlying22 info5 rfl (by decide) (by omega) u5 x5_1 ((t220) % 256) [.int .u8 ((t220) % 256)] (fun _ => True) (fun _ => False) rfl rfl ?aP (fun _ hk => hk.elim) ?aF ?aO (Below.refl _ _) ?aS ?aL ?_; (case aP => exact rfl); (case aF => exact (fun _ _ => trivial)); (case aO => exact (rU HO_5.out)); (case aS => exact (keep_size (w := w) (g := g) (row := none) (kS0 HK.out))); (case aL => have := LMc7.out; omega); intro v224 w9 ho hb hg hat; rw [← Ny223.out] at ho; have n0_ := aS (IsS111.grown (IsS111.iS0 HI0.out) hg (IsS111.own_ne HI0.out HO_5.out (by decide))); have n1_ := aS (below_weaken (by exact wS1 HB.out (IsS111.ge HI0.out)) HL.out hb); have n2_ := aS (KeepBut.trans (kS0 HK.out) (KeepBut.of_grown hg g) (Kd.R_base2 HO_5.out)); have n3_ := aS (ho); clear HI0 HB HK HO_5; revert n0_ n1_ n2_ n3_; intro HI0 HB HK HO225; clear ho hb hg hat))
     go_roundg k1
     case measure => have := HK1.out; omega
     case rel => exact ⟨(y223), (wrap64 (x6_1 + 1)), (t221), (t222), jB, H', ⟨by have := HK1.out; omega⟩, ⟨by (with_reducible repeat (first | apply Kd.R_alloc | apply Kd.R_drewN | apply Kd.R_drew)); exact HO225.out⟩, ⟨by exact IsS111.iS0 HI0.out⟩, ⟨by exact kS0 HK.out⟩, ⟨by exact wS1 HB.out (IsS111.ge HI0.out)⟩⟩
    ·rw [if_neg c7] at H
     exact absurd H (by simp)
   ·rw [if_neg c5] at H
    have c5b0 : decide (x6_1 < a1) = false := decide_eq_false c5
    clear c5
    simp only [Option.some.injEq, Prod.mk.injEq] at H
    obtain ⟨rfl, rfl, rfl⟩ := H
    go_wp2
    go_ret
    exact ⟨_, jE, by (with_reducible repeat (first | apply Kd.R_alloc | apply Kd.R_drewN | apply Kd.R_drew)); exact HO_5.out, by exact IsS111.iS0 HI0.out, by exact wS1 HB.out (IsS111.ge HI0.out), by exact kS0 HK.out⟩

/-! ### spec_l1Int: function 81 -/
def spec_l1Int.f (s0_0 : List Int) (s0_1 : Int) (s0_2 : Int) (l1 : List Int) : Option (Int × Int × Int) := (spec_l1Below.f s0_0 s0_1 s0_2 (l1.length : Int)).bind fun bt226 => (if 0 ≤ bt226.1 then (if bt226.1 < (l1.length : Int) then (some (rd l1 bt226.1, bt226.2.1, bt226.2.2)) else (none)) else (none))
set_option maxHeartbeats 8000000 in
set_option maxRecDepth 100000 in
theorem spec_l1Int.calls (g : Nat) (s0_0 : List Int) (s0_1 : Int) (s0_2 : Int) (A1 : Option Addr) (c1 : Nat) (l1 : List Int) (r1 : Int) (r2 : Int) (r3 : Int) (w0 w : World) (hI : IsS111 w0 w g s0_0 s0_1 s0_2) (hB : Below w0.heap.size w0 w) (hr1 : Kd.C (Kd.int .i64) w A1 l1.length l1) (hc1 : l1.length ≤ c1) (hf1 : ∀ ad, A1 = some ad → 0 < l1.length → ad.block ≠ g) (h : spec_l1Int.f s0_0 s0_1 s0_2 l1 = some (r1, r2, r3)) :
  Calls Tryd.prog 81 #[.pointer (some ⟨g, 0, none⟩), .slice A1 l1.length c1] w fun e w' => e = .returned (.int .i64 r1) ∧ IsS111 w0 w' g s0_0 r2 r3 ∧ Below w0.heap.size w0 w' ∧ KeepBut w w' g none := by
 have HR1 := aS hr1
 have HC1 := aS hc1
 clear hr1 hc1
 have HI0 := aS hI
 have HK := aS (KeepBut.refl w g none)
 have HL := aS hB.size
 clear hI
 have HW0 := aS hB.size
 have HB := aS hB
 clear hB
 have H : ((spec_l1Below.f s0_0 s0_1 s0_2 (l1.length : Int)).bind fun bt226 => (if 0 ≤ bt226.1 then (if bt226.1 < (l1.length : Int) then (some (rd l1 bt226.1, bt226.2.1, bt226.2.2)) else (none)) else (none))) = some (r1, r2, r3) := h
 clear h
 replace H := Option.bind_eq_some_iff.mp H
 obtain ⟨⟨t226, t227, t228⟩, A3, H⟩ := H
 try dsimp only at H
 replace A3 := aS A3
 by_cases c4 : 0 ≤ t226
 ·rw [if_pos c4] at H
  have c4b0 : decide (0 ≤ t226) = true := decide_eq_true c4
  clear c4
  by_cases c5 : t226 < (l1.length : Int)
  ·rw [if_pos c5] at H
   have c5b0 : decide (t226 < (l1.length : Int)) = true := decide_eq_true c5
   clear c5
   simp only [Option.some.injEq, Prod.mk.injEq] at H
   obtain ⟨rfl, rfl, rfl⟩ := H
   go_enter Tryd.func81, Tryd.ntmps81
   go_wp2_with (first | ((with_reducible refine gate_callee (f := 78) rfl ?_); refine goesL_ (some 9) rfl rfl Tryd.func78 jK rfl #[.pointer (some ⟨g, 0, none⟩), .int .i64 (l1.length : Int)] rfl jA ?_; (with_reducible refine (spec_l1Below.calls g s0_0 s0_1 s0_2 (l1.length : Int) t226 t227 t228 w0 _ ?side1 ?side2 A3.out).mono ?_); (case side1 => exact IsS111.iS0 HI0.out); (case side2 => exact wS1 HB.out (IsS111.ge HI0.out)); rintro e w6 ⟨rfl, hi, hb, hk⟩; refine ⟨_, rfl, ?_⟩; have n0_ := aS (KeepBut.trans (kS0 HK.out) hk (.inl rfl)); have n1_ := aS (hb); have n2_ := aS (hi); clear HK HB HI0; revert n0_ n1_ n2_; intro HK HB HI0; clear hi hb hk; have p229 : 0 ≤ (t226 : Int) := of_decide_eq_true jC; have q229 : t226 < (l1.length : Int) := of_decide_eq_true jC; obtain ⟨ad229, e229, hx229_0⟩ := Kd.at_int HR1.out t226 p229 q229; cases e229; replace hx229_0 := keep_cell HK.out hx229_0 (by first | (rw [add_block]; exact hf1 _ rfl (by omega)) | exact hf1 _ rfl (by omega) | exact hf1 ad229 rfl (by omega)); replace p229 := eq_true p229; replace q229 := eq_true q229))
   go_ret
   exact ⟨jE, by exact IsS111.iS0 HI0.out, by exact wS1 HB.out (IsS111.ge HI0.out), by exact kS0 HK.out⟩
  ·rw [if_neg c5] at H
   exact absurd H (by simp)
 ·rw [if_neg c4] at H
  exact absurd H (by simp)

end Go.Proofs.YtdigilidomimdaaDoor.Pr
