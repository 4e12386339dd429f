-- Written for this claim by a program of this session (wip/tool/pr.py, over the kit's printer).
-- half
import Derived.Test.YtdigilidomimdaaDoorPrx0
import Derived.Test.YtdigilidomimdaaDoorPrx2
import Derived.Test.YtdigilidomimdaaDoorPrx6
namespace Go.Proofs.YtdigilidomimdaaDoor.Pr
open Go.RowKit Go.Proofs.YtdigilidomimdaaDoorW.PrintWords Go.Proofs.YtdigilidomimdaaDoorW.PrintLast Go.Proofs.YtdigilidomimdaaDoorW.PrintMore
attribute [local go_sem] max2_int min2_int max_two min_two max_three min_three max_four min_four   -- for this text's walks alone
set_option linter.unusedVariables false
set_option linter.unusedSimpArgs false

/-! ### slices_Compare_string: function 165 -/
def slices_Compare_string.l0 : Nat → List ByteArray → List ByteArray → List ByteArray → Int → Int → Option (Int)
 | 0, _, _, _, _, _ => none
 | k + 1, x0, x1, x9, x10, x11 => if x11 < x10 then (if 0 ≤ x11 then (if x11 < (x9.length : Int) then (if x11 ≥ (x1.length : Int) then (some 1) else (if x11 < (x1.length : Int) then ((cmp_Compare_string.f (rdOf ByteArray.empty x9 x11) (rdOf ByteArray.empty x1 x11)).bind fun t365 => (if t365 = 0 then (slices_Compare_string.l0 k x0 x1 x9 x10 (wrap64 (x11 + 1))) else (some t365))) else (none))) else (none)) else (none)) else (if (x0.length : Int) < (x1.length : Int) then (some (-1)) else (some 0))
def slices_Compare_string.f (k : Nat) (l0 : List ByteArray) (l1 : List ByteArray) : Option (Int) := slices_Compare_string.l0 k l0 l1 l0 (l0.length : Int) 0
theorem slices_Compare_string.mono_l : ∀ k, (∀ y0 y1 y2 y3 y4, LeO (slices_Compare_string.l0 k y0 y1 y2 y3 y4) (slices_Compare_string.l0 (k + 1) y0 y1 y2 y3 y4))
 | 0 => fun _ _ _ _ _ r h => by simp [slices_Compare_string.l0] at h
 | k + 1 => by
  have ih0 := slices_Compare_string.mono_l k
  ·intro y0 y1 y2 y3 y4
   unfold slices_Compare_string.l0
   repeat' first
   | (with_reducible first | exact ih0 _ _ _ _ _ | exact LeO.refl _ | exact LeO.none _ | refine LeO.ite ?_ ?_ | refine LeO.bind ?_ (fun _ => ?_))
   | refine LeO.ite ?_ ?_
   | refine LeO.bind ?_ (fun _ => ?_)
theorem slices_Compare_string.mono : ∀ a0 a1 k, LeO (slices_Compare_string.f k a0 a1) (slices_Compare_string.f (k + 1) a0 a1) := by
 intro a0 a1 k
 have ih0 := slices_Compare_string.mono_l k
 unfold slices_Compare_string.f
 repeat' first
   | (with_reducible first | exact ih0 _ _ _ _ _ | exact LeO.refl _ | exact LeO.none _ | refine LeO.ite ?_ ?_ | refine LeO.bind ?_ (fun _ => ?_))
   | refine LeO.ite ?_ ?_
   | refine LeO.bind ?_ (fun _ => ?_)
set_option maxHeartbeats 8000000 in
set_option maxRecDepth 100000 in
theorem slices_Compare_string.calls (k : Nat) (A0 : Option Addr) (c0 : Nat) (l0 : List ByteArray) (A1 : Option Addr) (c1 : Nat) (l1 : List ByteArray) (r : Int) (w : World) (hr0 : Kd.C Kd.string w A0 l0.length l0) (hc0 : l0.length ≤ c0) (hr1 : Kd.C Kd.string w A1 l1.length l1) (hc1 : l1.length ≤ c1) (h : slices_Compare_string.f k l0 l1 = some r) :
  Calls Tryd.prog 165 #[.slice A0 l0.length c0, .slice A1 l1.length c1] w fun e w' => e = .returned (.int .i64 r) ∧ Drawn0 w w' := by
 have HR0 := aS hr0
 have HC0 := aS hc0
 clear hr0 hc0
 have HR1 := aS hr1
 have HC1 := aS hc1
 clear hr1 hc1
 have H : (slices_Compare_string.l0 k l0 l1 l0 (l0.length : Int) 0) = some r := h
 clear h
 have H' := aS H
 clear H
 go_enter Tryd.func165, Tryd.ntmps165
 go_wp2
 go_loopg [11] k (fun kq v11 w' => ∃ (x11_1 : Int), v11 = .int .i64 x11_1 ∧ Aside0 (slices_Compare_string.l0 kq l0 l1 l0 (l0.length : Int) x11_1 = some r) ∧ Aside0 (kq ≤ k) ∧ Drawn0 w w')
 case atStart => exact ⟨(0), jB, H', ⟨Nat.le_refl _⟩, by repeat (first | exact Drawn0.refl _ | apply Drawn0.step)⟩
 case round =>
  clear H'
  try clear c1
  try clear p2
  obtain ⟨x11_1, rfl, HA, HK1, ⟨m1, rfl⟩⟩ := hrel
  cases gk with
  | zero => exact absurd HA.out (by simp [slices_Compare_string.l0])
  | succ k1 =>
   have H := HA.out
   clear HA
   simp only [slices_Compare_string.l0] at H
   by_cases c3 : x11_1 < (l0.length : Int)
   ·rw [if_pos c3] at H
    have c3b0 := decide_eq_true c3
    clear c3
    by_cases c4 : 0 ≤ x11_1
    ·rw [if_pos c4] at H
     have c4b0 := decide_eq_true c4
     clear c4
     by_cases c5 : x11_1 < (l0.length : Int)
     ·rw [if_pos c5] at H
      have c5b0 := decide_eq_true c5
      clear c5
      by_cases c6 : x11_1 ≥ (l1.length : Int)
      ·rw [if_pos c6] at H
       have c6b0 := decide_eq_true c6
       clear c6
       obtain rfl := Option.some.inj H
       have p363 : 0 ≤ (x11_1 : Int) := of_decide_eq_true jC
       have q363 : x11_1 < (l0.length : Int) := of_decide_eq_true jC
       obtain ⟨ad363, e363, hx363_0⟩ := Kd.at_string HR0.out x11_1 p363 q363
       cases e363
       replace p363 := eq_true p363
       replace q363 := eq_true q363
       go_wp2
       go_ret
       exact ⟨by first | rfl | (simp; done) | (simp [*]; done) | (simp [X.bne_nil, X.beq_nil]; done) | (simp [*, X.bne_nil, X.beq_nil]; done) | (simp [X.bne_nil, X.beq_nil]; done), by repeat (first | exact Drawn0.refl _ | apply Drawn0.step)⟩
      ·rw [if_neg c6] at H
       have c6b0 := decide_eq_false c6
       clear c6
       by_cases c7 : x11_1 < (l1.length : Int)
       ·rw [if_pos c7] at H
        have c7b0 := decide_eq_true c7
        clear c7
        obtain ⟨t365, A8, H⟩ := bM H
        try dsimp only at H
        by_cases c9 : t365 = 0
        ·rw [if_pos c9] at H
         have c9b0 := beq_iff_eq.mpr c9
         have c9b1 := bne_eq_false_iff_eq.mpr c9
         clear c9
         have H' := aS H
         clear H
         have p363 : 0 ≤ (x11_1 : Int) := of_decide_eq_true jC
         have q363 : x11_1 < (l0.length : Int) := of_decide_eq_true jC
         obtain ⟨ad363, e363, hx363_0⟩ := Kd.at_string HR0.out x11_1 p363 q363
         cases e363
         replace p363 := eq_true p363
         replace q363 := eq_true q363
         have p364 : 0 ≤ (x11_1 : Int) := of_decide_eq_true jC
         have q364 : x11_1 < (l1.length : Int) := of_decide_eq_true jC
         obtain ⟨ad364, e364, hx364_0⟩ := Kd.at_string HR1.out x11_1 p364 q364
         cases e364
         replace p364 := eq_true p364
         replace q364 := eq_true q364
         go_wp2_with (first | ((with_reducible refine gate_callee (f := 140) rfl ?_); refine gL (some 26) Tryd.func140 #[.string (rdOf ByteArray.empty l0 x11_1), .string (rdOf ByteArray.empty l1 x11_1)] ?_; (with_reducible refine (cmp_Compare_string.calls (rdOf ByteArray.empty l0 x11_1) (rdOf ByteArray.empty l1 x11_1) t365 _ A8.out).mono ?_); rintro e w' ⟨rfl, ⟨nd, rfl⟩⟩; refine ⟨_, rfl, ?_⟩))
         go_roundg k1
         case measure => have := HK1.out; omega
         case rel => exact ⟨(wrap64 (x11_1 + 1)), jB, H', ⟨by have := HK1.out; omega⟩, by repeat (first | exact Drawn0.refl _ | apply Drawn0.step)⟩
        ·rw [if_neg c9] at H
         have c9b0 := beq_eq_false_iff_ne.mpr c9
         have c9b1 := bne_iff_ne.mpr c9
         obtain rfl := Option.some.inj H
         have p363 : 0 ≤ (x11_1 : Int) := of_decide_eq_true jC
         have q363 : x11_1 < (l0.length : Int) := of_decide_eq_true jC
         obtain ⟨ad363, e363, hx363_0⟩ := Kd.at_string HR0.out x11_1 p363 q363
         cases e363
         replace p363 := eq_true p363
         replace q363 := eq_true q363
         have p364 : 0 ≤ (x11_1 : Int) := of_decide_eq_true jC
         have q364 : x11_1 < (l1.length : Int) := of_decide_eq_true jC
         obtain ⟨ad364, e364, hx364_0⟩ := Kd.at_string HR1.out x11_1 p364 q364
         cases e364
         replace p364 := eq_true p364
         replace q364 := eq_true q364
         go_wp2_with (first | ((with_reducible refine gate_callee (f := 140) rfl ?_); refine gL (some 26) Tryd.func140 #[.string (rdOf ByteArray.empty l0 x11_1), .string (rdOf ByteArray.empty l1 x11_1)] ?_; (with_reducible refine (cmp_Compare_string.calls (rdOf ByteArray.empty l0 x11_1) (rdOf ByteArray.empty l1 x11_1) t365 _ A8.out).mono ?_); rintro e w' ⟨rfl, ⟨nd, rfl⟩⟩; refine ⟨_, rfl, ?_⟩))
         go_ret
         exact ⟨by first | rfl | (simp; done) | (simp [*]; done) | (simp [X.bne_nil, X.beq_nil]; done) | (simp [*, X.bne_nil, X.beq_nil]; done) | (simp [X.bne_nil, X.beq_nil]; done), by repeat (first | exact Drawn0.refl _ | apply Drawn0.step)⟩
       ·rw [if_neg c7] at H
        exact absurd H (by simp)
     ·rw [if_neg c5] at H
      exact absurd H (by simp)
    ·rw [if_neg c4] at H
     exact absurd H (by simp)
   ·rw [if_neg c3] at H
    have c3b0 := decide_eq_false c3
    clear c3
    by_cases c10 : (l0.length : Int) < (l1.length : Int)
    ·rw [if_pos c10] at H
     have c10b0 := decide_eq_true c10
     have c10b1 : decide (l0.length < l1.length) = true := decide_eq_true (Int.ofNat_lt.mp c10)
     clear c10
     obtain rfl := Option.some.inj H
     go_wp2
     go_ret
     exact ⟨by first | rfl | (simp; done) | (simp [*]; done) | (simp [X.bne_nil, X.beq_nil]; done) | (simp [*, X.bne_nil, X.beq_nil]; done) | (simp [X.bne_nil, X.beq_nil]; done), by repeat (first | exact Drawn0.refl _ | apply Drawn0.step)⟩
    ·rw [if_neg c10] at H
     have c10b0 := decide_eq_false c10
     have c10b1 : decide (l0.length < l1.length) = false := decide_eq_false (fun h => c10 (Int.ofNat_lt.mpr h))
     clear c10
     obtain rfl := Option.some.inj H
     go_wp2
     go_ret
     exact ⟨by first | rfl | (simp; done) | (simp [*]; done) | (simp [X.bne_nil, X.beq_nil]; done) | (simp [*, X.bne_nil, X.beq_nil]; done) | (simp [X.bne_nil, X.beq_nil]; done), by repeat (first | exact Drawn0.refl _ | apply Drawn0.step)⟩

/-! ### impl_LessName: function 154 -/
def impl_LessName.f (k : Nat) (a0 : ByteArray) (a1 : ByteArray) : Option (Bool) := (impl_Labels.f a0).bind fun t366 => ((impl_Labels.f a1).bind fun t369 => ((slices_Reverse_string.f k t366).bind fun t372 => ((slices_Reverse_string.f k t369).bind fun t373 => ((slices_Compare_string.f k t372 t373).bind fun t374 => (some (decide (t374 < 0)))))))
theorem impl_LessName.mono : ∀ a0 a1 k, LeO (impl_LessName.f k a0 a1) (impl_LessName.f (k + 1) a0 a1) := by
 intro a0 a1 k
 unfold impl_LessName.f
 repeat' first
   | (with_reducible first | exact slices_Compare_string.mono _ _ _ | exact slices_Reverse_string.mono _ _ | exact LeO.refl _ | exact LeO.none _ | refine LeO.ite ?_ ?_ | refine LeO.bind ?_ (fun _ => ?_))
   | refine LeO.ite ?_ ?_
   | refine LeO.bind ?_ (fun _ => ?_)
set_option maxHeartbeats 8000000 in
set_option maxRecDepth 100000 in
theorem impl_LessName.calls (k : Nat) (a0 : ByteArray) (a1 : ByteArray) (r : Bool) (w : World) (h : impl_LessName.f k a0 a1 = some r) :
  Calls Tryd.prog 154 #[.string a0, .string a1] w fun e w' => e = .returned (.bool r) ∧ Below w.heap.size w w' := by
 have HB := aS (Below.refl w.heap.size w)
 have H : ((impl_Labels.f a0).bind fun t366 => ((impl_Labels.f a1).bind fun t369 => ((slices_Reverse_string.f k t366).bind fun t372 => ((slices_Reverse_string.f k t369).bind fun t373 => ((slices_Compare_string.f k t372 t373).bind fun t374 => (some (decide (t374 < 0)))))))) = some r := h
 clear h
 obtain ⟨t366, A3, H⟩ := bM H
 try dsimp only at H
 obtain ⟨t369, A4, H⟩ := bM H
 try dsimp only at H
 obtain ⟨t372, A5, H⟩ := bM H
 try dsimp only at H
 obtain ⟨t373, A6, H⟩ := bM H
 try dsimp only at H
 obtain ⟨t374, A7, H⟩ := bM H
 try dsimp only at H
 obtain rfl := Option.some.inj H
 go_enter Tryd.func154, Tryd.ntmps154
 go_wp2_with (first | ((with_reducible refine gate_callee (f := 115) rfl ?_); refine gL (some 8) Tryd.func115 #[.string a0] ?_; (with_reducible refine (impl_Labels.calls a0 t366 _ A3.out).mono ?_); rintro e w8 ⟨v367, rfl, ho0, hb⟩; refine ⟨_, rfl, ?_⟩; have HO368 := aS (Kd.R_lower ho0 (below_size (wU HB.out))); replace HB := aS (below_step (wU HB.out) hb); clear hb; (try clear ho0)) | ((with_reducible refine gate_callee (f := 115) rfl ?_); refine gL (some 10) Tryd.func115 #[.string a1] ?_; (with_reducible refine (impl_Labels.calls a1 t369 _ A4.out).mono ?_); rintro e w9 ⟨v370, rfl, ho0, hb⟩; refine ⟨_, rfl, ?_⟩; have HO371 := aS (Kd.R_lower (Kd.R_new' ho0 (Kd.R_lt (rU HO368.out))) (below_size (wU HB.out))); replace HO368 := aS (Kd.R_elder' (rU HO368.out) (Kd.R_base ho0) hb); replace HB := aS (below_step (wU HB.out) hb); clear hb; (try clear ho0); obtain ⟨Ao10, co10, eo10⟩ := Kd.R_slice HO368.out; subst eo10) | ((with_reducible refine gate_callee (f := 164) rfl ?_); refine gL (some 12) Tryd.func164 #[.slice Ao10 t366.length co10] ?_; (with_reducible refine (slices_Reverse_string.calls k (fun k_ => some k_ = (.slice Ao10 t366.length co10 : Value).ownBlock) (.slice Ao10 t366.length co10) t366 t372 w _ ?side1 ?side2 A5.out).mono ?_); (case side1 => exact wU HB.out); (case side2 => exact Kd.R_tight rfl HO368.out); rintro e w11 ⟨rfl, hy0, hb, hkp⟩; refine ⟨_, rfl, ?_⟩; replace HO368 := aS (Kd.R_reok rfl hy0 (fun k_ e_ => HO368.out.1 k_ e_)); replace HO371 := aS (Kd.R_mono (ok' := fun k_ => some k_ ≠ (.slice Ao10 t366.length co10 : Value).ownBlock) (Kd.R_keptB (HO371.out) hkp (fun k_ hk_ hs_ => (hk_.2) hs_)) (fun k_ hk_ => hk_.1.2)); replace HB := aS (hb); (try clear hb); (try clear hkp); (try clear hy0); obtain ⟨Ao12, co12, eo12⟩ := Kd.R_slice HO371.out; subst eo12) | ((with_reducible refine gate_callee (f := 164) rfl ?_); refine gL (some 14) Tryd.func164 #[.slice Ao12 t369.length co12] ?_; (with_reducible refine (slices_Reverse_string.calls k (fun k_ => some k_ = (.slice Ao12 t369.length co12 : Value).ownBlock) (.slice Ao12 t369.length co12) t369 t373 w _ ?side1 ?side2 A6.out).mono ?_); (case side1 => exact wU HB.out); (case side2 => exact Kd.R_tight rfl HO371.out); rintro e w13 ⟨rfl, hy0, hb, hkp⟩; refine ⟨_, rfl, ?_⟩; replace HO368 := aS (Kd.R_mono (ok' := fun k_ => some k_ ≠ (.slice Ao12 t369.length co12 : Value).ownBlock) (Kd.R_keptB (HO368.out) hkp (fun k_ hk_ hs_ => (hk_.2) hs_)) (fun k_ hk_ => hk_.1.2)); replace HO371 := aS (Kd.R_reok rfl hy0 (fun k_ e_ => HO371.out.1 k_ e_)); replace HB := aS (hb); (try clear hb); (try clear hkp); (try clear hy0)) | ((with_reducible refine gate_callee (f := 165) rfl ?_); refine goesL_ (some 17) rfl rfl Tryd.func165 jK rfl #[.slice Ao10 t372.length co10, .slice Ao12 t373.length co12] rfl (by (try simp only [List.map_toArray, List.map_cons, List.map_nil]); first | done | (rw [show t372.length = t366.length from (Kd.R_reads' HO368.out).1.symm, show t373.length = t369.length from (Kd.R_reads' HO371.out).1.symm] <;> rfl) | rfl | (simp only [List.length_drop, List.length_take]; rfl)) ?_; (with_reducible refine (slices_Compare_string.calls k _ _ t372 _ _ t373 t374 _ ?side1 ?side2 ?side3 ?side4 A7.out).mono ?_); (case side1 => exact cU ((Kd.R_reads' HO368.out).2.2)); (case side2 => rw [show t372.length = t366.length from (Kd.R_reads' HO368.out).1.symm]; exact (Kd.R_reads' HO368.out).2.1); (case side3 => exact cU ((Kd.R_reads' HO371.out).2.2)); (case side4 => rw [show t373.length = t369.length from (Kd.R_reads' HO371.out).1.symm]; exact (Kd.R_reads' HO371.out).2.1); rintro e w' ⟨rfl, ⟨nd, rfl⟩⟩; refine ⟨_, rfl, ?_⟩))
 go_ret
 exact ⟨jE, by exact wU HB.out⟩

/-! ### impl_byName: function 138 -/
def impl_byName.f (k : Nat) (a0 : ByteArray) (a1 : ByteArray) : Option (Int) := (impl_LessName.f k a0 a1).bind fun t375 => (if t375 = true then (some (-1)) else ((impl_LessName.f k a1 a0).bind fun t376 => (if t376 = true then (some 1) else (some 0))))
theorem impl_byName.mono : ∀ a0 a1 k, LeO (impl_byName.f k a0 a1) (impl_byName.f (k + 1) a0 a1) := by
 intro a0 a1 k
 unfold impl_byName.f
 repeat' first
   | (with_reducible first | exact impl_LessName.mono _ _ _ | exact LeO.refl _ | exact LeO.none _ | refine LeO.ite ?_ ?_ | refine LeO.bind ?_ (fun _ => ?_))
   | refine LeO.ite ?_ ?_
   | refine LeO.bind ?_ (fun _ => ?_)
set_option maxHeartbeats 8000000 in
set_option maxRecDepth 100000 in
theorem impl_byName.calls (k : Nat) (a0 : ByteArray) (a1 : ByteArray) (r : Int) (w : World) (h : impl_byName.f k a0 a1 = some r) :
  Calls Tryd.prog 138 #[.string a0, .string a1] w fun e w' => e = .returned (.int .i64 r) ∧ Below w.heap.size w w' := by
 have HB := aS (Below.refl w.heap.size w)
 have H : ((impl_LessName.f k a0 a1).bind fun t375 => (if t375 = true then (some (-1)) else ((impl_LessName.f k a1 a0).bind fun t376 => (if t376 = true then (some 1) else (some 0))))) = some r := h
 clear h
 obtain ⟨t375, A3, H⟩ := bM H
 try dsimp only at H
 by_cases c4 : t375 = true
 ·subst c4
  rw [if_pos rfl] at H
  obtain rfl := Option.some.inj H
  go_enter Tryd.func138, Tryd.ntmps138
  go_wp2_with (first | ((with_reducible refine gate_callee (f := 154) rfl ?_); refine gL (some 8) Tryd.func154 #[.string a0, .string a1] ?_; (with_reducible refine (impl_LessName.calls k a0 a1 true _ A3.out).mono ?_); rintro e w5 ⟨rfl, hb⟩; refine ⟨_, rfl, ?_⟩; replace HB := aS (below_step (wU HB.out) hb); clear hb))
  go_ret
  exact ⟨jE, by exact wU HB.out⟩
 ·replace c4 := Bool.eq_false_iff.mpr c4
  subst c4
  rw [if_neg Bool.false_ne_true] at H
  obtain ⟨t376, A6, H⟩ := bM H
  try dsimp only at H
  by_cases c7 : t376 = true
  ·subst c7
   rw [if_pos rfl] at H
   obtain rfl := Option.some.inj H
   go_enter Tryd.func138, Tryd.ntmps138
   go_wp2_with (first | ((with_reducible refine gate_callee (f := 154) rfl ?_); refine gL (some 8) Tryd.func154 #[.string a0, .string a1] ?_; (with_reducible refine (impl_LessName.calls k a0 a1 false _ A3.out).mono ?_); rintro e w8 ⟨rfl, hb⟩; refine ⟨_, rfl, ?_⟩; replace HB := aS (below_step (wU HB.out) hb); clear hb) | ((with_reducible refine gate_callee (f := 154) rfl ?_); refine gL (some 12) Tryd.func154 #[.string a1, .string a0] ?_; (with_reducible refine (impl_LessName.calls k a1 a0 true _ A6.out).mono ?_); rintro e w9 ⟨rfl, hb⟩; refine ⟨_, rfl, ?_⟩; replace HB := aS (below_step (wU HB.out) hb); clear hb))
   go_ret
   exact ⟨jE, by exact wU HB.out⟩
  ·replace c7 := Bool.eq_false_iff.mpr c7
   subst c7
   rw [if_neg Bool.false_ne_true] at H
   obtain rfl := Option.some.inj H
   go_enter Tryd.func138, Tryd.ntmps138
   go_wp2_with (first | ((with_reducible refine gate_callee (f := 154) rfl ?_); refine gL (some 8) Tryd.func154 #[.string a0, .string a1] ?_; (with_reducible refine (impl_LessName.calls k a0 a1 false _ A3.out).mono ?_); rintro e w10 ⟨rfl, hb⟩; refine ⟨_, rfl, ?_⟩; replace HB := aS (below_step (wU HB.out) hb); clear hb) | ((with_reducible refine gate_callee (f := 154) rfl ?_); refine gL (some 12) Tryd.func154 #[.string a1, .string a0] ?_; (with_reducible refine (impl_LessName.calls k a1 a0 false _ A6.out).mono ?_); rintro e w11 ⟨rfl, hb⟩; refine ⟨_, rfl, ?_⟩; replace HB := aS (below_step (wU HB.out) hb); clear hb))
   go_ret
   exact ⟨jE, by exact wU HB.out⟩

/-! ### cmp_isNaN_int: function 155 -/
def cmp_isNaN_int.f (a0 : Int) : Option (Bool) := some (a0 != a0)
set_option maxHeartbeats 8000000 in
set_option maxRecDepth 100000 in
theorem cmp_isNaN_int.calls (a0 : Int) (r : Bool) (w : World) (h : cmp_isNaN_int.f a0 = some r) :
  Calls Tryd.prog 155 #[.int .i64 a0] w fun e w' => e = .returned (.bool r) ∧ Drawn0 w w' := by
 have H : (some (a0 != a0)) = some r := h
 clear h
 obtain rfl := Option.some.inj H
 go_enter Tryd.func155, Tryd.ntmps155
 go_wp2
 go_ret
 exact ⟨by first | rfl | (simp; done) | (simp [*]; done) | (simp [X.bne_nil, X.beq_nil]; done) | (simp [*, X.bne_nil, X.beq_nil]; done) | (simp [X.bne_nil, X.beq_nil]; done), by repeat (first | exact Drawn0.refl _ | apply Drawn0.step)⟩

/-! ### cmp_Compare_int: function 139 -/
def cmp_Compare_int.f (a0 : Int) (a1 : Int) : Option (Int) := (cmp_isNaN_int.f a0).bind fun t377 => ((cmp_isNaN_int.f a1).bind fun t378 => (if t377 = true then (if t378 = true then (some 0) else (some (-1))) else (if t378 = true then (some 1) else (if a0 < a1 then (some (-1)) else (if a0 > a1 then (some 1) else (some 0))))))
set_option maxHeartbeats 8000000 in
set_option maxRecDepth 100000 in
theorem cmp_Compare_int.calls (a0 : Int) (a1 : Int) (r : Int) (w : World) (h : cmp_Compare_int.f a0 a1 = some r) :
  Calls Tryd.prog 139 #[.int .i64 a0, .int .i64 a1] w fun e w' => e = .returned (.int .i64 r) ∧ Drawn0 w w' := by
 have H : ((cmp_isNaN_int.f a0).bind fun t377 => ((cmp_isNaN_int.f a1).bind fun t378 => (if t377 = true then (if t378 = true then (some 0) else (some (-1))) else (if t378 = true then (some 1) else (if a0 < a1 then (some (-1)) else (if a0 > a1 then (some 1) else (some 0))))))) = some r := h
 clear h
 obtain ⟨t377, A3, H⟩ := bM H
 try dsimp only at H
 obtain ⟨t378, A4, H⟩ := bM H
 try dsimp only at H
 have HC5 := aS H
 clear H
 go_enter Tryd.func139, Tryd.ntmps139
 go_upto_if 11 with (first | ((with_reducible refine gate_callee (f := 155) rfl ?_); refine gL (some 8) Tryd.func155 #[.int .i64 a0] ?_; (with_reducible refine (cmp_isNaN_int.calls a0 t377 _ A3.out).mono ?_); rintro e w' ⟨rfl, ⟨nd, rfl⟩⟩; refine ⟨_, rfl, ?_⟩) | ((with_reducible refine gate_callee (f := 155) rfl ?_); refine gL (some 10) Tryd.func155 #[.int .i64 a1] ?_; (with_reducible refine (cmp_isNaN_int.calls a1 t378 _ A4.out).mono ?_); rintro e w' ⟨rfl, ⟨nd, rfl⟩⟩; refine ⟨_, rfl, ?_⟩))
 (try simp only [Act.put, List.setIfInBounds_toArray, List.set_cons_zero, List.set_cons_succ])
 have H := HC5.out
 clear HC5
 by_cases c6 : t377 = true
 ·subst c6
  rw [if_pos rfl] at H
  by_cases c7 : t378 = true
  ·subst c7
   rw [if_pos rfl] at H
   obtain rfl := Option.some.inj H
   go_wp2
   go_ret
   exact ⟨by first | rfl | (simp; done) | (simp [*]; done) | (simp [X.bne_nil, X.beq_nil]; done) | (simp [*, X.bne_nil, X.beq_nil]; done) | (simp [X.bne_nil, X.beq_nil]; done), by repeat (first | exact Drawn0.refl _ | apply Drawn0.step)⟩
  ·replace c7 := Bool.eq_false_iff.mpr c7
   subst c7
   rw [if_neg Bool.false_ne_true] at H
   obtain rfl := Option.some.inj H
   go_wp2
   go_ret
   exact ⟨by first | rfl | (simp; done) | (simp [*]; done) | (simp [X.bne_nil, X.beq_nil]; done) | (simp [*, X.bne_nil, X.beq_nil]; done) | (simp [X.bne_nil, X.beq_nil]; done), by repeat (first | exact Drawn0.refl _ | apply Drawn0.step)⟩
 ·replace c6 := Bool.eq_false_iff.mpr c6
  subst c6
  rw [if_neg Bool.false_ne_true] at H
  by_cases c8 : t378 = true
  ·subst c8
   rw [if_pos rfl] at H
   obtain rfl := Option.some.inj H
   go_wp2
   go_ret
   exact ⟨by first | rfl | (simp; done) | (simp [*]; done) | (simp [X.bne_nil, X.beq_nil]; done) | (simp [*, X.bne_nil, X.beq_nil]; done) | (simp [X.bne_nil, X.beq_nil]; done), by repeat (first | exact Drawn0.refl _ | apply Drawn0.step)⟩
  ·replace c8 := Bool.eq_false_iff.mpr c8
   subst c8
   rw [if_neg Bool.false_ne_true] at H
   by_cases c9 : a0 < a1
   ·rw [if_pos c9] at H
    have c9b0 := decide_eq_true c9
    clear c9
    (first | rw [c9b0] | (simp only [i64_w, i32_w]; rw [c9b0]) | skip)
    obtain rfl := Option.some.inj H
    go_wp2
    go_ret
    exact ⟨by first | rfl | (simp; done) | (simp [*]; done) | (simp [X.bne_nil, X.beq_nil]; done) | (simp [*, X.bne_nil, X.beq_nil]; done) | (simp [X.bne_nil, X.beq_nil]; done), by repeat (first | exact Drawn0.refl _ | apply Drawn0.step)⟩
   ·rw [if_neg c9] at H
    have c9b0 := decide_eq_false c9
    clear c9
    (first | rw [c9b0] | (simp only [i64_w, i32_w]; rw [c9b0]) | skip)
    by_cases c10 : a0 > a1
    ·rw [if_pos c10] at H
     have c10b0 := decide_eq_true c10
     clear c10
     obtain rfl := Option.some.inj H
     go_wp2
     go_ret
     exact ⟨by first | rfl | (simp; done) | (simp [*]; done) | (simp [X.bne_nil, X.beq_nil]; done) | (simp [*, X.bne_nil, X.beq_nil]; done) | (simp [X.bne_nil, X.beq_nil]; done), by repeat (first | exact Drawn0.refl _ | apply Drawn0.step)⟩
    ·rw [if_neg c10] at H
     have c10b0 := decide_eq_false c10
     clear c10
     obtain rfl := Option.some.inj H
     go_wp2
     go_ret
     exact ⟨by first | rfl | (simp; done) | (simp [*]; done) | (simp [X.bne_nil, X.beq_nil]; done) | (simp [*, X.bne_nil, X.beq_nil]; done) | (simp [X.bne_nil, X.beq_nil]; done), by repeat (first | exact Drawn0.refl _ | apply Drawn0.step)⟩

/-! ### impl_byRecord: function 107 -/
def impl_byRecord.f (k : Nat) (a0_0 : ByteArray) (a0_1 : Int) (a0_2 : Int) (a0_3 : Int) (a0_4 : ByteArray) (a0_5 : ByteArray) (a1_0 : ByteArray) (a1_1 : Int) (a1_2 : Int) (a1_3 : Int) (a1_4 : ByteArray) (a1_5 : ByteArray) : Option (Int) := (impl_byName.f k a0_0 a1_0).bind fun t381 => ((cmp_Compare_int.f a0_1 a1_1).bind fun t382 => ((cmp_Compare_int.f a0_3 a1_3).bind fun t383 => ((impl_byName.f k a0_4 a1_4).bind fun t384 => ((cmp_Compare_string.f a0_5 a1_5).bind fun t385 => ((cmp_Compare_int.f a0_2 a1_2).bind fun t386 => ((cmp_Or_int.f k (([t381, t382, t383, t384, t385, t386] : List Int))).bind fun t390 => (some t390)))))))
theorem impl_byRecord.mono : ∀ a0 a1 a2 a3 a4 a5 a6 a7 a8 a9 a10 a11 k, LeO (impl_byRecord.f k a0 a1 a2 a3 a4 a5 a6 a7 a8 a9 a10 a11) (impl_byRecord.f (k + 1) a0 a1 a2 a3 a4 a5 a6 a7 a8 a9 a10 a11) := by
 intro a0 a1 a2 a3 a4 a5 a6 a7 a8 a9 a10 a11 k
 unfold impl_byRecord.f
 repeat' first
   | (with_reducible first | exact cmp_Or_int.mono _ _ | exact impl_byName.mono _ _ _ | exact LeO.refl _ | exact LeO.none _ | refine LeO.ite ?_ ?_ | refine LeO.bind ?_ (fun _ => ?_))
   | refine LeO.ite ?_ ?_
   | refine LeO.bind ?_ (fun _ => ?_)
def impl_byRecord.T1 : Bool × List (List Nat × List Nat) := (true, [([], []), ([0], [0]), ([], []), ([2], [2]), ([1, 3], [1, 3]), ([], []), ([5], [5]), ([], []), ([7], [7]), ([6, 8, 4], [6, 8]), ([], []), ([10], [10]), ([], []), ([12], [12]), ([11, 13, 9], [11, 13]), ([], []), ([15], [15]), ([], []), ([17], [17]), ([16, 18, 14], [16, 18]), ([], []), ([20], [20]), ([], []), ([22], [22]), ([21, 23, 19], [21, 23]), ([], []), ([25], [25]), ([], []), ([27], [27]), ([26, 28, 24], [26, 28]), ([4, 9, 14, 19, 24, 29], [4, 9, 14, 19, 24, 29]), ([30, 29], [30]), ([31, 31, 0, 1, 2, 3, 4, 5, 6, 7, 8, 9, 10, 11, 12, 13, 14, 15, 16, 17, 18, 19, 20, 21, 22, 23, 24, 25, 26, 27, 28, 29, 30, 31], [31])])
def impl_byRecord.B1 : List Nat := [0, 1, 0, 4, 15, 0, 32, 0, 128, 511, 0, 1024, 0, 4096, 16383, 0, 32768, 0, 131072, 524287, 0, 1048576, 0, 4194304, 16777215, 0, 33554432, 0, 134217728, 536870911, 1073741823, 2147483647, 4294967295]
theorem impl_byRecord.tab1 : rtab .any (opsOf Tryd.f107 1) = impl_byRecord.T1 := by kernel_rfl
theorem impl_byRecord.bits1 : waitsOk impl_byRecord.T1.2 impl_byRecord.B1 = true := by kernel_rfl
set_option maxHeartbeats 8000000 in
set_option maxRecDepth 100000 in
theorem impl_byRecord.calls (k : Nat) (a0_0 : ByteArray) (a0_1 : Int) (a0_2 : Int) (a0_3 : Int) (a0_4 : ByteArray) (a0_5 : ByteArray) (a1_0 : ByteArray) (a1_1 : Int) (a1_2 : Int) (a1_3 : Int) (a1_4 : ByteArray) (a1_5 : ByteArray) (r : Int) (w : World) (h : impl_byRecord.f k a0_0 a0_1 a0_2 a0_3 a0_4 a0_5 a1_0 a1_1 a1_2 a1_3 a1_4 a1_5 = some r) :
  Calls Tryd.prog 107 #[.agg #[.string a0_0, .int .i64 a0_1, .int .i64 a0_2, .int .i64 a0_3, .string a0_4, .string a0_5], .agg #[.string a1_0, .int .i64 a1_1, .int .i64 a1_2, .int .i64 a1_3, .string a1_4, .string a1_5]] w fun e w' => e = .returned (.int .i64 r) ∧ Below w.heap.size w w' := by
 have hu25 := Tryd.underlying25
 have HB := aS (Below.refl w.heap.size w)
 have H : ((impl_byName.f k a0_0 a1_0).bind fun t381 => ((cmp_Compare_int.f a0_1 a1_1).bind fun t382 => ((cmp_Compare_int.f a0_3 a1_3).bind fun t383 => ((impl_byName.f k a0_4 a1_4).bind fun t384 => ((cmp_Compare_string.f a0_5 a1_5).bind fun t385 => ((cmp_Compare_int.f a0_2 a1_2).bind fun t386 => ((cmp_Or_int.f k (([t381, t382, t383, t384, t385, t386] : List Int))).bind fun t390 => (some t390)))))))) = some r := h
 clear h
 obtain ⟨t381, A3, H⟩ := bM H
 try dsimp only at H
 obtain ⟨t382, A4, H⟩ := bM H
 try dsimp only at H
 obtain ⟨t383, A5, H⟩ := bM H
 try dsimp only at H
 obtain ⟨t384, A6, H⟩ := bM H
 try dsimp only at H
 obtain ⟨t385, A7, H⟩ := bM H
 try dsimp only at H
 obtain ⟨t386, A8, H⟩ := bM H
 try dsimp only at H
 obtain ⟨y387, hy_⟩ : ∃ y_ : List Int, y_ = (([t381, t382, t383, t384, t385, t386] : List Int)) := ⟨_, rfl⟩
 replace H : ((cmp_Or_int.f k y387).bind fun t390 => (some t390)) = some r := jD
 have Ny387 := aS hy_
 clear hy_
 obtain ⟨t390, A9, H⟩ := bM H
 try dsimp only at H
 obtain rfl := Option.some.inj H
 go_enter Tryd.func107, Tryd.ntmps107
 try go_wp2_with (first | ((with_reducible refine gate_dst (N := 2) rfl ?_); refine xB 2 #[.string a0_0, .int .i64 a0_1, .int .i64 a0_2, .int .i64 a0_3, .string a0_4, .string a0_5] 25 ?_; intro gb379 hg w10 hbox hb; have BK379 := aS (hbox); have GW379 := gW hg (wU HB.out); have GE379 := gW hg (wU HB.out); replace HB := aS (below_step (wU HB.out) hb); clear hb hbox hg) | ((with_reducible refine gate_dst (N := 3) rfl ?_); refine xB 3 #[.string a1_0, .int .i64 a1_1, .int .i64 a1_2, .int .i64 a1_3, .string a1_4, .string a1_5] 25 ?_; intro gb380 hg w11 hbox hb; have BK380 := aS (hbox); have GW380 := gW hg (wS1 HB.out GE379.out); have GE380 := gW hg (wS1 HB.out GE379.out); replace HB := aS (below_step (wS1 HB.out GE379.out) hb); have NB379_380 := nB hg BK379; have NB380_379 := nS NB379_380; replace BK379 := bB BK379 hb; clear hb hbox hg))
 replace BK379 := aS (blk_drew BK379.out)
 replace BK380 := aS (blk_drew BK380.out)
 replace HB := aS (below_drew1 HB.out)
 refine start_ (n := 33) (S := fun w' => w'.cell? ⟨gb379, 0, none⟩ = some (.string a0_0) ∧ w'.cell? ⟨gb379, 1, none⟩ = some (.int .i64 a0_1) ∧ w'.cell? ⟨gb379, 2, none⟩ = some (.int .i64 a0_2) ∧ w'.cell? ⟨gb379, 3, none⟩ = some (.int .i64 a0_3) ∧ w'.cell? ⟨gb379, 4, none⟩ = some (.string a0_4) ∧ w'.cell? ⟨gb379, 5, none⟩ = some (.string a0_5) ∧ w'.cell? ⟨gb380, 0, none⟩ = some (.string a1_0) ∧ w'.cell? ⟨gb380, 1, none⟩ = some (.int .i64 a1_1) ∧ w'.cell? ⟨gb380, 2, none⟩ = some (.int .i64 a1_2) ∧ w'.cell? ⟨gb380, 3, none⟩ = some (.int .i64 a1_3) ∧ w'.cell? ⟨gb380, 4, none⟩ = some (.string a1_4) ∧ w'.cell? ⟨gb380, 5, none⟩ = some (.string a1_5)) (ds := []) #[false, false, false, false, false, false, false, false, false, false, false, false, false, false, false, false, false, false, false, false, false, false, false, false, false, false, false, false, false, false, false, false, false] jK rfl rfl (b6 BK379.out (c6 BK380.out)) (fun hHeld => ?_); refine with_tabW impl_byRecord.tab1 impl_byRecord.bits1 (fun HT_ HW_ => ?_)
 generalize w11.drew = w12 at BK379 BK380 HB hHeld ⊢
 refine pA HT_ 0 (some 5) (tf 1 32) ?_
 refine pA HT_ 2 (some 7) #[true, false, true, false, false, false, false, false, false, false, false, false, false, false, false, false, false, false, false, false, false, false, false, false, false, false, false, false, false, false, false, false, false] ?_
 refine pA HT_ 5 (some 10) #[true, false, true, false, false, true, false, false, false, false, false, false, false, false, false, false, false, false, false, false, false, false, false, false, false, false, false, false, false, false, false, false, false] ?_
 refine pA HT_ 7 (some 12) #[true, false, true, false, false, true, false, true, false, false, false, false, false, false, false, false, false, false, false, false, false, false, false, false, false, false, false, false, false, false, false, false, false] ?_
 refine pA HT_ 10 (some 15) #[true, false, true, false, false, true, false, true, false, false, true, false, false, false, false, false, false, false, false, false, false, false, false, false, false, false, false, false, false, false, false, false, false] ?_
 refine pA HT_ 12 (some 17) #[true, false, true, false, false, true, false, true, false, false, true, false, true, false, false, false, false, false, false, false, false, false, false, false, false, false, false, false, false, false, false, false, false] ?_
 refine pA HT_ 15 (some 20) #[true, false, true, false, false, true, false, true, false, false, true, false, true, false, false, true, false, false, false, false, false, false, false, false, false, false, false, false, false, false, false, false, false] ?_
 refine pA HT_ 17 (some 22) #[true, false, true, false, false, true, false, true, false, false, true, false, true, false, false, true, false, true, false, false, false, false, false, false, false, false, false, false, false, false, false, false, false] ?_
 refine pA HT_ 20 (some 25) #[true, false, true, false, false, true, false, true, false, false, true, false, true, false, false, true, false, true, false, false, true, false, false, false, false, false, false, false, false, false, false, false, false] ?_
 refine pA HT_ 22 (some 27) #[true, false, true, false, false, true, false, true, false, false, true, false, true, false, false, true, false, true, false, false, true, false, true, false, false, false, false, false, false, false, false, false, false] ?_
 refine pA HT_ 25 (some 30) #[true, false, true, false, false, true, false, true, false, false, true, false, true, false, false, true, false, true, false, false, true, false, true, false, false, true, false, false, false, false, false, false, false] ?_
 refine pA HT_ 27 (some 32) #[true, false, true, false, false, true, false, true, false, false, true, false, true, false, false, true, false, true, false, false, true, false, true, false, false, true, false, true, false, false, false, false, false] ?_
 refine tA HT_ HW_ hHeld 1 (some 6) #[true, true, true, false, false, true, false, true, false, false, true, false, true, false, false, true, false, true, false, false, true, false, true, false, false, true, false, true, false, false, false, false, false] ?_
 refine tA HT_ HW_ hHeld 3 (some 8) #[true, true, true, true, false, true, false, true, false, false, true, false, true, false, false, true, false, true, false, false, true, false, true, false, false, true, false, true, false, false, false, false, false] ?_
 refine tA HT_ HW_ hHeld 6 (some 11) #[true, true, true, true, false, true, true, true, false, false, true, false, true, false, false, true, false, true, false, false, true, false, true, false, false, true, false, true, false, false, false, false, false] ?_
 refine tA HT_ HW_ hHeld 8 (some 13) #[true, true, true, true, false, true, true, true, true, false, true, false, true, false, false, true, false, true, false, false, true, false, true, false, false, true, false, true, false, false, false, false, false] ?_
 refine tA HT_ HW_ hHeld 11 (some 16) #[true, true, true, true, false, true, true, true, true, false, true, true, true, false, false, true, false, true, false, false, true, false, true, false, false, true, false, true, false, false, false, false, false] ?_
 refine tA HT_ HW_ hHeld 13 (some 18) #[true, true, true, true, false, true, true, true, true, false, true, true, true, true, false, true, false, true, false, false, true, false, true, false, false, true, false, true, false, false, false, false, false] ?_
 refine tA HT_ HW_ hHeld 16 (some 21) #[true, true, true, true, false, true, true, true, true, false, true, true, true, true, false, true, true, true, false, false, true, false, true, false, false, true, false, true, false, false, false, false, false] ?_
 refine tA HT_ HW_ hHeld 18 (some 23) #[true, true, true, true, false, true, true, true, true, false, true, true, true, true, false, true, true, true, true, false, true, false, true, false, false, true, false, true, false, false, false, false, false] ?_
 refine tA HT_ HW_ hHeld 21 (some 26) #[true, true, true, true, false, true, true, true, true, false, true, true, true, true, false, true, true, true, true, false, true, true, true, false, false, true, false, true, false, false, false, false, false] ?_
 refine tA HT_ HW_ hHeld 23 (some 28) #[true, true, true, true, false, true, true, true, true, false, true, true, true, true, false, true, true, true, true, false, true, true, true, true, false, true, false, true, false, false, false, false, false] ?_
 refine tA HT_ HW_ hHeld 26 (some 31) #[true, true, true, true, false, true, true, true, true, false, true, true, true, true, false, true, true, true, true, false, true, true, true, true, false, true, true, true, false, false, false, false, false] ?_
 refine tA HT_ HW_ hHeld 28 (some 33) #[true, true, true, true, false, true, true, true, true, false, true, true, true, true, false, true, true, true, true, false, true, true, true, true, false, true, true, true, true, false, false, false, false] ?_
 refine one_ (i := 4) (N := some 9) #[true, true, true, true, true, true, true, true, true, false, true, true, true, true, false, true, true, true, true, false, true, true, true, true, false, true, true, true, true, false, false, false, false] rfl rfl (one_of HT_.out jK) (by decide) (fun K hK => ?_)
 refine goes_ Tryd.func138 jK rfl #[.string a0_0, .string a1_0] (by rfl) rfl rfl jA ?_
 with_reducible refine (impl_byName.calls k a0_0 a1_0 t381 _ A3.out).mono ?_
 rintro e w13 ⟨rfl, hb⟩
 refine ⟨_, rfl, ?_⟩
 replace BK379 := bB BK379 hb
 replace BK380 := bB BK380 hb
 replace HB := aS (below_step (wS2 HB.out GE379.out GE380.out) hb)
 (try clear hb)
 (try clear hb2)
 (try clear hk)
 (try clear hi)
 refine hK.out _ _ (b6 BK379.out (c6 BK380.out)) (fun hHeld => ?_)
 clear hK K
 refine nA (some 9) ?_
 refine one_ (i := 9) (N := some 14) #[true, true, true, true, true, true, true, true, true, true, true, true, true, true, false, true, true, true, true, false, true, true, true, true, false, true, true, true, true, false, false, false, false] rfl rfl (one_of HT_.out jK) (by decide) (fun K hK => ?_)
 refine goes_ Tryd.func139 jK rfl #[.int .i64 a0_1, .int .i64 a1_1] (by rfl) rfl rfl jA ?_
 with_reducible refine (cmp_Compare_int.calls a0_1 a1_1 t382 _ A4.out).mono ?_
 rintro e w' ⟨rfl, ⟨nd, rfl⟩⟩
 refine ⟨_, rfl, ?_⟩
 refine hK.out _ _ (b6 BK379.out (c6 BK380.out)) (fun hHeld => ?_)
 clear hK K
 refine nA (some 14) ?_
 refine one_ (i := 14) (N := some 19) #[true, true, true, true, true, true, true, true, true, true, true, true, true, true, true, true, true, true, true, false, true, true, true, true, false, true, true, true, true, false, false, false, false] rfl rfl (one_of HT_.out jK) (by decide) (fun K hK => ?_)
 refine goes_ Tryd.func139 jK rfl #[.int .i64 a0_3, .int .i64 a1_3] (by rfl) rfl rfl jA ?_
 with_reducible refine (cmp_Compare_int.calls a0_3 a1_3 t383 _ A5.out).mono ?_
 rintro e w' ⟨rfl, ⟨nd, rfl⟩⟩
 refine ⟨_, rfl, ?_⟩
 refine hK.out _ _ (b6 BK379.out (c6 BK380.out)) (fun hHeld => ?_)
 clear hK K
 refine nA (some 19) ?_
 refine one_ (i := 19) (N := some 24) #[true, true, true, true, true, true, true, true, true, true, true, true, true, true, true, true, true, true, true, true, true, true, true, true, false, true, true, true, true, false, false, false, false] rfl rfl (one_of HT_.out jK) (by decide) (fun K hK => ?_)
 refine goes_ Tryd.func138 jK rfl #[.string a0_4, .string a1_4] (by rfl) rfl rfl jA ?_
 with_reducible refine (impl_byName.calls k a0_4 a1_4 t384 _ A6.out).mono ?_
 rintro e w14 ⟨rfl, hb⟩
 refine ⟨_, rfl, ?_⟩
 replace BK379 := bB BK379 hb
 replace BK380 := bB BK380 hb
 replace HB := aS (below_step (wS2 HB.out GE379.out GE380.out) hb)
 (try clear hb)
 (try clear hb2)
 (try clear hk)
 (try clear hi)
 refine hK.out _ _ (b6 BK379.out (c6 BK380.out)) (fun hHeld => ?_)
 clear hK K
 refine nA (some 24) ?_
 refine one_ (i := 24) (N := some 29) (tf 29 4) rfl rfl (one_of HT_.out jK) (by decide) (fun K hK => ?_)
 refine goes_ Tryd.func140 jK rfl #[.string a0_5, .string a1_5] (by rfl) rfl rfl jA ?_
 with_reducible refine (cmp_Compare_string.calls a0_5 a1_5 t385 _ A7.out).mono ?_
 rintro e w' ⟨rfl, ⟨nd, rfl⟩⟩
 refine ⟨_, rfl, ?_⟩
 refine hK.out _ _ (b6 BK379.out (c6 BK380.out)) (fun hHeld => ?_)
 clear hK K
 refine nA (some 29) ?_
 refine one_ (i := 29) (N := some 34) (tf 30 3) rfl rfl (one_of HT_.out jK) (by decide) (fun K hK => ?_)
 refine goes_ Tryd.func139 jK rfl #[.int .i64 a0_2, .int .i64 a1_2] (by rfl) rfl rfl jA ?_
 with_reducible refine (cmp_Compare_int.calls a0_2 a1_2 t386 _ A8.out).mono ?_
 rintro e w' ⟨rfl, ⟨nd, rfl⟩⟩
 refine ⟨_, rfl, ?_⟩
 refine hK.out _ _ (b6 BK379.out (c6 BK380.out)) (fun hHeld => ?_)
 clear hK K
 refine nA (some 34) ?_
 refine one_ (i := 30) (N := some 35) (tf 31 2) rfl rfl (one_of HT_.out jK) (by decide) (fun K hK => ?_)
 refine Kd.R_lit_step (Kd.int .i64) _ 3 ?hg (N := 35) ?hd (xs := ([t381, t382, t383, t384, t385, t386] : List Int)) (inner := [.int .i64 t381, .int .i64 t382, .int .i64 t383, .int .i64 t384, .int .i64 t385, .int .i64 t386]) (ok := fun _ => True) (okp := fun _ => True) ?hr ?hp (fun _ hk => hk) trivial (Below.refl _ _) (Nat.le_refl _) (by simp) ?_; (case hd => rfl); (case hg => rfl); (case hr => first | (go_simp; done) | (go_simp; rfl)); (case hp => exact (Reps.one (show Kd.M (Kd.int .i64) _ _ _ t381 [.int .i64 t381] from rfl) (Reps.one (show Kd.M (Kd.int .i64) _ _ _ t382 [.int .i64 t382] from rfl) (Reps.one (show Kd.M (Kd.int .i64) _ _ _ t383 [.int .i64 t383] from rfl) (Reps.one (show Kd.M (Kd.int .i64) _ _ _ t384 [.int .i64 t384] from rfl) (Reps.one (show Kd.M (Kd.int .i64) _ _ _ t385 [.int .i64 t385] from rfl) (Reps.one (show Kd.M (Kd.int .i64) _ _ _ t386 [.int .i64 t386] from rfl) (Reps.none _ _))))))))
 intro v388 w15 ho16 hb hg_ hnew_
 clear hg_ hnew_
 (first | rw [← Ny387.out] at ho16 | (simp only [Int.reduceToNat] at ho16; rw [← Ny387.out] at ho16))
 have HO389 := aS (Kd.R_lower ho16 (below_size (wS2 HB.out GE379.out GE380.out)))
 replace BK379 := bB BK379 hb
 replace BK380 := bB BK380 hb
 replace HB := aS (below_step (wS2 HB.out GE379.out GE380.out) hb)
 clear hb ho16
 obtain ⟨Ao17, co17, eo17⟩ := Kd.R_slice HO389.out
 (first | subst eo17 | (injection eo17 with f1_ f2_ f3_; have f4_ := f1_.symm; have f5_ := f3_.symm; clear f1_ f2_ f3_; subst f4_; subst f5_))
 refine hK.out _ _ (b6 BK379.out (c6 BK380.out)) (fun hHeld => ?_)
 clear hK K
 refine nA (some 35) ?_
 refine one_ (i := 31) (N := some 36) (tf 32 1) rfl rfl (one_of HT_.out jK) (by decide) (fun K hK => ?_)
 refine goes_ Tryd.func137 jK rfl #[.slice Ao17 y387.length co17] (by rfl) rfl rfl jA ?_
 with_reducible refine (cmp_Or_int.calls k _ _ y387 t390 _ ?side1 ?side2 A9.out).mono ?_
 (case side1 => exact cU ((Kd.R_reads' HO389.out).2.2))
 (case side2 => exact (Kd.R_reads' HO389.out).2.1)
 rintro e w' ⟨rfl, ⟨nd, rfl⟩⟩
 refine ⟨_, rfl, ?_⟩
 refine hK.out _ _ (b6 BK379.out (c6 BK380.out)) (fun hHeld => ?_)
 clear hK K
 refine nA (some 36) ?_
 refine pA HT_ 32 (some 4) (tf 33 0) ?_
 refine done_ (done_of HT_.out jK) ?_
 try go_wp2
 go_ret
 exact ⟨jE, by exact wS2 HB.out GE379.out GE380.out⟩

end Go.Proofs.YtdigilidomimdaaDoor.Pr
