-- Written for this claim by a program of this session (wip/tool/pr.py, over the kit's printer).
import Derived.Test.YtbohkphbgkgaeaaDoorPrx0
import Derived.Test.YtbohkphbgkgaeaaDoorPrx1
import Derived.Test.YtbohkphbgkgaeaaDoorPrx6
import Derived.Test.YtbohkphbgkgaeaaDoorPrx12
import Derived.Test.YtbohkphbgkgaeaaDoorPrx13
namespace Go.Proofs.YtbohkphbgkgaeaaDoor.Pr
open Go.RowKit Go.Proofs.YtbohkphbgkgaeaaDoorW.PrintWords Go.Proofs.YtbohkphbgkgaeaaDoorW.PrintLast Go.Proofs.YtbohkphbgkgaeaaDoorW.PrintMore
attribute [local go_sem] max2_int min2_int max_two min_two max_three min_three max_four min_four   -- for this text's walks alone
set_option linter.unusedVariables false
set_option linter.unusedSimpArgs false

/-! ### laws_markRecordS: function 19 -/
def laws_markRecordS.l0 : Nat → List (S74) → Int → Int → Option (Int × (List (S74)))
  | 0, _, _, _ => none
  | k + 1, x0, x1, x5 => if x5 < (x0.length : Int) then ((laws_markText.f k x1).bind fun t553 => (if 0 ≤ x5 then ((some (x0.set (x5 : Int).toNat (⟨t553, (rd_T74 x0 x5).f1, (rd_T74 x0 x5).f2, (rd_T74 x0 x5).f3, (rd_T74 x0 x5).f4, (rd_T74 x0 x5).f5⟩ : S74) : List (S74))).bind fun y554 => ((some (y554.set (x5 : Int).toNat (⟨(rd_T74 y554 x5).f0, wrap64 (x1 + 1), (rd_T74 y554 x5).f2, (rd_T74 y554 x5).f3, (rd_T74 y554 x5).f4, (rd_T74 y554 x5).f5⟩ : S74) : List (S74))).bind fun y555 => ((some (y555.set (x5 : Int).toNat (⟨(rd_T74 y555 x5).f0, (rd_T74 y555 x5).f1, wrap64 ((wrap64 (x1 + 1)) + 1), (rd_T74 y555 x5).f3, (rd_T74 y555 x5).f4, (rd_T74 y555 x5).f5⟩ : S74) : List (S74))).bind fun y556 => ((some (y556.set (x5 : Int).toNat (⟨(rd_T74 y556 x5).f0, (rd_T74 y556 x5).f1, (rd_T74 y556 x5).f2, wrap64 ((wrap64 ((wrap64 (x1 + 1)) + 1)) + 1), (rd_T74 y556 x5).f4, (rd_T74 y556 x5).f5⟩ : S74) : List (S74))).bind fun y557 => ((laws_markText.f k (wrap64 ((wrap64 ((wrap64 ((wrap64 (x1 + 1)) + 1)) + 1)) + 1))).bind fun t558 => ((some (y557.set (x5 : Int).toNat (⟨(rd_T74 y557 x5).f0, (rd_T74 y557 x5).f1, (rd_T74 y557 x5).f2, (rd_T74 y557 x5).f3, t558, (rd_T74 y557 x5).f5⟩ : S74) : List (S74))).bind fun y559 => ((laws_markText.f k (wrap64 ((wrap64 ((wrap64 ((wrap64 ((wrap64 (x1 + 1)) + 1)) + 1)) + 1)) + 1))).bind fun t560 => (laws_markRecordS.l0 k (y559.set (x5 : Int).toNat (⟨(rd_T74 y559 x5).f0, (rd_T74 y559 x5).f1, (rd_T74 y559 x5).f2, (rd_T74 y559 x5).f3, (rd_T74 y559 x5).f4, t560⟩ : S74)) (wrap64 ((wrap64 ((wrap64 ((wrap64 ((wrap64 ((wrap64 (x1 + 1)) + 1)) + 1)) + 1)) + 1)) + 1)) (wrap64 (x5 + 1)))))))))) else (none))) else (some (x1, x0))
def laws_markRecordS.f (k : Nat) (l0 : List (S74)) (a1 : Int) : Option (Int × (List (S74))) := laws_markRecordS.l0 k l0 a1 0
theorem laws_markRecordS.mono_l : ∀ k, (∀ y0 y1 y2, LeO (laws_markRecordS.l0 k y0 y1 y2) (laws_markRecordS.l0 (k + 1) y0 y1 y2))
  | 0 => fun _ _ _ r h => by simp [laws_markRecordS.l0] at h
  | k + 1 => by
    have ih0 := laws_markRecordS.mono_l k
    · intro y0 y1 y2
      unfold laws_markRecordS.l0
      repeat' first
      | (with_reducible exact ih0 _ _ _)
      | (with_reducible exact laws_markText.mono _ _)
      | (with_reducible exact LeO.refl _)
      | (with_reducible exact LeO.none _)
      | (with_reducible refine LeO.ite ?_ ?_)
      | (with_reducible refine LeO.bind ?_ (fun _ => ?_))
      | exact ih0 _ _ _
      | exact laws_markText.mono _ _
      | exact LeO.none _
      | refine LeO.ite ?_ ?_
      | refine LeO.bind ?_ (fun _ => ?_)
theorem laws_markRecordS.mono : ∀ a0 a1 k, LeO (laws_markRecordS.f k a0 a1) (laws_markRecordS.f (k + 1) a0 a1) := by
  intro a0 a1 k
  have ih0 := laws_markRecordS.mono_l k
  unfold laws_markRecordS.f
  repeat' first
      | (with_reducible exact ih0 _ _ _)
      | (with_reducible exact laws_markText.mono _ _)
      | (with_reducible exact LeO.refl _)
      | (with_reducible exact LeO.none _)
      | (with_reducible refine LeO.ite ?_ ?_)
      | (with_reducible refine LeO.bind ?_ (fun _ => ?_))
      | exact ih0 _ _ _
      | exact laws_markText.mono _ _
      | exact LeO.none _
      | refine LeO.ite ?_ ?_
      | refine LeO.bind ?_ (fun _ => ?_)
set_option maxHeartbeats 8000000 in
set_option maxRecDepth 100000 in
theorem laws_markRecordS.calls (k : Nat) (P0_ : Nat → Prop) (u9000_ : Value) (l0 : List (S74)) (a1 : Int) (r1 : Int) (r2 : List (S74)) (w0 w : World) (hB : Below w0.heap.size w0 w) (ho0 : Kd.R k74 74 w w0.heap.size P0_ u9000_ l0) (h : laws_markRecordS.f k l0 a1 = some (r1, r2)) :
    Calls Tryd.prog 19 #[u9000_, .int .i64 a1] w fun e w' => e = .returned (.int .i64 r1) ∧ Kd.R k74 74 w' w0.heap.size (fun k_ => (P0_ k_ ∨ w.heap.size ≤ k_)) u9000_ r2 ∧ Below w0.heap.size w0 w' ∧ Kept w w' (fun k_ => P0_ k_) := by
  have HO0 := Aside0.mk (show Kd.R k74 74 w w0.heap.size (fun k_ => (P0_ k_ ∨ w.heap.size ≤ k_)) u9000_ l0 from Kd.R_mono ho0 (fun k_ hk => (.inl hk)))
  have HK := Aside0.mk (Kept.refl w (fun k_ => P0_ k_))
  have HW0 := Aside0.mk hB.size
  have HB := Aside0.mk hB
  clear hB
  have H : (laws_markRecordS.l0 k l0 a1 0) = some (r1, r2) := h
  clear h
  have H' := Aside0.mk H
  clear H
  go_enter Tryd.func19, Tryd.ntmps19
  go_wp2
  go_loopg [1, 5] k (fun kq v1 v5 w' => ∃ (x0_1 : List (S74)) (x1_1 : Int) (x5_1 : Int), v1 = .int .i64 x1_1 ∧ v5 = .int .i64 x5_1 ∧ Aside0 (laws_markRecordS.l0 kq x0_1 x1_1 x5_1 = some (r1, r2)) ∧ Aside0 (kq ≤ k) ∧ Aside0 (Kd.R k74 74 w' w0.heap.size (fun k_ => (P0_ k_ ∨ w.heap.size ≤ k_)) u9000_ x0_1) ∧ Aside0 (Kept w w' (fun k_ => P0_ k_)) ∧ Aside0 (Below w0.heap.size w0 w'))
  case atStart => exact ⟨(l0), (a1), (0), (by first | rfl | (simp; done) | (simp [*]; done) | (simp [X.bne_nil, X.beq_nil]; done) | (simp [*, X.bne_nil, X.beq_nil]; done)), (by first | rfl | (simp; done) | (simp [*]; done) | (simp [X.bne_nil, X.beq_nil]; done) | (simp [*, X.bne_nil, X.beq_nil]; done)), H', ⟨Nat.le_refl _⟩, ⟨by (with_reducible repeat (first | apply Kd.R_alloc | apply Kd.R_drewN | apply Kd.R_drew)); exact HO0.out⟩, ⟨by repeat (first | (with_reducible first | exact HK.out | apply Kept.alloc | apply Kept.drewN | apply Kept.drew) | exact HK.out)⟩, ⟨by repeat (first | (with_reducible first | exact HB.out | apply below_alloc | apply pw_below_drewN | apply below_drew1) | exact HB.out)⟩⟩
  case round =>
    clear H'
    try clear c1
    try clear p2
    obtain ⟨x0_1, x1_1, x5_1, rfl, rfl, HA, HK1, HO_0, HK, HB⟩ := hrel
    cases gk with
    | zero => exact absurd HA.out (by simp [laws_markRecordS.l0])
    | succ k1 =>
      have H := HA.out
      clear HA
      simp only [laws_markRecordS.l0] at H
      by_cases c3 : x5_1 < (x0_1.length : Int)
      · rw [if_pos c3] at H
        have c3b0 : decide (x5_1 < (x0_1.length : Int)) = true := decide_eq_true c3
        clear c3
        replace H := Option.bind_eq_some_iff.mp H
        obtain ⟨t553, A40, H⟩ := H
        try dsimp only at H
        have A4 := Aside0.mk A40
        clear A40
        by_cases c5 : 0 ≤ x5_1
        · rw [if_pos c5] at H
          have c5b0 : decide (0 ≤ x5_1) = true := decide_eq_true c5
          clear c5
          obtain ⟨y554, hy554⟩ : ∃ y_ : List (S74), y_ = (x0_1.set (x5_1 : Int).toNat (⟨t553, (rd_T74 x0_1 x5_1).f1, (rd_T74 x0_1 x5_1).f2, (rd_T74 x0_1 x5_1).f3, (rd_T74 x0_1 x5_1).f4, (rd_T74 x0_1 x5_1).f5⟩ : S74)) := ⟨_, rfl⟩
          replace H : ((some (y554.set (x5_1 : Int).toNat (⟨(rd_T74 y554 x5_1).f0, wrap64 (x1_1 + 1), (rd_T74 y554 x5_1).f2, (rd_T74 y554 x5_1).f3, (rd_T74 y554 x5_1).f4, (rd_T74 y554 x5_1).f5⟩ : S74) : List (S74))).bind fun y555 => ((some (y555.set (x5_1 : Int).toNat (⟨(rd_T74 y555 x5_1).f0, (rd_T74 y555 x5_1).f1, wrap64 ((wrap64 (x1_1 + 1)) + 1), (rd_T74 y555 x5_1).f3, (rd_T74 y555 x5_1).f4, (rd_T74 y555 x5_1).f5⟩ : S74) : List (S74))).bind fun y556 => ((some (y556.set (x5_1 : Int).toNat (⟨(rd_T74 y556 x5_1).f0, (rd_T74 y556 x5_1).f1, (rd_T74 y556 x5_1).f2, wrap64 ((wrap64 ((wrap64 (x1_1 + 1)) + 1)) + 1), (rd_T74 y556 x5_1).f4, (rd_T74 y556 x5_1).f5⟩ : S74) : List (S74))).bind fun y557 => ((laws_markText.f k1 (wrap64 ((wrap64 ((wrap64 ((wrap64 (x1_1 + 1)) + 1)) + 1)) + 1))).bind fun t558 => ((some (y557.set (x5_1 : Int).toNat (⟨(rd_T74 y557 x5_1).f0, (rd_T74 y557 x5_1).f1, (rd_T74 y557 x5_1).f2, (rd_T74 y557 x5_1).f3, t558, (rd_T74 y557 x5_1).f5⟩ : S74) : List (S74))).bind fun y559 => ((laws_markText.f k1 (wrap64 ((wrap64 ((wrap64 ((wrap64 ((wrap64 (x1_1 + 1)) + 1)) + 1)) + 1)) + 1))).bind fun t560 => (laws_markRecordS.l0 k1 (y559.set (x5_1 : Int).toNat (⟨(rd_T74 y559 x5_1).f0, (rd_T74 y559 x5_1).f1, (rd_T74 y559 x5_1).f2, (rd_T74 y559 x5_1).f3, (rd_T74 y559 x5_1).f4, t560⟩ : S74)) (wrap64 ((wrap64 ((wrap64 ((wrap64 ((wrap64 ((wrap64 (x1_1 + 1)) + 1)) + 1)) + 1)) + 1)) + 1)) (wrap64 (x5_1 + 1))))))))) = some (r1, r2) := by first | (rw [hy554]; with_reducible exact H) | (have H2_ := (Option.bind_some _ _).symm.trans H; rw [hy554]; with_reducible exact H2_) | (have H2_ := (Option.bind_some _ _).symm.trans H; with_reducible exact H2_) | with_reducible exact H | (rw [hy554]; exact H) | exact H
          have Ny554 := Aside0.mk hy554
          clear hy554
          obtain ⟨y555, hy555⟩ : ∃ y_ : List (S74), y_ = (y554.set (x5_1 : Int).toNat (⟨(rd_T74 y554 x5_1).f0, wrap64 (x1_1 + 1), (rd_T74 y554 x5_1).f2, (rd_T74 y554 x5_1).f3, (rd_T74 y554 x5_1).f4, (rd_T74 y554 x5_1).f5⟩ : S74)) := ⟨_, rfl⟩
          replace H : ((some (y555.set (x5_1 : Int).toNat (⟨(rd_T74 y555 x5_1).f0, (rd_T74 y555 x5_1).f1, wrap64 ((wrap64 (x1_1 + 1)) + 1), (rd_T74 y555 x5_1).f3, (rd_T74 y555 x5_1).f4, (rd_T74 y555 x5_1).f5⟩ : S74) : List (S74))).bind fun y556 => ((some (y556.set (x5_1 : Int).toNat (⟨(rd_T74 y556 x5_1).f0, (rd_T74 y556 x5_1).f1, (rd_T74 y556 x5_1).f2, wrap64 ((wrap64 ((wrap64 (x1_1 + 1)) + 1)) + 1), (rd_T74 y556 x5_1).f4, (rd_T74 y556 x5_1).f5⟩ : S74) : List (S74))).bind fun y557 => ((laws_markText.f k1 (wrap64 ((wrap64 ((wrap64 ((wrap64 (x1_1 + 1)) + 1)) + 1)) + 1))).bind fun t558 => ((some (y557.set (x5_1 : Int).toNat (⟨(rd_T74 y557 x5_1).f0, (rd_T74 y557 x5_1).f1, (rd_T74 y557 x5_1).f2, (rd_T74 y557 x5_1).f3, t558, (rd_T74 y557 x5_1).f5⟩ : S74) : List (S74))).bind fun y559 => ((laws_markText.f k1 (wrap64 ((wrap64 ((wrap64 ((wrap64 ((wrap64 (x1_1 + 1)) + 1)) + 1)) + 1)) + 1))).bind fun t560 => (laws_markRecordS.l0 k1 (y559.set (x5_1 : Int).toNat (⟨(rd_T74 y559 x5_1).f0, (rd_T74 y559 x5_1).f1, (rd_T74 y559 x5_1).f2, (rd_T74 y559 x5_1).f3, (rd_T74 y559 x5_1).f4, t560⟩ : S74)) (wrap64 ((wrap64 ((wrap64 ((wrap64 ((wrap64 ((wrap64 (x1_1 + 1)) + 1)) + 1)) + 1)) + 1)) + 1)) (wrap64 (x5_1 + 1)))))))) = some (r1, r2) := by first | (rw [hy555]; with_reducible exact H) | (have H2_ := (Option.bind_some _ _).symm.trans H; rw [hy555]; with_reducible exact H2_) | (have H2_ := (Option.bind_some _ _).symm.trans H; with_reducible exact H2_) | with_reducible exact H | (rw [hy555]; exact H) | exact H
          have Ny555 := Aside0.mk hy555
          clear hy555
          obtain ⟨y556, hy556⟩ : ∃ y_ : List (S74), y_ = (y555.set (x5_1 : Int).toNat (⟨(rd_T74 y555 x5_1).f0, (rd_T74 y555 x5_1).f1, wrap64 ((wrap64 (x1_1 + 1)) + 1), (rd_T74 y555 x5_1).f3, (rd_T74 y555 x5_1).f4, (rd_T74 y555 x5_1).f5⟩ : S74)) := ⟨_, rfl⟩
          replace H : ((some (y556.set (x5_1 : Int).toNat (⟨(rd_T74 y556 x5_1).f0, (rd_T74 y556 x5_1).f1, (rd_T74 y556 x5_1).f2, wrap64 ((wrap64 ((wrap64 (x1_1 + 1)) + 1)) + 1), (rd_T74 y556 x5_1).f4, (rd_T74 y556 x5_1).f5⟩ : S74) : List (S74))).bind fun y557 => ((laws_markText.f k1 (wrap64 ((wrap64 ((wrap64 ((wrap64 (x1_1 + 1)) + 1)) + 1)) + 1))).bind fun t558 => ((some (y557.set (x5_1 : Int).toNat (⟨(rd_T74 y557 x5_1).f0, (rd_T74 y557 x5_1).f1, (rd_T74 y557 x5_1).f2, (rd_T74 y557 x5_1).f3, t558, (rd_T74 y557 x5_1).f5⟩ : S74) : List (S74))).bind fun y559 => ((laws_markText.f k1 (wrap64 ((wrap64 ((wrap64 ((wrap64 ((wrap64 (x1_1 + 1)) + 1)) + 1)) + 1)) + 1))).bind fun t560 => (laws_markRecordS.l0 k1 (y559.set (x5_1 : Int).toNat (⟨(rd_T74 y559 x5_1).f0, (rd_T74 y559 x5_1).f1, (rd_T74 y559 x5_1).f2, (rd_T74 y559 x5_1).f3, (rd_T74 y559 x5_1).f4, t560⟩ : S74)) (wrap64 ((wrap64 ((wrap64 ((wrap64 ((wrap64 ((wrap64 (x1_1 + 1)) + 1)) + 1)) + 1)) + 1)) + 1)) (wrap64 (x5_1 + 1))))))) = some (r1, r2) := by first | (rw [hy556]; with_reducible exact H) | (have H2_ := (Option.bind_some _ _).symm.trans H; rw [hy556]; with_reducible exact H2_) | (have H2_ := (Option.bind_some _ _).symm.trans H; with_reducible exact H2_) | with_reducible exact H | (rw [hy556]; exact H) | exact H
          have Ny556 := Aside0.mk hy556
          clear hy556
          obtain ⟨y557, hy557⟩ : ∃ y_ : List (S74), y_ = (y556.set (x5_1 : Int).toNat (⟨(rd_T74 y556 x5_1).f0, (rd_T74 y556 x5_1).f1, (rd_T74 y556 x5_1).f2, wrap64 ((wrap64 ((wrap64 (x1_1 + 1)) + 1)) + 1), (rd_T74 y556 x5_1).f4, (rd_T74 y556 x5_1).f5⟩ : S74)) := ⟨_, rfl⟩
          replace H : ((laws_markText.f k1 (wrap64 ((wrap64 ((wrap64 ((wrap64 (x1_1 + 1)) + 1)) + 1)) + 1))).bind fun t558 => ((some (y557.set (x5_1 : Int).toNat (⟨(rd_T74 y557 x5_1).f0, (rd_T74 y557 x5_1).f1, (rd_T74 y557 x5_1).f2, (rd_T74 y557 x5_1).f3, t558, (rd_T74 y557 x5_1).f5⟩ : S74) : List (S74))).bind fun y559 => ((laws_markText.f k1 (wrap64 ((wrap64 ((wrap64 ((wrap64 ((wrap64 (x1_1 + 1)) + 1)) + 1)) + 1)) + 1))).bind fun t560 => (laws_markRecordS.l0 k1 (y559.set (x5_1 : Int).toNat (⟨(rd_T74 y559 x5_1).f0, (rd_T74 y559 x5_1).f1, (rd_T74 y559 x5_1).f2, (rd_T74 y559 x5_1).f3, (rd_T74 y559 x5_1).f4, t560⟩ : S74)) (wrap64 ((wrap64 ((wrap64 ((wrap64 ((wrap64 ((wrap64 (x1_1 + 1)) + 1)) + 1)) + 1)) + 1)) + 1)) (wrap64 (x5_1 + 1)))))) = some (r1, r2) := by first | (rw [hy557]; with_reducible exact H) | (have H2_ := (Option.bind_some _ _).symm.trans H; rw [hy557]; with_reducible exact H2_) | (have H2_ := (Option.bind_some _ _).symm.trans H; with_reducible exact H2_) | with_reducible exact H | (rw [hy557]; exact H) | exact H
          have Ny557 := Aside0.mk hy557
          clear hy557
          replace H := Option.bind_eq_some_iff.mp H
          obtain ⟨t558, A100, H⟩ := H
          try dsimp only at H
          have A10 := Aside0.mk A100
          clear A100
          obtain ⟨y559, hy559⟩ : ∃ y_ : List (S74), y_ = (y557.set (x5_1 : Int).toNat (⟨(rd_T74 y557 x5_1).f0, (rd_T74 y557 x5_1).f1, (rd_T74 y557 x5_1).f2, (rd_T74 y557 x5_1).f3, t558, (rd_T74 y557 x5_1).f5⟩ : S74)) := ⟨_, rfl⟩
          replace H : ((laws_markText.f k1 (wrap64 ((wrap64 ((wrap64 ((wrap64 ((wrap64 (x1_1 + 1)) + 1)) + 1)) + 1)) + 1))).bind fun t560 => (laws_markRecordS.l0 k1 (y559.set (x5_1 : Int).toNat (⟨(rd_T74 y559 x5_1).f0, (rd_T74 y559 x5_1).f1, (rd_T74 y559 x5_1).f2, (rd_T74 y559 x5_1).f3, (rd_T74 y559 x5_1).f4, t560⟩ : S74)) (wrap64 ((wrap64 ((wrap64 ((wrap64 ((wrap64 ((wrap64 (x1_1 + 1)) + 1)) + 1)) + 1)) + 1)) + 1)) (wrap64 (x5_1 + 1)))) = some (r1, r2) := by first | (rw [hy559]; with_reducible exact H) | (have H2_ := (Option.bind_some _ _).symm.trans H; rw [hy559]; with_reducible exact H2_) | (have H2_ := (Option.bind_some _ _).symm.trans H; with_reducible exact H2_) | with_reducible exact H | (rw [hy559]; exact H) | exact H
          have Ny559 := Aside0.mk hy559
          clear hy559
          replace H := Option.bind_eq_some_iff.mp H
          obtain ⟨t560, A120, H⟩ := H
          try dsimp only at H
          have A12 := Aside0.mk A120
          clear A120
          obtain ⟨y561, hy561⟩ : ∃ y_ : List (S74), y_ = (y559.set (x5_1 : Int).toNat (⟨(rd_T74 y559 x5_1).f0, (rd_T74 y559 x5_1).f1, (rd_T74 y559 x5_1).f2, (rd_T74 y559 x5_1).f3, (rd_T74 y559 x5_1).f4, t560⟩ : S74)) := ⟨_, rfl⟩
          replace H : (laws_markRecordS.l0 k1 y561 (wrap64 ((wrap64 ((wrap64 ((wrap64 ((wrap64 ((wrap64 (x1_1 + 1)) + 1)) + 1)) + 1)) + 1)) + 1)) (wrap64 (x5_1 + 1))) = some (r1, r2) := by first | (rw [hy561]; with_reducible exact H) | (have H2_ := (Option.bind_some _ _).symm.trans H; rw [hy561]; with_reducible exact H2_) | (have H2_ := (Option.bind_some _ _).symm.trans H; with_reducible exact H2_) | with_reducible exact H | (rw [hy561]; exact H) | exact H
          have Ny561 := Aside0.mk hy561
          clear hy561
          have H' := Aside0.mk H
          clear H
          obtain ⟨Ao14, co14, eo14⟩ := Kd.R_slice HO_0.out
          subst eo14
          go_wp2_with (first | ((with_reducible refine gate_callee (f := 95) rfl ?_); refine goesL_ (some 15) rfl rfl Tryd.func95 (by kernel_rfl) rfl #[.int .i64 x1_1] rfl (by (try simp only [List.map_toArray, List.map_cons, List.map_nil]); first | done | rfl | (simp only [List.length_drop, List.length_take]; rfl)) ?_; (with_reducible refine (laws_markText.calls k1 x1_1 t553 _ A4.out).mono ?_); rintro e w15 ⟨rfl, hb⟩; refine ⟨_, rfl, ?_⟩; have n0_ := Aside0.mk (Kd.R_below (rU HO_0.out) hb); have n1_ := Aside0.mk (Kept.below (S := (fun k_ => P0_ k_)) (by repeat (first | (with_reducible first | exact HK.out | apply Kept.alloc | apply Kept.drewN | apply Kept.drew) | exact HK.out)) hb); have n2_ := Aside0.mk (below_step (wU HB.out) hb); clear HO_0; clear HK; clear HB; have HO_0 := n0_; have HK := n1_; have HB := n2_; clear n0_ n1_ n2_; (try clear hb); (try clear hb2); (try clear hk); (try clear hi); have p6 : 0 ≤ (x5_1 : Int) := of_decide_eq_true (by first | (with_reducible assumption) | assumption); have q6 : (x5_1 : Int) < ((x0_1.length : Int) : Int) := of_decide_eq_true (by first | (with_reducible assumption) | assumption); obtain ⟨go6, co6, eo6, gb6, gl6, cl6, HG6⟩ := Kd.R_form HO_0.out (by omega); (first | cases eo6 | (injection eo6 with ea_ en_ ec_; (first | subst ea_ | (injection ea_ with ea_; subst ea_)); subst ec_; clear en_)); have GB6 := Aside0.mk gb6; have GG6 := Aside0.mk HG6; clear gb6 gl6 HG6; have HMgo6 := Aside0.mk (show (P0_ go6 ∨ w.heap.size ≤ go6) from (HO_0.out.1 _ rfl)); obtain ⟨ce6, hcl6, hM6, hcc6, hfr6⟩ := Kd.R_elem HO_0.out z74 (x5_1 : Int) p6 q6; obtain rfl := k74_openM hM6; have hx6_0 : w15.cell? ⟨go6, (x5_1 : Int).toNat * 6, none⟩ = some (.string ((rd_T74 x0_1 x5_1).f0)) := hcc6 0 _ rfl; have hx6_1 : w15.cell? ⟨go6, (x5_1 : Int).toNat * 6 + 1, none⟩ = some (.int .i64 ((rd_T74 x0_1 x5_1).f1)) := hcc6 1 _ rfl; have hx6_2 : w15.cell? ⟨go6, (x5_1 : Int).toNat * 6 + 2, none⟩ = some (.int .i64 ((rd_T74 x0_1 x5_1).f2)) := hcc6 2 _ rfl; have hx6_3 : w15.cell? ⟨go6, (x5_1 : Int).toNat * 6 + 3, none⟩ = some (.int .i64 ((rd_T74 x0_1 x5_1).f3)) := hcc6 3 _ rfl; have hx6_4 : w15.cell? ⟨go6, (x5_1 : Int).toNat * 6 + 4, none⟩ = some (.string ((rd_T74 x0_1 x5_1).f4)) := hcc6 4 _ rfl; have hx6_5 : w15.cell? ⟨go6, (x5_1 : Int).toNat * 6 + 5, none⟩ = some (.string ((rd_T74 x0_1 x5_1).f5)) := hcc6 5 _ rfl; have hf6_0 : w15.frozen? ⟨go6, (x5_1 : Int).toNat * 6, none⟩ = false := hfr6 0; have hf6_1 : w15.frozen? ⟨go6, (x5_1 : Int).toNat * 6 + 1, none⟩ = false := hfr6 1; have hf6_2 : w15.frozen? ⟨go6, (x5_1 : Int).toNat * 6 + 2, none⟩ = false := hfr6 2; have hf6_3 : w15.frozen? ⟨go6, (x5_1 : Int).toNat * 6 + 3, none⟩ = false := hfr6 3; have hf6_4 : w15.frozen? ⟨go6, (x5_1 : Int).toNat * 6 + 4, none⟩ = false := hfr6 4; have hf6_5 : w15.frozen? ⟨go6, (x5_1 : Int).toNat * 6 + 5, none⟩ = false := hfr6 5; clear hcl6 hcc6 hfr6 hM6; replace p6 := eq_true p6; replace q6 := eq_true q6; have HX16 := Aside0.mk (show Kd.R k74 74 w15 w0.heap.size (fun k_ => (P0_ k_ ∨ w.heap.size ≤ k_)) (.slice (some ⟨go6, 0, none⟩) x0_1.length co14) x0_1 from (rU HO_0.out)); obtain ⟨ce16, hcl16, hM16, hcc16, hfr16⟩ := Kd.R_elem HX16.out z74 (x5_1 : Int) (of_decide_eq_true (by first | (with_reducible assumption) | assumption)) (by have h_ : (x5_1 : Int) < ((x0_1.length : Int) : Int) := of_decide_eq_true (by first | (with_reducible assumption) | assumption); first | exact h_ | (have e_ := (Kd.R_reads' HO_0.out).1; omega) | simpa using h_); obtain rfl := k74_openM hM16; have HP16 := Kd.R_seg HX16.out (x5_1 : Int) (of_decide_eq_true (by first | (with_reducible assumption) | assumption)) (by have h_ : (x5_1 : Int) < ((x0_1.length : Int) : Int) := of_decide_eq_true (by first | (with_reducible assumption) | assumption); first | exact h_ | (have e_ := (Kd.R_reads' HO_0.out).1; omega) | simpa using h_) (seg := [.string t553]) (j := 0) hcl16 hcc16 (show 1 ≤ 6 from by decide) (x' := (⟨t553, (rd_T74 x0_1 x5_1).f1, (rd_T74 x0_1 x5_1).f2, (rd_T74 x0_1 x5_1).f3, (rd_T74 x0_1 x5_1).f4, (rd_T74 x0_1 x5_1).f5⟩ : S74)) (k74_mkM _ _ _ (⟨t553, (rd_T74 x0_1 x5_1).f1, (rd_T74 x0_1 x5_1).f2, (rd_T74 x0_1 x5_1).f3, (rd_T74 x0_1 x5_1).f4, (rd_T74 x0_1 x5_1).f5⟩ : S74) ) (fun _ hk => hk); have hx16_0 := hcc16 0 _ rfl; (try simp only [show (k74).sz = 6 from rfl, Nat.mul_one, Nat.add_zero] at hx16_0); have hf16_0 := hfr16 0; (try simp only [show (k74).sz = 6 from rfl, Nat.mul_one, Nat.add_zero] at hf16_0); clear hcl16 hcc16 hfr16 hM16) | ((with_reducible refine gate_store (t := 9) (p := 17) rfl ?_); refine store_event (t := 9) (p := 17) (v := ?vo_w17) (w1 := (w15.setCell ⟨go6, (x5_1 : Int).toNat * 6, none⟩ (.string t553))) ?hg ?ho ?hn ?hr ?_; (case ho => rfl); (case hg => rfl); (case hn => rfl); (case hr => first | (go_simp; done) | (go_simp; rfl)); intro w17 hw; have hg : w15.grownBy w17 (some go6) := (by rw [hw]; exact HP16.2); have hp_ : Kd.R k74 74 w17 w0.heap.size (fun k_ => (P0_ k_ ∨ w.heap.size ≤ k_)) (.slice (some ⟨go6, 0, none⟩) x0_1.length co14) y554 := (by rw [hw, Ny554.out]; exact HP16.1); clear HP16; have n0_ := Aside0.mk (hp_); have n1_ := Aside0.mk ((by rw [hw]; exact below_set (HB.out) GB6.out : Below w0.heap.size w0 w17)); have n2_ := Aside0.mk (Kept.of_grown (S := (fun k_ => P0_ k_)) hg (by repeat (first | (with_reducible first | exact HK.out | apply Kept.alloc | apply Kept.drewN | apply Kept.drew) | exact HK.out)) (fun k_ e_ => (HO_0.out.1 k_ e_))); clear HO_0; clear HB; clear HK; have HO_0 := n0_; have HB := n1_; have HK := n2_; clear n0_ n1_ n2_; clear hg hw hp_; have p7 : 0 ≤ (x5_1 : Int) := of_decide_eq_true (by first | (with_reducible assumption) | assumption); have q7 : (x5_1 : Int) < ((x0_1.length : Int) : Int) := of_decide_eq_true (by first | (with_reducible assumption) | assumption); obtain ⟨ce7, hcl7, hM7, hcc7, hfr7⟩ := Kd.R_elem HO_0.out z74 (x5_1 : Int) p7 q7; obtain rfl := k74_openM hM7; have hx7_0 : w17.cell? ⟨go6, (x5_1 : Int).toNat * 6, none⟩ = some (.string ((rd_T74 y554 x5_1).f0)) := hcc7 0 _ rfl; have hx7_1 : w17.cell? ⟨go6, (x5_1 : Int).toNat * 6 + 1, none⟩ = some (.int .i64 ((rd_T74 y554 x5_1).f1)) := hcc7 1 _ rfl; have hx7_2 : w17.cell? ⟨go6, (x5_1 : Int).toNat * 6 + 2, none⟩ = some (.int .i64 ((rd_T74 y554 x5_1).f2)) := hcc7 2 _ rfl; have hx7_3 : w17.cell? ⟨go6, (x5_1 : Int).toNat * 6 + 3, none⟩ = some (.int .i64 ((rd_T74 y554 x5_1).f3)) := hcc7 3 _ rfl; have hx7_4 : w17.cell? ⟨go6, (x5_1 : Int).toNat * 6 + 4, none⟩ = some (.string ((rd_T74 y554 x5_1).f4)) := hcc7 4 _ rfl; have hx7_5 : w17.cell? ⟨go6, (x5_1 : Int).toNat * 6 + 5, none⟩ = some (.string ((rd_T74 y554 x5_1).f5)) := hcc7 5 _ rfl; have hf7_0 : w17.frozen? ⟨go6, (x5_1 : Int).toNat * 6, none⟩ = false := hfr7 0; have hf7_1 : w17.frozen? ⟨go6, (x5_1 : Int).toNat * 6 + 1, none⟩ = false := hfr7 1; have hf7_2 : w17.frozen? ⟨go6, (x5_1 : Int).toNat * 6 + 2, none⟩ = false := hfr7 2; have hf7_3 : w17.frozen? ⟨go6, (x5_1 : Int).toNat * 6 + 3, none⟩ = false := hfr7 3; have hf7_4 : w17.frozen? ⟨go6, (x5_1 : Int).toNat * 6 + 4, none⟩ = false := hfr7 4; have hf7_5 : w17.frozen? ⟨go6, (x5_1 : Int).toNat * 6 + 5, none⟩ = false := hfr7 5; clear hcl7 hcc7 hfr7 hM7; replace p7 := eq_true p7; replace q7 := eq_true q7; have HX18 := Aside0.mk (show Kd.R k74 74 w17 w0.heap.size (fun k_ => (P0_ k_ ∨ w.heap.size ≤ k_)) (.slice (some ⟨go6, 0, none⟩) x0_1.length co14) y554 from (rU HO_0.out)); obtain ⟨ce18, hcl18, hM18, hcc18, hfr18⟩ := Kd.R_elem HX18.out z74 (x5_1 : Int) (of_decide_eq_true (by first | (with_reducible assumption) | assumption)) (by have h_ : (x5_1 : Int) < ((x0_1.length : Int) : Int) := of_decide_eq_true (by first | (with_reducible assumption) | assumption); first | exact h_ | (have e_ := (Kd.R_reads' HO_0.out).1; omega) | simpa using h_); obtain rfl := k74_openM hM18; have HP18 := Kd.R_seg HX18.out (x5_1 : Int) (of_decide_eq_true (by first | (with_reducible assumption) | assumption)) (by have h_ : (x5_1 : Int) < ((x0_1.length : Int) : Int) := of_decide_eq_true (by first | (with_reducible assumption) | assumption); first | exact h_ | (have e_ := (Kd.R_reads' HO_0.out).1; omega) | simpa using h_) (seg := [.int .i64 (wrap64 (x1_1 + 1))]) (j := 1) hcl18 hcc18 (show 2 ≤ 6 from by decide) (x' := (⟨(rd_T74 y554 x5_1).f0, wrap64 (x1_1 + 1), (rd_T74 y554 x5_1).f2, (rd_T74 y554 x5_1).f3, (rd_T74 y554 x5_1).f4, (rd_T74 y554 x5_1).f5⟩ : S74)) (k74_mkM _ _ _ (⟨(rd_T74 y554 x5_1).f0, wrap64 (x1_1 + 1), (rd_T74 y554 x5_1).f2, (rd_T74 y554 x5_1).f3, (rd_T74 y554 x5_1).f4, (rd_T74 y554 x5_1).f5⟩ : S74) ) (fun _ hk => hk); have hx18_1 := hcc18 1 _ rfl; (try simp only [show (k74).sz = 6 from rfl, Nat.mul_one, Nat.add_zero] at hx18_1); have hf18_1 := hfr18 1; (try simp only [show (k74).sz = 6 from rfl, Nat.mul_one, Nat.add_zero] at hf18_1); clear hcl18 hcc18 hfr18 hM18) | ((with_reducible refine gate_store (t := 3) (p := 24) rfl ?_); refine store_event (t := 3) (p := 24) (v := ?vo_w19) (w1 := (w17.setCell ⟨go6, (x5_1 : Int).toNat * 6 + 1, none⟩ (.int .i64 (wrap64 (x1_1 + 1))))) ?hg ?ho ?hn ?hr ?_; (case ho => rfl); (case hg => rfl); (case hn => rfl); (case hr => first | (go_simp; done) | (go_simp; rfl)); intro w19 hw; have hg : w17.grownBy w19 (some go6) := (by rw [hw]; exact HP18.2); have hp_ : Kd.R k74 74 w19 w0.heap.size (fun k_ => (P0_ k_ ∨ w.heap.size ≤ k_)) (.slice (some ⟨go6, 0, none⟩) x0_1.length co14) y555 := (by rw [hw, Ny555.out]; exact HP18.1); clear HP18; have n0_ := Aside0.mk (hp_); have n1_ := Aside0.mk ((by rw [hw]; exact below_set (HB.out) GB6.out : Below w0.heap.size w0 w19)); have n2_ := Aside0.mk (Kept.of_grown (S := (fun k_ => P0_ k_)) hg (by repeat (first | (with_reducible first | exact HK.out | apply Kept.alloc | apply Kept.drewN | apply Kept.drew) | exact HK.out)) (fun k_ e_ => (HO_0.out.1 k_ e_))); clear HO_0; clear HB; clear HK; have HO_0 := n0_; have HB := n1_; have HK := n2_; clear n0_ n1_ n2_; clear hg hw hp_; have p8 : 0 ≤ (x5_1 : Int) := of_decide_eq_true (by first | (with_reducible assumption) | assumption); have q8 : (x5_1 : Int) < ((x0_1.length : Int) : Int) := of_decide_eq_true (by first | (with_reducible assumption) | assumption); obtain ⟨ce8, hcl8, hM8, hcc8, hfr8⟩ := Kd.R_elem HO_0.out z74 (x5_1 : Int) p8 q8; obtain rfl := k74_openM hM8; have hx8_0 : w19.cell? ⟨go6, (x5_1 : Int).toNat * 6, none⟩ = some (.string ((rd_T74 y555 x5_1).f0)) := hcc8 0 _ rfl; have hx8_1 : w19.cell? ⟨go6, (x5_1 : Int).toNat * 6 + 1, none⟩ = some (.int .i64 ((rd_T74 y555 x5_1).f1)) := hcc8 1 _ rfl; have hx8_2 : w19.cell? ⟨go6, (x5_1 : Int).toNat * 6 + 2, none⟩ = some (.int .i64 ((rd_T74 y555 x5_1).f2)) := hcc8 2 _ rfl; have hx8_3 : w19.cell? ⟨go6, (x5_1 : Int).toNat * 6 + 3, none⟩ = some (.int .i64 ((rd_T74 y555 x5_1).f3)) := hcc8 3 _ rfl; have hx8_4 : w19.cell? ⟨go6, (x5_1 : Int).toNat * 6 + 4, none⟩ = some (.string ((rd_T74 y555 x5_1).f4)) := hcc8 4 _ rfl; have hx8_5 : w19.cell? ⟨go6, (x5_1 : Int).toNat * 6 + 5, none⟩ = some (.string ((rd_T74 y555 x5_1).f5)) := hcc8 5 _ rfl; have hf8_0 : w19.frozen? ⟨go6, (x5_1 : Int).toNat * 6, none⟩ = false := hfr8 0; have hf8_1 : w19.frozen? ⟨go6, (x5_1 : Int).toNat * 6 + 1, none⟩ = false := hfr8 1; have hf8_2 : w19.frozen? ⟨go6, (x5_1 : Int).toNat * 6 + 2, none⟩ = false := hfr8 2; have hf8_3 : w19.frozen? ⟨go6, (x5_1 : Int).toNat * 6 + 3, none⟩ = false := hfr8 3; have hf8_4 : w19.frozen? ⟨go6, (x5_1 : Int).toNat * 6 + 4, none⟩ = false := hfr8 4; have hf8_5 : w19.frozen? ⟨go6, (x5_1 : Int).toNat * 6 + 5, none⟩ = false := hfr8 5; clear hcl8 hcc8 hfr8 hM8; replace p8 := eq_true p8; replace q8 := eq_true q8; have HX20 := Aside0.mk (show Kd.R k74 74 w19 w0.heap.size (fun k_ => (P0_ k_ ∨ w.heap.size ≤ k_)) (.slice (some ⟨go6, 0, none⟩) x0_1.length co14) y555 from (rU HO_0.out)); obtain ⟨ce20, hcl20, hM20, hcc20, hfr20⟩ := Kd.R_elem HX20.out z74 (x5_1 : Int) (of_decide_eq_true (by first | (with_reducible assumption) | assumption)) (by have h_ : (x5_1 : Int) < ((x0_1.length : Int) : Int) := of_decide_eq_true (by first | (with_reducible assumption) | assumption); first | exact h_ | (have e_ := (Kd.R_reads' HO_0.out).1; omega) | simpa using h_); obtain rfl := k74_openM hM20; have HP20 := Kd.R_seg HX20.out (x5_1 : Int) (of_decide_eq_true (by first | (with_reducible assumption) | assumption)) (by have h_ : (x5_1 : Int) < ((x0_1.length : Int) : Int) := of_decide_eq_true (by first | (with_reducible assumption) | assumption); first | exact h_ | (have e_ := (Kd.R_reads' HO_0.out).1; omega) | simpa using h_) (seg := [.int .i64 (wrap64 ((wrap64 (x1_1 + 1)) + 1))]) (j := 2) hcl20 hcc20 (show 3 ≤ 6 from by decide) (x' := (⟨(rd_T74 y555 x5_1).f0, (rd_T74 y555 x5_1).f1, wrap64 ((wrap64 (x1_1 + 1)) + 1), (rd_T74 y555 x5_1).f3, (rd_T74 y555 x5_1).f4, (rd_T74 y555 x5_1).f5⟩ : S74)) (k74_mkM _ _ _ (⟨(rd_T74 y555 x5_1).f0, (rd_T74 y555 x5_1).f1, wrap64 ((wrap64 (x1_1 + 1)) + 1), (rd_T74 y555 x5_1).f3, (rd_T74 y555 x5_1).f4, (rd_T74 y555 x5_1).f5⟩ : S74) ) (fun _ hk => hk); have hx20_2 := hcc20 2 _ rfl; (try simp only [show (k74).sz = 6 from rfl, Nat.mul_one, Nat.add_zero] at hx20_2); have hf20_2 := hfr20 2; (try simp only [show (k74).sz = 6 from rfl, Nat.mul_one, Nat.add_zero] at hf20_2); clear hcl20 hcc20 hfr20 hM20) | ((with_reducible refine gate_store (t := 3) (p := 31) rfl ?_); refine store_event (t := 3) (p := 31) (v := ?vo_w21) (w1 := (w19.setCell ⟨go6, (x5_1 : Int).toNat * 6 + 2, none⟩ (.int .i64 (wrap64 ((wrap64 (x1_1 + 1)) + 1))))) ?hg ?ho ?hn ?hr ?_; (case ho => rfl); (case hg => rfl); (case hn => rfl); (case hr => first | (go_simp; done) | (go_simp; rfl)); intro w21 hw; have hg : w19.grownBy w21 (some go6) := (by rw [hw]; exact HP20.2); have hp_ : Kd.R k74 74 w21 w0.heap.size (fun k_ => (P0_ k_ ∨ w.heap.size ≤ k_)) (.slice (some ⟨go6, 0, none⟩) x0_1.length co14) y556 := (by rw [hw, Ny556.out]; exact HP20.1); clear HP20; have n0_ := Aside0.mk (hp_); have n1_ := Aside0.mk ((by rw [hw]; exact below_set (HB.out) GB6.out : Below w0.heap.size w0 w21)); have n2_ := Aside0.mk (Kept.of_grown (S := (fun k_ => P0_ k_)) hg (by repeat (first | (with_reducible first | exact HK.out | apply Kept.alloc | apply Kept.drewN | apply Kept.drew) | exact HK.out)) (fun k_ e_ => (HO_0.out.1 k_ e_))); clear HO_0; clear HB; clear HK; have HO_0 := n0_; have HB := n1_; have HK := n2_; clear n0_ n1_ n2_; clear hg hw hp_; have p9 : 0 ≤ (x5_1 : Int) := of_decide_eq_true (by first | (with_reducible assumption) | assumption); have q9 : (x5_1 : Int) < ((x0_1.length : Int) : Int) := of_decide_eq_true (by first | (with_reducible assumption) | assumption); obtain ⟨ce9, hcl9, hM9, hcc9, hfr9⟩ := Kd.R_elem HO_0.out z74 (x5_1 : Int) p9 q9; obtain rfl := k74_openM hM9; have hx9_0 : w21.cell? ⟨go6, (x5_1 : Int).toNat * 6, none⟩ = some (.string ((rd_T74 y556 x5_1).f0)) := hcc9 0 _ rfl; have hx9_1 : w21.cell? ⟨go6, (x5_1 : Int).toNat * 6 + 1, none⟩ = some (.int .i64 ((rd_T74 y556 x5_1).f1)) := hcc9 1 _ rfl; have hx9_2 : w21.cell? ⟨go6, (x5_1 : Int).toNat * 6 + 2, none⟩ = some (.int .i64 ((rd_T74 y556 x5_1).f2)) := hcc9 2 _ rfl; have hx9_3 : w21.cell? ⟨go6, (x5_1 : Int).toNat * 6 + 3, none⟩ = some (.int .i64 ((rd_T74 y556 x5_1).f3)) := hcc9 3 _ rfl; have hx9_4 : w21.cell? ⟨go6, (x5_1 : Int).toNat * 6 + 4, none⟩ = some (.string ((rd_T74 y556 x5_1).f4)) := hcc9 4 _ rfl; have hx9_5 : w21.cell? ⟨go6, (x5_1 : Int).toNat * 6 + 5, none⟩ = some (.string ((rd_T74 y556 x5_1).f5)) := hcc9 5 _ rfl; have hf9_0 : w21.frozen? ⟨go6, (x5_1 : Int).toNat * 6, none⟩ = false := hfr9 0; have hf9_1 : w21.frozen? ⟨go6, (x5_1 : Int).toNat * 6 + 1, none⟩ = false := hfr9 1; have hf9_2 : w21.frozen? ⟨go6, (x5_1 : Int).toNat * 6 + 2, none⟩ = false := hfr9 2; have hf9_3 : w21.frozen? ⟨go6, (x5_1 : Int).toNat * 6 + 3, none⟩ = false := hfr9 3; have hf9_4 : w21.frozen? ⟨go6, (x5_1 : Int).toNat * 6 + 4, none⟩ = false := hfr9 4; have hf9_5 : w21.frozen? ⟨go6, (x5_1 : Int).toNat * 6 + 5, none⟩ = false := hfr9 5; clear hcl9 hcc9 hfr9 hM9; replace p9 := eq_true p9; replace q9 := eq_true q9; have HX22 := Aside0.mk (show Kd.R k74 74 w21 w0.heap.size (fun k_ => (P0_ k_ ∨ w.heap.size ≤ k_)) (.slice (some ⟨go6, 0, none⟩) x0_1.length co14) y556 from (rU HO_0.out)); obtain ⟨ce22, hcl22, hM22, hcc22, hfr22⟩ := Kd.R_elem HX22.out z74 (x5_1 : Int) (of_decide_eq_true (by first | (with_reducible assumption) | assumption)) (by have h_ : (x5_1 : Int) < ((x0_1.length : Int) : Int) := of_decide_eq_true (by first | (with_reducible assumption) | assumption); first | exact h_ | (have e_ := (Kd.R_reads' HO_0.out).1; omega) | simpa using h_); obtain rfl := k74_openM hM22; have HP22 := Kd.R_seg HX22.out (x5_1 : Int) (of_decide_eq_true (by first | (with_reducible assumption) | assumption)) (by have h_ : (x5_1 : Int) < ((x0_1.length : Int) : Int) := of_decide_eq_true (by first | (with_reducible assumption) | assumption); first | exact h_ | (have e_ := (Kd.R_reads' HO_0.out).1; omega) | simpa using h_) (seg := [.int .i64 (wrap64 ((wrap64 ((wrap64 (x1_1 + 1)) + 1)) + 1))]) (j := 3) hcl22 hcc22 (show 4 ≤ 6 from by decide) (x' := (⟨(rd_T74 y556 x5_1).f0, (rd_T74 y556 x5_1).f1, (rd_T74 y556 x5_1).f2, wrap64 ((wrap64 ((wrap64 (x1_1 + 1)) + 1)) + 1), (rd_T74 y556 x5_1).f4, (rd_T74 y556 x5_1).f5⟩ : S74)) (k74_mkM _ _ _ (⟨(rd_T74 y556 x5_1).f0, (rd_T74 y556 x5_1).f1, (rd_T74 y556 x5_1).f2, wrap64 ((wrap64 ((wrap64 (x1_1 + 1)) + 1)) + 1), (rd_T74 y556 x5_1).f4, (rd_T74 y556 x5_1).f5⟩ : S74) ) (fun _ hk => hk); have hx22_3 := hcc22 3 _ rfl; (try simp only [show (k74).sz = 6 from rfl, Nat.mul_one, Nat.add_zero] at hx22_3); have hf22_3 := hfr22 3; (try simp only [show (k74).sz = 6 from rfl, Nat.mul_one, Nat.add_zero] at hf22_3); clear hcl22 hcc22 hfr22 hM22) | ((with_reducible refine gate_store (t := 3) (p := 38) rfl ?_); refine store_event (t := 3) (p := 38) (v := ?vo_w23) (w1 := (w21.setCell ⟨go6, (x5_1 : Int).toNat * 6 + 3, none⟩ (.int .i64 (wrap64 ((wrap64 ((wrap64 (x1_1 + 1)) + 1)) + 1))))) ?hg ?ho ?hn ?hr ?_; (case ho => rfl); (case hg => rfl); (case hn => rfl); (case hr => first | (go_simp; done) | (go_simp; rfl)); intro w23 hw; have hg : w21.grownBy w23 (some go6) := (by rw [hw]; exact HP22.2); have hp_ : Kd.R k74 74 w23 w0.heap.size (fun k_ => (P0_ k_ ∨ w.heap.size ≤ k_)) (.slice (some ⟨go6, 0, none⟩) x0_1.length co14) y557 := (by rw [hw, Ny557.out]; exact HP22.1); clear HP22; have n0_ := Aside0.mk (hp_); have n1_ := Aside0.mk ((by rw [hw]; exact below_set (HB.out) GB6.out : Below w0.heap.size w0 w23)); have n2_ := Aside0.mk (Kept.of_grown (S := (fun k_ => P0_ k_)) hg (by repeat (first | (with_reducible first | exact HK.out | apply Kept.alloc | apply Kept.drewN | apply Kept.drew) | exact HK.out)) (fun k_ e_ => (HO_0.out.1 k_ e_))); clear HO_0; clear HB; clear HK; have HO_0 := n0_; have HB := n1_; have HK := n2_; clear n0_ n1_ n2_; clear hg hw hp_) | ((with_reducible refine gate_callee (f := 95) rfl ?_); refine goesL_ (some 44) rfl rfl Tryd.func95 (by kernel_rfl) rfl #[.int .i64 (wrap64 ((wrap64 ((wrap64 ((wrap64 (x1_1 + 1)) + 1)) + 1)) + 1))] rfl (by (try simp only [List.map_toArray, List.map_cons, List.map_nil]); first | done | rfl | (simp only [List.length_drop, List.length_take]; rfl)) ?_; (with_reducible refine (laws_markText.calls k1 (wrap64 ((wrap64 ((wrap64 ((wrap64 (x1_1 + 1)) + 1)) + 1)) + 1)) t558 _ A10.out).mono ?_); rintro e w24 ⟨rfl, hb⟩; refine ⟨_, rfl, ?_⟩; have n0_ := Aside0.mk (Kd.R_below (rU HO_0.out) hb); have n1_ := Aside0.mk (Kept.below (S := (fun k_ => P0_ k_)) (by repeat (first | (with_reducible first | exact HK.out | apply Kept.alloc | apply Kept.drewN | apply Kept.drew) | exact HK.out)) hb); have n2_ := Aside0.mk (below_step (wU HB.out) hb); clear HO_0; clear HK; clear HB; have HO_0 := n0_; have HK := n1_; have HB := n2_; clear n0_ n1_ n2_; (try clear hb); (try clear hb2); (try clear hk); (try clear hi); have p11 : 0 ≤ (x5_1 : Int) := of_decide_eq_true (by first | (with_reducible assumption) | assumption); have q11 : (x5_1 : Int) < ((x0_1.length : Int) : Int) := of_decide_eq_true (by first | (with_reducible assumption) | assumption); obtain ⟨ce11, hcl11, hM11, hcc11, hfr11⟩ := Kd.R_elem HO_0.out z74 (x5_1 : Int) p11 q11; obtain rfl := k74_openM hM11; have hx11_0 : w24.cell? ⟨go6, (x5_1 : Int).toNat * 6, none⟩ = some (.string ((rd_T74 y557 x5_1).f0)) := hcc11 0 _ rfl; have hx11_1 : w24.cell? ⟨go6, (x5_1 : Int).toNat * 6 + 1, none⟩ = some (.int .i64 ((rd_T74 y557 x5_1).f1)) := hcc11 1 _ rfl; have hx11_2 : w24.cell? ⟨go6, (x5_1 : Int).toNat * 6 + 2, none⟩ = some (.int .i64 ((rd_T74 y557 x5_1).f2)) := hcc11 2 _ rfl; have hx11_3 : w24.cell? ⟨go6, (x5_1 : Int).toNat * 6 + 3, none⟩ = some (.int .i64 ((rd_T74 y557 x5_1).f3)) := hcc11 3 _ rfl; have hx11_4 : w24.cell? ⟨go6, (x5_1 : Int).toNat * 6 + 4, none⟩ = some (.string ((rd_T74 y557 x5_1).f4)) := hcc11 4 _ rfl; have hx11_5 : w24.cell? ⟨go6, (x5_1 : Int).toNat * 6 + 5, none⟩ = some (.string ((rd_T74 y557 x5_1).f5)) := hcc11 5 _ rfl; have hf11_0 : w24.frozen? ⟨go6, (x5_1 : Int).toNat * 6, none⟩ = false := hfr11 0; have hf11_1 : w24.frozen? ⟨go6, (x5_1 : Int).toNat * 6 + 1, none⟩ = false := hfr11 1; have hf11_2 : w24.frozen? ⟨go6, (x5_1 : Int).toNat * 6 + 2, none⟩ = false := hfr11 2; have hf11_3 : w24.frozen? ⟨go6, (x5_1 : Int).toNat * 6 + 3, none⟩ = false := hfr11 3; have hf11_4 : w24.frozen? ⟨go6, (x5_1 : Int).toNat * 6 + 4, none⟩ = false := hfr11 4; have hf11_5 : w24.frozen? ⟨go6, (x5_1 : Int).toNat * 6 + 5, none⟩ = false := hfr11 5; clear hcl11 hcc11 hfr11 hM11; replace p11 := eq_true p11; replace q11 := eq_true q11; have HX25 := Aside0.mk (show Kd.R k74 74 w24 w0.heap.size (fun k_ => (P0_ k_ ∨ w.heap.size ≤ k_)) (.slice (some ⟨go6, 0, none⟩) x0_1.length co14) y557 from (rU HO_0.out)); obtain ⟨ce25, hcl25, hM25, hcc25, hfr25⟩ := Kd.R_elem HX25.out z74 (x5_1 : Int) (of_decide_eq_true (by first | (with_reducible assumption) | assumption)) (by have h_ : (x5_1 : Int) < ((x0_1.length : Int) : Int) := of_decide_eq_true (by first | (with_reducible assumption) | assumption); first | exact h_ | (have e_ := (Kd.R_reads' HO_0.out).1; omega) | simpa using h_); obtain rfl := k74_openM hM25; have HP25 := Kd.R_seg HX25.out (x5_1 : Int) (of_decide_eq_true (by first | (with_reducible assumption) | assumption)) (by have h_ : (x5_1 : Int) < ((x0_1.length : Int) : Int) := of_decide_eq_true (by first | (with_reducible assumption) | assumption); first | exact h_ | (have e_ := (Kd.R_reads' HO_0.out).1; omega) | simpa using h_) (seg := [.string t558]) (j := 4) hcl25 hcc25 (show 5 ≤ 6 from by decide) (x' := (⟨(rd_T74 y557 x5_1).f0, (rd_T74 y557 x5_1).f1, (rd_T74 y557 x5_1).f2, (rd_T74 y557 x5_1).f3, t558, (rd_T74 y557 x5_1).f5⟩ : S74)) (k74_mkM _ _ _ (⟨(rd_T74 y557 x5_1).f0, (rd_T74 y557 x5_1).f1, (rd_T74 y557 x5_1).f2, (rd_T74 y557 x5_1).f3, t558, (rd_T74 y557 x5_1).f5⟩ : S74) ) (fun _ hk => hk); have hx25_4 := hcc25 4 _ rfl; (try simp only [show (k74).sz = 6 from rfl, Nat.mul_one, Nat.add_zero] at hx25_4); have hf25_4 := hfr25 4; (try simp only [show (k74).sz = 6 from rfl, Nat.mul_one, Nat.add_zero] at hf25_4); clear hcl25 hcc25 hfr25 hM25) | ((with_reducible refine gate_store (t := 9) (p := 46) rfl ?_); refine store_event (t := 9) (p := 46) (v := ?vo_w26) (w1 := (w24.setCell ⟨go6, (x5_1 : Int).toNat * 6 + 4, none⟩ (.string t558))) ?hg ?ho ?hn ?hr ?_; (case ho => rfl); (case hg => rfl); (case hn => rfl); (case hr => first | (go_simp; done) | (go_simp; rfl)); intro w26 hw; have hg : w24.grownBy w26 (some go6) := (by rw [hw]; exact HP25.2); have hp_ : Kd.R k74 74 w26 w0.heap.size (fun k_ => (P0_ k_ ∨ w.heap.size ≤ k_)) (.slice (some ⟨go6, 0, none⟩) x0_1.length co14) y559 := (by rw [hw, Ny559.out]; exact HP25.1); clear HP25; have n0_ := Aside0.mk (hp_); have n1_ := Aside0.mk ((by rw [hw]; exact below_set (HB.out) GB6.out : Below w0.heap.size w0 w26)); have n2_ := Aside0.mk (Kept.of_grown (S := (fun k_ => P0_ k_)) hg (by repeat (first | (with_reducible first | exact HK.out | apply Kept.alloc | apply Kept.drewN | apply Kept.drew) | exact HK.out)) (fun k_ e_ => (HO_0.out.1 k_ e_))); clear HO_0; clear HB; clear HK; have HO_0 := n0_; have HB := n1_; have HK := n2_; clear n0_ n1_ n2_; clear hg hw hp_) | ((with_reducible refine gate_callee (f := 95) rfl ?_); refine goesL_ (some 52) rfl rfl Tryd.func95 (by kernel_rfl) rfl #[.int .i64 (wrap64 ((wrap64 ((wrap64 ((wrap64 ((wrap64 (x1_1 + 1)) + 1)) + 1)) + 1)) + 1))] rfl (by (try simp only [List.map_toArray, List.map_cons, List.map_nil]); first | done | rfl | (simp only [List.length_drop, List.length_take]; rfl)) ?_; (with_reducible refine (laws_markText.calls k1 (wrap64 ((wrap64 ((wrap64 ((wrap64 ((wrap64 (x1_1 + 1)) + 1)) + 1)) + 1)) + 1)) t560 _ A12.out).mono ?_); rintro e w27 ⟨rfl, hb⟩; refine ⟨_, rfl, ?_⟩; have n0_ := Aside0.mk (Kd.R_below (rU HO_0.out) hb); have n1_ := Aside0.mk (Kept.below (S := (fun k_ => P0_ k_)) (by repeat (first | (with_reducible first | exact HK.out | apply Kept.alloc | apply Kept.drewN | apply Kept.drew) | exact HK.out)) hb); have n2_ := Aside0.mk (below_step (wU HB.out) hb); clear HO_0; clear HK; clear HB; have HO_0 := n0_; have HK := n1_; have HB := n2_; clear n0_ n1_ n2_; (try clear hb); (try clear hb2); (try clear hk); (try clear hi); have p13 : 0 ≤ (x5_1 : Int) := of_decide_eq_true (by first | (with_reducible assumption) | assumption); have q13 : (x5_1 : Int) < ((x0_1.length : Int) : Int) := of_decide_eq_true (by first | (with_reducible assumption) | assumption); obtain ⟨ce13, hcl13, hM13, hcc13, hfr13⟩ := Kd.R_elem HO_0.out z74 (x5_1 : Int) p13 q13; obtain rfl := k74_openM hM13; have hx13_0 : w27.cell? ⟨go6, (x5_1 : Int).toNat * 6, none⟩ = some (.string ((rd_T74 y559 x5_1).f0)) := hcc13 0 _ rfl; have hx13_1 : w27.cell? ⟨go6, (x5_1 : Int).toNat * 6 + 1, none⟩ = some (.int .i64 ((rd_T74 y559 x5_1).f1)) := hcc13 1 _ rfl; have hx13_2 : w27.cell? ⟨go6, (x5_1 : Int).toNat * 6 + 2, none⟩ = some (.int .i64 ((rd_T74 y559 x5_1).f2)) := hcc13 2 _ rfl; have hx13_3 : w27.cell? ⟨go6, (x5_1 : Int).toNat * 6 + 3, none⟩ = some (.int .i64 ((rd_T74 y559 x5_1).f3)) := hcc13 3 _ rfl; have hx13_4 : w27.cell? ⟨go6, (x5_1 : Int).toNat * 6 + 4, none⟩ = some (.string ((rd_T74 y559 x5_1).f4)) := hcc13 4 _ rfl; have hx13_5 : w27.cell? ⟨go6, (x5_1 : Int).toNat * 6 + 5, none⟩ = some (.string ((rd_T74 y559 x5_1).f5)) := hcc13 5 _ rfl; have hf13_0 : w27.frozen? ⟨go6, (x5_1 : Int).toNat * 6, none⟩ = false := hfr13 0; have hf13_1 : w27.frozen? ⟨go6, (x5_1 : Int).toNat * 6 + 1, none⟩ = false := hfr13 1; have hf13_2 : w27.frozen? ⟨go6, (x5_1 : Int).toNat * 6 + 2, none⟩ = false := hfr13 2; have hf13_3 : w27.frozen? ⟨go6, (x5_1 : Int).toNat * 6 + 3, none⟩ = false := hfr13 3; have hf13_4 : w27.frozen? ⟨go6, (x5_1 : Int).toNat * 6 + 4, none⟩ = false := hfr13 4; have hf13_5 : w27.frozen? ⟨go6, (x5_1 : Int).toNat * 6 + 5, none⟩ = false := hfr13 5; clear hcl13 hcc13 hfr13 hM13; replace p13 := eq_true p13; replace q13 := eq_true q13; have HX28 := Aside0.mk (show Kd.R k74 74 w27 w0.heap.size (fun k_ => (P0_ k_ ∨ w.heap.size ≤ k_)) (.slice (some ⟨go6, 0, none⟩) x0_1.length co14) y559 from (rU HO_0.out)); obtain ⟨ce28, hcl28, hM28, hcc28, hfr28⟩ := Kd.R_elem HX28.out z74 (x5_1 : Int) (of_decide_eq_true (by first | (with_reducible assumption) | assumption)) (by have h_ : (x5_1 : Int) < ((x0_1.length : Int) : Int) := of_decide_eq_true (by first | (with_reducible assumption) | assumption); first | exact h_ | (have e_ := (Kd.R_reads' HO_0.out).1; omega) | simpa using h_); obtain rfl := k74_openM hM28; have HP28 := Kd.R_seg HX28.out (x5_1 : Int) (of_decide_eq_true (by first | (with_reducible assumption) | assumption)) (by have h_ : (x5_1 : Int) < ((x0_1.length : Int) : Int) := of_decide_eq_true (by first | (with_reducible assumption) | assumption); first | exact h_ | (have e_ := (Kd.R_reads' HO_0.out).1; omega) | simpa using h_) (seg := [.string t560]) (j := 5) hcl28 hcc28 (show 6 ≤ 6 from by decide) (x' := (⟨(rd_T74 y559 x5_1).f0, (rd_T74 y559 x5_1).f1, (rd_T74 y559 x5_1).f2, (rd_T74 y559 x5_1).f3, (rd_T74 y559 x5_1).f4, t560⟩ : S74)) (k74_mkM _ _ _ (⟨(rd_T74 y559 x5_1).f0, (rd_T74 y559 x5_1).f1, (rd_T74 y559 x5_1).f2, (rd_T74 y559 x5_1).f3, (rd_T74 y559 x5_1).f4, t560⟩ : S74) ) (fun _ hk => hk); have hx28_5 := hcc28 5 _ rfl; (try simp only [show (k74).sz = 6 from rfl, Nat.mul_one, Nat.add_zero] at hx28_5); have hf28_5 := hfr28 5; (try simp only [show (k74).sz = 6 from rfl, Nat.mul_one, Nat.add_zero] at hf28_5); clear hcl28 hcc28 hfr28 hM28) | ((with_reducible refine gate_store (t := 9) (p := 54) rfl ?_); refine store_event (t := 9) (p := 54) (v := ?vo_w29) (w1 := (w27.setCell ⟨go6, (x5_1 : Int).toNat * 6 + 5, none⟩ (.string t560))) ?hg ?ho ?hn ?hr ?_; (case ho => rfl); (case hg => rfl); (case hn => rfl); (case hr => first | (go_simp; done) | (go_simp; rfl)); intro w29 hw; have hg : w27.grownBy w29 (some go6) := (by rw [hw]; exact HP28.2); have hp_ : Kd.R k74 74 w29 w0.heap.size (fun k_ => (P0_ k_ ∨ w.heap.size ≤ k_)) (.slice (some ⟨go6, 0, none⟩) x0_1.length co14) y561 := (by rw [hw, Ny561.out]; exact HP28.1); clear HP28; have n0_ := Aside0.mk (hp_); have n1_ := Aside0.mk ((by rw [hw]; exact below_set (HB.out) GB6.out : Below w0.heap.size w0 w29)); have n2_ := Aside0.mk (Kept.of_grown (S := (fun k_ => P0_ k_)) hg (by repeat (first | (with_reducible first | exact HK.out | apply Kept.alloc | apply Kept.drewN | apply Kept.drew) | exact HK.out)) (fun k_ e_ => (HO_0.out.1 k_ e_))); clear HO_0; clear HB; clear HK; have HO_0 := n0_; have HB := n1_; have HK := n2_; clear n0_ n1_ n2_; clear hg hw hp_))
          go_roundg k1
          case measure => have := HK1.out; omega
          case rel => exact ⟨(y561), (wrap64 ((wrap64 ((wrap64 ((wrap64 ((wrap64 ((wrap64 (x1_1 + 1)) + 1)) + 1)) + 1)) + 1)) + 1)), (wrap64 (x5_1 + 1)), (by first | rfl | (simp; done) | (simp [*]; done) | (simp [X.bne_nil, X.beq_nil]; done) | (simp [*, X.bne_nil, X.beq_nil]; done)), (by first | rfl | (simp; done) | (simp [*]; done) | (simp [X.bne_nil, X.beq_nil]; done) | (simp [*, X.bne_nil, X.beq_nil]; done)), H', ⟨by have := HK1.out; omega⟩, ⟨by (with_reducible repeat (first | apply Kd.R_alloc | apply Kd.R_drewN | apply Kd.R_drew)); exact HO_0.out⟩, ⟨by repeat (first | (with_reducible first | exact HK.out | apply Kept.alloc | apply Kept.drewN | apply Kept.drew) | exact HK.out)⟩, ⟨by repeat (first | (with_reducible first | exact HB.out | apply below_alloc | apply pw_below_drewN | apply below_drew1) | exact HB.out)⟩⟩
        · rw [if_neg c5] at H
          exact absurd H (by simp)
      · rw [if_neg c3] at H
        have c3b0 : decide (x5_1 < (x0_1.length : Int)) = false := decide_eq_false c3
        clear c3
        simp only [Option.some.injEq, Prod.mk.injEq] at H
        obtain ⟨rfl, rfl⟩ := H
        obtain ⟨Ao30, co30, eo30⟩ := Kd.R_slice HO_0.out
        subst eo30
        go_wp2
        go_ret
        exact ⟨by first | rfl | (simp [errW_none, errW_some] <;> rfl) | (simp [*, errW_none, errW_some] <;> rfl), by (with_reducible repeat (first | apply Kd.R_alloc | apply Kd.R_drewN | apply Kd.R_drew)); exact HO_0.out, by repeat (first | (with_reducible first | exact HB.out | apply below_alloc | apply pw_below_drewN | apply below_drew1) | exact HB.out), by repeat (first | (with_reducible first | exact HK.out | apply Kept.alloc | apply Kept.drewN | apply Kept.drew) | exact HK.out)⟩

/-! ### laws_heldByteS: function 20 -/
def laws_heldByteS.l0 : Nat → List Int → Int → Int → Option (Int)
  | 0, _, _, _ => none
  | k + 1, x0, x1, x5 => if x5 < (x0.length : Int) then (if 0 ≤ x5 then (if (rd x0 x5) = ((x1) % 256) then (laws_heldByteS.l0 k x0 (wrap64 (x1 + 1)) (wrap64 (x5 + 1))) else (some (-1))) else (none)) else (some x1)
def laws_heldByteS.f (k : Nat) (l0 : List Int) (a1 : Int) : Option (Int) := laws_heldByteS.l0 k l0 a1 0
theorem laws_heldByteS.mono_l : ∀ k, (∀ y0 y1 y2, LeO (laws_heldByteS.l0 k y0 y1 y2) (laws_heldByteS.l0 (k + 1) y0 y1 y2))
  | 0 => fun _ _ _ r h => by simp [laws_heldByteS.l0] at h
  | k + 1 => by
    have ih0 := laws_heldByteS.mono_l k
    · intro y0 y1 y2
      unfold laws_heldByteS.l0
      repeat' first
      | (with_reducible exact ih0 _ _ _)
      | (with_reducible exact LeO.refl _)
      | (with_reducible exact LeO.none _)
      | (with_reducible refine LeO.ite ?_ ?_)
      | (with_reducible refine LeO.bind ?_ (fun _ => ?_))
      | exact ih0 _ _ _
      | exact LeO.none _
      | refine LeO.ite ?_ ?_
      | refine LeO.bind ?_ (fun _ => ?_)
theorem laws_heldByteS.mono : ∀ a0 a1 k, LeO (laws_heldByteS.f k a0 a1) (laws_heldByteS.f (k + 1) a0 a1) := by
  intro a0 a1 k
  have ih0 := laws_heldByteS.mono_l k
  unfold laws_heldByteS.f
  repeat' first
      | (with_reducible exact ih0 _ _ _)
      | (with_reducible exact LeO.refl _)
      | (with_reducible exact LeO.none _)
      | (with_reducible refine LeO.ite ?_ ?_)
      | (with_reducible refine LeO.bind ?_ (fun _ => ?_))
      | exact ih0 _ _ _
      | exact LeO.none _
      | refine LeO.ite ?_ ?_
      | refine LeO.bind ?_ (fun _ => ?_)
set_option maxHeartbeats 8000000 in
set_option maxRecDepth 100000 in
theorem laws_heldByteS.calls (k : Nat) (A0 : Option Addr) (c0 : Nat) (l0 : List Int) (a1 : Int) (r : Int) (w : World) (hr0 : Kd.C (Kd.int .u8) w A0 l0.length l0) (hc0 : l0.length ≤ c0) (h : laws_heldByteS.f k l0 a1 = some r) :
    Calls Tryd.prog 20 #[.slice A0 l0.length c0, .int .i64 a1] w fun e w' => e = .returned (.int .i64 r) ∧ Drawn0 w w' := by
  have HR0 := Aside0.mk hr0
  have HC0 := Aside0.mk hc0
  clear hr0 hc0
  have H : (laws_heldByteS.l0 k l0 a1 0) = some r := h
  clear h
  have H' := Aside0.mk H
  clear H
  go_enter Tryd.func20, Tryd.ntmps20
  go_wp2
  go_loopg [1, 5] k (fun kq v1 v5 w' => ∃ (x1_1 : Int) (x5_1 : Int), v1 = .int .i64 x1_1 ∧ v5 = .int .i64 x5_1 ∧ Aside0 (laws_heldByteS.l0 kq l0 x1_1 x5_1 = some r) ∧ Aside0 (kq ≤ k) ∧ Drawn0 w w')
  case atStart => exact ⟨(a1), (0), (by first | rfl | (simp; done) | (simp [*]; done) | (simp [X.bne_nil, X.beq_nil]; done) | (simp [*, X.bne_nil, X.beq_nil]; done)), (by first | rfl | (simp; done) | (simp [*]; done) | (simp [X.bne_nil, X.beq_nil]; done) | (simp [*, X.bne_nil, X.beq_nil]; done)), H', ⟨Nat.le_refl _⟩, by repeat (first | exact Drawn0.refl _ | apply Drawn0.step)⟩
  case round =>
    clear H'
    try clear c2
    try clear p2
    obtain ⟨x1_1, x5_1, rfl, rfl, HA, HK1, ⟨m1, rfl⟩⟩ := hrel
    cases gk with
    | zero => exact absurd HA.out (by simp [laws_heldByteS.l0])
    | succ k1 =>
      have H := HA.out
      clear HA
      simp only [laws_heldByteS.l0] at H
      by_cases c3 : x5_1 < (l0.length : Int)
      · rw [if_pos c3] at H
        have c3b0 : decide (x5_1 < (l0.length : Int)) = true := decide_eq_true c3
        clear c3
        by_cases c4 : 0 ≤ x5_1
        · rw [if_pos c4] at H
          have c4b0 : decide (0 ≤ x5_1) = true := decide_eq_true c4
          clear c4
          by_cases c5 : (rd l0 x5_1) = ((x1_1) % 256)
          · rw [if_pos c5] at H
            have c5b0 : ((rd l0 x5_1) == ((x1_1) % 256)) = true := beq_iff_eq.mpr c5
            have c5b1 : ((rd l0 x5_1) != ((x1_1) % 256)) = false := bne_eq_false_iff_eq.mpr c5
            clear c5
            have H' := Aside0.mk H
            clear H
            have p562 : 0 ≤ (x5_1 : Int) := of_decide_eq_true (by first | (with_reducible assumption) | assumption)
            have q562 : x5_1 < (l0.length : Int) := of_decide_eq_true (by first | (with_reducible assumption) | assumption)
            obtain ⟨ad562, e562, hx562_0⟩ := Kd.at_int HR0.out x5_1 p562 q562
            cases e562
            replace p562 := eq_true p562
            replace q562 := eq_true q562
            go_wp2
            go_roundg k1
            case measure => have := HK1.out; omega
            case rel => exact ⟨(wrap64 (x1_1 + 1)), (wrap64 (x5_1 + 1)), (by first | rfl | (simp; done) | (simp [*]; done) | (simp [X.bne_nil, X.beq_nil]; done) | (simp [*, X.bne_nil, X.beq_nil]; done)), (by first | rfl | (simp; done) | (simp [*]; done) | (simp [X.bne_nil, X.beq_nil]; done) | (simp [*, X.bne_nil, X.beq_nil]; done)), H', ⟨by have := HK1.out; omega⟩, by repeat (first | exact Drawn0.refl _ | apply Drawn0.step)⟩
          · rw [if_neg c5] at H
            have c5b0 : ((rd l0 x5_1) == ((x1_1) % 256)) = false := beq_eq_false_iff_ne.mpr c5
            have c5b1 : ((rd l0 x5_1) != ((x1_1) % 256)) = true := bne_iff_ne.mpr c5
            obtain rfl := Option.some.inj H
            have p562 : 0 ≤ (x5_1 : Int) := of_decide_eq_true (by first | (with_reducible assumption) | assumption)
            have q562 : x5_1 < (l0.length : Int) := of_decide_eq_true (by first | (with_reducible assumption) | assumption)
            obtain ⟨ad562, e562, hx562_0⟩ := Kd.at_int HR0.out x5_1 p562 q562
            cases e562
            replace p562 := eq_true p562
            replace q562 := eq_true q562
            go_wp2
            go_ret
            exact ⟨by first | rfl | (simp; done) | (simp [*]; done) | (simp [X.bne_nil, X.beq_nil]; done) | (simp [*, X.bne_nil, X.beq_nil]; done) | (simp [X.bne_nil, X.beq_nil]; done), by repeat (first | exact Drawn0.refl _ | apply Drawn0.step)⟩
        · rw [if_neg c4] at H
          exact absurd H (by simp)
      · rw [if_neg c3] at H
        have c3b0 : decide (x5_1 < (l0.length : Int)) = false := decide_eq_false c3
        clear c3
        obtain rfl := Option.some.inj H
        go_wp2
        go_ret
        exact ⟨by first | rfl | (simp; done) | (simp [*]; done) | (simp [X.bne_nil, X.beq_nil]; done) | (simp [*, X.bne_nil, X.beq_nil]; done) | (simp [X.bne_nil, X.beq_nil]; done), by repeat (first | exact Drawn0.refl _ | apply Drawn0.step)⟩

/-! ### laws_FnExactPutRecords: function 3 -/
def laws_FnExactPutRecords.f (k : Nat) (l0 : List Int) (l1 : List (S86)) : Option (Bool) := if (l0.length : Int) > 1048576 then (some true) else ((laws_szRecordS.f k l1 1048576).bind fun t563 => (if t563 < 0 then (some true) else ((laws_toByteS.f k l0).bind fun t564 => ((laws_toRecordS.f k l1).bind fun t567 => ((spec_PutRecords.f k t564 t567).bind fun t570 => ((laws_toByteS.f k l0).bind fun t573 => ((laws_toRecordS.f k l1).bind fun t576 => ((impl_PutRecords.f k t573 t576).bind fun t579 => ((laws_eqByteS.f k t579 t570).bind fun t582 => (if t582 = true then ((laws_toByteS.f k l0).bind fun t583 => ((laws_eqByteS.f k t573 t583).bind fun t586 => (if t586 = true then ((laws_toRecordS.f k l1).bind fun t587 => ((laws_eqRecordS.f k t576 t587).bind fun t590 => (if t590 = true then ((laws_markByteS.f k t573 1).bind fun bt591 => ((laws_markRecordS.f k t576 bt591.1).bind fun bt593 => (if bt593.1 < 0 then (some false) else ((laws_eqByteS.f k t579 t570).bind fun t595 => (if t595 = true then ((laws_markByteS.f k t579 1).bind fun bt596 => ((laws_heldByteS.f k bt596.2 1).bind fun t598 => (if t598 < 0 then (some false) else (if t598 = bt596.1 then ((laws_toByteS.f k l0).bind fun t599 => ((laws_toRecordS.f k l1).bind fun t602 => ((impl_PutRecords.f k t599 t602).bind fun t605 => ((laws_eqByteS.f k t605 t570).bind fun t608 => (if t608 = true then ((laws_heldByteS.f k bt596.2 1).bind fun t609 => (if t609 < 0 then (some false) else (if t609 = bt596.1 then (some true) else (some false)))) else (some false)))))) else (some false))))) else (some false)))))) else (some false)))) else (some false)))) else (some false)))))))))))
theorem laws_FnExactPutRecords.mono : ∀ a0 a1 k, LeO (laws_FnExactPutRecords.f k a0 a1) (laws_FnExactPutRecords.f (k + 1) a0 a1) := by
  intro a0 a1 k
  unfold laws_FnExactPutRecords.f
  repeat' first
      | (with_reducible exact impl_PutRecords.mono _ _ _)
      | (with_reducible exact laws_eqByteS.mono _ _ _)
      | (with_reducible exact laws_eqRecordS.mono _ _ _)
      | (with_reducible exact laws_heldByteS.mono _ _ _)
      | (with_reducible exact laws_markByteS.mono _ _ _)
      | (with_reducible exact laws_markRecordS.mono _ _ _)
      | (with_reducible exact laws_szRecordS.mono _ _ _)
      | (with_reducible exact laws_toByteS.mono _ _)
      | (with_reducible exact laws_toRecordS.mono _ _)
      | (with_reducible exact spec_PutRecords.mono _ _ _)
      | (with_reducible exact LeO.refl _)
      | (with_reducible exact LeO.none _)
      | (with_reducible refine LeO.ite ?_ ?_)
      | (with_reducible refine LeO.bind ?_ (fun _ => ?_))
      | exact impl_PutRecords.mono _ _ _
      | exact laws_eqByteS.mono _ _ _
      | exact laws_eqRecordS.mono _ _ _
      | exact laws_heldByteS.mono _ _ _
      | exact laws_markByteS.mono _ _ _
      | exact laws_markRecordS.mono _ _ _
      | exact laws_szRecordS.mono _ _ _
      | exact laws_toByteS.mono _ _
      | exact laws_toRecordS.mono _ _
      | exact spec_PutRecords.mono _ _ _
      | exact LeO.none _
      | refine LeO.ite ?_ ?_
      | refine LeO.bind ?_ (fun _ => ?_)
set_option maxHeartbeats 8000000 in
set_option maxRecDepth 100000 in
theorem laws_FnExactPutRecords.calls (k : Nat) (A0 : Option Addr) (c0 : Nat) (l0 : List Int) (A1 : Option Addr) (c1 : Nat) (l1 : List (S86)) (r : Bool) (w : World) (hr0 : Kd.C (Kd.int .u8) w A0 l0.length l0) (hc0 : l0.length ≤ c0) (hr1 : Kd.C k86 w A1 l1.length l1) (hc1 : l1.length ≤ c1) (hrt_ : r = true) (h : laws_FnExactPutRecords.f k l0 l1 = some r) :
    Calls Tryd.prog 3 #[.slice A0 l0.length c0, .slice A1 l1.length c1] w fun e w' => e = .returned (.bool r) ∧ Below w.heap.size w w' := by
  have HR0 := Aside0.mk hr0
  have HC0 := Aside0.mk hc0
  clear hr0 hc0
  have HR1 := Aside0.mk hr1
  have HC1 := Aside0.mk hc1
  clear hr1 hc1
  have HB := Aside0.mk (Below.refl w.heap.size w)
  have H : (if (l0.length : Int) > 1048576 then (some true) else ((laws_szRecordS.f k l1 1048576).bind fun t563 => (if t563 < 0 then (some true) else ((laws_toByteS.f k l0).bind fun t564 => ((laws_toRecordS.f k l1).bind fun t567 => ((spec_PutRecords.f k t564 t567).bind fun t570 => ((laws_toByteS.f k l0).bind fun t573 => ((laws_toRecordS.f k l1).bind fun t576 => ((impl_PutRecords.f k t573 t576).bind fun t579 => ((laws_eqByteS.f k t579 t570).bind fun t582 => (if t582 = true then ((laws_toByteS.f k l0).bind fun t583 => ((laws_eqByteS.f k t573 t583).bind fun t586 => (if t586 = true then ((laws_toRecordS.f k l1).bind fun t587 => ((laws_eqRecordS.f k t576 t587).bind fun t590 => (if t590 = true then ((laws_markByteS.f k t573 1).bind fun bt591 => ((laws_markRecordS.f k t576 bt591.1).bind fun bt593 => (if bt593.1 < 0 then (some false) else ((laws_eqByteS.f k t579 t570).bind fun t595 => (if t595 = true then ((laws_markByteS.f k t579 1).bind fun bt596 => ((laws_heldByteS.f k bt596.2 1).bind fun t598 => (if t598 < 0 then (some false) else (if t598 = bt596.1 then ((laws_toByteS.f k l0).bind fun t599 => ((laws_toRecordS.f k l1).bind fun t602 => ((impl_PutRecords.f k t599 t602).bind fun t605 => ((laws_eqByteS.f k t605 t570).bind fun t608 => (if t608 = true then ((laws_heldByteS.f k bt596.2 1).bind fun t609 => (if t609 < 0 then (some false) else (if t609 = bt596.1 then (some true) else (some false)))) else (some false)))))) else (some false))))) else (some false)))))) else (some false)))) else (some false)))) else (some false)))))))))))) = some r := h
  clear h
  by_cases c3 : (l0.length : Int) > 1048576
  · rw [if_pos c3] at H
    have c3b0 : decide (1048576 < (l0.length : Int)) = true := decide_eq_true c3
    have c3b1 : decide (1048576 < l0.length) = true := decide_eq_true (by omega)
    clear c3
    obtain rfl := Option.some.inj H
    go_enter Tryd.func3, Tryd.ntmps3
    go_wp2
    go_ret
    exact ⟨by first | rfl | (simp [errW_none, errW_some] <;> rfl) | (simp [*, errW_none, errW_some] <;> rfl) | (exfalso; simp_all; done) | ((have ai_ : ∀ p : Prop, Aside0 p ↔ p := fun p => ⟨fun h => h.out, fun h => ⟨h⟩⟩); simp_all [ai_]; done), by repeat (first | (with_reducible first | exact HB.out | apply below_alloc | apply pw_below_drewN | apply below_drew1) | exact HB.out)⟩
  · rw [if_neg c3] at H
    have c3b0 : decide (1048576 < (l0.length : Int)) = false := decide_eq_false c3
    have c3b1 : decide (1048576 < l0.length) = false := decide_eq_false (by omega)
    clear c3
    replace H := Option.bind_eq_some_iff.mp H
    obtain ⟨t563, A40, H⟩ := H
    try dsimp only at H
    have A4 := Aside0.mk A40
    clear A40
    by_cases c5 : t563 < 0
    · rw [if_pos c5] at H
      have c5b0 : decide (t563 < 0) = true := decide_eq_true c5
      clear c5
      obtain rfl := Option.some.inj H
      go_enter Tryd.func3, Tryd.ntmps3
      go_wp2_with (first | ((with_reducible refine gate_callee (f := 11) rfl ?_); refine goesL_ (some 19) rfl rfl Tryd.func11 (by kernel_rfl) rfl #[.slice A1 l1.length c1, .int .i64 1048576] rfl (by (try simp only [List.map_toArray, List.map_cons, List.map_nil]); first | done | rfl | (simp only [List.length_drop, List.length_take]; rfl)) ?_; (with_reducible refine (laws_szRecordS.calls k _ _ l1 1048576 t563 _ ?side1 ?side2 A4.out).mono ?_); (case side1 => exact cU (HR1.out)); (case side2 => exact HC1.out); rintro e w6 ⟨rfl, hb⟩; refine ⟨_, rfl, ?_⟩; have n0_ := Aside0.mk (below_step (wU HB.out) hb); clear HB; have HB := n0_; clear n0_; (try clear hb); (try clear hb2); (try clear hk); (try clear hi)))
      go_ret
      exact ⟨by first | rfl | (simp [errW_none, errW_some] <;> rfl) | (simp [*, errW_none, errW_some] <;> rfl) | (exfalso; simp_all; done) | ((have ai_ : ∀ p : Prop, Aside0 p ↔ p := fun p => ⟨fun h => h.out, fun h => ⟨h⟩⟩); simp_all [ai_]; done), by repeat (first | (with_reducible first | exact HB.out | apply below_alloc | apply pw_below_drewN | apply below_drew1) | exact HB.out)⟩
    · rw [if_neg c5] at H
      have c5b0 : decide (t563 < 0) = false := decide_eq_false c5
      clear c5
      replace H := Option.bind_eq_some_iff.mp H
      obtain ⟨t564, A70, H⟩ := H
      try dsimp only at H
      have A7 := Aside0.mk A70
      clear A70
      replace H := Option.bind_eq_some_iff.mp H
      obtain ⟨t567, A80, H⟩ := H
      try dsimp only at H
      have A8 := Aside0.mk A80
      clear A80
      replace H := Option.bind_eq_some_iff.mp H
      obtain ⟨t570, A90, H⟩ := H
      try dsimp only at H
      have A9 := Aside0.mk A90
      clear A90
      replace H := Option.bind_eq_some_iff.mp H
      obtain ⟨t573, A100, H⟩ := H
      try dsimp only at H
      have A10 := Aside0.mk A100
      clear A100
      replace H := Option.bind_eq_some_iff.mp H
      obtain ⟨t576, A110, H⟩ := H
      try dsimp only at H
      have A11 := Aside0.mk A110
      clear A110
      replace H := Option.bind_eq_some_iff.mp H
      obtain ⟨t579, A120, H⟩ := H
      try dsimp only at H
      have A12 := Aside0.mk A120
      clear A120
      replace H := Option.bind_eq_some_iff.mp H
      obtain ⟨t582, A130, H⟩ := H
      try dsimp only at H
      have A13 := Aside0.mk A130
      clear A130
      by_cases c14 : t582 = true
      · subst c14
        have H1 : ((laws_toByteS.f k l0).bind fun t583 => ((laws_eqByteS.f k t573 t583).bind fun t586 => (if t586 = true then ((laws_toRecordS.f k l1).bind fun t587 => ((laws_eqRecordS.f k t576 t587).bind fun t590 => (if t590 = true then ((laws_markByteS.f k t573 1).bind fun bt591 => ((laws_markRecordS.f k t576 bt591.1).bind fun bt593 => (if bt593.1 < 0 then (some false) else ((laws_eqByteS.f k t579 t570).bind fun t595 => (if t595 = true then ((laws_markByteS.f k t579 1).bind fun bt596 => ((laws_heldByteS.f k bt596.2 1).bind fun t598 => (if t598 < 0 then (some false) else (if t598 = bt596.1 then ((laws_toByteS.f k l0).bind fun t599 => ((laws_toRecordS.f k l1).bind fun t602 => ((impl_PutRecords.f k t599 t602).bind fun t605 => ((laws_eqByteS.f k t605 t570).bind fun t608 => (if t608 = true then ((laws_heldByteS.f k bt596.2 1).bind fun t609 => (if t609 < 0 then (some false) else (if t609 = bt596.1 then (some true) else (some false)))) else (some false)))))) else (some false))))) else (some false)))))) else (some false)))) else (some false)))) = some r := by rw [if_pos rfl] at H; exact H
        clear H
        have H := H1
        clear H1
        replace H := Option.bind_eq_some_iff.mp H
        obtain ⟨t583, A150, H⟩ := H
        try dsimp only at H
        have A15 := Aside0.mk A150
        clear A150
        replace H := Option.bind_eq_some_iff.mp H
        obtain ⟨t586, A160, H⟩ := H
        try dsimp only at H
        have A16 := Aside0.mk A160
        clear A160
        by_cases c17 : t586 = true
        · subst c17
          have H1 : ((laws_toRecordS.f k l1).bind fun t587 => ((laws_eqRecordS.f k t576 t587).bind fun t590 => (if t590 = true then ((laws_markByteS.f k t573 1).bind fun bt591 => ((laws_markRecordS.f k t576 bt591.1).bind fun bt593 => (if bt593.1 < 0 then (some false) else ((laws_eqByteS.f k t579 t570).bind fun t595 => (if t595 = true then ((laws_markByteS.f k t579 1).bind fun bt596 => ((laws_heldByteS.f k bt596.2 1).bind fun t598 => (if t598 < 0 then (some false) else (if t598 = bt596.1 then ((laws_toByteS.f k l0).bind fun t599 => ((laws_toRecordS.f k l1).bind fun t602 => ((impl_PutRecords.f k t599 t602).bind fun t605 => ((laws_eqByteS.f k t605 t570).bind fun t608 => (if t608 = true then ((laws_heldByteS.f k bt596.2 1).bind fun t609 => (if t609 < 0 then (some false) else (if t609 = bt596.1 then (some true) else (some false)))) else (some false)))))) else (some false))))) else (some false)))))) else (some false)))) = some r := by rw [if_pos rfl] at H; exact H
          clear H
          have H := H1
          clear H1
          replace H := Option.bind_eq_some_iff.mp H
          obtain ⟨t587, A180, H⟩ := H
          try dsimp only at H
          have A18 := Aside0.mk A180
          clear A180
          replace H := Option.bind_eq_some_iff.mp H
          obtain ⟨t590, A190, H⟩ := H
          try dsimp only at H
          have A19 := Aside0.mk A190
          clear A190
          by_cases c20 : t590 = true
          · subst c20
            have H1 : ((laws_markByteS.f k t573 1).bind fun bt591 => ((laws_markRecordS.f k t576 bt591.1).bind fun bt593 => (if bt593.1 < 0 then (some false) else ((laws_eqByteS.f k t579 t570).bind fun t595 => (if t595 = true then ((laws_markByteS.f k t579 1).bind fun bt596 => ((laws_heldByteS.f k bt596.2 1).bind fun t598 => (if t598 < 0 then (some false) else (if t598 = bt596.1 then ((laws_toByteS.f k l0).bind fun t599 => ((laws_toRecordS.f k l1).bind fun t602 => ((impl_PutRecords.f k t599 t602).bind fun t605 => ((laws_eqByteS.f k t605 t570).bind fun t608 => (if t608 = true then ((laws_heldByteS.f k bt596.2 1).bind fun t609 => (if t609 < 0 then (some false) else (if t609 = bt596.1 then (some true) else (some false)))) else (some false)))))) else (some false))))) else (some false)))))) = some r := by rw [if_pos rfl] at H; exact H
            clear H
            have H := H1
            clear H1
            replace H := Option.bind_eq_some_iff.mp H
            obtain ⟨⟨t591, t592⟩, A210, H⟩ := H
            try dsimp only at H
            have A21 := Aside0.mk A210
            clear A210
            replace H := Option.bind_eq_some_iff.mp H
            obtain ⟨⟨t593, t594⟩, A220, H⟩ := H
            try dsimp only at H
            have A22 := Aside0.mk A220
            clear A220
            by_cases c23 : t593 < 0
            · rw [if_pos c23] at H
              have c23b0 : decide (t593 < 0) = true := decide_eq_true c23
              clear c23
              exact absurd (H.trans (congrArg some hrt_)) (by simp)
            · rw [if_neg c23] at H
              have c23b0 : decide (t593 < 0) = false := decide_eq_false c23
              clear c23
              replace H := Option.bind_eq_some_iff.mp H
              obtain ⟨t595, A240, H⟩ := H
              try dsimp only at H
              have A24 := Aside0.mk A240
              clear A240
              by_cases c25 : t595 = true
              · subst c25
                have H1 : ((laws_markByteS.f k t579 1).bind fun bt596 => ((laws_heldByteS.f k bt596.2 1).bind fun t598 => (if t598 < 0 then (some false) else (if t598 = bt596.1 then ((laws_toByteS.f k l0).bind fun t599 => ((laws_toRecordS.f k l1).bind fun t602 => ((impl_PutRecords.f k t599 t602).bind fun t605 => ((laws_eqByteS.f k t605 t570).bind fun t608 => (if t608 = true then ((laws_heldByteS.f k bt596.2 1).bind fun t609 => (if t609 < 0 then (some false) else (if t609 = bt596.1 then (some true) else (some false)))) else (some false)))))) else (some false))))) = some r := by rw [if_pos rfl] at H; exact H
                clear H
                have H := H1
                clear H1
                replace H := Option.bind_eq_some_iff.mp H
                obtain ⟨⟨t596, t597⟩, A260, H⟩ := H
                try dsimp only at H
                have A26 := Aside0.mk A260
                clear A260
                replace H := Option.bind_eq_some_iff.mp H
                obtain ⟨t598, A270, H⟩ := H
                try dsimp only at H
                have A27 := Aside0.mk A270
                clear A270
                by_cases c28 : t598 < 0
                · rw [if_pos c28] at H
                  have c28b0 : decide (t598 < 0) = true := decide_eq_true c28
                  clear c28
                  exact absurd (H.trans (congrArg some hrt_)) (by simp)
                · rw [if_neg c28] at H
                  have c28b0 : decide (t598 < 0) = false := decide_eq_false c28
                  clear c28
                  by_cases c29 : t598 = t596
                  · rw [if_pos c29] at H
                    have c29b0 : (t598 == t596) = true := beq_iff_eq.mpr c29
                    have c29b1 : (t598 != t596) = false := bne_eq_false_iff_eq.mpr c29
                    clear c29
                    replace H := Option.bind_eq_some_iff.mp H
                    obtain ⟨t599, A300, H⟩ := H
                    try dsimp only at H
                    have A30 := Aside0.mk A300
                    clear A300
                    replace H := Option.bind_eq_some_iff.mp H
                    obtain ⟨t602, A310, H⟩ := H
                    try dsimp only at H
                    have A31 := Aside0.mk A310
                    clear A310
                    replace H := Option.bind_eq_some_iff.mp H
                    obtain ⟨t605, A320, H⟩ := H
                    try dsimp only at H
                    have A32 := Aside0.mk A320
                    clear A320
                    replace H := Option.bind_eq_some_iff.mp H
                    obtain ⟨t608, A330, H⟩ := H
                    try dsimp only at H
                    have A33 := Aside0.mk A330
                    clear A330
                    by_cases c34 : t608 = true
                    · subst c34
                      have H1 : ((laws_heldByteS.f k t597 1).bind fun t609 => (if t609 < 0 then (some false) else (if t609 = t596 then (some true) else (some false)))) = some r := by rw [if_pos rfl] at H; exact H
                      clear H
                      have H := H1
                      clear H1
                      replace H := Option.bind_eq_some_iff.mp H
                      obtain ⟨t609, A350, H⟩ := H
                      try dsimp only at H
                      have A35 := Aside0.mk A350
                      clear A350
                      by_cases c36 : t609 < 0
                      · rw [if_pos c36] at H
                        have c36b0 : decide (t609 < 0) = true := decide_eq_true c36
                        clear c36
                        exact absurd (H.trans (congrArg some hrt_)) (by simp)
                      · rw [if_neg c36] at H
                        have c36b0 : decide (t609 < 0) = false := decide_eq_false c36
                        clear c36
                        by_cases c37 : t609 = t596
                        · rw [if_pos c37] at H
                          have c37b0 : (t609 == t596) = true := beq_iff_eq.mpr c37
                          have c37b1 : (t609 != t596) = false := bne_eq_false_iff_eq.mpr c37
                          clear c37
                          obtain rfl := Option.some.inj H
                          go_enter Tryd.func3, Tryd.ntmps3
                          go_wp2_with (first | ((with_reducible refine gate_callee (f := 11) rfl ?_); refine goesL_ (some 19) rfl rfl Tryd.func11 (by kernel_rfl) rfl #[.slice A1 l1.length c1, .int .i64 1048576] rfl (by (try simp only [List.map_toArray, List.map_cons, List.map_nil]); first | done | rfl | (simp only [List.length_drop, List.length_take]; rfl)) ?_; (with_reducible refine (laws_szRecordS.calls k _ _ l1 1048576 t563 _ ?side1 ?side2 A4.out).mono ?_); (case side1 => exact cU (HR1.out)); (case side2 => exact HC1.out); rintro e w38 ⟨rfl, hb⟩; refine ⟨_, rfl, ?_⟩; have n0_ := Aside0.mk (below_step (wU HB.out) hb); clear HB; have HB := n0_; clear n0_; (try clear hb); (try clear hb2); (try clear hk); (try clear hi)) | ((with_reducible refine gate_callee (f := 13) rfl ?_); refine goesL_ (some 23) rfl rfl Tryd.func13 (by kernel_rfl) rfl #[.slice A0 l0.length c0] rfl (by (try simp only [List.map_toArray, List.map_cons, List.map_nil]); first | done | rfl | (simp only [List.length_drop, List.length_take]; rfl)) ?_; (with_reducible refine (laws_toByteS.calls k _ _ l0 t564 _ ?side1 ?side2 A7.out).mono ?_); (case side1 => exact cU ((Kd.C_below HR0.out HB.out))); (case side2 => exact HC0.out); rintro e w39 ⟨v565, rfl, ho0, hb⟩; refine ⟨_, rfl, ?_⟩; have n0_ := Aside0.mk (Kd.R_lower ho0 (below_size (wU HB.out))); have n1_ := Aside0.mk (below_step (wU HB.out) hb); clear HB; have HO566 := n0_; have HB := n1_; clear n0_ n1_; (try clear hb); (try clear hb2); (try clear hk); (try clear hi); (try clear ho0)) | ((with_reducible refine gate_callee (f := 14) rfl ?_); refine goesL_ (some 25) rfl rfl Tryd.func14 (by kernel_rfl) rfl #[.slice A1 l1.length c1] rfl (by (try simp only [List.map_toArray, List.map_cons, List.map_nil]); first | done | rfl | (simp only [List.length_drop, List.length_take]; rfl)) ?_; (with_reducible refine (laws_toRecordS.calls k _ _ l1 t567 _ ?side1 ?side2 A8.out).mono ?_); (case side1 => exact cU ((Kd.C_below HR1.out HB.out))); (case side2 => exact HC1.out); rintro e w40 ⟨v568, rfl, ho0, hb⟩; refine ⟨_, rfl, ?_⟩; have n0_ := Aside0.mk (Kd.R_below (rU HO566.out) hb); have n1_ := Aside0.mk (Kd.R_lower ho0 (below_size (wU HB.out))); have n2_ := Aside0.mk (below_step (wU HB.out) hb); clear HO566; clear HB; have HO566 := n0_; have HO569 := n1_; have HB := n2_; clear n0_ n1_ n2_; (try clear hb); (try clear hb2); (try clear hk); (try clear hi); (try clear ho0); obtain ⟨Ao41, co41, eo41⟩ := Kd.R_slice HO566.out; subst eo41; obtain ⟨Ao42, co42, eo42⟩ := Kd.R_slice HO569.out; subst eo42) | ((with_reducible refine gate_callee (f := 12) rfl ?_); refine goesL_ (some 26) rfl rfl Tryd.func12 (by kernel_rfl) rfl #[.slice Ao41 t564.length co41, .slice Ao42 t567.length co42] rfl (by (try simp only [List.map_toArray, List.map_cons, List.map_nil]); first | done | rfl | (simp only [List.length_drop, List.length_take]; rfl)) ?_; (with_reducible refine (spec_PutRecords.calls k _ _ t564 _ _ t567 t570 _ ?side1 ?side2 ?side3 ?side4 A9.out).mono ?_); (case side1 => exact cU ((Kd.R_reads' HO566.out).2.2)); (case side2 => exact (Kd.R_reads' HO566.out).2.1); (case side3 => exact cU ((Kd.R_reads' HO569.out).2.2)); (case side4 => exact (Kd.R_reads' HO569.out).2.1); rintro e w43 ⟨v571, rfl, ho0, hb⟩; refine ⟨_, rfl, ?_⟩; have n0_ := Aside0.mk (Kd.R_elder' (rU HO566.out) (Kd.R_base ho0) hb); have n1_ := Aside0.mk (Kd.R_below (rU HO569.out) hb); have n2_ := Aside0.mk (Kd.R_lower (Kd.R_new' ho0 (Kd.R_lt (rU HO566.out))) (below_size (wU HB.out))); have n3_ := Aside0.mk (below_step (wU HB.out) hb); clear HO566; clear HO569; clear HB; have HO566 := n0_; have HO569 := n1_; have HO572 := n2_; have HB := n3_; clear n0_ n1_ n2_ n3_; (try clear hb); (try clear hb2); (try clear hk); (try clear hi); (try clear ho0)) | ((with_reducible refine gate_callee (f := 13) rfl ?_); refine goesL_ (some 28) rfl rfl Tryd.func13 (by kernel_rfl) rfl #[.slice A0 l0.length c0] rfl (by (try simp only [List.map_toArray, List.map_cons, List.map_nil]); first | done | rfl | (simp only [List.length_drop, List.length_take]; rfl)) ?_; (with_reducible refine (laws_toByteS.calls k _ _ l0 t573 _ ?side1 ?side2 A10.out).mono ?_); (case side1 => exact cU ((Kd.C_below HR0.out HB.out))); (case side2 => exact HC0.out); rintro e w44 ⟨v574, rfl, ho0, hb⟩; refine ⟨_, rfl, ?_⟩; have n0_ := Aside0.mk (Kd.R_elder' (rU HO572.out) (Kd.R_base ho0) hb); have n1_ := Aside0.mk (Kd.R_lower (Kd.R_new' ho0 (Kd.R_lt (rU HO572.out))) (below_size (wU HB.out))); have n2_ := Aside0.mk (below_step (wU HB.out) hb); clear HO572; clear HB; have HO572 := n0_; have HO575 := n1_; have HB := n2_; clear n0_ n1_ n2_; (try clear hb); (try clear hb2); (try clear hk); (try clear hi); (try clear ho0)) | ((with_reducible refine gate_callee (f := 14) rfl ?_); refine goesL_ (some 30) rfl rfl Tryd.func14 (by kernel_rfl) rfl #[.slice A1 l1.length c1] rfl (by (try simp only [List.map_toArray, List.map_cons, List.map_nil]); first | done | rfl | (simp only [List.length_drop, List.length_take]; rfl)) ?_; (with_reducible refine (laws_toRecordS.calls k _ _ l1 t576 _ ?side1 ?side2 A11.out).mono ?_); (case side1 => exact cU ((Kd.C_below HR1.out HB.out))); (case side2 => exact HC1.out); rintro e w45 ⟨v577, rfl, ho0, hb⟩; refine ⟨_, rfl, ?_⟩; have n0_ := Aside0.mk (Kd.R_below (rU HO572.out) hb); have n1_ := Aside0.mk (Kd.R_below (rU HO575.out) hb); have n2_ := Aside0.mk (Kd.R_lower ho0 (below_size (wU HB.out))); have n3_ := Aside0.mk (below_step (wU HB.out) hb); clear HO572; clear HO575; clear HB; have HO572 := n0_; have HO575 := n1_; have HO578 := n2_; have HB := n3_; clear n0_ n1_ n2_ n3_; (try clear hb); (try clear hb2); (try clear hk); (try clear hi); (try clear ho0); obtain ⟨Ao46, co46, eo46⟩ := Kd.R_slice HO575.out; subst eo46; obtain ⟨Ao47, co47, eo47⟩ := Kd.R_slice HO578.out; subst eo47) | ((with_reducible refine gate_callee (f := 15) rfl ?_); refine goesL_ (some 33) rfl rfl Tryd.func15 (by kernel_rfl) rfl #[.slice Ao46 t573.length co46, .slice Ao47 t576.length co47] rfl (by (try simp only [List.map_toArray, List.map_cons, List.map_nil]); first | done | rfl | (simp only [List.length_drop, List.length_take]; rfl)) ?_; (with_reducible refine (impl_PutRecords.calls k _ _ t573 _ _ t576 t579 _ ?side1 ?side2 ?side3 ?side4 A12.out).mono ?_); (case side1 => exact cU ((Kd.R_reads' HO575.out).2.2)); (case side2 => exact (Kd.R_reads' HO575.out).2.1); (case side3 => exact cU ((Kd.R_reads' HO578.out).2.2)); (case side4 => exact (Kd.R_reads' HO578.out).2.1); rintro e w48 ⟨v580, rfl, ho0, hb⟩; refine ⟨_, rfl, ?_⟩; have n0_ := Aside0.mk (Kd.R_elder' (rU HO572.out) (Kd.R_base ho0) hb); have n1_ := Aside0.mk (Kd.R_elder' (rU HO575.out) (Kd.R_base ho0) hb); have n2_ := Aside0.mk (Kd.R_below (rU HO578.out) hb); have n3_ := Aside0.mk (Kd.R_lower (Kd.R_new' (Kd.R_new' ho0 (Kd.R_lt (rU HO572.out))) (Kd.R_lt (rU HO575.out))) (below_size (wU HB.out))); have n4_ := Aside0.mk (below_step (wU HB.out) hb); clear HO572; clear HO575; clear HO578; clear HB; have HO572 := n0_; have HO575 := n1_; have HO578 := n2_; have HO581 := n3_; have HB := n4_; clear n0_ n1_ n2_ n3_ n4_; (try clear hb); (try clear hb2); (try clear hk); (try clear hi); (try clear ho0); obtain ⟨Ao49, co49, eo49⟩ := Kd.R_slice HO581.out; subst eo49; obtain ⟨Ao50, co50, eo50⟩ := Kd.R_slice HO572.out; subst eo50) | ((with_reducible refine gate_callee (f := 16) rfl ?_); refine goesL_ (some 36) rfl rfl Tryd.func16 (by kernel_rfl) rfl #[.slice Ao49 t579.length co49, .slice Ao50 t570.length co50] rfl (by (try simp only [List.map_toArray, List.map_cons, List.map_nil]); first | done | rfl | (simp only [List.length_drop, List.length_take]; rfl)) ?_; (with_reducible refine (laws_eqByteS.calls k _ _ t579 _ _ t570 true _ ?side1 ?side2 ?side3 ?side4 A13.out).mono ?_); (case side1 => exact cU ((Kd.R_reads' HO581.out).2.2)); (case side2 => exact (Kd.R_reads' HO581.out).2.1); (case side3 => exact cU ((Kd.R_reads' HO572.out).2.2)); (case side4 => exact (Kd.R_reads' HO572.out).2.1); rintro e w' ⟨rfl, ⟨nd, rfl⟩⟩; refine ⟨_, rfl, ?_⟩) | ((with_reducible refine gate_callee (f := 13) rfl ?_); refine goesL_ (some 40) rfl rfl Tryd.func13 (by kernel_rfl) rfl #[.slice A0 l0.length c0] rfl (by (try simp only [List.map_toArray, List.map_cons, List.map_nil]); first | done | rfl | (simp only [List.length_drop, List.length_take]; rfl)) ?_; (with_reducible refine (laws_toByteS.calls k _ _ l0 t583 _ ?side1 ?side2 A15.out).mono ?_); (case side1 => exact Kd.C_below HR0.out (wU HB.out)); (case side2 => exact HC0.out); rintro e w51 ⟨v584, rfl, ho0, hb⟩; refine ⟨_, rfl, ?_⟩; have n0_ := Aside0.mk (Kd.R_elder' (rU HO572.out) (Kd.R_base ho0) hb); have n1_ := Aside0.mk (Kd.R_elder' (rU HO575.out) (Kd.R_base ho0) hb); have n2_ := Aside0.mk (Kd.R_below (rU HO578.out) hb); have n3_ := Aside0.mk (Kd.R_elder' (rU HO581.out) (Kd.R_base ho0) hb); have n4_ := Aside0.mk (Kd.R_lower (Kd.R_new' (Kd.R_new' (Kd.R_new' ho0 (Kd.R_lt (rU HO572.out))) (Kd.R_lt (rU HO575.out))) (Kd.R_lt (rU HO581.out))) (below_size (wU HB.out))); have n5_ := Aside0.mk (below_step (wU HB.out) hb); clear HO572; clear HO575; clear HO578; clear HO581; clear HB; have HO572 := n0_; have HO575 := n1_; have HO578 := n2_; have HO581 := n3_; have HO585 := n4_; have HB := n5_; clear n0_ n1_ n2_ n3_ n4_ n5_; (try clear hb); (try clear hb2); (try clear hk); (try clear hi); (try clear ho0); obtain ⟨Ao52, co52, eo52⟩ := Kd.R_slice HO585.out; subst eo52) | ((with_reducible refine gate_callee (f := 16) rfl ?_); refine goesL_ (some 41) rfl rfl Tryd.func16 (by kernel_rfl) rfl #[.slice Ao46 t573.length co46, .slice Ao52 t583.length co52] rfl (by (try simp only [List.map_toArray, List.map_cons, List.map_nil]); first | done | rfl | (simp only [List.length_drop, List.length_take]; rfl)) ?_; (with_reducible refine (laws_eqByteS.calls k _ _ t573 _ _ t583 true _ ?side1 ?side2 ?side3 ?side4 A16.out).mono ?_); (case side1 => exact cU ((Kd.R_reads' HO575.out).2.2)); (case side2 => exact (Kd.R_reads' HO575.out).2.1); (case side3 => exact cU ((Kd.R_reads' HO585.out).2.2)); (case side4 => exact (Kd.R_reads' HO585.out).2.1); rintro e w' ⟨rfl, ⟨nd, rfl⟩⟩; refine ⟨_, rfl, ?_⟩) | ((with_reducible refine gate_callee (f := 14) rfl ?_); refine goesL_ (some 45) rfl rfl Tryd.func14 (by kernel_rfl) rfl #[.slice A1 l1.length c1] rfl (by (try simp only [List.map_toArray, List.map_cons, List.map_nil]); first | done | rfl | (simp only [List.length_drop, List.length_take]; rfl)) ?_; (with_reducible refine (laws_toRecordS.calls k _ _ l1 t587 _ ?side1 ?side2 A18.out).mono ?_); (case side1 => exact Kd.C_below HR1.out (wU HB.out)); (case side2 => exact HC1.out); rintro e w53 ⟨v588, rfl, ho0, hb⟩; refine ⟨_, rfl, ?_⟩; have n0_ := Aside0.mk (Kd.R_below (rU HO572.out) hb); have n1_ := Aside0.mk (Kd.R_below (rU HO575.out) hb); have n2_ := Aside0.mk (Kd.R_elder' (rU HO578.out) (Kd.R_base ho0) hb); have n3_ := Aside0.mk (Kd.R_below (rU HO581.out) hb); have n4_ := Aside0.mk (Kd.R_lower (Kd.R_new' ho0 (Kd.R_lt (rU HO578.out))) (below_size (wU HB.out))); have n5_ := Aside0.mk (below_step (wU HB.out) hb); clear HO572; clear HO575; clear HO578; clear HO581; clear HB; have HO572 := n0_; have HO575 := n1_; have HO578 := n2_; have HO581 := n3_; have HO589 := n4_; have HB := n5_; clear n0_ n1_ n2_ n3_ n4_ n5_; (try clear hb); (try clear hb2); (try clear hk); (try clear hi); (try clear ho0); obtain ⟨Ao54, co54, eo54⟩ := Kd.R_slice HO589.out; subst eo54) | ((with_reducible refine gate_callee (f := 17) rfl ?_); refine goesL_ (some 46) rfl rfl Tryd.func17 (by kernel_rfl) rfl #[.slice Ao47 t576.length co47, .slice Ao54 t587.length co54] rfl (by (try simp only [List.map_toArray, List.map_cons, List.map_nil]); first | done | rfl | (simp only [List.length_drop, List.length_take]; rfl)) ?_; (with_reducible refine (laws_eqRecordS.calls k _ _ t576 _ _ t587 true _ ?side1 ?side2 ?side3 ?side4 A19.out).mono ?_); (case side1 => exact cU ((Kd.R_reads' HO578.out).2.2)); (case side2 => exact (Kd.R_reads' HO578.out).2.1); (case side3 => exact cU ((Kd.R_reads' HO589.out).2.2)); (case side4 => exact (Kd.R_reads' HO589.out).2.1); rintro e w55 ⟨rfl, hb⟩; refine ⟨_, rfl, ?_⟩; have n0_ := Aside0.mk (Kd.R_below (rU HO572.out) hb); have n1_ := Aside0.mk (Kd.R_below (rU HO575.out) hb); have n2_ := Aside0.mk (Kd.R_below (rU HO578.out) hb); have n3_ := Aside0.mk (Kd.R_below (rU HO581.out) hb); have n4_ := Aside0.mk (Kd.R_below (rU HO589.out) hb); have n5_ := Aside0.mk (below_step (wU HB.out) hb); clear HO572; clear HO575; clear HO578; clear HO581; clear HO589; clear HB; have HO572 := n0_; have HO575 := n1_; have HO578 := n2_; have HO581 := n3_; have HO589 := n4_; have HB := n5_; clear n0_ n1_ n2_ n3_ n4_ n5_; (try clear hb); (try clear hb2); (try clear hk); (try clear hi)) | ((with_reducible refine gate_callee (f := 18) rfl ?_); refine goesL_ (some 50) rfl rfl Tryd.func18 (by kernel_rfl) rfl #[.slice Ao46 t573.length co46, .int .i64 1] rfl (by (try simp only [List.map_toArray, List.map_cons, List.map_nil]); first | done | rfl | (simp only [List.length_drop, List.length_take]; rfl)) ?_; (with_reducible refine (laws_markByteS.calls k (fun k_ => some k_ = (.slice Ao46 t573.length co46 : Value).ownBlock) (.slice Ao46 t573.length co46) t573 1 t591 t592 w _ ?side1 ?side2 A21.out).mono ?_); (case side1 => repeat (first | (with_reducible first | exact HB.out | apply below_alloc | apply pw_below_drewN | apply below_drew1) | exact HB.out)); (case side2 => exact Kd.R_tight rfl HO575.out); rintro e w56 ⟨rfl, hy0, hb, hkp⟩; refine ⟨_, rfl, ?_⟩; have n0_ := Aside0.mk (Kd.R_mono (ok' := fun k_ => some k_ ≠ (.slice Ao46 t573.length co46 : Value).ownBlock ∧ some k_ ≠ (.slice Ao49 t579.length co49 : Value).ownBlock) (Kd.R_keptB (HO572.out) hkp (fun k_ hk_ hs_ => (hk_.1.1.2) hs_)) (fun k_ hk_ => ⟨hk_.1.1.1.2, hk_.1.1.2⟩)); have n1_ := Aside0.mk (Kd.R_reok rfl hy0 (fun k_ e_ => HO575.out.1 k_ e_)); have n2_ := Aside0.mk (Kd.R_mono (ok' := fun k_ => True) (Kd.R_keptB ((Kd.R_apart' HO578.out (Kd.R_typed HO575.out) (by decide))) hkp (fun k_ hk_ hs_ => (hk_.2) hs_)) (fun k_ hk_ => trivial)); have n3_ := Aside0.mk (Kd.R_mono (ok' := fun k_ => some k_ ≠ (.slice Ao50 t570.length co50 : Value).ownBlock ∧ some k_ ≠ (.slice Ao46 t573.length co46 : Value).ownBlock) (Kd.R_keptB (HO581.out) hkp (fun k_ hk_ hs_ => (hk_.1.2) hs_)) (fun k_ hk_ => ⟨hk_.1.1.1.2, hk_.1.1.2⟩)); have n4_ := Aside0.mk (hb); clear HO572; clear HO575; clear HO578; clear HO581; clear HB; have HO572 := n0_; have HO575 := n1_; have HO578 := n2_; have HO581 := n3_; have HB := n4_; clear n0_ n1_ n2_ n3_ n4_; (try clear hb); (try clear hkp); (try clear hy0)) | ((with_reducible refine gate_callee (f := 19) rfl ?_); refine goesL_ (some 53) rfl rfl Tryd.func19 (by kernel_rfl) rfl #[.slice Ao47 t576.length co47, .int .i64 t591] rfl (by (try simp only [List.map_toArray, List.map_cons, List.map_nil]); first | done | rfl | (simp only [List.length_drop, List.length_take]; rfl)) ?_; (with_reducible refine (laws_markRecordS.calls k (fun k_ => some k_ = (.slice Ao47 t576.length co47 : Value).ownBlock) (.slice Ao47 t576.length co47) t576 t591 t593 t594 w _ ?side1 ?side2 A22.out).mono ?_); (case side1 => repeat (first | (with_reducible first | exact HB.out | apply below_alloc | apply pw_below_drewN | apply below_drew1) | exact HB.out)); (case side2 => exact Kd.R_tight rfl HO578.out); rintro e w57 ⟨rfl, hy0, hb, hkp⟩; refine ⟨_, rfl, ?_⟩; have n0_ := Aside0.mk (Kd.R_mono (ok' := fun k_ => some k_ ≠ (.slice Ao49 t579.length co49 : Value).ownBlock) (Kd.R_keptB ((Kd.R_apart' HO572.out (Kd.R_typed HO578.out) (by decide))) hkp (fun k_ hk_ hs_ => (hk_.2) hs_)) (fun k_ hk_ => hk_.1.1.2)); have n1_ := Aside0.mk (Kd.R_reok rfl hy0 (fun k_ e_ => HO578.out.1 k_ e_)); have n2_ := Aside0.mk (Kd.R_mono (ok' := fun k_ => some k_ ≠ (.slice Ao50 t570.length co50 : Value).ownBlock) (Kd.R_keptB ((Kd.R_apart' HO581.out (Kd.R_typed HO578.out) (by decide))) hkp (fun k_ hk_ hs_ => (hk_.2) hs_)) (fun k_ hk_ => hk_.1.1.1)); have n3_ := Aside0.mk (hb); clear HO572; clear HO578; clear HO581; clear HB; have HO572 := n0_; have HO578 := n1_; have HO581 := n2_; have HB := n3_; clear n0_ n1_ n2_ n3_; (try clear hb); (try clear hkp); (try clear hy0)) | (go_at_call 16; (with_reducible refine (laws_eqByteS.calls k _ _ t579 _ _ t570 true _ ?side1 ?side2 ?side3 ?side4 A24.out).mono ?_); (case side1 => exact cU ((Kd.R_reads' HO581.out).2.2)); (case side2 => exact (Kd.R_reads' HO581.out).2.1); (case side3 => exact cU ((Kd.R_reads' HO572.out).2.2)); (case side4 => exact (Kd.R_reads' HO572.out).2.1); rintro e w' ⟨rfl, ⟨nd, rfl⟩⟩) | ((with_reducible refine gate_callee (f := 18) rfl ?_); refine goesL_ (some 64) rfl rfl Tryd.func18 (by kernel_rfl) rfl #[.slice Ao49 t579.length co49, .int .i64 1] rfl (by (try simp only [List.map_toArray, List.map_cons, List.map_nil]); first | done | rfl | (simp only [List.length_drop, List.length_take]; rfl)) ?_; (with_reducible refine (laws_markByteS.calls k (fun k_ => some k_ = (.slice Ao49 t579.length co49 : Value).ownBlock) (.slice Ao49 t579.length co49) t579 1 t596 t597 w _ ?side1 ?side2 A26.out).mono ?_); (case side1 => repeat (first | (with_reducible first | exact HB.out | apply below_alloc | apply pw_below_drewN | apply below_drew1) | exact HB.out)); (case side2 => exact Kd.R_tight rfl HO581.out); rintro e w58 ⟨rfl, hy0, hb, hkp⟩; refine ⟨_, rfl, ?_⟩; have n0_ := Aside0.mk (Kd.R_mono (ok' := fun k_ => some k_ ≠ (.slice Ao49 t579.length co49 : Value).ownBlock) (Kd.R_keptB (HO572.out) hkp (fun k_ hk_ hs_ => (hk_) hs_)) (fun k_ hk_ => hk_.1)); have n1_ := Aside0.mk (Kd.R_reok rfl hy0 (fun k_ e_ => HO581.out.1 k_ e_)); have n2_ := Aside0.mk (hb); clear HO572; clear HO581; clear HB; have HO572 := n0_; have HO581 := n1_; have HB := n2_; clear n0_ n1_ n2_; (try clear hb); (try clear hkp); (try clear hy0)) | ((with_reducible refine gate_callee (f := 20) rfl ?_); refine goesL_ (some 67) rfl rfl Tryd.func20 (by kernel_rfl) rfl #[.slice Ao49 t597.length co49, .int .i64 1] rfl (by (try simp only [List.map_toArray, List.map_cons, List.map_nil]); first | done | (rw [show t597.length = t579.length from (Kd.R_reads' HO581.out).1.symm] <;> rfl) | rfl | (simp only [List.length_drop, List.length_take]; rfl)) ?_; (with_reducible refine (laws_heldByteS.calls k _ _ t597 1 t598 _ ?side1 ?side2 A27.out).mono ?_); (case side1 => exact cU ((Kd.R_reads' HO581.out).2.2)); (case side2 => rw [show t597.length = t579.length from (Kd.R_reads' HO581.out).1.symm]; exact (Kd.R_reads' HO581.out).2.1); rintro e w' ⟨rfl, ⟨nd, rfl⟩⟩; refine ⟨_, rfl, ?_⟩) | ((with_reducible refine gate_callee (f := 13) rfl ?_); refine goesL_ (some 74) rfl rfl Tryd.func13 (by kernel_rfl) rfl #[.slice A0 l0.length c0] rfl (by (try simp only [List.map_toArray, List.map_cons, List.map_nil]); first | done | rfl | (simp only [List.length_drop, List.length_take]; rfl)) ?_; (with_reducible refine (laws_toByteS.calls k _ _ l0 t599 _ ?side1 ?side2 A30.out).mono ?_); (case side1 => exact Kd.C_below HR0.out (wU HB.out)); (case side2 => exact HC0.out); rintro e w59 ⟨v600, rfl, ho0, hb⟩; refine ⟨_, rfl, ?_⟩; have n0_ := Aside0.mk (Kd.R_elder' (rU HO572.out) (Kd.R_base ho0) hb); have n1_ := Aside0.mk (Kd.R_elder' (rU HO581.out) (Kd.R_base ho0) hb); have n2_ := Aside0.mk (Kd.R_lower (Kd.R_new' (Kd.R_new' ho0 (Kd.R_lt (rU HO572.out))) (Kd.R_lt (rU HO581.out))) (below_size (wU HB.out))); have n3_ := Aside0.mk (below_step (wU HB.out) hb); clear HO572; clear HO581; clear HB; have HO572 := n0_; have HO581 := n1_; have HO601 := n2_; have HB := n3_; clear n0_ n1_ n2_ n3_; (try clear hb); (try clear hb2); (try clear hk); (try clear hi); (try clear ho0)) | ((with_reducible refine gate_callee (f := 14) rfl ?_); refine goesL_ (some 76) rfl rfl Tryd.func14 (by kernel_rfl) rfl #[.slice A1 l1.length c1] rfl (by (try simp only [List.map_toArray, List.map_cons, List.map_nil]); first | done | rfl | (simp only [List.length_drop, List.length_take]; rfl)) ?_; (with_reducible refine (laws_toRecordS.calls k _ _ l1 t602 _ ?side1 ?side2 A31.out).mono ?_); (case side1 => exact cU ((Kd.C_below HR1.out HB.out))); (case side2 => exact HC1.out); rintro e w60 ⟨v603, rfl, ho0, hb⟩; refine ⟨_, rfl, ?_⟩; have n0_ := Aside0.mk (Kd.R_below (rU HO572.out) hb); have n1_ := Aside0.mk (Kd.R_below (rU HO581.out) hb); have n2_ := Aside0.mk (Kd.R_below (rU HO601.out) hb); have n3_ := Aside0.mk (Kd.R_lower ho0 (below_size (wU HB.out))); have n4_ := Aside0.mk (below_step (wU HB.out) hb); clear HO572; clear HO581; clear HO601; clear HB; have HO572 := n0_; have HO581 := n1_; have HO601 := n2_; have HO604 := n3_; have HB := n4_; clear n0_ n1_ n2_ n3_ n4_; (try clear hb); (try clear hb2); (try clear hk); (try clear hi); (try clear ho0); obtain ⟨Ao61, co61, eo61⟩ := Kd.R_slice HO601.out; subst eo61; obtain ⟨Ao62, co62, eo62⟩ := Kd.R_slice HO604.out; subst eo62) | ((with_reducible refine gate_callee (f := 15) rfl ?_); refine goesL_ (some 77) rfl rfl Tryd.func15 (by kernel_rfl) rfl #[.slice Ao61 t599.length co61, .slice Ao62 t602.length co62] rfl (by (try simp only [List.map_toArray, List.map_cons, List.map_nil]); first | done | rfl | (simp only [List.length_drop, List.length_take]; rfl)) ?_; (with_reducible refine (impl_PutRecords.calls k _ _ t599 _ _ t602 t605 _ ?side1 ?side2 ?side3 ?side4 A32.out).mono ?_); (case side1 => exact cU ((Kd.R_reads' HO601.out).2.2)); (case side2 => exact (Kd.R_reads' HO601.out).2.1); (case side3 => exact cU ((Kd.R_reads' HO604.out).2.2)); (case side4 => exact (Kd.R_reads' HO604.out).2.1); rintro e w63 ⟨v606, rfl, ho0, hb⟩; refine ⟨_, rfl, ?_⟩; have n0_ := Aside0.mk (Kd.R_elder' (rU HO572.out) (Kd.R_base ho0) hb); have n1_ := Aside0.mk (Kd.R_elder' (rU HO581.out) (Kd.R_base ho0) hb); have n2_ := Aside0.mk (Kd.R_elder' (rU HO601.out) (Kd.R_base ho0) hb); have n3_ := Aside0.mk (Kd.R_below (rU HO604.out) hb); have n4_ := Aside0.mk (Kd.R_lower (Kd.R_new' (Kd.R_new' (Kd.R_new' ho0 (Kd.R_lt (rU HO572.out))) (Kd.R_lt (rU HO581.out))) (Kd.R_lt (rU HO601.out))) (below_size (wU HB.out))); have n5_ := Aside0.mk (below_step (wU HB.out) hb); clear HO572; clear HO581; clear HO601; clear HO604; clear HB; have HO572 := n0_; have HO581 := n1_; have HO601 := n2_; have HO604 := n3_; have HO607 := n4_; have HB := n5_; clear n0_ n1_ n2_ n3_ n4_ n5_; (try clear hb); (try clear hb2); (try clear hk); (try clear hi); (try clear ho0); obtain ⟨Ao64, co64, eo64⟩ := Kd.R_slice HO607.out; subst eo64) | ((with_reducible refine gate_callee (f := 16) rfl ?_); refine goesL_ (some 80) rfl rfl Tryd.func16 (by kernel_rfl) rfl #[.slice Ao64 t605.length co64, .slice Ao50 t570.length co50] rfl (by (try simp only [List.map_toArray, List.map_cons, List.map_nil]); first | done | rfl | (simp only [List.length_drop, List.length_take]; rfl)) ?_; (with_reducible refine (laws_eqByteS.calls k _ _ t605 _ _ t570 true _ ?side1 ?side2 ?side3 ?side4 A33.out).mono ?_); (case side1 => exact cU ((Kd.R_reads' HO607.out).2.2)); (case side2 => exact (Kd.R_reads' HO607.out).2.1); (case side3 => exact cU ((Kd.R_reads' HO572.out).2.2)); (case side4 => exact (Kd.R_reads' HO572.out).2.1); rintro e w' ⟨rfl, ⟨nd, rfl⟩⟩; refine ⟨_, rfl, ?_⟩) | ((with_reducible refine gate_callee (f := 20) rfl ?_); refine goesL_ (some 84) rfl rfl Tryd.func20 (by kernel_rfl) rfl #[.slice Ao49 t597.length co49, .int .i64 1] rfl (by (try simp only [List.map_toArray, List.map_cons, List.map_nil]); first | done | (rw [show t597.length = t579.length from (Kd.R_reads' HO581.out).1.symm] <;> rfl) | rfl | (simp only [List.length_drop, List.length_take]; rfl)) ?_; (with_reducible refine (laws_heldByteS.calls k _ _ t597 1 t609 _ ?side1 ?side2 A35.out).mono ?_); (case side1 => exact cU ((Kd.R_reads' HO581.out).2.2)); (case side2 => rw [show t597.length = t579.length from (Kd.R_reads' HO581.out).1.symm]; exact (Kd.R_reads' HO581.out).2.1); rintro e w' ⟨rfl, ⟨nd, rfl⟩⟩; refine ⟨_, rfl, ?_⟩))
                          go_ret
                          exact ⟨by first | rfl | (simp [errW_none, errW_some] <;> rfl) | (simp [*, errW_none, errW_some] <;> rfl) | (exfalso; simp_all; done) | ((have ai_ : ∀ p : Prop, Aside0 p ↔ p := fun p => ⟨fun h => h.out, fun h => ⟨h⟩⟩); simp_all [ai_]; done), by repeat (first | (with_reducible first | exact HB.out | apply below_alloc | apply pw_below_drewN | apply below_drew1) | exact HB.out)⟩
                        · rw [if_neg c37] at H
                          have c37b0 : (t609 == t596) = false := beq_eq_false_iff_ne.mpr c37
                          have c37b1 : (t609 != t596) = true := bne_iff_ne.mpr c37
                          exact absurd (H.trans (congrArg some hrt_)) (by simp)
                    · replace c34 := Bool.eq_false_iff.mpr c34
                      subst c34
                      have H1 : (some false) = some r := by rw [if_neg (show ¬ (false = true) by decide)] at H; exact H
                      clear H
                      have H := H1
                      clear H1
                      exact absurd (H.trans (congrArg some hrt_)) (by simp)
                  · rw [if_neg c29] at H
                    have c29b0 : (t598 == t596) = false := beq_eq_false_iff_ne.mpr c29
                    have c29b1 : (t598 != t596) = true := bne_iff_ne.mpr c29
                    exact absurd (H.trans (congrArg some hrt_)) (by simp)
              · replace c25 := Bool.eq_false_iff.mpr c25
                subst c25
                have H1 : (some false) = some r := by rw [if_neg (show ¬ (false = true) by decide)] at H; exact H
                clear H
                have H := H1
                clear H1
                exact absurd (H.trans (congrArg some hrt_)) (by simp)
          · replace c20 := Bool.eq_false_iff.mpr c20
            subst c20
            have H1 : (some false) = some r := by rw [if_neg (show ¬ (false = true) by decide)] at H; exact H
            clear H
            have H := H1
            clear H1
            exact absurd (H.trans (congrArg some hrt_)) (by simp)
        · replace c17 := Bool.eq_false_iff.mpr c17
          subst c17
          have H1 : (some false) = some r := by rw [if_neg (show ¬ (false = true) by decide)] at H; exact H
          clear H
          have H := H1
          clear H1
          exact absurd (H.trans (congrArg some hrt_)) (by simp)
      · replace c14 := Bool.eq_false_iff.mpr c14
        subst c14
        have H1 : (some false) = some r := by rw [if_neg (show ¬ (false = true) by decide)] at H; exact H
        clear H
        have H := H1
        clear H1
        exact absurd (H.trans (congrArg some hrt_)) (by simp)

/-- The one pure statement of laws_FnExactPutRecords. -/
def laws_FnExactPutRecords.Pure : Prop := ∀ (l0 : List Int) (l1 : List (S86)), (l0.length ≤ maxLen ∧ l0.length * 1 ≤ 140737488351232 ∧ ∀ y_ ∈ l0, (Lit.int .u8 y_).wf = true) → (l1.length ≤ maxLen ∧ l1.length * 72 ≤ 140737488351232 ∧ ∀ y_ ∈ l1, g86 y_) → ∃ k, laws_FnExactPutRecords.f k l0 l1 = some true

end Go.Proofs.YtbohkphbgkgaeaaDoor.Pr
