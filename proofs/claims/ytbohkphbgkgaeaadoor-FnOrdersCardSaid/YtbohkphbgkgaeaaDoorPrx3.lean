-- Written for this claim by a program of this session (wip/tool/pr.py, over the kit's printer).
import Derived.Test.YtbohkphbgkgaeaaDoorPrx0
import Derived.Test.YtbohkphbgkgaeaaDoorPrx1
import Derived.Test.YtbohkphbgkgaeaaDoorPrx2
namespace Go.Proofs.YtbohkphbgkgaeaaDoor.Pr
open Go.RowKit Go.Proofs.YtbohkphbgkgaeaaDoorW.PrintWords Go.Proofs.YtbohkphbgkgaeaaDoorW.PrintLast Go.Proofs.YtbohkphbgkgaeaaDoorW.PrintMore
attribute [local go_sem] max2_int min2_int max_two min_two max_three min_three max_four min_four   -- for this text's walks alone
set_option linter.unusedVariables false
set_option linter.unusedSimpArgs false

/-! ### spec_LessName: function 24 -/
mutual
def spec_LessName.l0 : Nat → List ByteArray → List ByteArray → Int → Option (Bool)
  | 0, _, _, _ => none
  | k + 1, x5, x6, x7 => if x7 ≤ (x5.length : Int) then (spec_LessName.j1 k x5 x6 x7 (decide (x7 ≤ (x6.length : Int)))) else (spec_LessName.j1 k x5 x6 x7 false)
def spec_LessName.j1 : Nat → List ByteArray → List ByteArray → Int → Bool → Option (Bool)
  | 0, _, _, _, _ => none
  | k + 1, x5, x6, x7, x23 => if x23 = true then (if 0 ≤ (wrap64 ((x5.length : Int) - x7)) then (if (wrap64 ((x5.length : Int) - x7)) < (x5.length : Int) then (if 0 ≤ (wrap64 ((x6.length : Int) - x7)) then (if (wrap64 ((x6.length : Int) - x7)) < (x6.length : Int) then (if (rdOf ByteArray.empty x5 (wrap64 ((x5.length : Int) - x7))).toList = (rdOf ByteArray.empty x6 (wrap64 ((x6.length : Int) - x7))).toList then (spec_LessName.l0 k x5 x6 (wrap64 (x7 + 1))) else (some (Op.bytesLess ((rdOf ByteArray.empty x5 (wrap64 ((x5.length : Int) - x7))).toList) ((rdOf ByteArray.empty x6 (wrap64 ((x6.length : Int) - x7))).toList)))) else (none)) else (none)) else (none)) else (none)) else (some (decide ((x5.length : Int) < (x6.length : Int))))
end
def spec_LessName.f (k : Nat) (a0 : ByteArray) (a1 : ByteArray) : Option (Bool) := (spec_Labels.f k a0).bind fun t184 => ((spec_Labels.f k a1).bind fun t187 => (spec_LessName.l0 k t184 t187 1))
theorem spec_LessName.mono_l : ∀ k, (∀ y0 y1 y2, LeO (spec_LessName.l0 k y0 y1 y2) (spec_LessName.l0 (k + 1) y0 y1 y2)) ∧ (∀ y0 y1 y2 y3, LeO (spec_LessName.j1 k y0 y1 y2 y3) (spec_LessName.j1 (k + 1) y0 y1 y2 y3))
  | 0 => ⟨fun _ _ _ r h => by simp [spec_LessName.l0] at h, fun _ _ _ _ r h => by simp [spec_LessName.j1] at h⟩
  | k + 1 => by
    obtain ⟨ih0, ih1⟩ := spec_LessName.mono_l k
    refine ⟨?_, ?_⟩
    · intro y0 y1 y2
      unfold spec_LessName.l0
      repeat' first
      | (with_reducible exact ih0 _ _ _)
      | (with_reducible exact ih1 _ _ _ _)
      | (with_reducible exact spec_Labels.mono _ _)
      | (with_reducible exact LeO.refl _)
      | (with_reducible exact LeO.none _)
      | (with_reducible refine LeO.ite ?_ ?_)
      | (with_reducible refine LeO.bind ?_ (fun _ => ?_))
      | exact ih0 _ _ _
      | exact ih1 _ _ _ _
      | exact spec_Labels.mono _ _
      | exact LeO.none _
      | refine LeO.ite ?_ ?_
      | refine LeO.bind ?_ (fun _ => ?_)
    · intro y0 y1 y2 y3
      unfold spec_LessName.j1
      repeat' first
      | (with_reducible exact ih0 _ _ _)
      | (with_reducible exact ih1 _ _ _ _)
      | (with_reducible exact spec_Labels.mono _ _)
      | (with_reducible exact LeO.refl _)
      | (with_reducible exact LeO.none _)
      | (with_reducible refine LeO.ite ?_ ?_)
      | (with_reducible refine LeO.bind ?_ (fun _ => ?_))
      | exact ih0 _ _ _
      | exact ih1 _ _ _ _
      | exact spec_Labels.mono _ _
      | exact LeO.none _
      | refine LeO.ite ?_ ?_
      | refine LeO.bind ?_ (fun _ => ?_)
theorem spec_LessName.mono : ∀ a0 a1 k, LeO (spec_LessName.f k a0 a1) (spec_LessName.f (k + 1) a0 a1) := by
  intro a0 a1 k
  obtain ⟨ih0, ih1⟩ := spec_LessName.mono_l k
  unfold spec_LessName.f
  repeat' first
      | (with_reducible exact ih0 _ _ _)
      | (with_reducible exact ih1 _ _ _ _)
      | (with_reducible exact spec_Labels.mono _ _)
      | (with_reducible exact LeO.refl _)
      | (with_reducible exact LeO.none _)
      | (with_reducible refine LeO.ite ?_ ?_)
      | (with_reducible refine LeO.bind ?_ (fun _ => ?_))
      | exact ih0 _ _ _
      | exact ih1 _ _ _ _
      | exact spec_Labels.mono _ _
      | exact LeO.none _
      | refine LeO.ite ?_ ?_
      | refine LeO.bind ?_ (fun _ => ?_)
set_option maxHeartbeats 8000000 in
set_option maxRecDepth 100000 in
theorem spec_LessName.calls (k : Nat) (a0 : ByteArray) (a1 : ByteArray) (r : Bool) (w : World) (h : spec_LessName.f k a0 a1 = some r) :
    Calls Tryd.prog 24 #[.string a0, .string a1] w fun e w' => e = .returned (.bool r) ∧ Below w.heap.size w w' := by
  have HB := Aside0.mk (Below.refl w.heap.size w)
  have H : ((spec_Labels.f k a0).bind fun t184 => ((spec_Labels.f k a1).bind fun t187 => (spec_LessName.l0 k t184 t187 1))) = some r := h
  clear h
  replace H := Option.bind_eq_some_iff.mp H
  obtain ⟨t184, A30, H⟩ := H
  replace H : ((spec_Labels.f k a1).bind fun t187 => (spec_LessName.l0 k t184 t187 1)) = some r := H
  have A3 := Aside0.mk A30
  clear A30
  replace H := Option.bind_eq_some_iff.mp H
  obtain ⟨t187, A40, H⟩ := H
  replace H : (spec_LessName.l0 k t184 t187 1) = some r := H
  have A4 := Aside0.mk A40
  clear A40
  have H' := Aside0.mk H
  clear H
  go_enter Tryd.func24, Tryd.ntmps24
  go_wp2_with (first | ((with_reducible refine gate_callee (f := 30) rfl ?_); refine goesL_ (some 11) rfl rfl Tryd.func30 (by kernel_rfl) rfl #[.string a0] rfl (by (try simp only [List.map_toArray, List.map_cons, List.map_nil]); first | done | rfl | (simp only [List.length_drop, List.length_take]; rfl)) ?_; (with_reducible refine (spec_Labels.calls k a0 t184 _ A3.out).mono ?_); rintro e w5 ⟨v185, rfl, ho0, hb⟩; refine ⟨_, rfl, ?_⟩; have n0_ := Aside0.mk (Kd.R_lower ho0 (below_size (by repeat (first | (with_reducible first | exact HB.out | apply below_alloc | apply pw_below_drewN | apply below_drew1) | exact HB.out)))); have n1_ := Aside0.mk (below_step (by repeat (first | (with_reducible first | exact HB.out | apply below_alloc | apply pw_below_drewN | apply below_drew1) | exact HB.out)) hb); clear HB; have HO186 := n0_; have HB := n1_; clear n0_ n1_; (try clear hb); (try clear hb2); (try clear hk); (try clear hi); (try clear ho0)) | ((with_reducible refine gate_callee (f := 30) rfl ?_); refine goesL_ (some 13) rfl rfl Tryd.func30 (by kernel_rfl) rfl #[.string a1] rfl (by (try simp only [List.map_toArray, List.map_cons, List.map_nil]); first | done | rfl | (simp only [List.length_drop, List.length_take]; rfl)) ?_; (with_reducible refine (spec_Labels.calls k a1 t187 _ A4.out).mono ?_); rintro e w6 ⟨v188, rfl, ho0, hb⟩; refine ⟨_, rfl, ?_⟩; have n0_ := Aside0.mk (Kd.R_elder' (by (with_reducible repeat (first | apply Kd.R_alloc | apply Kd.R_drewN | apply Kd.R_drew)); exact HO186.out) (Kd.R_base ho0) hb); have n1_ := Aside0.mk (Kd.R_lower (Kd.R_new' ho0 (Kd.R_lt (by (with_reducible repeat (first | apply Kd.R_alloc | apply Kd.R_drewN | apply Kd.R_drew)); exact HO186.out))) (below_size (by repeat (first | (with_reducible first | exact HB.out | apply below_alloc | apply pw_below_drewN | apply below_drew1) | exact HB.out)))); have n2_ := Aside0.mk (below_step (by repeat (first | (with_reducible first | exact HB.out | apply below_alloc | apply pw_below_drewN | apply below_drew1) | exact HB.out)) hb); clear HO186; clear HB; have HO186 := n0_; have HO189 := n1_; have HB := n2_; clear n0_ n1_ n2_; (try clear hb); (try clear hb2); (try clear hk); (try clear hi); (try clear ho0)))
  go_loopg [7] k (fun kq v7 w' => ∃ (x7_1 : Int), v7 = .int .i64 x7_1 ∧ Aside0 (spec_LessName.l0 kq t184 t187 x7_1 = some r) ∧ Aside0 (kq ≤ k) ∧ Aside0 (Kd.R Kd.string 9 w' w.heap.size (fun k_ => some k_ ≠ (v188 : Value).ownBlock) v185 t184) ∧ Aside0 (Kd.R Kd.string 9 w' w.heap.size (fun k_ => some k_ ≠ (v185 : Value).ownBlock) v188 t187) ∧ Aside0 (Below w.heap.size w w'))
  case atStart => exact ⟨(1), (by first | rfl | (simp; done) | (simp [*]; done) | (simp [X.bne_nil, X.beq_nil]; done) | (simp [*, X.bne_nil, X.beq_nil]; done)), H', ⟨Nat.le_refl _⟩, ⟨by (with_reducible repeat (first | apply Kd.R_alloc | apply Kd.R_drewN | apply Kd.R_drew)); exact Kd.R_mono HO186.out (fun _ hk => hk.2)⟩, ⟨by (with_reducible repeat (first | apply Kd.R_alloc | apply Kd.R_drewN | apply Kd.R_drew)); exact Kd.R_mono HO189.out (fun _ hk => hk.2)⟩, ⟨by repeat (first | (with_reducible first | exact HB.out | apply below_alloc | apply pw_below_drewN | apply below_drew1) | exact HB.out)⟩⟩
  case round =>
    clear H'
    try clear c2
    try clear p2
    try clear c3
    obtain ⟨x7_1, rfl, HA, HK1, HO_5, HO_6, HB⟩ := hrel
    cases gk with
    | zero => exact absurd HA.out (by simp [spec_LessName.l0])
    | succ k1 =>
      have H := HA.out
      clear HA
      simp only [spec_LessName.l0] at H
      have HC7 := Aside0.mk H
      clear H
      go_upto_region 4 with (fail)
      go_cut [23] (fun v23 wc => ∃ (kq : Nat) (x23_6 : Bool), v23 = .bool x23_6 ∧ Aside0 (spec_LessName.j1 kq t184 t187 x7_1 x23_6 = some r) ∧ Aside0 (kq ≤ k1) ∧ Aside0 (Kd.R Kd.string 9 wc w.heap.size (fun k_ => some k_ ≠ (v188 : Value).ownBlock) v185 t184) ∧ Aside0 (Kd.R Kd.string 9 wc w.heap.size (fun k_ => some k_ ≠ (v185 : Value).ownBlock) v188 t187) ∧ Aside0 (Below w.heap.size w wc))
      case first =>
        have H := HC7.out
        clear HC7
        by_cases c8 : x7_1 ≤ (t184.length : Int)
        · rw [if_pos c8] at H
          have c8b0 : decide (x7_1 ≤ (t184.length : Int)) = true := decide_eq_true c8
          clear c8
          (first | rw [c8b0] | (simp only [i64_w, i32_w]; rw [c8b0]) | skip)
          have H' := Aside0.mk H
          clear H
          obtain ⟨Ao9, co9, eo9⟩ := Kd.R_slice HO_5.out
          subst eo9
          obtain ⟨Ao10, co10, eo10⟩ := Kd.R_slice HO_6.out
          subst eo10
          go_wp2
          go_meet
          case rel => exact ⟨_, (decide (x7_1 ≤ (t187.length : Int))), (by first | rfl | (simp; done) | (simp [*]; done) | (simp [X.bne_nil, X.beq_nil]; done) | (simp [*, X.bne_nil, X.beq_nil]; done)), H', ⟨by have := HK1.out; first | omega | exact Nat.le_refl _⟩, ⟨by (with_reducible repeat (first | apply Kd.R_alloc | apply Kd.R_drewN | apply Kd.R_drew)); exact HO_5.out⟩, ⟨by (with_reducible repeat (first | apply Kd.R_alloc | apply Kd.R_drewN | apply Kd.R_drew)); exact HO_6.out⟩, ⟨by repeat (first | (with_reducible first | exact HB.out | apply below_alloc | apply pw_below_drewN | apply below_drew1) | exact HB.out)⟩⟩
        · rw [if_neg c8] at H
          have c8b0 : decide (x7_1 ≤ (t184.length : Int)) = false := decide_eq_false c8
          clear c8
          (first | rw [c8b0] | (simp only [i64_w, i32_w]; rw [c8b0]) | skip)
          have H' := Aside0.mk H
          clear H
          obtain ⟨Ao11, co11, eo11⟩ := Kd.R_slice HO_5.out
          subst eo11
          go_wp2
          go_meet
          case rel => exact ⟨_, (false), (by first | rfl | (simp; done) | (simp [*]; done) | (simp [X.bne_nil, X.beq_nil]; done) | (simp [*, X.bne_nil, X.beq_nil]; done)), H', ⟨by have := HK1.out; first | omega | exact Nat.le_refl _⟩, ⟨by (with_reducible repeat (first | apply Kd.R_alloc | apply Kd.R_drewN | apply Kd.R_drew)); exact HO_5.out⟩, ⟨by (with_reducible repeat (first | apply Kd.R_alloc | apply Kd.R_drewN | apply Kd.R_drew)); exact HO_6.out⟩, ⟨by repeat (first | (with_reducible first | exact HB.out | apply below_alloc | apply pw_below_drewN | apply below_drew1) | exact HB.out)⟩⟩
      case rest =>
        clear HC7
        try clear c2
        try clear p2
        try clear c3
        try clear c8
        try clear c8b0
        try clear p2
        obtain ⟨kq, x23_6, rfl, HA, HJ6, HO_5, HO_6, HB⟩ := hcut
        cases kq with
        | zero => exact absurd HA.out (by simp [spec_LessName.j1])
        | succ kj6 =>
          have H := HA.out
          clear HA
          simp only [spec_LessName.j1] at H
          by_cases c12 : x23_6 = true
          · subst c12
            have H1 : (if 0 ≤ (wrap64 ((t184.length : Int) - x7_1)) then (if (wrap64 ((t184.length : Int) - x7_1)) < (t184.length : Int) then (if 0 ≤ (wrap64 ((t187.length : Int) - x7_1)) then (if (wrap64 ((t187.length : Int) - x7_1)) < (t187.length : Int) then (if (rdOf ByteArray.empty t184 (wrap64 ((t184.length : Int) - x7_1))).toList = (rdOf ByteArray.empty t187 (wrap64 ((t187.length : Int) - x7_1))).toList then (spec_LessName.l0 kj6 t184 t187 (wrap64 (x7_1 + 1))) else (some (Op.bytesLess ((rdOf ByteArray.empty t184 (wrap64 ((t184.length : Int) - x7_1))).toList) ((rdOf ByteArray.empty t187 (wrap64 ((t187.length : Int) - x7_1))).toList)))) else (none)) else (none)) else (none)) else (none)) = some r := by rw [if_pos rfl] at H; exact H
            clear H
            have H := H1
            clear H1
            obtain ⟨ji13, hji13⟩ : ∃ j_ : Int, (wrap64 ((t184.length : Int) - x7_1)) = j_ := ⟨_, rfl⟩
            replace H : (if 0 ≤ (ji13) then (if (ji13) < (t184.length : Int) then (if 0 ≤ (wrap64 ((t187.length : Int) - x7_1)) then (if (wrap64 ((t187.length : Int) - x7_1)) < (t187.length : Int) then (if (rdOf ByteArray.empty t184 (ji13)).toList = (rdOf ByteArray.empty t187 (wrap64 ((t187.length : Int) - x7_1))).toList then (spec_LessName.l0 kj6 t184 t187 (wrap64 (x7_1 + 1))) else (some (Op.bytesLess ((rdOf ByteArray.empty t184 (ji13)).toList) ((rdOf ByteArray.empty t187 (wrap64 ((t187.length : Int) - x7_1))).toList)))) else (none)) else (none)) else (none)) else (none)) = some r := by first | (rw [hji13] at H; exact H) | (simp only [hji13] at H ⊢; exact H)
            have hji13w : (IntKind.i64.wrap ((t184.length : Int) - x7_1)) = ji13 := (i64_w _).trans hji13
            by_cases c14 : 0 ≤ (ji13)
            · rw [if_pos c14] at H
              have c14b0 : decide (0 ≤ (ji13)) = true := decide_eq_true c14
              clear c14
              by_cases c15 : (ji13) < (t184.length : Int)
              · rw [if_pos c15] at H
                have c15b0 : decide ((ji13) < (t184.length : Int)) = true := decide_eq_true c15
                clear c15
                obtain ⟨ji16, hji16⟩ : ∃ j_ : Int, (wrap64 ((t187.length : Int) - x7_1)) = j_ := ⟨_, rfl⟩
                replace H : (if 0 ≤ (ji16) then (if (ji16) < (t187.length : Int) then (if (rdOf ByteArray.empty t184 (ji13)).toList = (rdOf ByteArray.empty t187 (ji16)).toList then (spec_LessName.l0 kj6 t184 t187 (wrap64 (x7_1 + 1))) else (some (Op.bytesLess ((rdOf ByteArray.empty t184 (ji13)).toList) ((rdOf ByteArray.empty t187 (ji16)).toList)))) else (none)) else (none)) = some r := by first | (rw [hji16] at H; exact H) | (simp only [hji16] at H ⊢; exact H)
                have hji16w : (IntKind.i64.wrap ((t187.length : Int) - x7_1)) = ji16 := (i64_w _).trans hji16
                by_cases c17 : 0 ≤ (ji16)
                · rw [if_pos c17] at H
                  have c17b0 : decide (0 ≤ (ji16)) = true := decide_eq_true c17
                  clear c17
                  by_cases c18 : (ji16) < (t187.length : Int)
                  · rw [if_pos c18] at H
                    have c18b0 : decide ((ji16) < (t187.length : Int)) = true := decide_eq_true c18
                    clear c18
                    by_cases c19 : (rdOf ByteArray.empty t184 (ji13)).toList = (rdOf ByteArray.empty t187 (ji16)).toList
                    · rw [if_pos c19] at H
                      have c19b0 : ((rdOf ByteArray.empty t184 (ji13)).toList == (rdOf ByteArray.empty t187 (ji16)).toList) = true := beq_iff_eq.mpr c19
                      have c19b1 : ((rdOf ByteArray.empty t184 (ji13)).toList != (rdOf ByteArray.empty t187 (ji16)).toList) = false := bne_eq_false_iff_eq.mpr c19
                      clear c19
                      have H' := Aside0.mk H
                      clear H
                      obtain ⟨Ao20, co20, eo20⟩ := Kd.R_slice HO_5.out
                      subst eo20
                      have p190 : 0 ≤ ((ji13) : Int) := of_decide_eq_true (by first | (with_reducible assumption) | assumption)
                      have q190 : (ji13) < (t184.length : Int) := of_decide_eq_true (by first | (with_reducible assumption) | assumption)
                      obtain ⟨ad190, e190, hx190_0⟩ := Kd.at_string (Kd.R_reads' HO_5.out).2.2 (ji13) p190 q190
                      cases e190
                      replace p190 := eq_true p190
                      replace q190 := eq_true q190
                      obtain ⟨Ao21, co21, eo21⟩ := Kd.R_slice HO_6.out
                      subst eo21
                      have p191 : 0 ≤ ((ji16) : Int) := of_decide_eq_true (by first | (with_reducible assumption) | assumption)
                      have q191 : (ji16) < (t187.length : Int) := of_decide_eq_true (by first | (with_reducible assumption) | assumption)
                      obtain ⟨ad191, e191, hx191_0⟩ := Kd.at_string (Kd.R_reads' HO_6.out).2.2 (ji16) p191 q191
                      cases e191
                      replace p191 := eq_true p191
                      replace q191 := eq_true q191
                      go_wp2
                      go_roundg kj6
                      case measure => have := HK1.out; have := HJ6.out; omega
                      case rel => exact ⟨(wrap64 (x7_1 + 1)), (by first | rfl | (simp; done) | (simp [*]; done) | (simp [X.bne_nil, X.beq_nil]; done) | (simp [*, X.bne_nil, X.beq_nil]; done)), H', ⟨by have := HK1.out; have := HJ6.out; omega⟩, ⟨by (with_reducible repeat (first | apply Kd.R_alloc | apply Kd.R_drewN | apply Kd.R_drew)); exact HO_5.out⟩, ⟨by (with_reducible repeat (first | apply Kd.R_alloc | apply Kd.R_drewN | apply Kd.R_drew)); exact HO_6.out⟩, ⟨by repeat (first | (with_reducible first | exact HB.out | apply below_alloc | apply pw_below_drewN | apply below_drew1) | exact HB.out)⟩⟩
                    · rw [if_neg c19] at H
                      have c19b0 : ((rdOf ByteArray.empty t184 (ji13)).toList == (rdOf ByteArray.empty t187 (ji16)).toList) = false := beq_eq_false_iff_ne.mpr c19
                      have c19b1 : ((rdOf ByteArray.empty t184 (ji13)).toList != (rdOf ByteArray.empty t187 (ji16)).toList) = true := bne_iff_ne.mpr c19
                      obtain rfl := Option.some.inj H
                      obtain ⟨Ao22, co22, eo22⟩ := Kd.R_slice HO_5.out
                      subst eo22
                      have p190 : 0 ≤ ((ji13) : Int) := of_decide_eq_true (by first | (with_reducible assumption) | assumption)
                      have q190 : (ji13) < (t184.length : Int) := of_decide_eq_true (by first | (with_reducible assumption) | assumption)
                      obtain ⟨ad190, e190, hx190_0⟩ := Kd.at_string (Kd.R_reads' HO_5.out).2.2 (ji13) p190 q190
                      cases e190
                      replace p190 := eq_true p190
                      replace q190 := eq_true q190
                      obtain ⟨Ao23, co23, eo23⟩ := Kd.R_slice HO_6.out
                      subst eo23
                      have p191 : 0 ≤ ((ji16) : Int) := of_decide_eq_true (by first | (with_reducible assumption) | assumption)
                      have q191 : (ji16) < (t187.length : Int) := of_decide_eq_true (by first | (with_reducible assumption) | assumption)
                      obtain ⟨ad191, e191, hx191_0⟩ := Kd.at_string (Kd.R_reads' HO_6.out).2.2 (ji16) p191 q191
                      cases e191
                      replace p191 := eq_true p191
                      replace q191 := eq_true q191
                      go_wp2
                      go_ret
                      exact ⟨by first | rfl | (simp [errW_none, errW_some] <;> rfl) | (simp only [← hji13, ← hji16]; first | rfl | (simp [errW_none, errW_some] <;> rfl)) | (simp [*, errW_none, errW_some] <;> rfl), by repeat (first | (with_reducible first | exact HB.out | apply below_alloc | apply pw_below_drewN | apply below_drew1) | exact HB.out)⟩
                  · rw [if_neg c18] at H
                    exact absurd H (by simp)
                · rw [if_neg c17] at H
                  exact absurd H (by simp)
              · rw [if_neg c15] at H
                exact absurd H (by simp)
            · rw [if_neg c14] at H
              exact absurd H (by simp)
          · replace c12 := Bool.eq_false_iff.mpr c12
            subst c12
            have H1 : (some (decide ((t184.length : Int) < (t187.length : Int)))) = some r := by rw [if_neg (show ¬ (false = true) by decide)] at H; exact H
            clear H
            have H := H1
            clear H1
            obtain rfl := Option.some.inj H
            obtain ⟨Ao24, co24, eo24⟩ := Kd.R_slice HO_5.out
            subst eo24
            obtain ⟨Ao25, co25, eo25⟩ := Kd.R_slice HO_6.out
            subst eo25
            go_wp2
            go_ret
            exact ⟨by first | rfl | (simp [errW_none, errW_some] <;> rfl) | (simp [*, errW_none, errW_some] <;> rfl), by repeat (first | (with_reducible first | exact HB.out | apply below_alloc | apply pw_below_drewN | apply below_drew1) | exact HB.out)⟩

/-! ### slices_Equal_string: function 101 -/
def slices_Equal_string.l0 : Nat → List ByteArray → List ByteArray → Int → Int → Option (Bool)
  | 0, _, _, _, _ => none
  | k + 1, x0, x1, x12, x13 => if x13 < x12 then (if 0 ≤ x13 then (if x13 < (x0.length : Int) then (if x13 < (x1.length : Int) then (if (rdOf ByteArray.empty x0 x13).toList = (rdOf ByteArray.empty x1 x13).toList then (slices_Equal_string.l0 k x0 x1 x12 (wrap64 (x13 + 1))) else (some false)) else (none)) else (none)) else (none)) else (some true)
def slices_Equal_string.f (k : Nat) (l0 : List ByteArray) (l1 : List ByteArray) : Option (Bool) := if (l0.length : Int) = (l1.length : Int) then (slices_Equal_string.l0 k l0 l1 (l0.length : Int) 0) else (some false)
theorem slices_Equal_string.mono_l : ∀ k, (∀ y0 y1 y2 y3, LeO (slices_Equal_string.l0 k y0 y1 y2 y3) (slices_Equal_string.l0 (k + 1) y0 y1 y2 y3))
  | 0 => fun _ _ _ _ r h => by simp [slices_Equal_string.l0] at h
  | k + 1 => by
    have ih0 := slices_Equal_string.mono_l k
    · intro y0 y1 y2 y3
      unfold slices_Equal_string.l0
      repeat' first
      | (with_reducible exact ih0 _ _ _ _)
      | (with_reducible exact LeO.refl _)
      | (with_reducible exact LeO.none _)
      | (with_reducible refine LeO.ite ?_ ?_)
      | (with_reducible refine LeO.bind ?_ (fun _ => ?_))
      | exact ih0 _ _ _ _
      | exact LeO.none _
      | refine LeO.ite ?_ ?_
      | refine LeO.bind ?_ (fun _ => ?_)
theorem slices_Equal_string.mono : ∀ a0 a1 k, LeO (slices_Equal_string.f k a0 a1) (slices_Equal_string.f (k + 1) a0 a1) := by
  intro a0 a1 k
  have ih0 := slices_Equal_string.mono_l k
  unfold slices_Equal_string.f
  repeat' first
      | (with_reducible exact ih0 _ _ _ _)
      | (with_reducible exact LeO.refl _)
      | (with_reducible exact LeO.none _)
      | (with_reducible refine LeO.ite ?_ ?_)
      | (with_reducible refine LeO.bind ?_ (fun _ => ?_))
      | exact ih0 _ _ _ _
      | exact LeO.none _
      | refine LeO.ite ?_ ?_
      | refine LeO.bind ?_ (fun _ => ?_)
set_option maxHeartbeats 8000000 in
set_option maxRecDepth 100000 in
theorem slices_Equal_string.calls (k : Nat) (A0 : Option Addr) (c0 : Nat) (l0 : List ByteArray) (A1 : Option Addr) (c1 : Nat) (l1 : List ByteArray) (r : Bool) (w : World) (hr0 : Kd.C Kd.string w A0 l0.length l0) (hc0 : l0.length ≤ c0) (hr1 : Kd.C Kd.string w A1 l1.length l1) (hc1 : l1.length ≤ c1) (h : slices_Equal_string.f k l0 l1 = some r) :
    Calls Tryd.prog 101 #[.slice A0 l0.length c0, .slice A1 l1.length c1] w fun e w' => e = .returned (.bool r) ∧ Drawn0 w w' := by
  have HR0 := Aside0.mk hr0
  have HC0 := Aside0.mk hc0
  clear hr0 hc0
  have HR1 := Aside0.mk hr1
  have HC1 := Aside0.mk hc1
  clear hr1 hc1
  have H : (if (l0.length : Int) = (l1.length : Int) then (slices_Equal_string.l0 k l0 l1 (l0.length : Int) 0) else (some false)) = some r := h
  clear h
  by_cases c3 : (l0.length : Int) = (l1.length : Int)
  · rw [if_pos c3] at H
    have c3b0 : ((l0.length : Int) == (l1.length : Int)) = true := beq_iff_eq.mpr c3
    have c3b1 : ((l0.length : Int) != (l1.length : Int)) = false := bne_eq_false_iff_eq.mpr c3
    have c3b2 : (l0.length == l1.length) = true := by first | simpa using c3 | (simp at c3 ⊢; omega)
    clear c3
    have H' := Aside0.mk H
    clear H
    go_enter Tryd.func101, Tryd.ntmps101
    go_wp2
    repeat (go_quiet (fail); try go_wp2)
    go_loopg [13] k (fun kq v13 w' => ∃ (x13_1 : Int), v13 = .int .i64 x13_1 ∧ Aside0 (slices_Equal_string.l0 kq l0 l1 (l0.length : Int) x13_1 = some r) ∧ Aside0 (kq ≤ k) ∧ Drawn0 w w')
    case atStart => exact ⟨(0), (by first | rfl | (simp; done) | (simp [*]; done) | (simp [X.bne_nil, X.beq_nil]; done) | (simp [*, X.bne_nil, X.beq_nil]; done)), H', ⟨Nat.le_refl _⟩, by repeat (first | exact Drawn0.refl _ | apply Drawn0.step)⟩
    case round =>
      clear H'
      try clear c1
      try clear p2
      try clear c3
      try clear c3b0
      try clear c3b1
      try clear c3b2
      obtain ⟨x13_1, rfl, HA, HK1, ⟨m1, rfl⟩⟩ := hrel
      cases gk with
      | zero => exact absurd HA.out (by simp [slices_Equal_string.l0])
      | succ k1 =>
        have H := HA.out
        clear HA
        simp only [slices_Equal_string.l0] at H
        by_cases c4 : x13_1 < (l0.length : Int)
        · rw [if_pos c4] at H
          have c4b0 : decide (x13_1 < (l0.length : Int)) = true := decide_eq_true c4
          clear c4
          by_cases c5 : 0 ≤ x13_1
          · rw [if_pos c5] at H
            have c5b0 : decide (0 ≤ x13_1) = true := decide_eq_true c5
            clear c5
            by_cases c6 : x13_1 < (l0.length : Int)
            · rw [if_pos c6] at H
              have c6b0 : decide (x13_1 < (l0.length : Int)) = true := decide_eq_true c6
              clear c6
              by_cases c7 : x13_1 < (l1.length : Int)
              · rw [if_pos c7] at H
                have c7b0 : decide (x13_1 < (l1.length : Int)) = true := decide_eq_true c7
                clear c7
                by_cases c8 : (rdOf ByteArray.empty l0 x13_1).toList = (rdOf ByteArray.empty l1 x13_1).toList
                · rw [if_pos c8] at H
                  have c8b0 : ((rdOf ByteArray.empty l0 x13_1).toList == (rdOf ByteArray.empty l1 x13_1).toList) = true := beq_iff_eq.mpr c8
                  have c8b1 : ((rdOf ByteArray.empty l0 x13_1).toList != (rdOf ByteArray.empty l1 x13_1).toList) = false := bne_eq_false_iff_eq.mpr c8
                  clear c8
                  have H' := Aside0.mk H
                  clear H
                  have p192 : 0 ≤ (x13_1 : Int) := of_decide_eq_true (by first | (with_reducible assumption) | assumption)
                  have q192 : x13_1 < (l0.length : Int) := of_decide_eq_true (by first | (with_reducible assumption) | assumption)
                  obtain ⟨ad192, e192, hx192_0⟩ := Kd.at_string HR0.out x13_1 p192 q192
                  cases e192
                  replace p192 := eq_true p192
                  replace q192 := eq_true q192
                  have p193 : 0 ≤ (x13_1 : Int) := of_decide_eq_true (by first | (with_reducible assumption) | assumption)
                  have q193 : x13_1 < (l1.length : Int) := of_decide_eq_true (by first | (with_reducible assumption) | assumption)
                  obtain ⟨ad193, e193, hx193_0⟩ := Kd.at_string HR1.out x13_1 p193 q193
                  cases e193
                  replace p193 := eq_true p193
                  replace q193 := eq_true q193
                  go_wp2
                  repeat (go_quiet (fail); try go_wp2)
                  go_roundg k1
                  case measure => have := HK1.out; omega
                  case rel => exact ⟨(wrap64 (x13_1 + 1)), (by first | rfl | (simp; done) | (simp [*]; done) | (simp [X.bne_nil, X.beq_nil]; done) | (simp [*, X.bne_nil, X.beq_nil]; done)), H', ⟨by have := HK1.out; omega⟩, by repeat (first | exact Drawn0.refl _ | apply Drawn0.step)⟩
                · rw [if_neg c8] at H
                  have c8b0 : ((rdOf ByteArray.empty l0 x13_1).toList == (rdOf ByteArray.empty l1 x13_1).toList) = false := beq_eq_false_iff_ne.mpr c8
                  have c8b1 : ((rdOf ByteArray.empty l0 x13_1).toList != (rdOf ByteArray.empty l1 x13_1).toList) = true := bne_iff_ne.mpr c8
                  obtain rfl := Option.some.inj H
                  have p192 : 0 ≤ (x13_1 : Int) := of_decide_eq_true (by first | (with_reducible assumption) | assumption)
                  have q192 : x13_1 < (l0.length : Int) := of_decide_eq_true (by first | (with_reducible assumption) | assumption)
                  obtain ⟨ad192, e192, hx192_0⟩ := Kd.at_string HR0.out x13_1 p192 q192
                  cases e192
                  replace p192 := eq_true p192
                  replace q192 := eq_true q192
                  have p193 : 0 ≤ (x13_1 : Int) := of_decide_eq_true (by first | (with_reducible assumption) | assumption)
                  have q193 : x13_1 < (l1.length : Int) := of_decide_eq_true (by first | (with_reducible assumption) | assumption)
                  obtain ⟨ad193, e193, hx193_0⟩ := Kd.at_string HR1.out x13_1 p193 q193
                  cases e193
                  replace p193 := eq_true p193
                  replace q193 := eq_true q193
                  go_wp2
                  repeat (go_quiet (fail); try go_wp2)
                  go_ret
                  exact ⟨by first | rfl | (simp; done) | (simp [*]; done) | (simp [X.bne_nil, X.beq_nil]; done) | (simp [*, X.bne_nil, X.beq_nil]; done) | (simp [X.bne_nil, X.beq_nil]; done), by repeat (first | exact Drawn0.refl _ | apply Drawn0.step)⟩
              · rw [if_neg c7] at H
                exact absurd H (by simp)
            · rw [if_neg c6] at H
              exact absurd H (by simp)
          · rw [if_neg c5] at H
            exact absurd H (by simp)
        · rw [if_neg c4] at H
          have c4b0 : decide (x13_1 < (l0.length : Int)) = false := decide_eq_false c4
          clear c4
          obtain rfl := Option.some.inj H
          go_wp2
          repeat (go_quiet (fail); try go_wp2)
          go_ret
          exact ⟨by first | rfl | (simp; done) | (simp [*]; done) | (simp [X.bne_nil, X.beq_nil]; done) | (simp [*, X.bne_nil, X.beq_nil]; done) | (simp [X.bne_nil, X.beq_nil]; done), by repeat (first | exact Drawn0.refl _ | apply Drawn0.step)⟩
  · rw [if_neg c3] at H
    have c3b0 : ((l0.length : Int) == (l1.length : Int)) = false := beq_eq_false_iff_ne.mpr c3
    have c3b1 : ((l0.length : Int) != (l1.length : Int)) = true := bne_iff_ne.mpr c3
    have c3b2 : (l0.length == l1.length) = false := by first | simpa using c3 | (simp at c3 ⊢; omega)
    obtain rfl := Option.some.inj H
    go_enter Tryd.func101, Tryd.ntmps101
    go_wp2
    repeat (go_quiet (fail); try go_wp2)
    go_ret
    exact ⟨by first | rfl | (simp; done) | (simp [*]; done) | (simp [X.bne_nil, X.beq_nil]; done) | (simp [*, X.bne_nil, X.beq_nil]; done) | (simp [X.bne_nil, X.beq_nil]; done), by repeat (first | exact Drawn0.refl _ | apply Drawn0.step)⟩

/-! ### impl_Under: function 25 -/
def impl_Under.f (k : Nat) (a0 : ByteArray) (a1 : ByteArray) : Option (Bool) := (impl_Labels.f a0).bind fun t194 => ((impl_Labels.f a1).bind fun t197 => (if (t194.length : Int) ≥ (t197.length : Int) then (if 0 ≤ (wrap64 ((t194.length : Int) - (t197.length : Int))) then (if (wrap64 ((t194.length : Int) - (t197.length : Int))) ≤ (t194.length : Int) then ((slices_Equal_string.f k (t194.drop ((wrap64 ((t194.length : Int) - (t197.length : Int))) : Int).toNat) t197).bind fun t204 => (some t204)) else (none)) else (none)) else (some false)))
theorem impl_Under.mono : ∀ a0 a1 k, LeO (impl_Under.f k a0 a1) (impl_Under.f (k + 1) a0 a1) := by
  intro a0 a1 k
  unfold impl_Under.f
  repeat' first
      | (with_reducible exact slices_Equal_string.mono _ _ _)
      | (with_reducible exact LeO.refl _)
      | (with_reducible exact LeO.none _)
      | (with_reducible refine LeO.ite ?_ ?_)
      | (with_reducible refine LeO.bind ?_ (fun _ => ?_))
      | exact slices_Equal_string.mono _ _ _
      | exact LeO.none _
      | refine LeO.ite ?_ ?_
      | refine LeO.bind ?_ (fun _ => ?_)
set_option maxHeartbeats 8000000 in
set_option maxRecDepth 100000 in
theorem impl_Under.calls (k : Nat) (a0 : ByteArray) (a1 : ByteArray) (r : Bool) (w : World) (h : impl_Under.f k a0 a1 = some r) :
    Calls Tryd.prog 25 #[.string a0, .string a1] w fun e w' => e = .returned (.bool r) ∧ Below w.heap.size w w' := by
  have HB := Aside0.mk (Below.refl w.heap.size w)
  have H : ((impl_Labels.f a0).bind fun t194 => ((impl_Labels.f a1).bind fun t197 => (if (t194.length : Int) ≥ (t197.length : Int) then (if 0 ≤ (wrap64 ((t194.length : Int) - (t197.length : Int))) then (if (wrap64 ((t194.length : Int) - (t197.length : Int))) ≤ (t194.length : Int) then ((slices_Equal_string.f k (t194.drop ((wrap64 ((t194.length : Int) - (t197.length : Int))) : Int).toNat) t197).bind fun t204 => (some t204)) else (none)) else (none)) else (some false)))) = some r := h
  clear h
  replace H := Option.bind_eq_some_iff.mp H
  obtain ⟨t194, A30, H⟩ := H
  replace H : ((impl_Labels.f a1).bind fun t197 => (if (t194.length : Int) ≥ (t197.length : Int) then (if 0 ≤ (wrap64 ((t194.length : Int) - (t197.length : Int))) then (if (wrap64 ((t194.length : Int) - (t197.length : Int))) ≤ (t194.length : Int) then ((slices_Equal_string.f k (t194.drop ((wrap64 ((t194.length : Int) - (t197.length : Int))) : Int).toNat) t197).bind fun t204 => (some t204)) else (none)) else (none)) else (some false))) = some r := H
  have A3 := Aside0.mk A30
  clear A30
  replace H := Option.bind_eq_some_iff.mp H
  obtain ⟨t197, A40, H⟩ := H
  replace H : (if (t194.length : Int) ≥ (t197.length : Int) then (if 0 ≤ (wrap64 ((t194.length : Int) - (t197.length : Int))) then (if (wrap64 ((t194.length : Int) - (t197.length : Int))) ≤ (t194.length : Int) then ((slices_Equal_string.f k (t194.drop ((wrap64 ((t194.length : Int) - (t197.length : Int))) : Int).toNat) t197).bind fun t204 => (some t204)) else (none)) else (none)) else (some false)) = some r := H
  have A4 := Aside0.mk A40
  clear A40
  by_cases c5 : (t194.length : Int) ≥ (t197.length : Int)
  · rw [if_pos c5] at H
    have c5b0 : decide ((t197.length : Int) ≤ (t194.length : Int)) = true := decide_eq_true c5
    have c5b1 : decide (t197.length ≤ t194.length) = true := decide_eq_true (Int.ofNat_le.mp c5)
    clear c5
    obtain ⟨ji6, hji6⟩ : ∃ j_ : Int, (wrap64 ((t194.length : Int) - (t197.length : Int))) = j_ := ⟨_, rfl⟩
    replace H : (if 0 ≤ (ji6) then (if (ji6) ≤ (t194.length : Int) then ((slices_Equal_string.f k (t194.drop ((ji6) : Int).toNat) t197).bind fun t204 => (some t204)) else (none)) else (none)) = some r := by first | (rw [hji6] at H; exact H) | (simp only [hji6] at H ⊢; exact H)
    (try rw [hji6] at A3)
    (try rw [hji6] at A4)
    have hji6w : (IntKind.i64.wrap ((t194.length : Int) - (t197.length : Int))) = ji6 := (i64_w _).trans hji6
    by_cases c7 : 0 ≤ (ji6)
    · rw [if_pos c7] at H
      have c7b0 := eq_true c7
      have c7b1 : decide (0 ≤ (ji6)) = true := decide_eq_true c7
      clear c7
      by_cases c8 : (ji6) ≤ (t194.length : Int)
      · rw [if_pos c8] at H
        have c8b0 := eq_true c8
        have c8b1 : decide ((ji6) ≤ (t194.length : Int)) = true := decide_eq_true c8
        clear c8
        obtain ⟨y200, hy200⟩ : ∃ y_ : List ByteArray, y_ = (t194.drop ((ji6) : Int).toNat) := ⟨_, rfl⟩
        replace H : ((slices_Equal_string.f k y200 t197).bind fun t204 => (some t204)) = some r := by first | (rw [hy200]; with_reducible exact H) | (have H2_ := (Option.bind_some _ _).symm.trans H; rw [hy200]; with_reducible exact H2_) | (have H2_ := (Option.bind_some _ _).symm.trans H; with_reducible exact H2_) | with_reducible exact H | (rw [hy200]; exact H) | exact H
        have Ny200 := Aside0.mk hy200
        clear hy200
        replace H := Option.bind_eq_some_iff.mp H
        obtain ⟨t204, A90, H⟩ := H
        replace H : (some t204) = some r := H
        have A9 := Aside0.mk A90
        clear A90
        obtain rfl := Option.some.inj H
        go_enter Tryd.func25, Tryd.ntmps25
        go_wp2_with (first | ((with_reducible refine gate_callee (f := 28) rfl ?_); refine goesL_ (some 8) rfl rfl Tryd.func28 (by kernel_rfl) rfl #[.string a0] rfl (by (try simp only [List.map_toArray, List.map_cons, List.map_nil]); first | done | rfl | (simp only [List.length_drop, List.length_take]; rfl)) ?_; (with_reducible refine (impl_Labels.calls a0 t194 _ A3.out).mono ?_); rintro e w10 ⟨v195, rfl, ho0, hb⟩; refine ⟨_, rfl, ?_⟩; have n0_ := Aside0.mk (Kd.R_lower ho0 (below_size (by repeat (first | (with_reducible first | exact HB.out | apply below_alloc | apply pw_below_drewN | apply below_drew1) | exact HB.out)))); have n1_ := Aside0.mk (below_step (by repeat (first | (with_reducible first | exact HB.out | apply below_alloc | apply pw_below_drewN | apply below_drew1) | exact HB.out)) hb); clear HB; have HO196 := n0_; have HB := n1_; clear n0_ n1_; (try clear hb); (try clear hb2); (try clear hk); (try clear hi); (try clear ho0)) | ((with_reducible refine gate_callee (f := 28) rfl ?_); refine goesL_ (some 10) rfl rfl Tryd.func28 (by kernel_rfl) rfl #[.string a1] rfl (by (try simp only [List.map_toArray, List.map_cons, List.map_nil]); first | done | rfl | (simp only [List.length_drop, List.length_take]; rfl)) ?_; (with_reducible refine (impl_Labels.calls a1 t197 _ A4.out).mono ?_); rintro e w11 ⟨v198, rfl, ho0, hb⟩; refine ⟨_, rfl, ?_⟩; have n0_ := Aside0.mk (Kd.R_elder' (by (with_reducible repeat (first | apply Kd.R_alloc | apply Kd.R_drewN | apply Kd.R_drew)); exact HO196.out) (Kd.R_base ho0) hb); have n1_ := Aside0.mk (Kd.R_lower (Kd.R_new' ho0 (Kd.R_lt (by (with_reducible repeat (first | apply Kd.R_alloc | apply Kd.R_drewN | apply Kd.R_drew)); exact HO196.out))) (below_size (by repeat (first | (with_reducible first | exact HB.out | apply below_alloc | apply pw_below_drewN | apply below_drew1) | exact HB.out)))); have n2_ := Aside0.mk (below_step (by repeat (first | (with_reducible first | exact HB.out | apply below_alloc | apply pw_below_drewN | apply below_drew1) | exact HB.out)) hb); clear HO196; clear HB; have HO196 := n0_; have HO199 := n1_; have HB := n2_; clear n0_ n1_ n2_; (try clear hb); (try clear hb2); (try clear hk); (try clear hi); (try clear ho0); obtain ⟨Ao12, co12, eo12⟩ := Kd.R_slice HO196.out; subst eo12; obtain ⟨Ao13, co13, eo13⟩ := Kd.R_slice HO199.out; subst eo13; have q14 : ((ji6) : Int) ≤ ((t194.length : Int) : Int) := of_decide_eq_true (by first | (with_reducible assumption) | assumption); obtain ⟨i014, hi014, _, hsz14, _⟩ := info_parts info9; have hroom14 : t194.length ≤ co12 := (Kd.R_reads' HO196.out).2.1; have hC14 : Kd.C Kd.string _ Ao12 t194.length t194 := (Kd.R_reads' HO196.out).2.2; have q014 : (0 : Int) ≤ ((ji6) : Int) := of_decide_eq_true (by first | (with_reducible assumption) | assumption); have hcut14 := cut_from (P := Tryd.prog) 39 9 .i64 Tryd.underlying39 hi014 1 hsz14 Ao12 t194.length co12 (ji6) q014 q14; have hr14 := Kd.C_drop (m := ((ji6) : Int).toNat) (c := co12) hC14 (by omega) hroom14; obtain ⟨A14, hA14⟩ : ∃ A1, A1 = (if co12 = ((ji6) : Int).toNat then Ao12 else (Ao12 : Option Addr).map (·.add (((ji6) : Int).toNat * 1))) := ⟨_, rfl⟩; obtain ⟨c14, hc14⟩ : ∃ c1, c1 = co12 - ((ji6) : Int).toNat := ⟨_, rfl⟩; have hy14 : y200.length = t194.length - ((ji6) : Int).toNat := (by rw [Ny200.out, List.length_drop] <;> omega); rw [show (t194).drop ((ji6) : Int).toNat = y200 from Ny200.out.symm] at hr14; replace hr14 : Kd.C Kd.string _ A14 y200.length y200 := (by rw [hA14]; exact hr14); rw [← hy14, ← hA14, ← hc14] at hcut14; have HR203 := Aside0.mk hr14; have HC203 := Aside0.mk (show y200.length ≤ c14 from by rw [hy14, hc14]; exact Nat.sub_le_sub_right hroom14 _); clear hr14 hC14 hroom14 hi014 hsz14 hc14; have KY14 := Aside0.mk hy14; have KA14 := Aside0.mk hA14; clear hy14 hA14; have KL14 := Aside0.mk (show ((ji6) : Int).toNat ≤ t194.length from by omega); replace q14 := eq_true q14) | (go_at_call 101; (with_reducible refine (slices_Equal_string.calls k _ _ y200 _ _ t197 t204 _ ?side1 ?side2 ?side3 ?side4 A9.out).mono ?_); (case side1 => repeat (first | exact (by repeat (first | (with_reducible exact HR203.out) | (with_reducible refine Kd.C_alloc ?_ _) | (with_reducible refine Kd.C_drewN ?_ _) | (with_reducible refine Kd.C_drew ?_) | exact HR203.out)) | (with_reducible refine Kd.C_alloc ?_ _) | (with_reducible refine Kd.C_drewN ?_ _) | (with_reducible refine Kd.C_drew ?_))); (case side2 => exact HC203.out); (case side3 => repeat (first | exact (Kd.R_reads' HO199.out).2.2 | (with_reducible refine Kd.C_alloc ?_ _) | (with_reducible refine Kd.C_drewN ?_ _) | (with_reducible refine Kd.C_drew ?_))); (case side4 => exact (Kd.R_reads' HO199.out).2.1); rintro e w' ⟨rfl, ⟨nd, rfl⟩⟩))
        go_ret
        exact ⟨by first | rfl | (simp [errW_none, errW_some] <;> rfl) | (simp only [← hji6]; first | rfl | (simp [errW_none, errW_some] <;> rfl)) | (simp [*, errW_none, errW_some] <;> rfl), by repeat (first | (with_reducible first | exact HB.out | apply below_alloc | apply pw_below_drewN | apply below_drew1) | exact HB.out)⟩
      · rw [if_neg c8] at H
        exact absurd H (by simp)
    · rw [if_neg c7] at H
      exact absurd H (by simp)
  · rw [if_neg c5] at H
    have c5b0 : decide ((t197.length : Int) ≤ (t194.length : Int)) = false := decide_eq_false c5
    have c5b1 : decide (t197.length ≤ t194.length) = false := decide_eq_false (fun h => c5 (Int.ofNat_le.mpr h))
    clear c5
    obtain rfl := Option.some.inj H
    go_enter Tryd.func25, Tryd.ntmps25
    go_wp2_with (first | ((with_reducible refine gate_callee (f := 28) rfl ?_); refine goesL_ (some 8) rfl rfl Tryd.func28 (by kernel_rfl) rfl #[.string a0] rfl (by (try simp only [List.map_toArray, List.map_cons, List.map_nil]); first | done | rfl | (simp only [List.length_drop, List.length_take]; rfl)) ?_; (with_reducible refine (impl_Labels.calls a0 t194 _ A3.out).mono ?_); rintro e w15 ⟨v195, rfl, ho0, hb⟩; refine ⟨_, rfl, ?_⟩; have n0_ := Aside0.mk (Kd.R_lower ho0 (below_size (by repeat (first | (with_reducible first | exact HB.out | apply below_alloc | apply pw_below_drewN | apply below_drew1) | exact HB.out)))); have n1_ := Aside0.mk (below_step (by repeat (first | (with_reducible first | exact HB.out | apply below_alloc | apply pw_below_drewN | apply below_drew1) | exact HB.out)) hb); clear HB; have HO196 := n0_; have HB := n1_; clear n0_ n1_; (try clear hb); (try clear hb2); (try clear hk); (try clear hi); (try clear ho0)) | ((with_reducible refine gate_callee (f := 28) rfl ?_); refine goesL_ (some 10) rfl rfl Tryd.func28 (by kernel_rfl) rfl #[.string a1] rfl (by (try simp only [List.map_toArray, List.map_cons, List.map_nil]); first | done | rfl | (simp only [List.length_drop, List.length_take]; rfl)) ?_; (with_reducible refine (impl_Labels.calls a1 t197 _ A4.out).mono ?_); rintro e w16 ⟨v198, rfl, ho0, hb⟩; refine ⟨_, rfl, ?_⟩; have n0_ := Aside0.mk (Kd.R_elder' (by (with_reducible repeat (first | apply Kd.R_alloc | apply Kd.R_drewN | apply Kd.R_drew)); exact HO196.out) (Kd.R_base ho0) hb); have n1_ := Aside0.mk (Kd.R_lower (Kd.R_new' ho0 (Kd.R_lt (by (with_reducible repeat (first | apply Kd.R_alloc | apply Kd.R_drewN | apply Kd.R_drew)); exact HO196.out))) (below_size (by repeat (first | (with_reducible first | exact HB.out | apply below_alloc | apply pw_below_drewN | apply below_drew1) | exact HB.out)))); have n2_ := Aside0.mk (below_step (by repeat (first | (with_reducible first | exact HB.out | apply below_alloc | apply pw_below_drewN | apply below_drew1) | exact HB.out)) hb); clear HO196; clear HB; have HO196 := n0_; have HO199 := n1_; have HB := n2_; clear n0_ n1_ n2_; (try clear hb); (try clear hb2); (try clear hk); (try clear hi); (try clear ho0); obtain ⟨Ao17, co17, eo17⟩ := Kd.R_slice HO196.out; subst eo17; obtain ⟨Ao18, co18, eo18⟩ := Kd.R_slice HO199.out; subst eo18))
    go_ret
    exact ⟨by first | rfl | (simp [errW_none, errW_some] <;> rfl) | (simp [*, errW_none, errW_some] <;> rfl), by repeat (first | (with_reducible first | exact HB.out | apply below_alloc | apply pw_below_drewN | apply below_drew1) | exact HB.out)⟩

/-! ### laws_FnOrders: function 4 -/
def laws_FnOrders.f (k : Nat) (l0 : List Int) : Option (Bool) := (laws_big.f l0).bind fun t205 => (if t205 = true then (some true) else ((spec_DrawLessName.f k l0).bind fun bt206 => ((impl_LessName.f k bt206.1 bt206.2).bind fun t208 => ((spec_LessName.f k bt206.1 bt206.2).bind fun t209 => (if (t208 != t209) = true then (some false) else ((impl_LessName.f k bt206.1 bt206.1).bind fun t210 => (if t210 = true then (some false) else ((impl_LessName.f k bt206.1 bt206.2).bind fun t211 => (if t211 = true then ((impl_LessName.f k bt206.2 bt206.1).bind fun t212 => (if t212 = true then (some false) else ((impl_LessName.f k bt206.1 bt206.2).bind fun t213 => (if t213 = true then (if (true != (bt206.1.toList == bt206.2.toList)) = true then ((impl_Under.f k bt206.1 bt206.2).bind fun t214 => (if t214 = true then (if bt206.1.toList = bt206.2.toList then (some true) else ((impl_LessName.f k bt206.2 bt206.1).bind fun t215 => (some t215))) else (some true))) else (some false)) else ((impl_LessName.f k bt206.2 bt206.1).bind fun t216 => (if (t216 != (bt206.1.toList == bt206.2.toList)) = true then ((impl_Under.f k bt206.1 bt206.2).bind fun t217 => (if t217 = true then (if bt206.1.toList = bt206.2.toList then (some true) else ((impl_LessName.f k bt206.2 bt206.1).bind fun t218 => (some t218))) else (some true))) else (some false))))))) else ((impl_LessName.f k bt206.1 bt206.2).bind fun t219 => (if t219 = true then (if (true != (bt206.1.toList == bt206.2.toList)) = true then ((impl_Under.f k bt206.1 bt206.2).bind fun t220 => (if t220 = true then (if bt206.1.toList = bt206.2.toList then (some true) else ((impl_LessName.f k bt206.2 bt206.1).bind fun t221 => (some t221))) else (some true))) else (some false)) else ((impl_LessName.f k bt206.2 bt206.1).bind fun t222 => (if (t222 != (bt206.1.toList == bt206.2.toList)) = true then ((impl_Under.f k bt206.1 bt206.2).bind fun t223 => (if t223 = true then (if bt206.1.toList = bt206.2.toList then (some true) else ((impl_LessName.f k bt206.2 bt206.1).bind fun t224 => (some t224))) else (some true))) else (some false))))))))))))))
theorem laws_FnOrders.mono : ∀ a0 k, LeO (laws_FnOrders.f k a0) (laws_FnOrders.f (k + 1) a0) := by
  intro a0 k
  unfold laws_FnOrders.f
  repeat' first
      | (with_reducible exact impl_LessName.mono _ _ _)
      | (with_reducible exact impl_Under.mono _ _ _)
      | (with_reducible exact spec_DrawLessName.mono _ _)
      | (with_reducible exact spec_LessName.mono _ _ _)
      | (with_reducible exact LeO.refl _)
      | (with_reducible exact LeO.none _)
      | (with_reducible refine LeO.ite ?_ ?_)
      | (with_reducible refine LeO.bind ?_ (fun _ => ?_))
      | exact impl_LessName.mono _ _ _
      | exact impl_Under.mono _ _ _
      | exact spec_DrawLessName.mono _ _
      | exact spec_LessName.mono _ _ _
      | exact LeO.none _
      | refine LeO.ite ?_ ?_
      | refine LeO.bind ?_ (fun _ => ?_)
set_option maxHeartbeats 8000000 in
set_option maxRecDepth 100000 in
theorem laws_FnOrders.calls (k : Nat) (A0 : Option Addr) (c0 : Nat) (l0 : List Int) (r : Bool) (w : World) (hr0 : Kd.C (Kd.int .u8) w A0 l0.length l0) (hc0 : l0.length ≤ c0) (hrt_ : r = true) (h : laws_FnOrders.f k l0 = some r) :
    Calls Tryd.prog 4 #[.slice A0 l0.length c0] w fun e w' => e = .returned (.bool r) ∧ Below w.heap.size w w' := by
  have HR0 := Aside0.mk hr0
  have HC0 := Aside0.mk hc0
  clear hr0 hc0
  have HB := Aside0.mk (Below.refl w.heap.size w)
  have H : ((laws_big.f l0).bind fun t205 => (if t205 = true then (some true) else ((spec_DrawLessName.f k l0).bind fun bt206 => ((impl_LessName.f k bt206.1 bt206.2).bind fun t208 => ((spec_LessName.f k bt206.1 bt206.2).bind fun t209 => (if (t208 != t209) = true then (some false) else ((impl_LessName.f k bt206.1 bt206.1).bind fun t210 => (if t210 = true then (some false) else ((impl_LessName.f k bt206.1 bt206.2).bind fun t211 => (if t211 = true then ((impl_LessName.f k bt206.2 bt206.1).bind fun t212 => (if t212 = true then (some false) else ((impl_LessName.f k bt206.1 bt206.2).bind fun t213 => (if t213 = true then (if (true != (bt206.1.toList == bt206.2.toList)) = true then ((impl_Under.f k bt206.1 bt206.2).bind fun t214 => (if t214 = true then (if bt206.1.toList = bt206.2.toList then (some true) else ((impl_LessName.f k bt206.2 bt206.1).bind fun t215 => (some t215))) else (some true))) else (some false)) else ((impl_LessName.f k bt206.2 bt206.1).bind fun t216 => (if (t216 != (bt206.1.toList == bt206.2.toList)) = true then ((impl_Under.f k bt206.1 bt206.2).bind fun t217 => (if t217 = true then (if bt206.1.toList = bt206.2.toList then (some true) else ((impl_LessName.f k bt206.2 bt206.1).bind fun t218 => (some t218))) else (some true))) else (some false))))))) else ((impl_LessName.f k bt206.1 bt206.2).bind fun t219 => (if t219 = true then (if (true != (bt206.1.toList == bt206.2.toList)) = true then ((impl_Under.f k bt206.1 bt206.2).bind fun t220 => (if t220 = true then (if bt206.1.toList = bt206.2.toList then (some true) else ((impl_LessName.f k bt206.2 bt206.1).bind fun t221 => (some t221))) else (some true))) else (some false)) else ((impl_LessName.f k bt206.2 bt206.1).bind fun t222 => (if (t222 != (bt206.1.toList == bt206.2.toList)) = true then ((impl_Under.f k bt206.1 bt206.2).bind fun t223 => (if t223 = true then (if bt206.1.toList = bt206.2.toList then (some true) else ((impl_LessName.f k bt206.2 bt206.1).bind fun t224 => (some t224))) else (some true))) else (some false))))))))))))))) = some r := h
  clear h
  replace H := Option.bind_eq_some_iff.mp H
  obtain ⟨t205, A20, H⟩ := H
  replace H : (if t205 = true then (some true) else ((spec_DrawLessName.f k l0).bind fun bt206 => ((impl_LessName.f k bt206.1 bt206.2).bind fun t208 => ((spec_LessName.f k bt206.1 bt206.2).bind fun t209 => (if (t208 != t209) = true then (some false) else ((impl_LessName.f k bt206.1 bt206.1).bind fun t210 => (if t210 = true then (some false) else ((impl_LessName.f k bt206.1 bt206.2).bind fun t211 => (if t211 = true then ((impl_LessName.f k bt206.2 bt206.1).bind fun t212 => (if t212 = true then (some false) else ((impl_LessName.f k bt206.1 bt206.2).bind fun t213 => (if t213 = true then (if (true != (bt206.1.toList == bt206.2.toList)) = true then ((impl_Under.f k bt206.1 bt206.2).bind fun t214 => (if t214 = true then (if bt206.1.toList = bt206.2.toList then (some true) else ((impl_LessName.f k bt206.2 bt206.1).bind fun t215 => (some t215))) else (some true))) else (some false)) else ((impl_LessName.f k bt206.2 bt206.1).bind fun t216 => (if (t216 != (bt206.1.toList == bt206.2.toList)) = true then ((impl_Under.f k bt206.1 bt206.2).bind fun t217 => (if t217 = true then (if bt206.1.toList = bt206.2.toList then (some true) else ((impl_LessName.f k bt206.2 bt206.1).bind fun t218 => (some t218))) else (some true))) else (some false))))))) else ((impl_LessName.f k bt206.1 bt206.2).bind fun t219 => (if t219 = true then (if (true != (bt206.1.toList == bt206.2.toList)) = true then ((impl_Under.f k bt206.1 bt206.2).bind fun t220 => (if t220 = true then (if bt206.1.toList = bt206.2.toList then (some true) else ((impl_LessName.f k bt206.2 bt206.1).bind fun t221 => (some t221))) else (some true))) else (some false)) else ((impl_LessName.f k bt206.2 bt206.1).bind fun t222 => (if (t222 != (bt206.1.toList == bt206.2.toList)) = true then ((impl_Under.f k bt206.1 bt206.2).bind fun t223 => (if t223 = true then (if bt206.1.toList = bt206.2.toList then (some true) else ((impl_LessName.f k bt206.2 bt206.1).bind fun t224 => (some t224))) else (some true))) else (some false)))))))))))))) = some r := H
  have A2 := Aside0.mk A20
  clear A20
  by_cases c3 : t205 = true
  · subst c3
    have H1 : (some true) = some r := by rw [if_pos rfl] at H; exact H
    clear H
    have H := H1
    clear H1
    obtain rfl := Option.some.inj H
    go_enter Tryd.func4, Tryd.ntmps4
    go_wp2_with (first | ((with_reducible refine gate_callee (f := 21) rfl ?_); refine goesL_ (some 6) rfl rfl Tryd.func21 (by kernel_rfl) rfl #[.slice A0 l0.length c0] rfl (by (try simp only [List.map_toArray, List.map_cons, List.map_nil]); first | done | rfl | (simp only [List.length_drop, List.length_take]; rfl)) ?_; (with_reducible refine (laws_big.calls _ _ l0 true _ ?side1 ?side2 A2.out).mono ?_); (case side1 => repeat (first | exact HR0.out | (with_reducible refine Kd.C_alloc ?_ _) | (with_reducible refine Kd.C_drewN ?_ _) | (with_reducible refine Kd.C_drew ?_))); (case side2 => exact HC0.out); rintro e w' ⟨rfl, ⟨nd, rfl⟩⟩; refine ⟨_, rfl, ?_⟩))
    all_goals go_ret
    all_goals exact ⟨by first | rfl | (simp [errW_none, errW_some] <;> rfl) | (simp [*, errW_none, errW_some] <;> rfl) | (exfalso; simp_all; done) | ((have ai_ : ∀ p : Prop, Aside0 p ↔ p := fun p => ⟨fun h => h.out, fun h => ⟨h⟩⟩); simp_all [ai_]; done), by repeat (first | (with_reducible first | exact HB.out | apply below_alloc | apply pw_below_drewN | apply below_drew1) | exact HB.out)⟩
  · replace c3 := Bool.eq_false_iff.mpr c3
    subst c3
    have H1 : ((spec_DrawLessName.f k l0).bind fun bt206 => ((impl_LessName.f k bt206.1 bt206.2).bind fun t208 => ((spec_LessName.f k bt206.1 bt206.2).bind fun t209 => (if (t208 != t209) = true then (some false) else ((impl_LessName.f k bt206.1 bt206.1).bind fun t210 => (if t210 = true then (some false) else ((impl_LessName.f k bt206.1 bt206.2).bind fun t211 => (if t211 = true then ((impl_LessName.f k bt206.2 bt206.1).bind fun t212 => (if t212 = true then (some false) else ((impl_LessName.f k bt206.1 bt206.2).bind fun t213 => (if t213 = true then (if (true != (bt206.1.toList == bt206.2.toList)) = true then ((impl_Under.f k bt206.1 bt206.2).bind fun t214 => (if t214 = true then (if bt206.1.toList = bt206.2.toList then (some true) else ((impl_LessName.f k bt206.2 bt206.1).bind fun t215 => (some t215))) else (some true))) else (some false)) else ((impl_LessName.f k bt206.2 bt206.1).bind fun t216 => (if (t216 != (bt206.1.toList == bt206.2.toList)) = true then ((impl_Under.f k bt206.1 bt206.2).bind fun t217 => (if t217 = true then (if bt206.1.toList = bt206.2.toList then (some true) else ((impl_LessName.f k bt206.2 bt206.1).bind fun t218 => (some t218))) else (some true))) else (some false))))))) else ((impl_LessName.f k bt206.1 bt206.2).bind fun t219 => (if t219 = true then (if (true != (bt206.1.toList == bt206.2.toList)) = true then ((impl_Under.f k bt206.1 bt206.2).bind fun t220 => (if t220 = true then (if bt206.1.toList = bt206.2.toList then (some true) else ((impl_LessName.f k bt206.2 bt206.1).bind fun t221 => (some t221))) else (some true))) else (some false)) else ((impl_LessName.f k bt206.2 bt206.1).bind fun t222 => (if (t222 != (bt206.1.toList == bt206.2.toList)) = true then ((impl_Under.f k bt206.1 bt206.2).bind fun t223 => (if t223 = true then (if bt206.1.toList = bt206.2.toList then (some true) else ((impl_LessName.f k bt206.2 bt206.1).bind fun t224 => (some t224))) else (some true))) else (some false))))))))))))) = some r := by rw [if_neg (show ¬ (false = true) by decide)] at H; exact H
    clear H
    have H := H1
    clear H1
    replace H := Option.bind_eq_some_iff.mp H
    obtain ⟨⟨t206, t207⟩, A40, H⟩ := H
    replace H : ((impl_LessName.f k t206 t207).bind fun t208 => ((spec_LessName.f k t206 t207).bind fun t209 => (if (t208 != t209) = true then (some false) else ((impl_LessName.f k t206 t206).bind fun t210 => (if t210 = true then (some false) else ((impl_LessName.f k t206 t207).bind fun t211 => (if t211 = true then ((impl_LessName.f k t207 t206).bind fun t212 => (if t212 = true then (some false) else ((impl_LessName.f k t206 t207).bind fun t213 => (if t213 = true then (if (true != (t206.toList == t207.toList)) = true then ((impl_Under.f k t206 t207).bind fun t214 => (if t214 = true then (if t206.toList = t207.toList then (some true) else ((impl_LessName.f k t207 t206).bind fun t215 => (some t215))) else (some true))) else (some false)) else ((impl_LessName.f k t207 t206).bind fun t216 => (if (t216 != (t206.toList == t207.toList)) = true then ((impl_Under.f k t206 t207).bind fun t217 => (if t217 = true then (if t206.toList = t207.toList then (some true) else ((impl_LessName.f k t207 t206).bind fun t218 => (some t218))) else (some true))) else (some false))))))) else ((impl_LessName.f k t206 t207).bind fun t219 => (if t219 = true then (if (true != (t206.toList == t207.toList)) = true then ((impl_Under.f k t206 t207).bind fun t220 => (if t220 = true then (if t206.toList = t207.toList then (some true) else ((impl_LessName.f k t207 t206).bind fun t221 => (some t221))) else (some true))) else (some false)) else ((impl_LessName.f k t207 t206).bind fun t222 => (if (t222 != (t206.toList == t207.toList)) = true then ((impl_Under.f k t206 t207).bind fun t223 => (if t223 = true then (if t206.toList = t207.toList then (some true) else ((impl_LessName.f k t207 t206).bind fun t224 => (some t224))) else (some true))) else (some false)))))))))))) = some r := H
    have A4 := Aside0.mk A40
    clear A40
    replace H := Option.bind_eq_some_iff.mp H
    obtain ⟨t208, A50, H⟩ := H
    replace H : ((spec_LessName.f k t206 t207).bind fun t209 => (if (t208 != t209) = true then (some false) else ((impl_LessName.f k t206 t206).bind fun t210 => (if t210 = true then (some false) else ((impl_LessName.f k t206 t207).bind fun t211 => (if t211 = true then ((impl_LessName.f k t207 t206).bind fun t212 => (if t212 = true then (some false) else ((impl_LessName.f k t206 t207).bind fun t213 => (if t213 = true then (if (true != (t206.toList == t207.toList)) = true then ((impl_Under.f k t206 t207).bind fun t214 => (if t214 = true then (if t206.toList = t207.toList then (some true) else ((impl_LessName.f k t207 t206).bind fun t215 => (some t215))) else (some true))) else (some false)) else ((impl_LessName.f k t207 t206).bind fun t216 => (if (t216 != (t206.toList == t207.toList)) = true then ((impl_Under.f k t206 t207).bind fun t217 => (if t217 = true then (if t206.toList = t207.toList then (some true) else ((impl_LessName.f k t207 t206).bind fun t218 => (some t218))) else (some true))) else (some false))))))) else ((impl_LessName.f k t206 t207).bind fun t219 => (if t219 = true then (if (true != (t206.toList == t207.toList)) = true then ((impl_Under.f k t206 t207).bind fun t220 => (if t220 = true then (if t206.toList = t207.toList then (some true) else ((impl_LessName.f k t207 t206).bind fun t221 => (some t221))) else (some true))) else (some false)) else ((impl_LessName.f k t207 t206).bind fun t222 => (if (t222 != (t206.toList == t207.toList)) = true then ((impl_Under.f k t206 t207).bind fun t223 => (if t223 = true then (if t206.toList = t207.toList then (some true) else ((impl_LessName.f k t207 t206).bind fun t224 => (some t224))) else (some true))) else (some false))))))))))) = some r := H
    have A5 := Aside0.mk A50
    clear A50
    replace H := Option.bind_eq_some_iff.mp H
    obtain ⟨t209, A60, H⟩ := H
    replace H : (if (t208 != t209) = true then (some false) else ((impl_LessName.f k t206 t206).bind fun t210 => (if t210 = true then (some false) else ((impl_LessName.f k t206 t207).bind fun t211 => (if t211 = true then ((impl_LessName.f k t207 t206).bind fun t212 => (if t212 = true then (some false) else ((impl_LessName.f k t206 t207).bind fun t213 => (if t213 = true then (if (true != (t206.toList == t207.toList)) = true then ((impl_Under.f k t206 t207).bind fun t214 => (if t214 = true then (if t206.toList = t207.toList then (some true) else ((impl_LessName.f k t207 t206).bind fun t215 => (some t215))) else (some true))) else (some false)) else ((impl_LessName.f k t207 t206).bind fun t216 => (if (t216 != (t206.toList == t207.toList)) = true then ((impl_Under.f k t206 t207).bind fun t217 => (if t217 = true then (if t206.toList = t207.toList then (some true) else ((impl_LessName.f k t207 t206).bind fun t218 => (some t218))) else (some true))) else (some false))))))) else ((impl_LessName.f k t206 t207).bind fun t219 => (if t219 = true then (if (true != (t206.toList == t207.toList)) = true then ((impl_Under.f k t206 t207).bind fun t220 => (if t220 = true then (if t206.toList = t207.toList then (some true) else ((impl_LessName.f k t207 t206).bind fun t221 => (some t221))) else (some true))) else (some false)) else ((impl_LessName.f k t207 t206).bind fun t222 => (if (t222 != (t206.toList == t207.toList)) = true then ((impl_Under.f k t206 t207).bind fun t223 => (if t223 = true then (if t206.toList = t207.toList then (some true) else ((impl_LessName.f k t207 t206).bind fun t224 => (some t224))) else (some true))) else (some false)))))))))) = some r := H
    have A6 := Aside0.mk A60
    clear A60
    by_cases c7 : (t208 != t209) = true
    · rw [if_pos c7] at H
      have c7b0 : (t208 != t209) = true := c7
      (try (have c7b1 : decide (t208 = t209) = false := by simpa using c7))
      (try (have c7b2 : (t208 == t209) = false := by simpa using c7))
      (try (have c7b3 : ¬ (t208 = t209) := by simpa using c7))
      clear c7
      exact absurd (H.trans (congrArg some hrt_)) (by simp)
    · rw [if_neg c7] at H
      have c7b0 : (t208 != t209) = false := by simpa using c7
      (try (have c7b1 : decide (t208 = t209) = true := by simpa using c7))
      (try (have c7b2 : (t208 == t209) = true := by simpa using c7))
      clear c7
      replace H := Option.bind_eq_some_iff.mp H
      obtain ⟨t210, A80, H⟩ := H
      replace H : (if t210 = true then (some false) else ((impl_LessName.f k t206 t207).bind fun t211 => (if t211 = true then ((impl_LessName.f k t207 t206).bind fun t212 => (if t212 = true then (some false) else ((impl_LessName.f k t206 t207).bind fun t213 => (if t213 = true then (if (true != (t206.toList == t207.toList)) = true then ((impl_Under.f k t206 t207).bind fun t214 => (if t214 = true then (if t206.toList = t207.toList then (some true) else ((impl_LessName.f k t207 t206).bind fun t215 => (some t215))) else (some true))) else (some false)) else ((impl_LessName.f k t207 t206).bind fun t216 => (if (t216 != (t206.toList == t207.toList)) = true then ((impl_Under.f k t206 t207).bind fun t217 => (if t217 = true then (if t206.toList = t207.toList then (some true) else ((impl_LessName.f k t207 t206).bind fun t218 => (some t218))) else (some true))) else (some false))))))) else ((impl_LessName.f k t206 t207).bind fun t219 => (if t219 = true then (if (true != (t206.toList == t207.toList)) = true then ((impl_Under.f k t206 t207).bind fun t220 => (if t220 = true then (if t206.toList = t207.toList then (some true) else ((impl_LessName.f k t207 t206).bind fun t221 => (some t221))) else (some true))) else (some false)) else ((impl_LessName.f k t207 t206).bind fun t222 => (if (t222 != (t206.toList == t207.toList)) = true then ((impl_Under.f k t206 t207).bind fun t223 => (if t223 = true then (if t206.toList = t207.toList then (some true) else ((impl_LessName.f k t207 t206).bind fun t224 => (some t224))) else (some true))) else (some false)))))))) = some r := H
      have A8 := Aside0.mk A80
      clear A80
      by_cases c9 : t210 = true
      · subst c9
        have H1 : (some false) = some r := by rw [if_pos rfl] at H; exact H
        clear H
        have H := H1
        clear H1
        exact absurd (H.trans (congrArg some hrt_)) (by simp)
      · replace c9 := Bool.eq_false_iff.mpr c9
        subst c9
        have H1 : ((impl_LessName.f k t206 t207).bind fun t211 => (if t211 = true then ((impl_LessName.f k t207 t206).bind fun t212 => (if t212 = true then (some false) else ((impl_LessName.f k t206 t207).bind fun t213 => (if t213 = true then (if (true != (t206.toList == t207.toList)) = true then ((impl_Under.f k t206 t207).bind fun t214 => (if t214 = true then (if t206.toList = t207.toList then (some true) else ((impl_LessName.f k t207 t206).bind fun t215 => (some t215))) else (some true))) else (some false)) else ((impl_LessName.f k t207 t206).bind fun t216 => (if (t216 != (t206.toList == t207.toList)) = true then ((impl_Under.f k t206 t207).bind fun t217 => (if t217 = true then (if t206.toList = t207.toList then (some true) else ((impl_LessName.f k t207 t206).bind fun t218 => (some t218))) else (some true))) else (some false))))))) else ((impl_LessName.f k t206 t207).bind fun t219 => (if t219 = true then (if (true != (t206.toList == t207.toList)) = true then ((impl_Under.f k t206 t207).bind fun t220 => (if t220 = true then (if t206.toList = t207.toList then (some true) else ((impl_LessName.f k t207 t206).bind fun t221 => (some t221))) else (some true))) else (some false)) else ((impl_LessName.f k t207 t206).bind fun t222 => (if (t222 != (t206.toList == t207.toList)) = true then ((impl_Under.f k t206 t207).bind fun t223 => (if t223 = true then (if t206.toList = t207.toList then (some true) else ((impl_LessName.f k t207 t206).bind fun t224 => (some t224))) else (some true))) else (some false))))))) = some r := by rw [if_neg (show ¬ (false = true) by decide)] at H; exact H
        clear H
        have H := H1
        clear H1
        replace H := Option.bind_eq_some_iff.mp H
        obtain ⟨t211, A100, H⟩ := H
        replace H : (if t211 = true then ((impl_LessName.f k t207 t206).bind fun t212 => (if t212 = true then (some false) else ((impl_LessName.f k t206 t207).bind fun t213 => (if t213 = true then (if (true != (t206.toList == t207.toList)) = true then ((impl_Under.f k t206 t207).bind fun t214 => (if t214 = true then (if t206.toList = t207.toList then (some true) else ((impl_LessName.f k t207 t206).bind fun t215 => (some t215))) else (some true))) else (some false)) else ((impl_LessName.f k t207 t206).bind fun t216 => (if (t216 != (t206.toList == t207.toList)) = true then ((impl_Under.f k t206 t207).bind fun t217 => (if t217 = true then (if t206.toList = t207.toList then (some true) else ((impl_LessName.f k t207 t206).bind fun t218 => (some t218))) else (some true))) else (some false))))))) else ((impl_LessName.f k t206 t207).bind fun t219 => (if t219 = true then (if (true != (t206.toList == t207.toList)) = true then ((impl_Under.f k t206 t207).bind fun t220 => (if t220 = true then (if t206.toList = t207.toList then (some true) else ((impl_LessName.f k t207 t206).bind fun t221 => (some t221))) else (some true))) else (some false)) else ((impl_LessName.f k t207 t206).bind fun t222 => (if (t222 != (t206.toList == t207.toList)) = true then ((impl_Under.f k t206 t207).bind fun t223 => (if t223 = true then (if t206.toList = t207.toList then (some true) else ((impl_LessName.f k t207 t206).bind fun t224 => (some t224))) else (some true))) else (some false)))))) = some r := H
        have A10 := Aside0.mk A100
        clear A100
        by_cases c11 : t211 = true
        · subst c11
          have H1 : ((impl_LessName.f k t207 t206).bind fun t212 => (if t212 = true then (some false) else ((impl_LessName.f k t206 t207).bind fun t213 => (if t213 = true then (if (true != (t206.toList == t207.toList)) = true then ((impl_Under.f k t206 t207).bind fun t214 => (if t214 = true then (if t206.toList = t207.toList then (some true) else ((impl_LessName.f k t207 t206).bind fun t215 => (some t215))) else (some true))) else (some false)) else ((impl_LessName.f k t207 t206).bind fun t216 => (if (t216 != (t206.toList == t207.toList)) = true then ((impl_Under.f k t206 t207).bind fun t217 => (if t217 = true then (if t206.toList = t207.toList then (some true) else ((impl_LessName.f k t207 t206).bind fun t218 => (some t218))) else (some true))) else (some false))))))) = some r := by rw [if_pos rfl] at H; exact H
          clear H
          have H := H1
          clear H1
          replace H := Option.bind_eq_some_iff.mp H
          obtain ⟨t212, A120, H⟩ := H
          replace H : (if t212 = true then (some false) else ((impl_LessName.f k t206 t207).bind fun t213 => (if t213 = true then (if (true != (t206.toList == t207.toList)) = true then ((impl_Under.f k t206 t207).bind fun t214 => (if t214 = true then (if t206.toList = t207.toList then (some true) else ((impl_LessName.f k t207 t206).bind fun t215 => (some t215))) else (some true))) else (some false)) else ((impl_LessName.f k t207 t206).bind fun t216 => (if (t216 != (t206.toList == t207.toList)) = true then ((impl_Under.f k t206 t207).bind fun t217 => (if t217 = true then (if t206.toList = t207.toList then (some true) else ((impl_LessName.f k t207 t206).bind fun t218 => (some t218))) else (some true))) else (some false)))))) = some r := H
          have A12 := Aside0.mk A120
          clear A120
          by_cases c13 : t212 = true
          · subst c13
            have H1 : (some false) = some r := by rw [if_pos rfl] at H; exact H
            clear H
            have H := H1
            clear H1
            exact absurd (H.trans (congrArg some hrt_)) (by simp)
          · replace c13 := Bool.eq_false_iff.mpr c13
            subst c13
            have H1 : ((impl_LessName.f k t206 t207).bind fun t213 => (if t213 = true then (if (true != (t206.toList == t207.toList)) = true then ((impl_Under.f k t206 t207).bind fun t214 => (if t214 = true then (if t206.toList = t207.toList then (some true) else ((impl_LessName.f k t207 t206).bind fun t215 => (some t215))) else (some true))) else (some false)) else ((impl_LessName.f k t207 t206).bind fun t216 => (if (t216 != (t206.toList == t207.toList)) = true then ((impl_Under.f k t206 t207).bind fun t217 => (if t217 = true then (if t206.toList = t207.toList then (some true) else ((impl_LessName.f k t207 t206).bind fun t218 => (some t218))) else (some true))) else (some false))))) = some r := by rw [if_neg (show ¬ (false = true) by decide)] at H; exact H
            clear H
            have H := H1
            clear H1
            replace H := Option.bind_eq_some_iff.mp H
            obtain ⟨t213, A140, H⟩ := H
            replace H : (if t213 = true then (if (true != (t206.toList == t207.toList)) = true then ((impl_Under.f k t206 t207).bind fun t214 => (if t214 = true then (if t206.toList = t207.toList then (some true) else ((impl_LessName.f k t207 t206).bind fun t215 => (some t215))) else (some true))) else (some false)) else ((impl_LessName.f k t207 t206).bind fun t216 => (if (t216 != (t206.toList == t207.toList)) = true then ((impl_Under.f k t206 t207).bind fun t217 => (if t217 = true then (if t206.toList = t207.toList then (some true) else ((impl_LessName.f k t207 t206).bind fun t218 => (some t218))) else (some true))) else (some false)))) = some r := H
            have A14 := Aside0.mk A140
            clear A140
            by_cases c15 : t213 = true
            · subst c15
              have H1 : (if (true != (t206.toList == t207.toList)) = true then ((impl_Under.f k t206 t207).bind fun t214 => (if t214 = true then (if t206.toList = t207.toList then (some true) else ((impl_LessName.f k t207 t206).bind fun t215 => (some t215))) else (some true))) else (some false)) = some r := by rw [if_pos rfl] at H; exact H
              clear H
              have H := H1
              clear H1
              by_cases c16 : (true != (t206.toList == t207.toList)) = true
              · rw [if_pos c16] at H
                have c16b0 : (true != (t206.toList == t207.toList)) = true := c16
                (try (have c16b1 : decide (true = (t206.toList == t207.toList)) = false := by simpa using c16))
                (try (have c16b2 : (true == (t206.toList == t207.toList)) = false := by simpa using c16))
                (try (have c16b3 : ¬ (true = (t206.toList == t207.toList)) := by simpa using c16))
                clear c16
                replace H := Option.bind_eq_some_iff.mp H
                obtain ⟨t214, A170, H⟩ := H
                replace H : (if t214 = true then (if t206.toList = t207.toList then (some true) else ((impl_LessName.f k t207 t206).bind fun t215 => (some t215))) else (some true)) = some r := H
                have A17 := Aside0.mk A170
                clear A170
                by_cases c18 : t214 = true
                · subst c18
                  have H1 : (if t206.toList = t207.toList then (some true) else ((impl_LessName.f k t207 t206).bind fun t215 => (some t215))) = some r := by rw [if_pos rfl] at H; exact H
                  clear H
                  have H := H1
                  clear H1
                  by_cases c19 : t206.toList = t207.toList
                  · rw [if_pos c19] at H
                    have c19b0 : (t206.toList == t207.toList) = true := beq_iff_eq.mpr c19
                    have c19b1 : (t206.toList != t207.toList) = false := bne_eq_false_iff_eq.mpr c19
                    clear c19
                    obtain rfl := Option.some.inj H
                    go_enter Tryd.func4, Tryd.ntmps4
                    go_wp2_with (first | ((with_reducible refine gate_callee (f := 21) rfl ?_); refine goesL_ (some 6) rfl rfl Tryd.func21 (by kernel_rfl) rfl #[.slice A0 l0.length c0] rfl (by (try simp only [List.map_toArray, List.map_cons, List.map_nil]); first | done | rfl | (simp only [List.length_drop, List.length_take]; rfl)) ?_; (with_reducible refine (laws_big.calls _ _ l0 false _ ?side1 ?side2 A2.out).mono ?_); (case side1 => repeat (first | exact HR0.out | (with_reducible refine Kd.C_alloc ?_ _) | (with_reducible refine Kd.C_drewN ?_ _) | (with_reducible refine Kd.C_drew ?_))); (case side2 => exact HC0.out); rintro e w' ⟨rfl, ⟨nd, rfl⟩⟩; refine ⟨_, rfl, ?_⟩) | ((with_reducible refine gate_callee (f := 22) rfl ?_); refine goesL_ (some 9) rfl rfl Tryd.func22 (by kernel_rfl) rfl #[.slice A0 l0.length c0] rfl (by (try simp only [List.map_toArray, List.map_cons, List.map_nil]); first | done | rfl | (simp only [List.length_drop, List.length_take]; rfl)) ?_; (with_reducible refine (spec_DrawLessName.calls k _ _ l0 t206 t207 _ ?side1 ?side2 A4.out).mono ?_); (case side1 => repeat (first | exact HR0.out | (with_reducible refine Kd.C_alloc ?_ _) | (with_reducible refine Kd.C_drewN ?_ _) | (with_reducible refine Kd.C_drew ?_))); (case side2 => exact HC0.out); rintro e w20 ⟨rfl, hb⟩; refine ⟨_, rfl, ?_⟩; have n0_ := Aside0.mk (below_step (by repeat (first | (with_reducible first | exact HB.out | apply below_alloc | apply pw_below_drewN | apply below_drew1) | exact HB.out)) hb); clear HB; have HB := n0_; clear n0_; (try clear hb); (try clear hb2); (try clear hk); (try clear hi)) | ((with_reducible refine gate_callee (f := 23) rfl ?_); refine goesL_ (some 14) rfl rfl Tryd.func23 (by kernel_rfl) rfl #[.string t206, .string t207] rfl (by (try simp only [List.map_toArray, List.map_cons, List.map_nil]); first | done | rfl | (simp only [List.length_drop, List.length_take]; rfl)) ?_; (with_reducible refine (impl_LessName.calls k t206 t207 t208 _ A5.out).mono ?_); rintro e w21 ⟨rfl, hb⟩; refine ⟨_, rfl, ?_⟩; have n0_ := Aside0.mk (below_step (by repeat (first | (with_reducible first | exact HB.out | apply below_alloc | apply pw_below_drewN | apply below_drew1) | exact HB.out)) hb); clear HB; have HB := n0_; clear n0_; (try clear hb); (try clear hb2); (try clear hk); (try clear hi)) | ((with_reducible refine gate_callee (f := 24) rfl ?_); refine goesL_ (some 17) rfl rfl Tryd.func24 (by kernel_rfl) rfl #[.string t206, .string t207] rfl (by (try simp only [List.map_toArray, List.map_cons, List.map_nil]); first | done | rfl | (simp only [List.length_drop, List.length_take]; rfl)) ?_; (with_reducible refine (spec_LessName.calls k t206 t207 t209 _ A6.out).mono ?_); rintro e w22 ⟨rfl, hb⟩; refine ⟨_, rfl, ?_⟩; have n0_ := Aside0.mk (below_step (by repeat (first | (with_reducible first | exact HB.out | apply below_alloc | apply pw_below_drewN | apply below_drew1) | exact HB.out)) hb); clear HB; have HB := n0_; clear n0_; (try clear hb); (try clear hb2); (try clear hk); (try clear hi)) | (go_at_call 23; (with_reducible refine (impl_LessName.calls k t206 t206 false _ A8.out).mono ?_); rintro e w23 ⟨rfl, hb⟩; have n0_ := Aside0.mk (below_step (by repeat (first | (with_reducible first | exact HB.out | apply below_alloc | apply pw_below_drewN | apply below_drew1) | exact HB.out)) hb); clear HB; have HB := n0_; clear n0_; (try clear hb); (try clear hb2); (try clear hk); (try clear hi)) | (go_at_call 23; (with_reducible refine (impl_LessName.calls k t206 t207 true _ A10.out).mono ?_); rintro e w24 ⟨rfl, hb⟩; have n0_ := Aside0.mk (below_step (by repeat (first | (with_reducible first | exact HB.out | apply below_alloc | apply pw_below_drewN | apply below_drew1) | exact HB.out)) hb); clear HB; have HB := n0_; clear n0_; (try clear hb); (try clear hb2); (try clear hk); (try clear hi)) | (go_at_call 23; (with_reducible refine (impl_LessName.calls k t207 t206 false _ A12.out).mono ?_); rintro e w25 ⟨rfl, hb⟩; have n0_ := Aside0.mk (below_step (by repeat (first | (with_reducible first | exact HB.out | apply below_alloc | apply pw_below_drewN | apply below_drew1) | exact HB.out)) hb); clear HB; have HB := n0_; clear n0_; (try clear hb); (try clear hb2); (try clear hk); (try clear hi)) | ((with_reducible refine gate_callee (f := 23) rfl ?_); refine goesL_ (some 36) rfl rfl Tryd.func23 (by kernel_rfl) rfl #[.string t206, .string t207] rfl (by (try simp only [List.map_toArray, List.map_cons, List.map_nil]); first | done | rfl | (simp only [List.length_drop, List.length_take]; rfl)) ?_; (with_reducible refine (impl_LessName.calls k t206 t207 true _ A14.out).mono ?_); rintro e w26 ⟨rfl, hb⟩; refine ⟨_, rfl, ?_⟩; have n0_ := Aside0.mk (below_step (by repeat (first | (with_reducible first | exact HB.out | apply below_alloc | apply pw_below_drewN | apply below_drew1) | exact HB.out)) hb); clear HB; have HB := n0_; clear n0_; (try clear hb); (try clear hb2); (try clear hk); (try clear hi)) | (go_at_call 25; (with_reducible refine (impl_Under.calls k t206 t207 true _ A17.out).mono ?_); rintro e w27 ⟨rfl, hb⟩; have n0_ := Aside0.mk (below_step (by repeat (first | (with_reducible first | exact HB.out | apply below_alloc | apply pw_below_drewN | apply below_drew1) | exact HB.out)) hb); clear HB; have HB := n0_; clear n0_; (try clear hb); (try clear hb2); (try clear hk); (try clear hi)))
                    all_goals go_ret
                    all_goals exact ⟨by first | rfl | (simp [errW_none, errW_some] <;> rfl) | (simp [*, errW_none, errW_some] <;> rfl) | (exfalso; simp_all; done) | ((have ai_ : ∀ p : Prop, Aside0 p ↔ p := fun p => ⟨fun h => h.out, fun h => ⟨h⟩⟩); simp_all [ai_]; done), by repeat (first | (with_reducible first | exact HB.out | apply below_alloc | apply pw_below_drewN | apply below_drew1) | exact HB.out)⟩
                  · rw [if_neg c19] at H
                    have c19b0 : (t206.toList == t207.toList) = false := beq_eq_false_iff_ne.mpr c19
                    have c19b1 : (t206.toList != t207.toList) = true := bne_iff_ne.mpr c19
                    replace H := Option.bind_eq_some_iff.mp H
                    obtain ⟨t215, A280, H⟩ := H
                    replace H : (some t215) = some r := H
                    have A28 := Aside0.mk A280
                    clear A280
                    obtain rfl := Option.some.inj H
                    go_enter Tryd.func4, Tryd.ntmps4
                    go_wp2_with (first | ((with_reducible refine gate_callee (f := 21) rfl ?_); refine goesL_ (some 6) rfl rfl Tryd.func21 (by kernel_rfl) rfl #[.slice A0 l0.length c0] rfl (by (try simp only [List.map_toArray, List.map_cons, List.map_nil]); first | done | rfl | (simp only [List.length_drop, List.length_take]; rfl)) ?_; (with_reducible refine (laws_big.calls _ _ l0 false _ ?side1 ?side2 A2.out).mono ?_); (case side1 => repeat (first | exact HR0.out | (with_reducible refine Kd.C_alloc ?_ _) | (with_reducible refine Kd.C_drewN ?_ _) | (with_reducible refine Kd.C_drew ?_))); (case side2 => exact HC0.out); rintro e w' ⟨rfl, ⟨nd, rfl⟩⟩; refine ⟨_, rfl, ?_⟩) | ((with_reducible refine gate_callee (f := 22) rfl ?_); refine goesL_ (some 9) rfl rfl Tryd.func22 (by kernel_rfl) rfl #[.slice A0 l0.length c0] rfl (by (try simp only [List.map_toArray, List.map_cons, List.map_nil]); first | done | rfl | (simp only [List.length_drop, List.length_take]; rfl)) ?_; (with_reducible refine (spec_DrawLessName.calls k _ _ l0 t206 t207 _ ?side1 ?side2 A4.out).mono ?_); (case side1 => repeat (first | exact HR0.out | (with_reducible refine Kd.C_alloc ?_ _) | (with_reducible refine Kd.C_drewN ?_ _) | (with_reducible refine Kd.C_drew ?_))); (case side2 => exact HC0.out); rintro e w29 ⟨rfl, hb⟩; refine ⟨_, rfl, ?_⟩; have n0_ := Aside0.mk (below_step (by repeat (first | (with_reducible first | exact HB.out | apply below_alloc | apply pw_below_drewN | apply below_drew1) | exact HB.out)) hb); clear HB; have HB := n0_; clear n0_; (try clear hb); (try clear hb2); (try clear hk); (try clear hi)) | ((with_reducible refine gate_callee (f := 23) rfl ?_); refine goesL_ (some 14) rfl rfl Tryd.func23 (by kernel_rfl) rfl #[.string t206, .string t207] rfl (by (try simp only [List.map_toArray, List.map_cons, List.map_nil]); first | done | rfl | (simp only [List.length_drop, List.length_take]; rfl)) ?_; (with_reducible refine (impl_LessName.calls k t206 t207 t208 _ A5.out).mono ?_); rintro e w30 ⟨rfl, hb⟩; refine ⟨_, rfl, ?_⟩; have n0_ := Aside0.mk (below_step (by repeat (first | (with_reducible first | exact HB.out | apply below_alloc | apply pw_below_drewN | apply below_drew1) | exact HB.out)) hb); clear HB; have HB := n0_; clear n0_; (try clear hb); (try clear hb2); (try clear hk); (try clear hi)) | ((with_reducible refine gate_callee (f := 24) rfl ?_); refine goesL_ (some 17) rfl rfl Tryd.func24 (by kernel_rfl) rfl #[.string t206, .string t207] rfl (by (try simp only [List.map_toArray, List.map_cons, List.map_nil]); first | done | rfl | (simp only [List.length_drop, List.length_take]; rfl)) ?_; (with_reducible refine (spec_LessName.calls k t206 t207 t209 _ A6.out).mono ?_); rintro e w31 ⟨rfl, hb⟩; refine ⟨_, rfl, ?_⟩; have n0_ := Aside0.mk (below_step (by repeat (first | (with_reducible first | exact HB.out | apply below_alloc | apply pw_below_drewN | apply below_drew1) | exact HB.out)) hb); clear HB; have HB := n0_; clear n0_; (try clear hb); (try clear hb2); (try clear hk); (try clear hi)) | (go_at_call 23; (with_reducible refine (impl_LessName.calls k t206 t206 false _ A8.out).mono ?_); rintro e w32 ⟨rfl, hb⟩; have n0_ := Aside0.mk (below_step (by repeat (first | (with_reducible first | exact HB.out | apply below_alloc | apply pw_below_drewN | apply below_drew1) | exact HB.out)) hb); clear HB; have HB := n0_; clear n0_; (try clear hb); (try clear hb2); (try clear hk); (try clear hi)) | (go_at_call 23; (with_reducible refine (impl_LessName.calls k t206 t207 true _ A10.out).mono ?_); rintro e w33 ⟨rfl, hb⟩; have n0_ := Aside0.mk (below_step (by repeat (first | (with_reducible first | exact HB.out | apply below_alloc | apply pw_below_drewN | apply below_drew1) | exact HB.out)) hb); clear HB; have HB := n0_; clear n0_; (try clear hb); (try clear hb2); (try clear hk); (try clear hi)) | (go_at_call 23; (with_reducible refine (impl_LessName.calls k t207 t206 false _ A12.out).mono ?_); rintro e w34 ⟨rfl, hb⟩; have n0_ := Aside0.mk (below_step (by repeat (first | (with_reducible first | exact HB.out | apply below_alloc | apply pw_below_drewN | apply below_drew1) | exact HB.out)) hb); clear HB; have HB := n0_; clear n0_; (try clear hb); (try clear hb2); (try clear hk); (try clear hi)) | ((with_reducible refine gate_callee (f := 23) rfl ?_); refine goesL_ (some 36) rfl rfl Tryd.func23 (by kernel_rfl) rfl #[.string t206, .string t207] rfl (by (try simp only [List.map_toArray, List.map_cons, List.map_nil]); first | done | rfl | (simp only [List.length_drop, List.length_take]; rfl)) ?_; (with_reducible refine (impl_LessName.calls k t206 t207 true _ A14.out).mono ?_); rintro e w35 ⟨rfl, hb⟩; refine ⟨_, rfl, ?_⟩; have n0_ := Aside0.mk (below_step (by repeat (first | (with_reducible first | exact HB.out | apply below_alloc | apply pw_below_drewN | apply below_drew1) | exact HB.out)) hb); clear HB; have HB := n0_; clear n0_; (try clear hb); (try clear hb2); (try clear hk); (try clear hi)) | (go_at_call 25; (with_reducible refine (impl_Under.calls k t206 t207 true _ A17.out).mono ?_); rintro e w36 ⟨rfl, hb⟩; have n0_ := Aside0.mk (below_step (by repeat (first | (with_reducible first | exact HB.out | apply below_alloc | apply pw_below_drewN | apply below_drew1) | exact HB.out)) hb); clear HB; have HB := n0_; clear n0_; (try clear hb); (try clear hb2); (try clear hk); (try clear hi)) | (go_at_call 23; (with_reducible refine (impl_LessName.calls k t207 t206 t215 _ A28.out).mono ?_); rintro e w37 ⟨rfl, hb⟩; have n0_ := Aside0.mk (below_step (by repeat (first | (with_reducible first | exact HB.out | apply below_alloc | apply pw_below_drewN | apply below_drew1) | exact HB.out)) hb); clear HB; have HB := n0_; clear n0_; (try clear hb); (try clear hb2); (try clear hk); (try clear hi)))
                    all_goals go_ret
                    all_goals exact ⟨by first | rfl | (simp [errW_none, errW_some] <;> rfl) | (simp [*, errW_none, errW_some] <;> rfl) | (exfalso; simp_all; done) | ((have ai_ : ∀ p : Prop, Aside0 p ↔ p := fun p => ⟨fun h => h.out, fun h => ⟨h⟩⟩); simp_all [ai_]; done), by repeat (first | (with_reducible first | exact HB.out | apply below_alloc | apply pw_below_drewN | apply below_drew1) | exact HB.out)⟩
                · replace c18 := Bool.eq_false_iff.mpr c18
                  subst c18
                  have H1 : (some true) = some r := by rw [if_neg (show ¬ (false = true) by decide)] at H; exact H
                  clear H
                  have H := H1
                  clear H1
                  obtain rfl := Option.some.inj H
                  go_enter Tryd.func4, Tryd.ntmps4
                  go_wp2_with (first | ((with_reducible refine gate_callee (f := 21) rfl ?_); refine goesL_ (some 6) rfl rfl Tryd.func21 (by kernel_rfl) rfl #[.slice A0 l0.length c0] rfl (by (try simp only [List.map_toArray, List.map_cons, List.map_nil]); first | done | rfl | (simp only [List.length_drop, List.length_take]; rfl)) ?_; (with_reducible refine (laws_big.calls _ _ l0 false _ ?side1 ?side2 A2.out).mono ?_); (case side1 => repeat (first | exact HR0.out | (with_reducible refine Kd.C_alloc ?_ _) | (with_reducible refine Kd.C_drewN ?_ _) | (with_reducible refine Kd.C_drew ?_))); (case side2 => exact HC0.out); rintro e w' ⟨rfl, ⟨nd, rfl⟩⟩; refine ⟨_, rfl, ?_⟩) | ((with_reducible refine gate_callee (f := 22) rfl ?_); refine goesL_ (some 9) rfl rfl Tryd.func22 (by kernel_rfl) rfl #[.slice A0 l0.length c0] rfl (by (try simp only [List.map_toArray, List.map_cons, List.map_nil]); first | done | rfl | (simp only [List.length_drop, List.length_take]; rfl)) ?_; (with_reducible refine (spec_DrawLessName.calls k _ _ l0 t206 t207 _ ?side1 ?side2 A4.out).mono ?_); (case side1 => repeat (first | exact HR0.out | (with_reducible refine Kd.C_alloc ?_ _) | (with_reducible refine Kd.C_drewN ?_ _) | (with_reducible refine Kd.C_drew ?_))); (case side2 => exact HC0.out); rintro e w38 ⟨rfl, hb⟩; refine ⟨_, rfl, ?_⟩; have n0_ := Aside0.mk (below_step (by repeat (first | (with_reducible first | exact HB.out | apply below_alloc | apply pw_below_drewN | apply below_drew1) | exact HB.out)) hb); clear HB; have HB := n0_; clear n0_; (try clear hb); (try clear hb2); (try clear hk); (try clear hi)) | ((with_reducible refine gate_callee (f := 23) rfl ?_); refine goesL_ (some 14) rfl rfl Tryd.func23 (by kernel_rfl) rfl #[.string t206, .string t207] rfl (by (try simp only [List.map_toArray, List.map_cons, List.map_nil]); first | done | rfl | (simp only [List.length_drop, List.length_take]; rfl)) ?_; (with_reducible refine (impl_LessName.calls k t206 t207 t208 _ A5.out).mono ?_); rintro e w39 ⟨rfl, hb⟩; refine ⟨_, rfl, ?_⟩; have n0_ := Aside0.mk (below_step (by repeat (first | (with_reducible first | exact HB.out | apply below_alloc | apply pw_below_drewN | apply below_drew1) | exact HB.out)) hb); clear HB; have HB := n0_; clear n0_; (try clear hb); (try clear hb2); (try clear hk); (try clear hi)) | ((with_reducible refine gate_callee (f := 24) rfl ?_); refine goesL_ (some 17) rfl rfl Tryd.func24 (by kernel_rfl) rfl #[.string t206, .string t207] rfl (by (try simp only [List.map_toArray, List.map_cons, List.map_nil]); first | done | rfl | (simp only [List.length_drop, List.length_take]; rfl)) ?_; (with_reducible refine (spec_LessName.calls k t206 t207 t209 _ A6.out).mono ?_); rintro e w40 ⟨rfl, hb⟩; refine ⟨_, rfl, ?_⟩; have n0_ := Aside0.mk (below_step (by repeat (first | (with_reducible first | exact HB.out | apply below_alloc | apply pw_below_drewN | apply below_drew1) | exact HB.out)) hb); clear HB; have HB := n0_; clear n0_; (try clear hb); (try clear hb2); (try clear hk); (try clear hi)) | (go_at_call 23; (with_reducible refine (impl_LessName.calls k t206 t206 false _ A8.out).mono ?_); rintro e w41 ⟨rfl, hb⟩; have n0_ := Aside0.mk (below_step (by repeat (first | (with_reducible first | exact HB.out | apply below_alloc | apply pw_below_drewN | apply below_drew1) | exact HB.out)) hb); clear HB; have HB := n0_; clear n0_; (try clear hb); (try clear hb2); (try clear hk); (try clear hi)) | (go_at_call 23; (with_reducible refine (impl_LessName.calls k t206 t207 true _ A10.out).mono ?_); rintro e w42 ⟨rfl, hb⟩; have n0_ := Aside0.mk (below_step (by repeat (first | (with_reducible first | exact HB.out | apply below_alloc | apply pw_below_drewN | apply below_drew1) | exact HB.out)) hb); clear HB; have HB := n0_; clear n0_; (try clear hb); (try clear hb2); (try clear hk); (try clear hi)) | (go_at_call 23; (with_reducible refine (impl_LessName.calls k t207 t206 false _ A12.out).mono ?_); rintro e w43 ⟨rfl, hb⟩; have n0_ := Aside0.mk (below_step (by repeat (first | (with_reducible first | exact HB.out | apply below_alloc | apply pw_below_drewN | apply below_drew1) | exact HB.out)) hb); clear HB; have HB := n0_; clear n0_; (try clear hb); (try clear hb2); (try clear hk); (try clear hi)) | ((with_reducible refine gate_callee (f := 23) rfl ?_); refine goesL_ (some 36) rfl rfl Tryd.func23 (by kernel_rfl) rfl #[.string t206, .string t207] rfl (by (try simp only [List.map_toArray, List.map_cons, List.map_nil]); first | done | rfl | (simp only [List.length_drop, List.length_take]; rfl)) ?_; (with_reducible refine (impl_LessName.calls k t206 t207 true _ A14.out).mono ?_); rintro e w44 ⟨rfl, hb⟩; refine ⟨_, rfl, ?_⟩; have n0_ := Aside0.mk (below_step (by repeat (first | (with_reducible first | exact HB.out | apply below_alloc | apply pw_below_drewN | apply below_drew1) | exact HB.out)) hb); clear HB; have HB := n0_; clear n0_; (try clear hb); (try clear hb2); (try clear hk); (try clear hi)) | (go_at_call 25; (with_reducible refine (impl_Under.calls k t206 t207 false _ A17.out).mono ?_); rintro e w45 ⟨rfl, hb⟩; have n0_ := Aside0.mk (below_step (by repeat (first | (with_reducible first | exact HB.out | apply below_alloc | apply pw_below_drewN | apply below_drew1) | exact HB.out)) hb); clear HB; have HB := n0_; clear n0_; (try clear hb); (try clear hb2); (try clear hk); (try clear hi)))
                  all_goals go_ret
                  all_goals exact ⟨by first | rfl | (simp [errW_none, errW_some] <;> rfl) | (simp [*, errW_none, errW_some] <;> rfl) | (exfalso; simp_all; done) | ((have ai_ : ∀ p : Prop, Aside0 p ↔ p := fun p => ⟨fun h => h.out, fun h => ⟨h⟩⟩); simp_all [ai_]; done), by repeat (first | (with_reducible first | exact HB.out | apply below_alloc | apply pw_below_drewN | apply below_drew1) | exact HB.out)⟩
              · rw [if_neg c16] at H
                have c16b0 : (true != (t206.toList == t207.toList)) = false := by simpa using c16
                (try (have c16b1 : decide (true = (t206.toList == t207.toList)) = true := by simpa using c16))
                (try (have c16b2 : (true == (t206.toList == t207.toList)) = true := by simpa using c16))
                clear c16
                exact absurd (H.trans (congrArg some hrt_)) (by simp)
            · replace c15 := Bool.eq_false_iff.mpr c15
              subst c15
              exact absurd (Option.some.inj (A10.out.symm.trans A14.out)) (by decide)
        · replace c11 := Bool.eq_false_iff.mpr c11
          subst c11
          have H1 : ((impl_LessName.f k t206 t207).bind fun t219 => (if t219 = true then (if (true != (t206.toList == t207.toList)) = true then ((impl_Under.f k t206 t207).bind fun t220 => (if t220 = true then (if t206.toList = t207.toList then (some true) else ((impl_LessName.f k t207 t206).bind fun t221 => (some t221))) else (some true))) else (some false)) else ((impl_LessName.f k t207 t206).bind fun t222 => (if (t222 != (t206.toList == t207.toList)) = true then ((impl_Under.f k t206 t207).bind fun t223 => (if t223 = true then (if t206.toList = t207.toList then (some true) else ((impl_LessName.f k t207 t206).bind fun t224 => (some t224))) else (some true))) else (some false))))) = some r := by rw [if_neg (show ¬ (false = true) by decide)] at H; exact H
          clear H
          have H := H1
          clear H1
          replace H := Option.bind_eq_some_iff.mp H
          obtain ⟨t219, A800, H⟩ := H
          replace H : (if t219 = true then (if (true != (t206.toList == t207.toList)) = true then ((impl_Under.f k t206 t207).bind fun t220 => (if t220 = true then (if t206.toList = t207.toList then (some true) else ((impl_LessName.f k t207 t206).bind fun t221 => (some t221))) else (some true))) else (some false)) else ((impl_LessName.f k t207 t206).bind fun t222 => (if (t222 != (t206.toList == t207.toList)) = true then ((impl_Under.f k t206 t207).bind fun t223 => (if t223 = true then (if t206.toList = t207.toList then (some true) else ((impl_LessName.f k t207 t206).bind fun t224 => (some t224))) else (some true))) else (some false)))) = some r := H
          have A80 := Aside0.mk A800
          clear A800
          by_cases c81 : t219 = true
          · subst c81
            exact absurd (Option.some.inj (A10.out.symm.trans A80.out)) (by decide)
          · replace c81 := Bool.eq_false_iff.mpr c81
            subst c81
            have H1 : ((impl_LessName.f k t207 t206).bind fun t222 => (if (t222 != (t206.toList == t207.toList)) = true then ((impl_Under.f k t206 t207).bind fun t223 => (if t223 = true then (if t206.toList = t207.toList then (some true) else ((impl_LessName.f k t207 t206).bind fun t224 => (some t224))) else (some true))) else (some false))) = some r := by rw [if_neg (show ¬ (false = true) by decide)] at H; exact H
            clear H
            have H := H1
            clear H1
            replace H := Option.bind_eq_some_iff.mp H
            obtain ⟨t222, A1090, H⟩ := H
            replace H : (if (t222 != (t206.toList == t207.toList)) = true then ((impl_Under.f k t206 t207).bind fun t223 => (if t223 = true then (if t206.toList = t207.toList then (some true) else ((impl_LessName.f k t207 t206).bind fun t224 => (some t224))) else (some true))) else (some false)) = some r := H
            have A109 := Aside0.mk A1090
            clear A1090
            by_cases c110 : (t222 != (t206.toList == t207.toList)) = true
            · rw [if_pos c110] at H
              have c110b0 : (t222 != (t206.toList == t207.toList)) = true := c110
              (try (have c110b1 : decide (t222 = (t206.toList == t207.toList)) = false := by simpa using c110))
              (try (have c110b2 : (t222 == (t206.toList == t207.toList)) = false := by simpa using c110))
              (try (have c110b3 : ¬ (t222 = (t206.toList == t207.toList)) := by simpa using c110))
              clear c110
              replace H := Option.bind_eq_some_iff.mp H
              obtain ⟨t223, A1110, H⟩ := H
              replace H : (if t223 = true then (if t206.toList = t207.toList then (some true) else ((impl_LessName.f k t207 t206).bind fun t224 => (some t224))) else (some true)) = some r := H
              have A111 := Aside0.mk A1110
              clear A1110
              by_cases c112 : t223 = true
              · subst c112
                have H1 : (if t206.toList = t207.toList then (some true) else ((impl_LessName.f k t207 t206).bind fun t224 => (some t224))) = some r := by rw [if_pos rfl] at H; exact H
                clear H
                have H := H1
                clear H1
                by_cases c113 : t206.toList = t207.toList
                · rw [if_pos c113] at H
                  have c113b0 : (t206.toList == t207.toList) = true := beq_iff_eq.mpr c113
                  have c113b1 : (t206.toList != t207.toList) = false := bne_eq_false_iff_eq.mpr c113
                  clear c113
                  obtain rfl := Option.some.inj H
                  go_enter Tryd.func4, Tryd.ntmps4
                  go_wp2_with (first | ((with_reducible refine gate_callee (f := 21) rfl ?_); refine goesL_ (some 6) rfl rfl Tryd.func21 (by kernel_rfl) rfl #[.slice A0 l0.length c0] rfl (by (try simp only [List.map_toArray, List.map_cons, List.map_nil]); first | done | rfl | (simp only [List.length_drop, List.length_take]; rfl)) ?_; (with_reducible refine (laws_big.calls _ _ l0 false _ ?side1 ?side2 A2.out).mono ?_); (case side1 => repeat (first | exact HR0.out | (with_reducible refine Kd.C_alloc ?_ _) | (with_reducible refine Kd.C_drewN ?_ _) | (with_reducible refine Kd.C_drew ?_))); (case side2 => exact HC0.out); rintro e w' ⟨rfl, ⟨nd, rfl⟩⟩; refine ⟨_, rfl, ?_⟩) | ((with_reducible refine gate_callee (f := 22) rfl ?_); refine goesL_ (some 9) rfl rfl Tryd.func22 (by kernel_rfl) rfl #[.slice A0 l0.length c0] rfl (by (try simp only [List.map_toArray, List.map_cons, List.map_nil]); first | done | rfl | (simp only [List.length_drop, List.length_take]; rfl)) ?_; (with_reducible refine (spec_DrawLessName.calls k _ _ l0 t206 t207 _ ?side1 ?side2 A4.out).mono ?_); (case side1 => repeat (first | exact HR0.out | (with_reducible refine Kd.C_alloc ?_ _) | (with_reducible refine Kd.C_drewN ?_ _) | (with_reducible refine Kd.C_drew ?_))); (case side2 => exact HC0.out); rintro e w114 ⟨rfl, hb⟩; refine ⟨_, rfl, ?_⟩; have n0_ := Aside0.mk (below_step (by repeat (first | (with_reducible first | exact HB.out | apply below_alloc | apply pw_below_drewN | apply below_drew1) | exact HB.out)) hb); clear HB; have HB := n0_; clear n0_; (try clear hb); (try clear hb2); (try clear hk); (try clear hi)) | ((with_reducible refine gate_callee (f := 23) rfl ?_); refine goesL_ (some 14) rfl rfl Tryd.func23 (by kernel_rfl) rfl #[.string t206, .string t207] rfl (by (try simp only [List.map_toArray, List.map_cons, List.map_nil]); first | done | rfl | (simp only [List.length_drop, List.length_take]; rfl)) ?_; (with_reducible refine (impl_LessName.calls k t206 t207 t208 _ A5.out).mono ?_); rintro e w115 ⟨rfl, hb⟩; refine ⟨_, rfl, ?_⟩; have n0_ := Aside0.mk (below_step (by repeat (first | (with_reducible first | exact HB.out | apply below_alloc | apply pw_below_drewN | apply below_drew1) | exact HB.out)) hb); clear HB; have HB := n0_; clear n0_; (try clear hb); (try clear hb2); (try clear hk); (try clear hi)) | ((with_reducible refine gate_callee (f := 24) rfl ?_); refine goesL_ (some 17) rfl rfl Tryd.func24 (by kernel_rfl) rfl #[.string t206, .string t207] rfl (by (try simp only [List.map_toArray, List.map_cons, List.map_nil]); first | done | rfl | (simp only [List.length_drop, List.length_take]; rfl)) ?_; (with_reducible refine (spec_LessName.calls k t206 t207 t209 _ A6.out).mono ?_); rintro e w116 ⟨rfl, hb⟩; refine ⟨_, rfl, ?_⟩; have n0_ := Aside0.mk (below_step (by repeat (first | (with_reducible first | exact HB.out | apply below_alloc | apply pw_below_drewN | apply below_drew1) | exact HB.out)) hb); clear HB; have HB := n0_; clear n0_; (try clear hb); (try clear hb2); (try clear hk); (try clear hi)) | (go_at_call 23; (with_reducible refine (impl_LessName.calls k t206 t206 false _ A8.out).mono ?_); rintro e w117 ⟨rfl, hb⟩; have n0_ := Aside0.mk (below_step (by repeat (first | (with_reducible first | exact HB.out | apply below_alloc | apply pw_below_drewN | apply below_drew1) | exact HB.out)) hb); clear HB; have HB := n0_; clear n0_; (try clear hb); (try clear hb2); (try clear hk); (try clear hi)) | (go_at_call 23; (with_reducible refine (impl_LessName.calls k t206 t207 false _ A10.out).mono ?_); rintro e w118 ⟨rfl, hb⟩; have n0_ := Aside0.mk (below_step (by repeat (first | (with_reducible first | exact HB.out | apply below_alloc | apply pw_below_drewN | apply below_drew1) | exact HB.out)) hb); clear HB; have HB := n0_; clear n0_; (try clear hb); (try clear hb2); (try clear hk); (try clear hi)) | ((with_reducible refine gate_callee (f := 23) rfl ?_); refine goesL_ (some 36) rfl rfl Tryd.func23 (by kernel_rfl) rfl #[.string t206, .string t207] rfl (by (try simp only [List.map_toArray, List.map_cons, List.map_nil]); first | done | rfl | (simp only [List.length_drop, List.length_take]; rfl)) ?_; (with_reducible refine (impl_LessName.calls k t206 t207 false _ A80.out).mono ?_); rintro e w119 ⟨rfl, hb⟩; refine ⟨_, rfl, ?_⟩; have n0_ := Aside0.mk (below_step (by repeat (first | (with_reducible first | exact HB.out | apply below_alloc | apply pw_below_drewN | apply below_drew1) | exact HB.out)) hb); clear HB; have HB := n0_; clear n0_; (try clear hb); (try clear hb2); (try clear hk); (try clear hi)) | (go_at_call 23; (with_reducible refine (impl_LessName.calls k t207 t206 t222 _ A109.out).mono ?_); rintro e w120 ⟨rfl, hb⟩; have n0_ := Aside0.mk (below_step (by repeat (first | (with_reducible first | exact HB.out | apply below_alloc | apply pw_below_drewN | apply below_drew1) | exact HB.out)) hb); clear HB; have HB := n0_; clear n0_; (try clear hb); (try clear hb2); (try clear hk); (try clear hi)) | (go_at_call 25; (with_reducible refine (impl_Under.calls k t206 t207 true _ A111.out).mono ?_); rintro e w121 ⟨rfl, hb⟩; have n0_ := Aside0.mk (below_step (by repeat (first | (with_reducible first | exact HB.out | apply below_alloc | apply pw_below_drewN | apply below_drew1) | exact HB.out)) hb); clear HB; have HB := n0_; clear n0_; (try clear hb); (try clear hb2); (try clear hk); (try clear hi)))
                  all_goals go_ret
                  all_goals exact ⟨by first | rfl | (simp [errW_none, errW_some] <;> rfl) | (simp [*, errW_none, errW_some] <;> rfl) | (exfalso; simp_all; done) | ((have ai_ : ∀ p : Prop, Aside0 p ↔ p := fun p => ⟨fun h => h.out, fun h => ⟨h⟩⟩); simp_all [ai_]; done), by repeat (first | (with_reducible first | exact HB.out | apply below_alloc | apply pw_below_drewN | apply below_drew1) | exact HB.out)⟩
                · rw [if_neg c113] at H
                  have c113b0 : (t206.toList == t207.toList) = false := beq_eq_false_iff_ne.mpr c113
                  have c113b1 : (t206.toList != t207.toList) = true := bne_iff_ne.mpr c113
                  replace H := Option.bind_eq_some_iff.mp H
                  obtain ⟨t224, A1220, H⟩ := H
                  replace H : (some t224) = some r := H
                  have A122 := Aside0.mk A1220
                  clear A1220
                  obtain rfl := Option.some.inj H
                  go_enter Tryd.func4, Tryd.ntmps4
                  go_wp2_with (first | ((with_reducible refine gate_callee (f := 21) rfl ?_); refine goesL_ (some 6) rfl rfl Tryd.func21 (by kernel_rfl) rfl #[.slice A0 l0.length c0] rfl (by (try simp only [List.map_toArray, List.map_cons, List.map_nil]); first | done | rfl | (simp only [List.length_drop, List.length_take]; rfl)) ?_; (with_reducible refine (laws_big.calls _ _ l0 false _ ?side1 ?side2 A2.out).mono ?_); (case side1 => repeat (first | exact HR0.out | (with_reducible refine Kd.C_alloc ?_ _) | (with_reducible refine Kd.C_drewN ?_ _) | (with_reducible refine Kd.C_drew ?_))); (case side2 => exact HC0.out); rintro e w' ⟨rfl, ⟨nd, rfl⟩⟩; refine ⟨_, rfl, ?_⟩) | ((with_reducible refine gate_callee (f := 22) rfl ?_); refine goesL_ (some 9) rfl rfl Tryd.func22 (by kernel_rfl) rfl #[.slice A0 l0.length c0] rfl (by (try simp only [List.map_toArray, List.map_cons, List.map_nil]); first | done | rfl | (simp only [List.length_drop, List.length_take]; rfl)) ?_; (with_reducible refine (spec_DrawLessName.calls k _ _ l0 t206 t207 _ ?side1 ?side2 A4.out).mono ?_); (case side1 => repeat (first | exact HR0.out | (with_reducible refine Kd.C_alloc ?_ _) | (with_reducible refine Kd.C_drewN ?_ _) | (with_reducible refine Kd.C_drew ?_))); (case side2 => exact HC0.out); rintro e w123 ⟨rfl, hb⟩; refine ⟨_, rfl, ?_⟩; have n0_ := Aside0.mk (below_step (by repeat (first | (with_reducible first | exact HB.out | apply below_alloc | apply pw_below_drewN | apply below_drew1) | exact HB.out)) hb); clear HB; have HB := n0_; clear n0_; (try clear hb); (try clear hb2); (try clear hk); (try clear hi)) | ((with_reducible refine gate_callee (f := 23) rfl ?_); refine goesL_ (some 14) rfl rfl Tryd.func23 (by kernel_rfl) rfl #[.string t206, .string t207] rfl (by (try simp only [List.map_toArray, List.map_cons, List.map_nil]); first | done | rfl | (simp only [List.length_drop, List.length_take]; rfl)) ?_; (with_reducible refine (impl_LessName.calls k t206 t207 t208 _ A5.out).mono ?_); rintro e w124 ⟨rfl, hb⟩; refine ⟨_, rfl, ?_⟩; have n0_ := Aside0.mk (below_step (by repeat (first | (with_reducible first | exact HB.out | apply below_alloc | apply pw_below_drewN | apply below_drew1) | exact HB.out)) hb); clear HB; have HB := n0_; clear n0_; (try clear hb); (try clear hb2); (try clear hk); (try clear hi)) | ((with_reducible refine gate_callee (f := 24) rfl ?_); refine goesL_ (some 17) rfl rfl Tryd.func24 (by kernel_rfl) rfl #[.string t206, .string t207] rfl (by (try simp only [List.map_toArray, List.map_cons, List.map_nil]); first | done | rfl | (simp only [List.length_drop, List.length_take]; rfl)) ?_; (with_reducible refine (spec_LessName.calls k t206 t207 t209 _ A6.out).mono ?_); rintro e w125 ⟨rfl, hb⟩; refine ⟨_, rfl, ?_⟩; have n0_ := Aside0.mk (below_step (by repeat (first | (with_reducible first | exact HB.out | apply below_alloc | apply pw_below_drewN | apply below_drew1) | exact HB.out)) hb); clear HB; have HB := n0_; clear n0_; (try clear hb); (try clear hb2); (try clear hk); (try clear hi)) | (go_at_call 23; (with_reducible refine (impl_LessName.calls k t206 t206 false _ A8.out).mono ?_); rintro e w126 ⟨rfl, hb⟩; have n0_ := Aside0.mk (below_step (by repeat (first | (with_reducible first | exact HB.out | apply below_alloc | apply pw_below_drewN | apply below_drew1) | exact HB.out)) hb); clear HB; have HB := n0_; clear n0_; (try clear hb); (try clear hb2); (try clear hk); (try clear hi)) | (go_at_call 23; (with_reducible refine (impl_LessName.calls k t206 t207 false _ A10.out).mono ?_); rintro e w127 ⟨rfl, hb⟩; have n0_ := Aside0.mk (below_step (by repeat (first | (with_reducible first | exact HB.out | apply below_alloc | apply pw_below_drewN | apply below_drew1) | exact HB.out)) hb); clear HB; have HB := n0_; clear n0_; (try clear hb); (try clear hb2); (try clear hk); (try clear hi)) | ((with_reducible refine gate_callee (f := 23) rfl ?_); refine goesL_ (some 36) rfl rfl Tryd.func23 (by kernel_rfl) rfl #[.string t206, .string t207] rfl (by (try simp only [List.map_toArray, List.map_cons, List.map_nil]); first | done | rfl | (simp only [List.length_drop, List.length_take]; rfl)) ?_; (with_reducible refine (impl_LessName.calls k t206 t207 false _ A80.out).mono ?_); rintro e w128 ⟨rfl, hb⟩; refine ⟨_, rfl, ?_⟩; have n0_ := Aside0.mk (below_step (by repeat (first | (with_reducible first | exact HB.out | apply below_alloc | apply pw_below_drewN | apply below_drew1) | exact HB.out)) hb); clear HB; have HB := n0_; clear n0_; (try clear hb); (try clear hb2); (try clear hk); (try clear hi)) | (go_at_call 23; (with_reducible refine (impl_LessName.calls k t207 t206 t222 _ A109.out).mono ?_); rintro e w129 ⟨rfl, hb⟩; have n0_ := Aside0.mk (below_step (by repeat (first | (with_reducible first | exact HB.out | apply below_alloc | apply pw_below_drewN | apply below_drew1) | exact HB.out)) hb); clear HB; have HB := n0_; clear n0_; (try clear hb); (try clear hb2); (try clear hk); (try clear hi)) | (go_at_call 25; (with_reducible refine (impl_Under.calls k t206 t207 true _ A111.out).mono ?_); rintro e w130 ⟨rfl, hb⟩; have n0_ := Aside0.mk (below_step (by repeat (first | (with_reducible first | exact HB.out | apply below_alloc | apply pw_below_drewN | apply below_drew1) | exact HB.out)) hb); clear HB; have HB := n0_; clear n0_; (try clear hb); (try clear hb2); (try clear hk); (try clear hi)) | (go_at_call 23; (with_reducible refine (impl_LessName.calls k t207 t206 t224 _ A122.out).mono ?_); rintro e w131 ⟨rfl, hb⟩; have n0_ := Aside0.mk (below_step (by repeat (first | (with_reducible first | exact HB.out | apply below_alloc | apply pw_below_drewN | apply below_drew1) | exact HB.out)) hb); clear HB; have HB := n0_; clear n0_; (try clear hb); (try clear hb2); (try clear hk); (try clear hi)))
                  all_goals go_ret
                  all_goals exact ⟨by first | rfl | (simp [errW_none, errW_some] <;> rfl) | (simp [*, errW_none, errW_some] <;> rfl) | (exfalso; simp_all; done) | ((have ai_ : ∀ p : Prop, Aside0 p ↔ p := fun p => ⟨fun h => h.out, fun h => ⟨h⟩⟩); simp_all [ai_]; done), by repeat (first | (with_reducible first | exact HB.out | apply below_alloc | apply pw_below_drewN | apply below_drew1) | exact HB.out)⟩
              · replace c112 := Bool.eq_false_iff.mpr c112
                subst c112
                have H1 : (some true) = some r := by rw [if_neg (show ¬ (false = true) by decide)] at H; exact H
                clear H
                have H := H1
                clear H1
                obtain rfl := Option.some.inj H
                go_enter Tryd.func4, Tryd.ntmps4
                go_wp2_with (first | ((with_reducible refine gate_callee (f := 21) rfl ?_); refine goesL_ (some 6) rfl rfl Tryd.func21 (by kernel_rfl) rfl #[.slice A0 l0.length c0] rfl (by (try simp only [List.map_toArray, List.map_cons, List.map_nil]); first | done | rfl | (simp only [List.length_drop, List.length_take]; rfl)) ?_; (with_reducible refine (laws_big.calls _ _ l0 false _ ?side1 ?side2 A2.out).mono ?_); (case side1 => repeat (first | exact HR0.out | (with_reducible refine Kd.C_alloc ?_ _) | (with_reducible refine Kd.C_drewN ?_ _) | (with_reducible refine Kd.C_drew ?_))); (case side2 => exact HC0.out); rintro e w' ⟨rfl, ⟨nd, rfl⟩⟩; refine ⟨_, rfl, ?_⟩) | ((with_reducible refine gate_callee (f := 22) rfl ?_); refine goesL_ (some 9) rfl rfl Tryd.func22 (by kernel_rfl) rfl #[.slice A0 l0.length c0] rfl (by (try simp only [List.map_toArray, List.map_cons, List.map_nil]); first | done | rfl | (simp only [List.length_drop, List.length_take]; rfl)) ?_; (with_reducible refine (spec_DrawLessName.calls k _ _ l0 t206 t207 _ ?side1 ?side2 A4.out).mono ?_); (case side1 => repeat (first | exact HR0.out | (with_reducible refine Kd.C_alloc ?_ _) | (with_reducible refine Kd.C_drewN ?_ _) | (with_reducible refine Kd.C_drew ?_))); (case side2 => exact HC0.out); rintro e w132 ⟨rfl, hb⟩; refine ⟨_, rfl, ?_⟩; have n0_ := Aside0.mk (below_step (by repeat (first | (with_reducible first | exact HB.out | apply below_alloc | apply pw_below_drewN | apply below_drew1) | exact HB.out)) hb); clear HB; have HB := n0_; clear n0_; (try clear hb); (try clear hb2); (try clear hk); (try clear hi)) | ((with_reducible refine gate_callee (f := 23) rfl ?_); refine goesL_ (some 14) rfl rfl Tryd.func23 (by kernel_rfl) rfl #[.string t206, .string t207] rfl (by (try simp only [List.map_toArray, List.map_cons, List.map_nil]); first | done | rfl | (simp only [List.length_drop, List.length_take]; rfl)) ?_; (with_reducible refine (impl_LessName.calls k t206 t207 t208 _ A5.out).mono ?_); rintro e w133 ⟨rfl, hb⟩; refine ⟨_, rfl, ?_⟩; have n0_ := Aside0.mk (below_step (by repeat (first | (with_reducible first | exact HB.out | apply below_alloc | apply pw_below_drewN | apply below_drew1) | exact HB.out)) hb); clear HB; have HB := n0_; clear n0_; (try clear hb); (try clear hb2); (try clear hk); (try clear hi)) | ((with_reducible refine gate_callee (f := 24) rfl ?_); refine goesL_ (some 17) rfl rfl Tryd.func24 (by kernel_rfl) rfl #[.string t206, .string t207] rfl (by (try simp only [List.map_toArray, List.map_cons, List.map_nil]); first | done | rfl | (simp only [List.length_drop, List.length_take]; rfl)) ?_; (with_reducible refine (spec_LessName.calls k t206 t207 t209 _ A6.out).mono ?_); rintro e w134 ⟨rfl, hb⟩; refine ⟨_, rfl, ?_⟩; have n0_ := Aside0.mk (below_step (by repeat (first | (with_reducible first | exact HB.out | apply below_alloc | apply pw_below_drewN | apply below_drew1) | exact HB.out)) hb); clear HB; have HB := n0_; clear n0_; (try clear hb); (try clear hb2); (try clear hk); (try clear hi)) | (go_at_call 23; (with_reducible refine (impl_LessName.calls k t206 t206 false _ A8.out).mono ?_); rintro e w135 ⟨rfl, hb⟩; have n0_ := Aside0.mk (below_step (by repeat (first | (with_reducible first | exact HB.out | apply below_alloc | apply pw_below_drewN | apply below_drew1) | exact HB.out)) hb); clear HB; have HB := n0_; clear n0_; (try clear hb); (try clear hb2); (try clear hk); (try clear hi)) | (go_at_call 23; (with_reducible refine (impl_LessName.calls k t206 t207 false _ A10.out).mono ?_); rintro e w136 ⟨rfl, hb⟩; have n0_ := Aside0.mk (below_step (by repeat (first | (with_reducible first | exact HB.out | apply below_alloc | apply pw_below_drewN | apply below_drew1) | exact HB.out)) hb); clear HB; have HB := n0_; clear n0_; (try clear hb); (try clear hb2); (try clear hk); (try clear hi)) | ((with_reducible refine gate_callee (f := 23) rfl ?_); refine goesL_ (some 36) rfl rfl Tryd.func23 (by kernel_rfl) rfl #[.string t206, .string t207] rfl (by (try simp only [List.map_toArray, List.map_cons, List.map_nil]); first | done | rfl | (simp only [List.length_drop, List.length_take]; rfl)) ?_; (with_reducible refine (impl_LessName.calls k t206 t207 false _ A80.out).mono ?_); rintro e w137 ⟨rfl, hb⟩; refine ⟨_, rfl, ?_⟩; have n0_ := Aside0.mk (below_step (by repeat (first | (with_reducible first | exact HB.out | apply below_alloc | apply pw_below_drewN | apply below_drew1) | exact HB.out)) hb); clear HB; have HB := n0_; clear n0_; (try clear hb); (try clear hb2); (try clear hk); (try clear hi)) | (go_at_call 23; (with_reducible refine (impl_LessName.calls k t207 t206 t222 _ A109.out).mono ?_); rintro e w138 ⟨rfl, hb⟩; have n0_ := Aside0.mk (below_step (by repeat (first | (with_reducible first | exact HB.out | apply below_alloc | apply pw_below_drewN | apply below_drew1) | exact HB.out)) hb); clear HB; have HB := n0_; clear n0_; (try clear hb); (try clear hb2); (try clear hk); (try clear hi)) | (go_at_call 25; (with_reducible refine (impl_Under.calls k t206 t207 false _ A111.out).mono ?_); rintro e w139 ⟨rfl, hb⟩; have n0_ := Aside0.mk (below_step (by repeat (first | (with_reducible first | exact HB.out | apply below_alloc | apply pw_below_drewN | apply below_drew1) | exact HB.out)) hb); clear HB; have HB := n0_; clear n0_; (try clear hb); (try clear hb2); (try clear hk); (try clear hi)))
                all_goals go_ret
                all_goals exact ⟨by first | rfl | (simp [errW_none, errW_some] <;> rfl) | (simp [*, errW_none, errW_some] <;> rfl) | (exfalso; simp_all; done) | ((have ai_ : ∀ p : Prop, Aside0 p ↔ p := fun p => ⟨fun h => h.out, fun h => ⟨h⟩⟩); simp_all [ai_]; done), by repeat (first | (with_reducible first | exact HB.out | apply below_alloc | apply pw_below_drewN | apply below_drew1) | exact HB.out)⟩
            · rw [if_neg c110] at H
              have c110b0 : (t222 != (t206.toList == t207.toList)) = false := by simpa using c110
              (try (have c110b1 : decide (t222 = (t206.toList == t207.toList)) = true := by simpa using c110))
              (try (have c110b2 : (t222 == (t206.toList == t207.toList)) = true := by simpa using c110))
              clear c110
              exact absurd (H.trans (congrArg some hrt_)) (by simp)

/-- The one pure statement of laws_FnOrders. -/
def laws_FnOrders.Pure : Prop := ∀ (l0 : List Int), (l0.length ≤ maxLen ∧ l0.length * 1 ≤ 140737488351232 ∧ ∀ y_ ∈ l0, (Lit.int .u8 y_).wf = true) → ∃ k, laws_FnOrders.f k l0 = some true

end Go.Proofs.YtbohkphbgkgaeaaDoor.Pr
