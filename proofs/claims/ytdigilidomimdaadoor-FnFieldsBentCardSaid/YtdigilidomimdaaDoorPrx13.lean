-- Written for this claim by a program of this session (wip/tool/pr.py, over the kit's printer).
-- half
import Derived.Test.YtdigilidomimdaaDoorPrx0
import Derived.Test.YtdigilidomimdaaDoorPrx1
import Derived.Test.YtdigilidomimdaaDoorPrx6
import Derived.Test.YtdigilidomimdaaDoorPrx10
import Derived.Test.YtdigilidomimdaaDoorPrx11
import Derived.Test.YtdigilidomimdaaDoorPrx12
namespace Go.Proofs.YtdigilidomimdaaDoor.Pr
open Go.RowKit Go.Proofs.YtdigilidomimdaaDoorW.PrintWords Go.Proofs.YtdigilidomimdaaDoorW.PrintLast Go.Proofs.YtdigilidomimdaaDoorW.PrintMore
attribute [local go_sem] max2_int min2_int max_two min_two max_three min_three max_four min_four   -- for this text's walks alone
set_option linter.unusedVariables false
set_option linter.unusedSimpArgs false

attribute [local go_sem high] eqA25
/-! ### impl_GetRecords: function 21 -/
mutual
def impl_GetRecords.j0 : Nat → List Int → Int → Int → Bool → Option ((List (S25)) × Int × Int)
 | 0, _, _, _, _ => none
 | k + 1, x0, x1, x2, x18 => if x18 = true then (some (([] : List (S25)), 0, 2)) else (impl_GetRecords.l0 k x0 x1 (([] : List (S25))) x2 0)
def impl_GetRecords.l0 : Nat → List Int → Int → List (S25) → Int → Int → Option ((List (S25)) × Int × Int)
 | 0, _, _, _, _, _ => none
 | k + 1, x0, x1, x9, x20, x21 => if x21 < x20 then ((impl_GetRecord.f k x0 x1).bind fun bt199 => (if bt199.2.2.2.2.2.2.2 = 0 then (if x9.length < 1954687338268 then (impl_GetRecords.l0 k x0 bt199.2.2.2.2.2.2.1 (x9 ++ [(⟨bt199.1, bt199.2.1, bt199.2.2.1, bt199.2.2.2.1, bt199.2.2.2.2.1, bt199.2.2.2.2.2.1⟩ : S25)]) x20 (wrap64 (x21 + 1))) else (none)) else (some (([] : List (S25)), 0, bt199.2.2.2.2.2.2.2)))) else (some (x9, x1, 0))
end
def impl_GetRecords.f (k : Nat) (l0 : List Int) (a1 : Int) (a2 : Int) : Option ((List (S25)) × Int × Int) := if a2 < 0 then (impl_GetRecords.j0 k l0 a1 a2 true) else (impl_GetRecords.j0 k l0 a1 a2 (decide (a2 > 8)))
theorem impl_GetRecords.mono_l : ∀ k, (∀ y0 y1 y2 y3, LeO (impl_GetRecords.j0 k y0 y1 y2 y3) (impl_GetRecords.j0 (k + 1) y0 y1 y2 y3)) ∧ (∀ y0 y1 y2 y3 y4, LeO (impl_GetRecords.l0 k y0 y1 y2 y3 y4) (impl_GetRecords.l0 (k + 1) y0 y1 y2 y3 y4))
 | 0 => ⟨fun _ _ _ _ r h => by simp [impl_GetRecords.j0] at h, fun _ _ _ _ _ r h => by simp [impl_GetRecords.l0] at h⟩
 | k + 1 => by
  obtain ⟨ih0, ih1⟩ := impl_GetRecords.mono_l k
  refine ⟨?_, ?_⟩
  ·intro y0 y1 y2 y3
   unfold impl_GetRecords.j0
   repeat' first
   | (with_reducible first | exact ih0 _ _ _ _ | exact ih1 _ _ _ _ _ | exact impl_GetRecord.mono _ _ _ | exact LeO.refl _ | exact LeO.none _ | refine LeO.ite ?_ ?_ | refine LeO.bind ?_ (fun _ => ?_))
   | exact ih0 _ _ _ _
   | exact ih1 _ _ _ _ _
   | exact impl_GetRecord.mono _ _ _
   | exact LeO.none _
   | refine LeO.ite ?_ ?_
   | refine LeO.bind ?_ (fun _ => ?_)
  ·intro y0 y1 y2 y3 y4
   unfold impl_GetRecords.l0
   repeat' first
   | (with_reducible first | exact ih0 _ _ _ _ | exact ih1 _ _ _ _ _ | exact impl_GetRecord.mono _ _ _ | exact LeO.refl _ | exact LeO.none _ | refine LeO.ite ?_ ?_ | refine LeO.bind ?_ (fun _ => ?_))
   | exact ih0 _ _ _ _
   | exact ih1 _ _ _ _ _
   | exact impl_GetRecord.mono _ _ _
   | exact LeO.none _
   | refine LeO.ite ?_ ?_
   | refine LeO.bind ?_ (fun _ => ?_)
theorem impl_GetRecords.mono : ∀ a0 a1 a2 k, LeO (impl_GetRecords.f k a0 a1 a2) (impl_GetRecords.f (k + 1) a0 a1 a2) := by
 intro a0 a1 a2 k
 obtain ⟨ih0, ih1⟩ := impl_GetRecords.mono_l k
 unfold impl_GetRecords.f
 repeat' first
   | (with_reducible first | exact ih0 _ _ _ _ | exact ih1 _ _ _ _ _ | exact impl_GetRecord.mono _ _ _ | exact LeO.refl _ | exact LeO.none _ | refine LeO.ite ?_ ?_ | refine LeO.bind ?_ (fun _ => ?_))
   | exact ih0 _ _ _ _
   | exact ih1 _ _ _ _ _
   | exact impl_GetRecord.mono _ _ _
   | exact LeO.none _
   | refine LeO.ite ?_ ?_
   | refine LeO.bind ?_ (fun _ => ?_)
set_option maxHeartbeats 8000000 in
set_option maxRecDepth 100000 in
theorem impl_GetRecords.calls (k : Nat) (A0 : Option Addr) (c0 : Nat) (l0 : List Int) (a1 : Int) (a2 : Int) (r1 : List (S25)) (r2 : Int) (r3 : Int) (w : World) (hr0 : Kd.C (Kd.int .u8) w A0 l0.length l0) (hc0 : l0.length ≤ c0) (h : impl_GetRecords.f k l0 a1 a2 = some (r1, r2, r3)) :
  Calls Tryd.prog 21 #[.slice A0 l0.length c0, .int .i64 a1, .int .i64 a2] w fun e w' => ∃ v0_ : Value, e = .returned (.tuple #[v0_, .int .i64 r2, .int .i64 r3]) ∧ Kd.R k25 25 w' w.heap.size (fun _ => True) v0_ r1 ∧ Below w.heap.size w w' := by
 have hu25 := Tryd.underlying25
 have HR0 := aS hr0
 have HC0 := aS hc0
 clear hr0 hc0
 have HB := aS (Below.refl w.heap.size w)
 have H : (if a2 < 0 then (impl_GetRecords.j0 k l0 a1 a2 true) else (impl_GetRecords.j0 k l0 a1 a2 (decide (a2 > 8)))) = some (r1, r2, r3) := h
 clear h
 have HC4 := aS H
 clear H
 go_enter Tryd.func21, Tryd.ntmps21
 go_upto_region 1 with (fail)
 go_cut [18] (fun v18 wc => ∃ (kq : Nat) (x18_3 : Bool), v18 = .bool x18_3 ∧ Aside0 (impl_GetRecords.j0 kq l0 a1 a2 x18_3 = some (r1, r2, r3)) ∧ Aside0 (kq ≤ k) ∧ Aside0 (Below w.heap.size w wc))
 case first =>
  have H := HC4.out
  clear HC4
  by_cases c5 : a2 < 0
  ·rw [if_pos c5] at H
   have c5b0 := decide_eq_true c5
   clear c5
   (first | rw [c5b0] | (simp only [i64_w, i32_w]; rw [c5b0]) | skip)
   have H' := aS H
   clear H
   go_wp2
   go_meet
   case rel => exact ⟨_, (true), jB, H', ⟨by first | omega | exact Nat.le_refl _⟩, ⟨by exact wU HB.out⟩⟩
  ·rw [if_neg c5] at H
   have c5b0 := decide_eq_false c5
   clear c5
   (first | rw [c5b0] | (simp only [i64_w, i32_w]; rw [c5b0]) | skip)
   have H' := aS H
   clear H
   go_wp2
   go_meet
   case rel => exact ⟨_, (decide (a2 > 8)), jB, H', ⟨by first | omega | exact Nat.le_refl _⟩, ⟨by exact wU HB.out⟩⟩
 case rest =>
  clear HC4
  try clear c2
  try clear p2
  try clear c5
  try clear c5b0
  obtain ⟨kq, x18_3, rfl, HA, HJ3, HB⟩ := hcut
  cases kq with
  | zero => exact absurd HA.out (by simp [impl_GetRecords.j0])
  | succ kj3 =>
   have H := HA.out
   clear HA
   simp only [impl_GetRecords.j0] at H
   by_cases c6 : x18_3 = true
   ·subst c6
    rw [if_pos rfl] at H
    simp only [Option.some.injEq, Prod.mk.injEq] at H
    obtain ⟨rfl, rfl, rfl⟩ := H
    go_wp2
    go_ret3
    exact ⟨_, jE, by first | exact Kd.R_nil _ _ _ _ _ | exact Kd.N_nil _ _ _ _ _ | exact Kd.V_nil _ _ _ _ _ | exact Kd.Q_nil _ _ _ _ _ | exact Kd.S_nil _ _ _ _ _, by exact wU HB.out⟩
   ·replace c6 := Bool.eq_false_iff.mpr c6
    subst c6
    rw [if_neg Bool.false_ne_true] at H
    obtain ⟨y196, hy_⟩ : ∃ y_ : List (S25), y_ = (([] : List (S25))) := ⟨_, rfl⟩
    replace H : (impl_GetRecords.l0 kj3 l0 a1 y196 a2 0) = some (r1, r2, r3) := jD
    have Ny196 := aS hy_
    clear hy_
    have H' := aS H
    clear H
    go_wp2_with (first | ((with_reducible refine gate_dst (N := 19) rfl ?_); refine Kd.R_lit k25 _ 25 ?hg (N := 19) ?hd (xs := ([] : List (S25))) (inner := []) (ok := fun _ => True) (okp := fun _ => True) ?hr ?hp (fun _ hk => hk) trivial (Below.refl _ _) (Nat.le_refl _) (by simp) ?_; (case hd => rfl); (case hg => rfl); (case hr => first | (go_simp; done) | (go_simp; rfl)); (case hp => exact (Reps.none _ _)); intro v197 w7 ho8 hb hg_ hnew_; clear hg_ hnew_; (first | rw [← Ny196.out] at ho8 | (simp only [Int.reduceToNat] at ho8; rw [← Ny196.out] at ho8)); have HO198 := aS (Kd.R_lower ho8 (below_size (wU HB.out))); replace HB := aS (below_step (wU HB.out) hb); clear hb ho8))
    go_loopg [1, 9, 21] kj3 (fun kq v1 v9 v21 w' => ∃ (x1_2 : Int) (x9_2 : List (S25)) (x21_2 : Int), v1 = .int .i64 x1_2 ∧ v21 = .int .i64 x21_2 ∧ Aside0 (impl_GetRecords.l0 kq l0 x1_2 x9_2 a2 x21_2 = some (r1, r2, r3)) ∧ Aside0 (kq ≤ kj3) ∧ Aside0 (Kd.R k25 25 w' w.heap.size (fun _ => True) v9 x9_2) ∧ Aside0 (Below w.heap.size w w'))
    case atStart => exact ⟨(a1), (y196), (0), jB, jB, H', ⟨Nat.le_refl _⟩, ⟨by exact rU HO198.out⟩, ⟨by exact wU HB.out⟩⟩
    case round =>
     clear H'
     try clear c2
     try clear p2
     try clear c5
     try clear c5b0
     try clear c6
     try clear p2
     obtain ⟨x1_2, x9_2, x21_2, rfl, rfl, HA, HK2, HO_9, HB⟩ := hrel
     cases gk with
     | zero => exact absurd HA.out (by simp [impl_GetRecords.l0])
     | succ k2 =>
      have H := HA.out
      clear HA
      simp only [impl_GetRecords.l0] at H
      by_cases c9 : x21_2 < a2
      ·rw [if_pos c9] at H
       have c9b0 := decide_eq_true c9
       clear c9
       obtain ⟨⟨t199, t200, t201, t202, t203, t204, t205, t206⟩, A10, H⟩ := bM H
       try dsimp only at H
       by_cases c11 : t206 = 0
       ·rw [if_pos c11] at H
        have c11b0 := beq_iff_eq.mpr c11
        have c11b1 := bne_eq_false_iff_eq.mpr c11
        clear c11
        by_cases c12 : x9_2.length < 1954687338268
        ·rw [if_pos c12] at H
         have LMc12 := aS c12
         clear c12
         obtain ⟨y208, hy_⟩ : ∃ y_ : List (S25), y_ = (x9_2 ++ [(⟨t199, t200, t201, t202, t203, t204⟩ : S25)]) := ⟨_, rfl⟩
         replace H : (impl_GetRecords.l0 k2 l0 t205 y208 a2 (wrap64 (x21_2 + 1))) = some (r1, r2, r3) := jD
         have Ny208 := aS hy_
         clear hy_
         have H' := aS H
         clear H
         go_wp2_with (first | ((with_reducible refine gate_callee (f := 16) rfl ?_); refine goesL_ (some 26) rfl rfl Tryd.func16 jK rfl #[.slice A0 l0.length c0, .int .i64 x1_2] rfl jA ?_; (with_reducible refine (impl_GetRecord.calls k2 _ _ l0 x1_2 t199 t200 t201 t202 t203 t204 t205 t206 _ ?side1 ?side2 A10.out).mono ?_); (case side1 => exact cU ((Kd.C_below HR0.out HB.out))); (case side2 => exact HC0.out); rintro e w13 ⟨rfl, hb⟩; refine ⟨_, rfl, ?_⟩; replace HO_9 := aS (Kd.R_below (rU HO_9.out) hb); replace HB := aS (below_step (wU HB.out) hb); clear hb) | ((with_reducible refine gate_dst (N := 10) rfl ?_); refine box_event ?hg (N := 10) ?hd (cs := #[.string (⟨#[]⟩ : ByteArray), .int .i64 0, .int .i64 0, .int .i64 0, .string (⟨#[]⟩ : ByteArray), .string (⟨#[]⟩ : ByteArray)]) (t := 25) ?hr ?_; (case hd => rfl); (case hg => rfl); (case hr => first | (go_simp; done) | (go_simp; rfl)); intro gb207 hg w14 hbox hb; replace HO_9 := aS (Kd.R_below (Kd.R_elderB (rU HO_9.out) gb207 (Nat.le_of_eq hg.symm)) hb); have BK207 := aS (hbox); have GW207 := aS ((by rw [hg]; exact (below_size (wU HB.out)) : w.heap.size ≤ gb207)); have GE207 := aS ((by rw [hg]; exact (below_size (wU HB.out)) : w.heap.size ≤ gb207)); replace HB := aS (below_step (wU HB.out) hb); clear hb hbox hg; have hcz15 := cells6f BK207.out) | ((with_reducible refine gate_builtin (b := .append) (xs := #[.tmp 33, .tmp 35]) rfl ?_); at_builtin; refine Kd.R_append k25 (w0 := w) w.heap.size rfl (.tmp 33) (.tmp 35) 36 25 (.agg #[(.string ⟨#[]⟩), (.int .i64 0), (.int .i64 0), (.int .i64 0), (.string ⟨#[]⟩), (.string ⟨#[]⟩)]) 72 rfl Tryd.underlying36 info25 rfl (by decide) (by omega) u9 x9_2 (⟨t199, t200, t201, t202, t203, t204⟩ : S25) [.string t199, .int .i64 t200, .int .i64 t201, .int .i64 t202, .string t203, .string t204] (fun k_ => k_ ≠ gb207) (fun _ => False) rfl (by first | (go_simp; done) | (go_simp; rfl)) ?aP (fun _ hk => hk.elim) ?aF ?aO ?aB ?aS ?aL ?_; (case aP => exact k25_mkM _ _ _ (⟨t199, t200, t201, t202, t203, t204⟩ : S25)); (case aB => exact (wS1 HB.out GE207.out)); (case aF => exact (fun k_ hk => Kd.freshB (g := gb207) (o := .cells #[.string t199, .int .i64 t200, .int .i64 t201, .int .i64 t202, .string t203, .string t204] 25 (0, 0)) (by (with_reducible repeat (first | refine blk_drewN ?_ _ | refine blk_drew ?_ | refine blk_alloc ?_ _)); refine blk_put_6 (.string (⟨#[]⟩ : ByteArray)) (.int .i64 0) (.int .i64 0) (.int .i64 0) (.string (⟨#[]⟩ : ByteArray)) (.string (⟨#[]⟩ : ByteArray)) ?_; exact bU BK207.out) k_ hk)); (case aO => exact (by (with_reducible repeat (first | apply Kd.R_alloc | apply Kd.R_drewN | apply Kd.R_drew)); exact Kd.R_mono (Kd.R_far (p := ⟨gb207, 5, none⟩) (Kd.R_far (p := ⟨gb207, 4, none⟩) (Kd.R_far (p := ⟨gb207, 3, none⟩) (Kd.R_far (p := ⟨gb207, 2, none⟩) (Kd.R_far (p := ⟨gb207, 1, none⟩) (Kd.R_far (p := ⟨gb207, 0, none⟩) (Kd.R_mono HO_9.out (fun k_ hk => (⟨hk, hk.2⟩ : _ ∧ k_ ≠ gb207))) (fun _ hk => hk.2) (.string t199)) (fun _ hk => hk.2) (.int .i64 t200)) (fun _ hk => hk.2) (.int .i64 t201)) (fun _ hk => hk.2) (.int .i64 t202)) (fun _ hk => hk.2) (.string t203)) (fun _ hk => hk.2) (.string t204)) (fun _ hk => hk.1.2))); (case aS => exact (below_size (wS1 HB.out GE207.out))); (case aL => have := LMc12.out; omega); intro v209 w16 ho hb hg hat; rw [← Ny208.out] at ho; replace BK207 := aS (blk_grown (g := gb207) (o := .cells #[.string t199, .int .i64 t200, .int .i64 t201, .int .i64 t202, .string t203, .string t204] 25 (0, 0)) (by (with_reducible repeat (first | refine blk_drewN ?_ _ | refine blk_drew ?_ | refine blk_alloc ?_ _)); refine blk_put_6 (.string (⟨#[]⟩ : ByteArray)) (.int .i64 0) (.int .i64 0) (.int .i64 0) (.string (⟨#[]⟩ : ByteArray)) (.string (⟨#[]⟩ : ByteArray)) ?_; exact bU BK207.out) hg (Kd.R_away HO_9.out (fun _ hk => hk.2))); replace HB := aS (hb); have HO210 := aS (ho); clear HO_9; clear ho hb hg hat))
         go_roundg k2
         case measure => have := HJ3.out; have := HK2.out; omega
         case rel => exact ⟨(t205), (y208), (wrap64 (x21_2 + 1)), jB, jB, H', ⟨by have := HJ3.out; have := HK2.out; omega⟩, ⟨Kd.R_mono (rU HO210.out) (fun _ hk => trivial)⟩, ⟨by exact wS1 HB.out GE207.out⟩⟩
        ·rw [if_neg c12] at H
         exact absurd H (by simp)
       ·rw [if_neg c11] at H
        have c11b0 := beq_eq_false_iff_ne.mpr c11
        have c11b1 := bne_iff_ne.mpr c11
        simp only [Option.some.injEq, Prod.mk.injEq] at H
        obtain ⟨rfl, rfl, rfl⟩ := H
        go_wp2_with (first | ((with_reducible refine gate_callee (f := 16) rfl ?_); refine goesL_ (some 26) rfl rfl Tryd.func16 jK rfl #[.slice A0 l0.length c0, .int .i64 x1_2] rfl jA ?_; (with_reducible refine (impl_GetRecord.calls k2 _ _ l0 x1_2 t199 t200 t201 t202 t203 t204 t205 t206 _ ?side1 ?side2 A10.out).mono ?_); (case side1 => exact cU ((Kd.C_below HR0.out HB.out))); (case side2 => exact HC0.out); rintro e w17 ⟨rfl, hb⟩; refine ⟨_, rfl, ?_⟩; replace HO_9 := aS (Kd.R_below (rU HO_9.out) hb); replace HB := aS (below_step (wU HB.out) hb); clear hb) | ((with_reducible refine gate_dst (N := 10) rfl ?_); refine box_event ?hg (N := 10) ?hd (cs := #[.string (⟨#[]⟩ : ByteArray), .int .i64 0, .int .i64 0, .int .i64 0, .string (⟨#[]⟩ : ByteArray), .string (⟨#[]⟩ : ByteArray)]) (t := 25) ?hr ?_; (case hd => rfl); (case hg => rfl); (case hr => first | (go_simp; done) | (go_simp; rfl)); intro gb207 hg w18 hbox hb; replace HO_9 := aS (Kd.R_below (Kd.R_elderB (rU HO_9.out) gb207 (Nat.le_of_eq hg.symm)) hb); have BK207 := aS (hbox); have GW207 := aS ((by rw [hg]; exact (below_size (wU HB.out)) : w.heap.size ≤ gb207)); have GE207 := aS ((by rw [hg]; exact (below_size (wU HB.out)) : w.heap.size ≤ gb207)); replace HB := aS (below_step (wU HB.out) hb); clear hb hbox hg; have hcz19 := cells6f BK207.out))
        go_ret3
        exact ⟨_, jE, by first | exact Kd.R_nil _ _ _ _ _ | exact Kd.N_nil _ _ _ _ _ | exact Kd.V_nil _ _ _ _ _ | exact Kd.Q_nil _ _ _ _ _ | exact Kd.S_nil _ _ _ _ _, by exact wS1 HB.out GE207.out⟩
      ·rw [if_neg c9] at H
       have c9b0 := decide_eq_false c9
       clear c9
       simp only [Option.some.injEq, Prod.mk.injEq] at H
       obtain ⟨rfl, rfl, rfl⟩ := H
       go_wp2
       go_ret3
       exact ⟨_, jE, by exact rU HO_9.out, by exact wU HB.out⟩

/-! ### laws_sameRecs: function 22 -/
def laws_sameRecs.l0 : Nat → List (S25) → List (S25) → Int → Option (Bool)
 | 0, _, _, _ => none
 | k + 1, x0, x1, x5 => if x5 < (x0.length : Int) then (if 0 ≤ x5 then (if x5 < (x1.length : Int) then (if (!((((rd_T25 x0 x5).f0).toList) == (((rd_T25 x1 x5).f0).toList)) || (!(((rd_T25 x0 x5).f1) == ((rd_T25 x1 x5).f1)) || (!(((rd_T25 x0 x5).f2) == ((rd_T25 x1 x5).f2)) || (!(((rd_T25 x0 x5).f3) == ((rd_T25 x1 x5).f3)) || (!((((rd_T25 x0 x5).f4).toList) == (((rd_T25 x1 x5).f4).toList)) || (!((((rd_T25 x0 x5).f5).toList) == (((rd_T25 x1 x5).f5).toList)))))))) = true then (some false) else (laws_sameRecs.l0 k x0 x1 (wrap64 (x5 + 1)))) else (none)) else (none)) else (some true)
def laws_sameRecs.f (k : Nat) (l0 : List (S25)) (l1 : List (S25)) : Option (Bool) := if (l0.length : Int) = (l1.length : Int) then (laws_sameRecs.l0 k l0 l1 0) else (some false)
theorem laws_sameRecs.mono_l : ∀ k, (∀ y0 y1 y2, LeO (laws_sameRecs.l0 k y0 y1 y2) (laws_sameRecs.l0 (k + 1) y0 y1 y2))
 | 0 => fun _ _ _ r h => by simp [laws_sameRecs.l0] at h
 | k + 1 => by
  have ih0 := laws_sameRecs.mono_l k
  ·intro y0 y1 y2
   unfold laws_sameRecs.l0
   repeat' first
   | (with_reducible first | exact ih0 _ _ _ | exact LeO.refl _ | exact LeO.none _ | refine LeO.ite ?_ ?_ | refine LeO.bind ?_ (fun _ => ?_))
   | exact ih0 _ _ _
   | exact LeO.none _
   | refine LeO.ite ?_ ?_
   | refine LeO.bind ?_ (fun _ => ?_)
theorem laws_sameRecs.mono : ∀ a0 a1 k, LeO (laws_sameRecs.f k a0 a1) (laws_sameRecs.f (k + 1) a0 a1) := by
 intro a0 a1 k
 have ih0 := laws_sameRecs.mono_l k
 unfold laws_sameRecs.f
 repeat' first
   | (with_reducible first | exact ih0 _ _ _ | exact LeO.refl _ | exact LeO.none _ | refine LeO.ite ?_ ?_ | refine LeO.bind ?_ (fun _ => ?_))
   | exact ih0 _ _ _
   | exact LeO.none _
   | refine LeO.ite ?_ ?_
   | refine LeO.bind ?_ (fun _ => ?_)
set_option maxHeartbeats 8000000 in
set_option maxRecDepth 100000 in
theorem laws_sameRecs.calls (k : Nat) (A0 : Option Addr) (c0 : Nat) (l0 : List (S25)) (A1 : Option Addr) (c1 : Nat) (l1 : List (S25)) (r : Bool) (w : World) (hr0 : Kd.C k25 w A0 l0.length l0) (hc0 : l0.length ≤ c0) (hr1 : Kd.C k25 w A1 l1.length l1) (hc1 : l1.length ≤ c1) (h : laws_sameRecs.f k l0 l1 = some r) :
  Calls Tryd.prog 22 #[.slice A0 l0.length c0, .slice A1 l1.length c1] w fun e w' => e = .returned (.bool r) ∧ Drawn0 w w' := by
 have hu25 := Tryd.underlying25
 have HR0 := aS hr0
 have HC0 := aS hc0
 clear hr0 hc0
 have HR1 := aS hr1
 have HC1 := aS hc1
 clear hr1 hc1
 have H : (if (l0.length : Int) = (l1.length : Int) then (laws_sameRecs.l0 k l0 l1 0) else (some false)) = some r := h
 clear h
 by_cases c3 : (l0.length : Int) = (l1.length : Int)
 ·rw [if_pos c3] at H
  have c3b0 := beq_iff_eq.mpr c3
  have c3b1 := bne_eq_false_iff_eq.mpr c3
  have c3b2 : (l0.length == l1.length) = true := by first | simpa using c3 | (simp at c3 ⊢; omega)
  clear c3
  have H' := aS H
  clear H
  go_enter Tryd.func22, Tryd.ntmps22
  go_wp2
  repeat (go_quiet (fail); try go_wp2)
  go_loopg [5] k (fun kq v5 w' => ∃ (x5_1 : Int), v5 = .int .i64 x5_1 ∧ Aside0 (laws_sameRecs.l0 kq l0 l1 x5_1 = some r) ∧ Aside0 (kq ≤ k) ∧ Drawn0 w w')
  case atStart => exact ⟨(0), jB, H', ⟨Nat.le_refl _⟩, by repeat (first | exact Drawn0.refl _ | apply Drawn0.step)⟩
  case round =>
   clear H'
   try clear c1
   try clear c2
   try clear p2
   try clear c3
   try clear c3b0
   try clear c3b1
   try clear c3b2
   obtain ⟨x5_1, rfl, HA, HK1, ⟨m1, rfl⟩⟩ := hrel
   cases gk with
   | zero => exact absurd HA.out (by simp [laws_sameRecs.l0])
   | succ k1 =>
    have H := HA.out
    clear HA
    simp only [laws_sameRecs.l0] at H
    by_cases c4 : x5_1 < (l0.length : Int)
    ·rw [if_pos c4] at H
     have c4b0 := decide_eq_true c4
     clear c4
     by_cases c5 : 0 ≤ x5_1
     ·rw [if_pos c5] at H
      have c5b0 := decide_eq_true c5
      clear c5
      by_cases c6 : x5_1 < (l1.length : Int)
      ·rw [if_pos c6] at H
       have c6b0 := decide_eq_true c6
       clear c6
       by_cases c7 : (!((((rd_T25 l0 x5_1).f0).toList) == (((rd_T25 l1 x5_1).f0).toList)) || (!(((rd_T25 l0 x5_1).f1) == ((rd_T25 l1 x5_1).f1)) || (!(((rd_T25 l0 x5_1).f2) == ((rd_T25 l1 x5_1).f2)) || (!(((rd_T25 l0 x5_1).f3) == ((rd_T25 l1 x5_1).f3)) || (!((((rd_T25 l0 x5_1).f4).toList) == (((rd_T25 l1 x5_1).f4).toList)) || (!((((rd_T25 l0 x5_1).f5).toList) == (((rd_T25 l1 x5_1).f5).toList)))))))) = true
       ·rw [if_pos c7] at H
        have c7b0 : (!((((rd_T25 l0 x5_1).f0).toList) == (((rd_T25 l1 x5_1).f0).toList)) || (!(((rd_T25 l0 x5_1).f1) == ((rd_T25 l1 x5_1).f1)) || (!(((rd_T25 l0 x5_1).f2) == ((rd_T25 l1 x5_1).f2)) || (!(((rd_T25 l0 x5_1).f3) == ((rd_T25 l1 x5_1).f3)) || (!((((rd_T25 l0 x5_1).f4).toList) == (((rd_T25 l1 x5_1).f4).toList)) || (!((((rd_T25 l0 x5_1).f5).toList) == (((rd_T25 l1 x5_1).f5).toList)))))))) = true := c7
        clear c7
        obtain rfl := Option.some.inj H
        have p211 : 0 ≤ (x5_1 : Int) := of_decide_eq_true jC
        have q211 : x5_1 < (l0.length : Int) := of_decide_eq_true jC
        obtain ⟨ad211, e211, hx211_0, hx211_1, hx211_2, hx211_3, hx211_4, hx211_5⟩ := at_T25 HR0.out x5_1 p211 q211
        cases e211
        replace p211 := eq_true p211
        replace q211 := eq_true q211
        have p212 : 0 ≤ (x5_1 : Int) := of_decide_eq_true jC
        have q212 : x5_1 < (l1.length : Int) := of_decide_eq_true jC
        obtain ⟨ad212, e212, hx212_0, hx212_1, hx212_2, hx212_3, hx212_4, hx212_5⟩ := at_T25 HR1.out x5_1 p212 q212
        cases e212
        replace p212 := eq_true p212
        replace q212 := eq_true q212
        go_wp2
        repeat (go_quiet (fail); try go_wp2)
        go_ret
        exact ⟨by first | rfl | (simp; done) | (simp [*]; done) | (simp [X.bne_nil, X.beq_nil]; done) | (simp [*, X.bne_nil, X.beq_nil]; done) | (simp [X.bne_nil, X.beq_nil]; done), by repeat (first | exact Drawn0.refl _ | apply Drawn0.step)⟩
       ·rw [if_neg c7] at H
        have c7b0 : (!((((rd_T25 l0 x5_1).f0).toList) == (((rd_T25 l1 x5_1).f0).toList)) || (!(((rd_T25 l0 x5_1).f1) == ((rd_T25 l1 x5_1).f1)) || (!(((rd_T25 l0 x5_1).f2) == ((rd_T25 l1 x5_1).f2)) || (!(((rd_T25 l0 x5_1).f3) == ((rd_T25 l1 x5_1).f3)) || (!((((rd_T25 l0 x5_1).f4).toList) == (((rd_T25 l1 x5_1).f4).toList)) || (!((((rd_T25 l0 x5_1).f5).toList) == (((rd_T25 l1 x5_1).f5).toList)))))))) = false := by simpa using c7
        clear c7
        have H' := aS H
        clear H
        have p211 : 0 ≤ (x5_1 : Int) := of_decide_eq_true jC
        have q211 : x5_1 < (l0.length : Int) := of_decide_eq_true jC
        obtain ⟨ad211, e211, hx211_0, hx211_1, hx211_2, hx211_3, hx211_4, hx211_5⟩ := at_T25 HR0.out x5_1 p211 q211
        cases e211
        replace p211 := eq_true p211
        replace q211 := eq_true q211
        have p212 : 0 ≤ (x5_1 : Int) := of_decide_eq_true jC
        have q212 : x5_1 < (l1.length : Int) := of_decide_eq_true jC
        obtain ⟨ad212, e212, hx212_0, hx212_1, hx212_2, hx212_3, hx212_4, hx212_5⟩ := at_T25 HR1.out x5_1 p212 q212
        cases e212
        replace p212 := eq_true p212
        replace q212 := eq_true q212
        go_wp2
        repeat (go_quiet (fail); try go_wp2)
        go_roundg k1
        case measure => have := HK1.out; omega
        case rel => exact ⟨(wrap64 (x5_1 + 1)), jB, H', ⟨by have := HK1.out; omega⟩, by repeat (first | exact Drawn0.refl _ | apply Drawn0.step)⟩
      ·rw [if_neg c6] at H
       exact absurd H (by simp)
     ·rw [if_neg c5] at H
      exact absurd H (by simp)
    ·rw [if_neg c4] at H
     have c4b0 := decide_eq_false c4
     clear c4
     obtain rfl := Option.some.inj H
     go_wp2
     repeat (go_quiet (fail); try go_wp2)
     go_ret
     exact ⟨by first | rfl | (simp; done) | (simp [*]; done) | (simp [X.bne_nil, X.beq_nil]; done) | (simp [*, X.bne_nil, X.beq_nil]; done) | (simp [X.bne_nil, X.beq_nil]; done), by repeat (first | exact Drawn0.refl _ | apply Drawn0.step)⟩
 ·rw [if_neg c3] at H
  have c3b0 := beq_eq_false_iff_ne.mpr c3
  have c3b1 := bne_iff_ne.mpr c3
  have c3b2 : (l0.length == l1.length) = false := by first | simpa using c3 | (simp at c3 ⊢; omega)
  obtain rfl := Option.some.inj H
  go_enter Tryd.func22, Tryd.ntmps22
  go_wp2
  repeat (go_quiet (fail); try go_wp2)
  go_ret
  exact ⟨by first | rfl | (simp; done) | (simp [*]; done) | (simp [X.bne_nil, X.beq_nil]; done) | (simp [*, X.bne_nil, X.beq_nil]; done) | (simp [X.bne_nil, X.beq_nil]; done), by repeat (first | exact Drawn0.refl _ | apply Drawn0.step)⟩

/-! ### spec_DrawGetRecord: function 23 -/
def spec_DrawGetRecord.j0 : Nat → List Int → Int → List Int → Int → Int → Option (List Int × Int)
 | 0, _, _, _, _, _ => none
 | k + 1, x5, x7, x592000, x592001, x592002 => (spec_l1Once.f x592000 x592001 x592002 8).bind fun bt617 => (if bt617.1 = true then ((spec_l1Int.f x592000 bt617.2.1 bt617.2.2 (([(-1), 0, 99] : List Int))).bind fun bt623 => (some (x5, bt623.1))) else (some (x5, x7)))
def spec_DrawGetRecord.f (k : Nat) (l0 : List Int) : Option (List Int × Int) := (spec_l1New.f k l0).bind fun bt588 => ((spec_l4Bytes.f k bt588.1 bt588.2.1 bt588.2.2).bind fun bt592 => ((spec_l5Draw.f k bt588.1 bt592.2.2.1 bt592.2.2.2).bind fun bt598 => ((spec_PutRecord.f k bt592.1 bt598.1 bt598.2.1 bt598.2.2.1 bt598.2.2.2.1 bt598.2.2.2.2.1 bt598.2.2.2.2.2.1).bind fun t606 => ((spec_l1Once.f bt588.1 bt598.2.2.2.2.2.2.1 bt598.2.2.2.2.2.2.2 2).bind fun bt609 => (if bt609.1 = true then ((spec_l1Bent.f bt588.1 bt609.2.1 bt609.2.2 t606).bind fun bt612 => (spec_DrawGetRecord.j0 k bt612.1 (bt592.1.length : Int) bt588.1 bt612.2.1 bt612.2.2)) else (spec_DrawGetRecord.j0 k t606 (bt592.1.length : Int) bt588.1 bt609.2.1 bt609.2.2))))))
theorem spec_DrawGetRecord.mono_l : ∀ k, (∀ y0 y1 y2 y3 y4, LeO (spec_DrawGetRecord.j0 k y0 y1 y2 y3 y4) (spec_DrawGetRecord.j0 (k + 1) y0 y1 y2 y3 y4))
 | 0 => fun _ _ _ _ _ r h => by simp [spec_DrawGetRecord.j0] at h
 | k + 1 => by
  have ih0 := spec_DrawGetRecord.mono_l k
  ·intro y0 y1 y2 y3 y4
   unfold spec_DrawGetRecord.j0
   repeat' first
   | (with_reducible first | exact ih0 _ _ _ _ _ | exact spec_PutRecord.mono _ _ _ _ _ _ _ _ | exact spec_l1New.mono _ _ | exact spec_l4Bytes.mono _ _ _ _ | exact spec_l5Draw.mono _ _ _ _ | exact LeO.refl _ | exact LeO.none _ | refine LeO.ite ?_ ?_ | refine LeO.bind ?_ (fun _ => ?_))
   | exact ih0 _ _ _ _ _
   | exact spec_PutRecord.mono _ _ _ _ _ _ _ _
   | exact spec_l1New.mono _ _
   | exact spec_l4Bytes.mono _ _ _ _
   | exact spec_l5Draw.mono _ _ _ _
   | exact LeO.none _
   | refine LeO.ite ?_ ?_
   | refine LeO.bind ?_ (fun _ => ?_)
theorem spec_DrawGetRecord.mono : ∀ a0 k, LeO (spec_DrawGetRecord.f k a0) (spec_DrawGetRecord.f (k + 1) a0) := by
 intro a0 k
 have ih0 := spec_DrawGetRecord.mono_l k
 unfold spec_DrawGetRecord.f
 repeat' first
   | (with_reducible first | exact ih0 _ _ _ _ _ | exact spec_PutRecord.mono _ _ _ _ _ _ _ _ | exact spec_l1New.mono _ _ | exact spec_l4Bytes.mono _ _ _ _ | exact spec_l5Draw.mono _ _ _ _ | exact LeO.refl _ | exact LeO.none _ | refine LeO.ite ?_ ?_ | refine LeO.bind ?_ (fun _ => ?_))
   | exact ih0 _ _ _ _ _
   | exact spec_PutRecord.mono _ _ _ _ _ _ _ _
   | exact spec_l1New.mono _ _
   | exact spec_l4Bytes.mono _ _ _ _
   | exact spec_l5Draw.mono _ _ _ _
   | exact LeO.none _
   | refine LeO.ite ?_ ?_
   | refine LeO.bind ?_ (fun _ => ?_)
set_option maxHeartbeats 8000000 in
set_option maxRecDepth 100000 in
theorem spec_DrawGetRecord.calls (k : Nat) (A0 : Option Addr) (c0 : Nat) (l0 : List Int) (r1 : List Int) (r2 : Int) (w : World) (hr0 : Kd.C (Kd.int .u8) w A0 l0.length l0) (hc0 : l0.length ≤ c0) (h : spec_DrawGetRecord.f k l0 = some (r1, r2)) :
  Calls Tryd.prog 23 #[.slice A0 l0.length c0] w fun e w' => ∃ v0_ : Value, e = .returned (.tuple #[v0_, .int .i64 r2]) ∧ Kd.R (Kd.int .u8) 5 w' w.heap.size (fun _ => True) v0_ r1 ∧ Below w.heap.size w w' := by
 have HR0 := aS hr0
 have HC0 := aS hc0
 clear hr0 hc0
 have HB := aS (Below.refl w.heap.size w)
 have H : ((spec_l1New.f k l0).bind fun bt588 => ((spec_l4Bytes.f k bt588.1 bt588.2.1 bt588.2.2).bind fun bt592 => ((spec_l5Draw.f k bt588.1 bt592.2.2.1 bt592.2.2.2).bind fun bt598 => ((spec_PutRecord.f k bt592.1 bt598.1 bt598.2.1 bt598.2.2.1 bt598.2.2.2.1 bt598.2.2.2.2.1 bt598.2.2.2.2.2.1).bind fun t606 => ((spec_l1Once.f bt588.1 bt598.2.2.2.2.2.2.1 bt598.2.2.2.2.2.2.2 2).bind fun bt609 => (if bt609.1 = true then ((spec_l1Bent.f bt588.1 bt609.2.1 bt609.2.2 t606).bind fun bt612 => (spec_DrawGetRecord.j0 k bt612.1 (bt592.1.length : Int) bt588.1 bt612.2.1 bt612.2.2)) else (spec_DrawGetRecord.j0 k t606 (bt592.1.length : Int) bt588.1 bt609.2.1 bt609.2.2))))))) = some (r1, r2) := h
 clear h
 obtain ⟨⟨t588, t589, t590⟩, A2, H⟩ := bM H
 try dsimp only at H
 obtain ⟨⟨t592, t595, t596, t597⟩, A3, H⟩ := bM H
 try dsimp only at H
 obtain ⟨⟨t598, t599, t600, t601, t602, t603, t604, t605⟩, A4, H⟩ := bM H
 try dsimp only at H
 obtain ⟨t606, A5, H⟩ := bM H
 try dsimp only at H
 obtain ⟨⟨t609, t610, t611⟩, A6, H⟩ := bM H
 try dsimp only at H
 have HC7 := aS H
 clear H
 go_enter Tryd.func23, Tryd.ntmps23
 go_upto_if 22 with (first | ((with_reducible refine gate_callee (f := 56) rfl ?_); refine goesL_ (some 9) rfl rfl Tryd.func56 jK rfl #[.slice A0 l0.length c0] rfl jA ?_; (with_reducible refine (spec_l1New.calls k _ _ l0 t588 t589 t590 w _ ?side1 ?side2 ?side3 A2.out).mono ?_); (case side1 => exact wU HB.out); (case side2 => exact HR0.out); (case side3 => exact HC0.out); rintro e w8 ⟨g591, rfl, hi, hb, hb2⟩; refine ⟨_, rfl, ?_⟩; replace HB := aS (hb); have HI591 := aS (hi); clear hi hb hb2) | ((with_reducible refine gate_callee (f := 57) rfl ?_); refine goesL_ (some 12) rfl rfl Tryd.func57 jK rfl #[.pointer (some ⟨g591, 0, none⟩)] rfl jA ?_; (with_reducible refine (spec_l4Bytes.calls k g591 t588 t589 t590 t592 t595 t596 t597 w _ ?side1 ?side2 A3.out).mono ?_); (case side1 => exact IsS111.iS0 HI591.out); (case side2 => exact wS1 HB.out (IsS111.ge HI591.out)); rintro e w9 ⟨v593, rfl, ho0, hi, hb, hk⟩; refine ⟨_, rfl, ?_⟩; have HO594 := aS (Kd.R_lower ho0 (below_size (by exact wS1 HB.out (IsS111.ge HI591.out)))); replace HB := aS (hb); replace HI591 := aS (hi); clear hi hb hk; (try clear ho0); obtain ⟨Ao10, co10, eo10⟩ := Kd.R_slice HO594.out; subst eo10) | ((with_reducible refine gate_callee (f := 79) rfl ?_); refine goesL_ (some 19) rfl rfl Tryd.func79 jK rfl #[.pointer (some ⟨g591, 0, none⟩)] rfl jA ?_; (with_reducible refine (spec_l5Draw.calls k g591 t588 t596 t597 t598 t599 t600 t601 t602 t603 t604 t605 w _ ?side1 ?side2 A4.out).mono ?_); (case side1 => exact IsS111.iS0 HI591.out); (case side2 => exact wS1 HB.out (IsS111.ge HI591.out)); rintro e w11 ⟨rfl, hi, hb, hk⟩; refine ⟨_, rfl, ?_⟩; replace HO594 := aS (Kd.R_mono (Kd.R_keep (IsS111.apart (show IsS111 w _ g591 t588 t596 t597 from by exact IsS111.iS0 HI591.out) (rU HO594.out) (by decide)) hk (fun _ h => h.2)) (fun _ h => h.1)); replace HB := aS (hb); replace HI591 := aS (hi); clear hi hb hk) | ((with_reducible refine gate_callee (f := 13) rfl ?_); refine goesL_ (some 20) rfl rfl Tryd.func13 jK rfl #[.slice Ao10 t592.length co10, .agg #[.string t598, .int .i64 t599, .int .i64 t600, .int .i64 t601, .string t602, .string t603]] rfl jA ?_; (with_reducible refine (spec_PutRecord.calls k _ _ t592 t598 t599 t600 t601 t602 t603 t606 _ ?side1 ?side2 A5.out).mono ?_); (case side1 => exact cU ((Kd.R_reads' HO594.out).2.2)); (case side2 => exact (Kd.R_reads' HO594.out).2.1); rintro e w12 ⟨v607, rfl, ho0, hb⟩; refine ⟨_, rfl, ?_⟩; have HO608 := aS (Kd.R_lower (Kd.R_new' ho0 (Kd.R_lt (rU HO594.out))) (below_size (by exact wS1 HB.out (IsS111.ge HI591.out)))); replace HO594 := aS (Kd.R_elder' (rU HO594.out) (Kd.R_base ho0) hb); replace HB := aS (below_step (by exact wS1 HB.out (IsS111.ge HI591.out)) hb); replace HI591 := aS (IsS111.below (IsS111.iS0 HI591.out) hb); clear hb; (try clear ho0)) | ((with_reducible refine gate_callee (f := 76) rfl ?_); refine goesL_ (some 22) rfl rfl Tryd.func76 jK rfl #[.pointer (some ⟨g591, 0, none⟩), .int .i64 2] rfl jA ?_; (with_reducible refine (spec_l1Once.calls g591 t588 t604 t605 2 t609 t610 t611 w _ ?side1 ?side2 A6.out).mono ?_); (case side1 => exact IsS111.iS0 HI591.out); (case side2 => exact wS1 HB.out (IsS111.ge HI591.out)); rintro e w13 ⟨rfl, hi, hb, hk⟩; refine ⟨_, rfl, ?_⟩; replace HO594 := aS (Kd.R_mono (Kd.R_keep (IsS111.apart (show IsS111 w _ g591 t588 t604 t605 from by exact IsS111.iS0 HI591.out) (rU HO594.out) (by decide)) hk (fun _ h => h.2)) (fun _ h => h.1)); replace HO608 := aS (Kd.R_mono (Kd.R_keep (IsS111.apart (show IsS111 w _ g591 t588 t604 t605 from by exact IsS111.iS0 HI591.out) (rU HO608.out) (by decide)) hk (fun _ h => h.2)) (fun _ h => h.1)); replace HB := aS (hb); replace HI591 := aS (hi); clear hi hb hk))
 (try simp only [Act.put, List.setIfInBounds_toArray, List.set_cons_zero, List.set_cons_succ])
 go_cut [5] (fun v5 wc => ∃ (kq : Nat) (x5_6 : List Int) (x592001_6 : Int) (x592002_6 : Int), Aside0 (spec_DrawGetRecord.j0 kq x5_6 (t592.length : Int) t588 x592001_6 x592002_6 = some (r1, r2)) ∧ Aside0 (kq ≤ k) ∧ Aside0 (Kd.R (Kd.int .u8) 5 wc w.heap.size (fun _ => True) v5 x5_6) ∧ Aside0 (IsS111 w wc g591 t588 x592001_6 x592002_6) ∧ Aside0 (Below w.heap.size w wc))
 case first =>
  have H := HC7.out
  clear HC7
  by_cases c14 : t609 = true
  ·subst c14
   rw [if_pos rfl] at H
   obtain ⟨⟨t612, t615, t616⟩, A15, H⟩ := bM H
   try dsimp only at H
   have H' := aS H
   clear H
   obtain ⟨Ao16, co16, eo16⟩ := Kd.R_slice HO608.out
   subst eo16
   go_wp2_with (first | ((with_reducible refine gate_callee (f := 80) rfl ?_); refine goesL_ (some 25) rfl rfl Tryd.func80 jK rfl #[.pointer (some ⟨g591, 0, none⟩), .slice Ao16 t606.length co16] rfl jA ?_; (with_reducible refine (spec_l1Bent.calls g591 t588 t610 t611 _ _ t606 t612 t615 t616 w _ ?side1 ?side2 ?side3 ?side4 ?side5 A15.out).mono ?_); (case side1 => exact IsS111.iS0 HI591.out); (case side2 => exact wS1 HB.out (IsS111.ge HI591.out)); (case side3 => exact cU ((Kd.R_reads' HO608.out).2.2)); (case side4 => exact (Kd.R_reads' HO608.out).2.1); (case side5 => exact far_slice (IsS111.own_ne HI591.out HO608.out (by decide))); rintro e w17 ⟨v613, rfl, ho0, hi, hb, hk⟩; refine ⟨_, rfl, ?_⟩; have HO614 := aS (Kd.R_lower (Kd.R_new' (Kd.R_new' ho0 (Kd.R_lt (rU HO594.out))) (Kd.R_lt (rU HO608.out))) (below_size (by exact wS1 HB.out (IsS111.ge HI591.out)))); replace HO594 := aS (Kd.R_mono (Kd.R_told (Kd.R_oldK (IsS111.apart (show IsS111 w _ g591 t588 t610 t611 from by exact IsS111.iS0 HI591.out) (rU HO594.out) (by decide)) hk) (Kd.R_base ho0)) (fun _ h_ => h_.1)); replace HO608 := aS (Kd.R_mono (Kd.R_told (Kd.R_oldK (IsS111.apart (show IsS111 w _ g591 t588 t610 t611 from by exact IsS111.iS0 HI591.out) (rU HO608.out) (by decide)) hk) (Kd.R_base ho0)) (fun _ h_ => h_.1)); replace HB := aS (hb); replace HI591 := aS (hi); clear hi hb hk; (try clear ho0)))
   go_meet
   case rel => exact ⟨_, (t612), (t615), (t616), H', ⟨by first | omega | exact Nat.le_refl _⟩, ⟨Kd.R_mono (rU HO614.out) (fun _ hk => trivial)⟩, ⟨by exact IsS111.iS0 HI591.out⟩, ⟨by exact wS1 HB.out (IsS111.ge HI591.out)⟩⟩
  ·replace c14 := Bool.eq_false_iff.mpr c14
   subst c14
   rw [if_neg Bool.false_ne_true] at H
   have H' := aS H
   clear H
   go_wp2
   go_meet
   case rel => exact ⟨_, (t606), (t610), (t611), H', ⟨by first | omega | exact Nat.le_refl _⟩, ⟨Kd.R_mono (rU HO608.out) (fun _ hk => trivial)⟩, ⟨by exact IsS111.iS0 HI591.out⟩, ⟨by exact wS1 HB.out (IsS111.ge HI591.out)⟩⟩
 case rest =>
  clear HC7
  try clear c1
  try clear c2
  try clear p2
  try clear c5
  try clear c7
  try clear c8
  try clear c13
  try clear c14
  obtain ⟨kq, x5_6, x592001_6, x592002_6, HA, HJ6, HO_5, HI591, HB⟩ := hcut
  cases kq with
  | zero => exact absurd HA.out (by simp [spec_DrawGetRecord.j0])
  | succ kj6 =>
   have H := HA.out
   clear HA
   simp only [spec_DrawGetRecord.j0] at H
   obtain ⟨⟨t617, t618, t619⟩, A18, H⟩ := bM H
   try dsimp only at H
   by_cases c19 : t617 = true
   ·subst c19
    rw [if_pos rfl] at H
    obtain ⟨y620, hy_⟩ : ∃ y_ : List Int, y_ = (([(-1), 0, 99] : List Int)) := ⟨_, rfl⟩
    rw [← hy_] at H
    have Ny620 := aS hy_
    clear hy_
    obtain ⟨⟨t623, t624, t625⟩, A20, H⟩ := bM H
    try dsimp only at H
    simp only [Option.some.injEq, Prod.mk.injEq] at H
    obtain ⟨rfl, rfl⟩ := H
    go_wp2_with (first | ((with_reducible refine gate_callee (f := 76) rfl ?_); refine goesL_ (some 27) rfl rfl Tryd.func76 jK rfl #[.pointer (some ⟨g591, 0, none⟩), .int .i64 8] rfl jA ?_; (with_reducible refine (spec_l1Once.calls g591 t588 x592001_6 x592002_6 8 true t618 t619 w _ ?side1 ?side2 A18.out).mono ?_); (case side1 => exact IsS111.iS0 HI591.out); (case side2 => exact wS1 HB.out (IsS111.ge HI591.out)); rintro e w21 ⟨rfl, hi, hb, hk⟩; refine ⟨_, rfl, ?_⟩; replace HO_5 := aS (Kd.R_mono (Kd.R_keep (IsS111.apart (show IsS111 w _ g591 t588 x592001_6 x592002_6 from by exact IsS111.iS0 HI591.out) (rU HO_5.out) (by decide)) hk (fun _ h => h.2)) (fun _ h => h.1)); replace HB := aS (hb); replace HI591 := aS (hi); clear hi hb hk) | ((with_reducible refine gate_dst (N := 29) rfl ?_); refine Kd.R_lit (Kd.int .i64) _ 3 ?hg (N := 29) ?hd (xs := ([(-1), 0, 99] : List Int)) (inner := [.int .i64 (-1), .int .i64 0, .int .i64 99]) (ok := fun _ => True) (okp := fun _ => True) ?hr ?hp (fun _ hk => hk) trivial (Below.refl _ _) (Nat.le_refl _) (by simp) ?_; (case hd => rfl); (case hg => rfl); (case hr => first | (go_simp; done) | (go_simp; rfl)); (case hp => exact (Reps.one (show Kd.M (Kd.int .i64) _ _ _ (-1) [.int .i64 (-1)] from rfl) (Reps.one (show Kd.M (Kd.int .i64) _ _ _ 0 [.int .i64 0] from rfl) (Reps.one (show Kd.M (Kd.int .i64) _ _ _ 99 [.int .i64 99] from rfl) (Reps.none _ _))))); intro v621 w22 ho23 hb hg_ hnew_; clear hg_ hnew_; (first | rw [← Ny620.out] at ho23 | (simp only [Int.reduceToNat] at ho23; rw [← Ny620.out] at ho23)); replace HO_5 := aS (Kd.R_below (rU HO_5.out) hb); have HO622 := aS (Kd.R_lower ho23 (below_size (by exact wS1 HB.out (IsS111.ge HI591.out)))); replace HB := aS (below_step (by exact wS1 HB.out (IsS111.ge HI591.out)) hb); replace HI591 := aS (IsS111.below (IsS111.iS0 HI591.out) hb); clear hb ho23; obtain ⟨Ao24, co24, eo24⟩ := Kd.R_slice HO622.out; subst eo24) | ((with_reducible refine gate_callee (f := 81) rfl ?_); refine goesL_ (some 30) rfl rfl Tryd.func81 jK rfl #[.pointer (some ⟨g591, 0, none⟩), .slice Ao24 y620.length co24] rfl jA ?_; (with_reducible refine (spec_l1Int.calls g591 t588 t618 t619 _ _ y620 t623 t624 t625 w _ ?side1 ?side2 ?side3 ?side4 ?side5 A20.out).mono ?_); (case side1 => exact IsS111.iS0 HI591.out); (case side2 => exact wS1 HB.out (IsS111.ge HI591.out)); (case side3 => exact cU ((Kd.R_reads' HO622.out).2.2)); (case side4 => exact (Kd.R_reads' HO622.out).2.1); (case side5 => exact far_slice (IsS111.own_ne HI591.out HO622.out (by decide))); rintro e w25 ⟨rfl, hi, hb, hk⟩; refine ⟨_, rfl, ?_⟩; replace HO_5 := aS (Kd.R_mono (Kd.R_keep (IsS111.apart (show IsS111 w _ g591 t588 t618 t619 from by exact IsS111.iS0 HI591.out) (rU HO_5.out) (by decide)) hk (fun _ h => h.2)) (fun _ h => h.1)); replace HO622 := aS (Kd.R_mono (Kd.R_keep (IsS111.apart (show IsS111 w _ g591 t588 t618 t619 from by exact IsS111.iS0 HI591.out) (rU HO622.out) (by decide)) hk (fun _ h => h.2)) (fun _ h => h.1)); replace HB := aS (hb); replace HI591 := aS (hi); clear hi hb hk))
    go_ret2
    exact ⟨_, jE, by exact rU HO_5.out, by exact wS1 HB.out (IsS111.ge HI591.out)⟩
   ·replace c19 := Bool.eq_false_iff.mpr c19
    subst c19
    rw [if_neg Bool.false_ne_true] at H
    simp only [Option.some.injEq, Prod.mk.injEq] at H
    obtain ⟨rfl, rfl⟩ := H
    go_wp2_with (first | ((with_reducible refine gate_callee (f := 76) rfl ?_); refine goesL_ (some 27) rfl rfl Tryd.func76 jK rfl #[.pointer (some ⟨g591, 0, none⟩), .int .i64 8] rfl jA ?_; (with_reducible refine (spec_l1Once.calls g591 t588 x592001_6 x592002_6 8 false t618 t619 w _ ?side1 ?side2 A18.out).mono ?_); (case side1 => exact IsS111.iS0 HI591.out); (case side2 => exact wS1 HB.out (IsS111.ge HI591.out)); rintro e w26 ⟨rfl, hi, hb, hk⟩; refine ⟨_, rfl, ?_⟩; replace HO_5 := aS (Kd.R_mono (Kd.R_keep (IsS111.apart (show IsS111 w _ g591 t588 x592001_6 x592002_6 from by exact IsS111.iS0 HI591.out) (rU HO_5.out) (by decide)) hk (fun _ h => h.2)) (fun _ h => h.1)); replace HB := aS (hb); replace HI591 := aS (hi); clear hi hb hk))
    go_ret2
    exact ⟨_, jE, by exact rU HO_5.out, by exact wS1 HB.out (IsS111.ge HI591.out)⟩

/-! ### spec_Get4: function 84 -/
def spec_Get4.j0 : Nat → List Int → Int → Bool → Option (Int × Bool)
 | 0, _, _, _ => none
 | k + 1, x0, x1, x15 => if x15 = true then (some (0, false)) else (if 0 ≤ x1 then (if x1 < (x0.length : Int) then (if 0 ≤ (wrap64 (x1 + 1)) then (if (wrap64 (x1 + 1)) < (x0.length : Int) then (if 0 ≤ (wrap64 (x1 + 2)) then (if (wrap64 (x1 + 2)) < (x0.length : Int) then (if 0 ≤ (wrap64 (x1 + 3)) then (if (wrap64 (x1 + 3)) < (x0.length : Int) then (if (Go.bits .or .i64 (Go.bits .or .i64 (Go.bits .or .i64 (wrap64 ((wrap64 (rd x0 x1)) * 16777216)) (wrap64 ((wrap64 (rd x0 (wrap64 (x1 + 1)))) * 65536))) (wrap64 ((wrap64 (rd x0 (wrap64 (x1 + 2)))) * 256))) (wrap64 (rd x0 (wrap64 (x1 + 3))))) > 2147483647 then (some (0, false)) else (some (Go.bits .or .i64 (Go.bits .or .i64 (Go.bits .or .i64 (wrap64 ((wrap64 (rd x0 x1)) * 16777216)) (wrap64 ((wrap64 (rd x0 (wrap64 (x1 + 1)))) * 65536))) (wrap64 ((wrap64 (rd x0 (wrap64 (x1 + 2)))) * 256))) (wrap64 (rd x0 (wrap64 (x1 + 3)))), true))) else (none)) else (none)) else (none)) else (none)) else (none)) else (none)) else (none)) else (none))
def spec_Get4.f (k : Nat) (l0 : List Int) (a1 : Int) : Option (Int × Bool) := if a1 < 0 then (spec_Get4.j0 k l0 a1 true) else (spec_Get4.j0 k l0 a1 (decide (a1 > (wrap64 ((l0.length : Int) - 4)))))
theorem spec_Get4.mono_l : ∀ k, (∀ y0 y1 y2, LeO (spec_Get4.j0 k y0 y1 y2) (spec_Get4.j0 (k + 1) y0 y1 y2))
 | 0 => fun _ _ _ r h => by simp [spec_Get4.j0] at h
 | k + 1 => by
  have ih0 := spec_Get4.mono_l k
  ·intro y0 y1 y2
   unfold spec_Get4.j0
   repeat' first
   | (with_reducible first | exact ih0 _ _ _ | exact LeO.refl _ | exact LeO.none _ | refine LeO.ite ?_ ?_ | refine LeO.bind ?_ (fun _ => ?_))
   | exact ih0 _ _ _
   | exact LeO.none _
   | refine LeO.ite ?_ ?_
   | refine LeO.bind ?_ (fun _ => ?_)
theorem spec_Get4.mono : ∀ a0 a1 k, LeO (spec_Get4.f k a0 a1) (spec_Get4.f (k + 1) a0 a1) := by
 intro a0 a1 k
 have ih0 := spec_Get4.mono_l k
 unfold spec_Get4.f
 repeat' first
   | (with_reducible first | exact ih0 _ _ _ | exact LeO.refl _ | exact LeO.none _ | refine LeO.ite ?_ ?_ | refine LeO.bind ?_ (fun _ => ?_))
   | exact ih0 _ _ _
   | exact LeO.none _
   | refine LeO.ite ?_ ?_
   | refine LeO.bind ?_ (fun _ => ?_)
set_option maxHeartbeats 8000000 in
set_option maxRecDepth 100000 in
theorem spec_Get4.calls (k : Nat) (A0 : Option Addr) (c0 : Nat) (l0 : List Int) (a1 : Int) (r1 : Int) (r2 : Bool) (w : World) (hr0 : Kd.C (Kd.int .u8) w A0 l0.length l0) (hc0 : l0.length ≤ c0) (h : spec_Get4.f k l0 a1 = some (r1, r2)) :
  Calls Tryd.prog 84 #[.slice A0 l0.length c0, .int .i64 a1] w fun e w' => e = .returned (.tuple #[.int .i64 r1, .bool r2]) ∧ Drawn0 w w' := by
 have HR0 := aS hr0
 have HC0 := aS hc0
 clear hr0 hc0
 have H : (if a1 < 0 then (spec_Get4.j0 k l0 a1 true) else (spec_Get4.j0 k l0 a1 (decide (a1 > (wrap64 ((l0.length : Int) - 4)))))) = some (r1, r2) := h
 clear h
 have HC3 := aS H
 clear H
 go_enter Tryd.func84, Tryd.ntmps84
 go_upto_region 1 with (fail)
 repeat (go_quiet (fail); go_upto_region 1 with (fail))
 go_cut [15] (fun v15 wc => ∃ (kq : Nat) (x15_2 : Bool), v15 = .bool x15_2 ∧ Aside0 (spec_Get4.j0 kq l0 a1 x15_2 = some (r1, r2)) ∧ Aside0 (kq ≤ k) ∧ Drawn0 w wc)
 case first =>
  have H := HC3.out
  clear HC3
  by_cases c4 : a1 < 0
  ·rw [if_pos c4] at H
   have c4b0 := decide_eq_true c4
   clear c4
   (first | rw [c4b0] | (simp only [i64_w, i32_w]; rw [c4b0]) | skip)
   have H' := aS H
   clear H
   go_wp2
   repeat (go_quiet (fail); try go_wp2)
   go_meet
   case rel => exact ⟨_, (true), jB, H', ⟨by first | omega | exact Nat.le_refl _⟩, by repeat (first | exact Drawn0.refl _ | apply Drawn0.step)⟩
  ·rw [if_neg c4] at H
   have c4b0 := decide_eq_false c4
   clear c4
   (first | rw [c4b0] | (simp only [i64_w, i32_w]; rw [c4b0]) | skip)
   have H' := aS H
   clear H
   go_wp2
   repeat (go_quiet (fail); try go_wp2)
   go_meet
   case rel => exact ⟨_, (decide (a1 > (wrap64 ((l0.length : Int) - 4)))), jB, H', ⟨by first | omega | exact Nat.le_refl _⟩, by repeat (first | exact Drawn0.refl _ | apply Drawn0.step)⟩
 case rest =>
  clear HC3
  try clear p2
  try clear c4
  try clear c4b0
  obtain ⟨kq, x15_2, rfl, HA, HJ2, ⟨mc2, rfl⟩⟩ := hcut
  cases kq with
  | zero => exact absurd HA.out (by simp [spec_Get4.j0])
  | succ kj2 =>
   have H := HA.out
   clear HA
   simp only [spec_Get4.j0] at H
   by_cases c5 : x15_2 = true
   ·subst c5
    rw [if_pos rfl] at H
    simp only [Option.some.injEq, Prod.mk.injEq] at H
    obtain ⟨rfl, rfl⟩ := H
    go_wp2
    repeat (go_quiet (fail); try go_wp2)
    go_ret2
    exact ⟨by first | rfl | (simp; done) | (simp [*]; done) | (simp [X.bne_nil, X.beq_nil]; done) | (simp [*, X.bne_nil, X.beq_nil]; done) | (simp [X.bne_nil, X.beq_nil]; done), by repeat (first | exact Drawn0.refl _ | apply Drawn0.step)⟩
   ·replace c5 := Bool.eq_false_iff.mpr c5
    subst c5
    rw [if_neg Bool.false_ne_true] at H
    by_cases c6 : 0 ≤ a1
    ·rw [if_pos c6] at H
     have c6b0 := decide_eq_true c6
     clear c6
     by_cases c7 : a1 < (l0.length : Int)
     ·rw [if_pos c7] at H
      have c7b0 := decide_eq_true c7
      clear c7
      obtain ⟨ji8, hji8⟩ : ∃ j_ : Int, (wrap64 (a1 + 1)) = j_ := ⟨_, rfl⟩
      replace H : (if 0 ≤ (ji8) then (if (ji8) < (l0.length : Int) then (if 0 ≤ (wrap64 (a1 + 2)) then (if (wrap64 (a1 + 2)) < (l0.length : Int) then (if 0 ≤ (wrap64 (a1 + 3)) then (if (wrap64 (a1 + 3)) < (l0.length : Int) then (if (Go.bits .or .i64 (Go.bits .or .i64 (Go.bits .or .i64 (wrap64 ((wrap64 (rd l0 a1)) * 16777216)) (wrap64 ((wrap64 (rd l0 (ji8))) * 65536))) (wrap64 ((wrap64 (rd l0 (wrap64 (a1 + 2)))) * 256))) (wrap64 (rd l0 (wrap64 (a1 + 3))))) > 2147483647 then (some (0, false)) else (some (Go.bits .or .i64 (Go.bits .or .i64 (Go.bits .or .i64 (wrap64 ((wrap64 (rd l0 a1)) * 16777216)) (wrap64 ((wrap64 (rd l0 (ji8))) * 65536))) (wrap64 ((wrap64 (rd l0 (wrap64 (a1 + 2)))) * 256))) (wrap64 (rd l0 (wrap64 (a1 + 3)))), true))) else (none)) else (none)) else (none)) else (none)) else (none)) else (none)) = some (r1, r2) := by first | (rw [hji8] at H; exact H) | (simp only [hji8] at H ⊢; exact H)
      have hji8w : (IntKind.i64.wrap (a1 + 1)) = ji8 := (i64_w _).trans hji8
      by_cases c9 : 0 ≤ (ji8)
      ·rw [if_pos c9] at H
       have c9b0 := decide_eq_true c9
       clear c9
       by_cases c10 : (ji8) < (l0.length : Int)
       ·rw [if_pos c10] at H
        have c10b0 := decide_eq_true c10
        clear c10
        obtain ⟨ji11, hji11⟩ : ∃ j_ : Int, (Go.bits .or .i64 (wrap64 ((wrap64 (rd l0 a1)) * 16777216)) (wrap64 ((wrap64 (rd l0 (ji8))) * 65536))) = j_ := ⟨_, rfl⟩
        replace H : (if 0 ≤ (wrap64 (a1 + 2)) then (if (wrap64 (a1 + 2)) < (l0.length : Int) then (if 0 ≤ (wrap64 (a1 + 3)) then (if (wrap64 (a1 + 3)) < (l0.length : Int) then (if (Go.bits .or .i64 (Go.bits .or .i64 (ji11) (wrap64 ((wrap64 (rd l0 (wrap64 (a1 + 2)))) * 256))) (wrap64 (rd l0 (wrap64 (a1 + 3))))) > 2147483647 then (some (0, false)) else (some (Go.bits .or .i64 (Go.bits .or .i64 (ji11) (wrap64 ((wrap64 (rd l0 (wrap64 (a1 + 2)))) * 256))) (wrap64 (rd l0 (wrap64 (a1 + 3)))), true))) else (none)) else (none)) else (none)) else (none)) = some (r1, r2) := by first | (rw [hji11] at H; exact H) | (simp only [hji11] at H ⊢; exact H)
        obtain ⟨ji12, hji12⟩ : ∃ j_ : Int, (wrap64 (a1 + 2)) = j_ := ⟨_, rfl⟩
        replace H : (if 0 ≤ (ji12) then (if (ji12) < (l0.length : Int) then (if 0 ≤ (wrap64 (a1 + 3)) then (if (wrap64 (a1 + 3)) < (l0.length : Int) then (if (Go.bits .or .i64 (Go.bits .or .i64 (ji11) (wrap64 ((wrap64 (rd l0 (ji12))) * 256))) (wrap64 (rd l0 (wrap64 (a1 + 3))))) > 2147483647 then (some (0, false)) else (some (Go.bits .or .i64 (Go.bits .or .i64 (ji11) (wrap64 ((wrap64 (rd l0 (ji12))) * 256))) (wrap64 (rd l0 (wrap64 (a1 + 3)))), true))) else (none)) else (none)) else (none)) else (none)) = some (r1, r2) := by first | (rw [hji12] at H; exact H) | (simp only [hji12] at H ⊢; exact H)
        have hji12w : (IntKind.i64.wrap (a1 + 2)) = ji12 := (i64_w _).trans hji12
        by_cases c13 : 0 ≤ (ji12)
        ·rw [if_pos c13] at H
         have c13b0 := decide_eq_true c13
         clear c13
         by_cases c14 : (ji12) < (l0.length : Int)
         ·rw [if_pos c14] at H
          have c14b0 := decide_eq_true c14
          clear c14
          obtain ⟨ji15, hji15⟩ : ∃ j_ : Int, (Go.bits .or .i64 (ji11) (wrap64 ((wrap64 (rd l0 (ji12))) * 256))) = j_ := ⟨_, rfl⟩
          replace H : (if 0 ≤ (wrap64 (a1 + 3)) then (if (wrap64 (a1 + 3)) < (l0.length : Int) then (if (Go.bits .or .i64 (ji15) (wrap64 (rd l0 (wrap64 (a1 + 3))))) > 2147483647 then (some (0, false)) else (some (Go.bits .or .i64 (ji15) (wrap64 (rd l0 (wrap64 (a1 + 3)))), true))) else (none)) else (none)) = some (r1, r2) := by first | (rw [hji15] at H; exact H) | (simp only [hji15] at H ⊢; exact H)
          obtain ⟨ji16, hji16⟩ : ∃ j_ : Int, (wrap64 (a1 + 3)) = j_ := ⟨_, rfl⟩
          replace H : (if 0 ≤ (ji16) then (if (ji16) < (l0.length : Int) then (if (Go.bits .or .i64 (ji15) (wrap64 (rd l0 (ji16)))) > 2147483647 then (some (0, false)) else (some (Go.bits .or .i64 (ji15) (wrap64 (rd l0 (ji16))), true))) else (none)) else (none)) = some (r1, r2) := by first | (rw [hji16] at H; exact H) | (simp only [hji16] at H ⊢; exact H)
          have hji16w : (IntKind.i64.wrap (a1 + 3)) = ji16 := (i64_w _).trans hji16
          by_cases c17 : 0 ≤ (ji16)
          ·rw [if_pos c17] at H
           have c17b0 := decide_eq_true c17
           clear c17
           by_cases c18 : (ji16) < (l0.length : Int)
           ·rw [if_pos c18] at H
            have c18b0 := decide_eq_true c18
            clear c18
            obtain ⟨ji19, hji19⟩ : ∃ j_ : Int, (Go.bits .or .i64 (ji15) (wrap64 (rd l0 (ji16)))) = j_ := ⟨_, rfl⟩
            replace H : (if (ji19) > 2147483647 then (some (0, false)) else (some (ji19, true))) = some (r1, r2) := by first | (rw [hji19] at H; exact H) | (simp only [hji19] at H ⊢; exact H)
            by_cases c20 : (ji19) > 2147483647
            ·rw [if_pos c20] at H
             have c20b0 := decide_eq_true c20
             clear c20
             simp only [Option.some.injEq, Prod.mk.injEq] at H
             obtain ⟨rfl, rfl⟩ := H
             have p626 : 0 ≤ (a1 : Int) := of_decide_eq_true jC
             have q626 : a1 < (l0.length : Int) := of_decide_eq_true jC
             obtain ⟨ad626, e626, hx626_0⟩ := Kd.at_int HR0.out a1 p626 q626
             cases e626
             replace p626 := eq_true p626
             replace q626 := eq_true q626
             have p627 : 0 ≤ ((ji8) : Int) := of_decide_eq_true jC
             have q627 : (ji8) < (l0.length : Int) := of_decide_eq_true jC
             obtain ⟨ad627, e627, hx627_0⟩ := Kd.at_int HR0.out (ji8) p627 q627
             obtain rfl : ad626 = ad627 := (by injection e627)
             replace p627 := eq_true p627
             replace q627 := eq_true q627
             have p628 : 0 ≤ ((ji12) : Int) := of_decide_eq_true jC
             have q628 : (ji12) < (l0.length : Int) := of_decide_eq_true jC
             obtain ⟨ad628, e628, hx628_0⟩ := Kd.at_int HR0.out (ji12) p628 q628
             obtain rfl : ad626 = ad628 := (by injection e628)
             replace p628 := eq_true p628
             replace q628 := eq_true q628
             have p629 : 0 ≤ ((ji16) : Int) := of_decide_eq_true jC
             have q629 : (ji16) < (l0.length : Int) := of_decide_eq_true jC
             obtain ⟨ad629, e629, hx629_0⟩ := Kd.at_int HR0.out (ji16) p629 q629
             obtain rfl : ad626 = ad629 := (by injection e629)
             replace p629 := eq_true p629
             replace q629 := eq_true q629
             go_wp2
             repeat (go_quiet (fail); try go_wp2)
             go_ret2
             exact ⟨by first | rfl | (simp; done) | (simp only [← hji8, ← hji11, ← hji12, ← hji15, ← hji16, ← hji19] <;> (first | rfl | simp)) | (simp [*]; done) | (simp [X.bne_nil, X.beq_nil]; done), by repeat (first | exact Drawn0.refl _ | apply Drawn0.step)⟩
            ·rw [if_neg c20] at H
             have c20b0 := decide_eq_false c20
             clear c20
             simp only [Option.some.injEq, Prod.mk.injEq] at H
             obtain ⟨rfl, rfl⟩ := H
             have p626 : 0 ≤ (a1 : Int) := of_decide_eq_true jC
             have q626 : a1 < (l0.length : Int) := of_decide_eq_true jC
             obtain ⟨ad626, e626, hx626_0⟩ := Kd.at_int HR0.out a1 p626 q626
             cases e626
             replace p626 := eq_true p626
             replace q626 := eq_true q626
             have p627 : 0 ≤ ((ji8) : Int) := of_decide_eq_true jC
             have q627 : (ji8) < (l0.length : Int) := of_decide_eq_true jC
             obtain ⟨ad627, e627, hx627_0⟩ := Kd.at_int HR0.out (ji8) p627 q627
             obtain rfl : ad626 = ad627 := (by injection e627)
             replace p627 := eq_true p627
             replace q627 := eq_true q627
             have p628 : 0 ≤ ((ji12) : Int) := of_decide_eq_true jC
             have q628 : (ji12) < (l0.length : Int) := of_decide_eq_true jC
             obtain ⟨ad628, e628, hx628_0⟩ := Kd.at_int HR0.out (ji12) p628 q628
             obtain rfl : ad626 = ad628 := (by injection e628)
             replace p628 := eq_true p628
             replace q628 := eq_true q628
             have p629 : 0 ≤ ((ji16) : Int) := of_decide_eq_true jC
             have q629 : (ji16) < (l0.length : Int) := of_decide_eq_true jC
             obtain ⟨ad629, e629, hx629_0⟩ := Kd.at_int HR0.out (ji16) p629 q629
             obtain rfl : ad626 = ad629 := (by injection e629)
             replace p629 := eq_true p629
             replace q629 := eq_true q629
             go_wp2
             repeat (go_quiet (fail); try go_wp2)
             go_ret2
             exact ⟨by first | rfl | (simp; done) | (simp only [← hji8, ← hji11, ← hji12, ← hji15, ← hji16, ← hji19] <;> (first | rfl | simp)) | (simp [*]; done) | (simp [X.bne_nil, X.beq_nil]; done), by repeat (first | exact Drawn0.refl _ | apply Drawn0.step)⟩
           ·rw [if_neg c18] at H
            exact absurd H (by simp)
          ·rw [if_neg c17] at H
           exact absurd H (by simp)
         ·rw [if_neg c14] at H
          exact absurd H (by simp)
        ·rw [if_neg c13] at H
         exact absurd H (by simp)
       ·rw [if_neg c10] at H
        exact absurd H (by simp)
      ·rw [if_neg c9] at H
       exact absurd H (by simp)
     ·rw [if_neg c7] at H
      exact absurd H (by simp)
    ·rw [if_neg c6] at H
     exact absurd H (by simp)

/-! ### spec_TypeOk: function 87 -/
def spec_TypeOk.f (a0 : Int) : Option (Bool) := if a0 = 1 then (some true) else (if a0 = 2 then (some true) else (if a0 = 5 then (some true) else (if a0 = 6 then (some true) else (some (a0 == 16)))))
set_option maxHeartbeats 8000000 in
set_option maxRecDepth 100000 in
theorem spec_TypeOk.calls (a0 : Int) (r : Bool) (w : World) (h : spec_TypeOk.f a0 = some r) :
  Calls Tryd.prog 87 #[.int .i64 a0] w fun e w' => e = .returned (.bool r) ∧ Drawn0 w w' := by
 have H : (if a0 = 1 then (some true) else (if a0 = 2 then (some true) else (if a0 = 5 then (some true) else (if a0 = 6 then (some true) else (some (a0 == 16)))))) = some r := h
 clear h
 by_cases c2 : a0 = 1
 ·rw [if_pos c2] at H
  have c2b0 := beq_iff_eq.mpr c2
  have c2b1 := bne_eq_false_iff_eq.mpr c2
  clear c2
  obtain rfl := Option.some.inj H
  go_enter Tryd.func87, Tryd.ntmps87
  go_wp2
  go_ret
  exact ⟨by first | rfl | (simp; done) | (simp [*]; done) | (simp [X.bne_nil, X.beq_nil]; done) | (simp [*, X.bne_nil, X.beq_nil]; done) | (simp [X.bne_nil, X.beq_nil]; done), by repeat (first | exact Drawn0.refl _ | apply Drawn0.step)⟩
 ·rw [if_neg c2] at H
  have c2b0 := beq_eq_false_iff_ne.mpr c2
  have c2b1 := bne_iff_ne.mpr c2
  by_cases c3 : a0 = 2
  ·rw [if_pos c3] at H
   have c3b0 := beq_iff_eq.mpr c3
   have c3b1 := bne_eq_false_iff_eq.mpr c3
   clear c3
   obtain rfl := Option.some.inj H
   go_enter Tryd.func87, Tryd.ntmps87
   go_wp2
   go_ret
   exact ⟨by first | rfl | (simp; done) | (simp [*]; done) | (simp [X.bne_nil, X.beq_nil]; done) | (simp [*, X.bne_nil, X.beq_nil]; done) | (simp [X.bne_nil, X.beq_nil]; done), by repeat (first | exact Drawn0.refl _ | apply Drawn0.step)⟩
  ·rw [if_neg c3] at H
   have c3b0 := beq_eq_false_iff_ne.mpr c3
   have c3b1 := bne_iff_ne.mpr c3
   by_cases c4 : a0 = 5
   ·rw [if_pos c4] at H
    have c4b0 := beq_iff_eq.mpr c4
    have c4b1 := bne_eq_false_iff_eq.mpr c4
    clear c4
    obtain rfl := Option.some.inj H
    go_enter Tryd.func87, Tryd.ntmps87
    go_wp2
    go_ret
    exact ⟨by first | rfl | (simp; done) | (simp [*]; done) | (simp [X.bne_nil, X.beq_nil]; done) | (simp [*, X.bne_nil, X.beq_nil]; done) | (simp [X.bne_nil, X.beq_nil]; done), by repeat (first | exact Drawn0.refl _ | apply Drawn0.step)⟩
   ·rw [if_neg c4] at H
    have c4b0 := beq_eq_false_iff_ne.mpr c4
    have c4b1 := bne_iff_ne.mpr c4
    by_cases c5 : a0 = 6
    ·rw [if_pos c5] at H
     have c5b0 := beq_iff_eq.mpr c5
     have c5b1 := bne_eq_false_iff_eq.mpr c5
     clear c5
     obtain rfl := Option.some.inj H
     go_enter Tryd.func87, Tryd.ntmps87
     go_wp2
     go_ret
     exact ⟨by first | rfl | (simp; done) | (simp [*]; done) | (simp [X.bne_nil, X.beq_nil]; done) | (simp [*, X.bne_nil, X.beq_nil]; done) | (simp [X.bne_nil, X.beq_nil]; done), by repeat (first | exact Drawn0.refl _ | apply Drawn0.step)⟩
    ·rw [if_neg c5] at H
     have c5b0 := beq_eq_false_iff_ne.mpr c5
     have c5b1 := bne_iff_ne.mpr c5
     obtain rfl := Option.some.inj H
     go_enter Tryd.func87, Tryd.ntmps87
     go_wp2
     go_ret
     exact ⟨by first | rfl | (simp; done) | (simp [*]; done) | (simp [X.bne_nil, X.beq_nil]; done) | (simp [*, X.bne_nil, X.beq_nil]; done) | (simp [X.bne_nil, X.beq_nil]; done), by repeat (first | exact Drawn0.refl _ | apply Drawn0.step)⟩

end Go.Proofs.YtdigilidomimdaaDoor.Pr
