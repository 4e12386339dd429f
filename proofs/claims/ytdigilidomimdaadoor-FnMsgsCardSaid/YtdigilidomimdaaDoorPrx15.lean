-- Written for this claim by a program of this session (wip/tool/pr.py, over the kit's printer).
-- half
import Derived.Test.YtdigilidomimdaaDoorPrx0
import Derived.Test.YtdigilidomimdaaDoorPrx10
import Derived.Test.YtdigilidomimdaaDoorPrx11
import Derived.Test.YtdigilidomimdaaDoorPrx13
import Derived.Test.YtdigilidomimdaaDoorPrx14
namespace Go.Proofs.YtdigilidomimdaaDoor.Pr
open Go.RowKit Go.Proofs.YtdigilidomimdaaDoorW.PrintWords Go.Proofs.YtdigilidomimdaaDoorW.PrintLast Go.Proofs.YtdigilidomimdaaDoorW.PrintMore
attribute [local go_sem] max2_int min2_int max_two min_two max_three min_three max_four min_four   -- for this text's walks alone
set_option linter.unusedVariables false
set_option linter.unusedSimpArgs false

/-! ### impl_MsgText: function 40 -/
mutual
def impl_MsgText.j0 : Nat → ByteArray → Int → Bool → Bool → Bool → Bool → Bool → Int → ByteArray → Int → List (S25) → List (S25) → List (S25) → Option (ByteArray)
 | 0, _, _, _, _, _, _, _, _, _, _, _, _, _ => none
 | k + 1, x3, x683000, x683001, x683002, x683003, x683004, x683005, x683006, x683007, x683008, x683009, x683010, x683011 => (impl_NumText.f k x683000).bind fun t684 => (if t684.size + 1 ≤ 9223372036854775807 then ((impl_NumText.f k x683006).bind fun t685 => (if (t684 ++ (⟨#[32]⟩ : ByteArray)).size + t685.size ≤ 9223372036854775807 then (if ((t684 ++ (⟨#[32]⟩ : ByteArray)) ++ t685).size + 1 ≤ 9223372036854775807 then ((impl_nameText.f x683007).bind fun t686 => (if (((t684 ++ (⟨#[32]⟩ : ByteArray)) ++ t685) ++ (⟨#[32]⟩ : ByteArray)).size + t686.size ≤ 9223372036854775807 then (if ((((t684 ++ (⟨#[32]⟩ : ByteArray)) ++ t685) ++ (⟨#[32]⟩ : ByteArray)) ++ t686).size + 1 ≤ 9223372036854775807 then ((impl_TypeText.f x683008).bind fun t687 => (if (((((t684 ++ (⟨#[32]⟩ : ByteArray)) ++ t685) ++ (⟨#[32]⟩ : ByteArray)) ++ t686) ++ (⟨#[32]⟩ : ByteArray)).size + t687.size ≤ 9223372036854775807 then (if x3.size + ((((((t684 ++ (⟨#[32]⟩ : ByteArray)) ++ t685) ++ (⟨#[32]⟩ : ByteArray)) ++ t686) ++ (⟨#[32]⟩ : ByteArray)) ++ t687).size ≤ 9223372036854775807 then (if x683002 = true then (if (x3 ++ ((((((t684 ++ (⟨#[32]⟩ : ByteArray)) ++ t685) ++ (⟨#[32]⟩ : ByteArray)) ++ t686) ++ (⟨#[32]⟩ : ByteArray)) ++ t687)).size + 5 ≤ 9223372036854775807 then (impl_MsgText.j1 k ((x3 ++ ((((((t684 ++ (⟨#[32]⟩ : ByteArray)) ++ t685) ++ (⟨#[32]⟩ : ByteArray)) ++ t686) ++ (⟨#[32]⟩ : ByteArray)) ++ t687)) ++ (⟨#[32, 97, 117, 116, 104]⟩ : ByteArray)) x683000 x683001 x683002 x683003 x683004 x683005 x683006 x683007 x683008 x683009 x683010 x683011) else (none)) else (impl_MsgText.j1 k (x3 ++ ((((((t684 ++ (⟨#[32]⟩ : ByteArray)) ++ t685) ++ (⟨#[32]⟩ : ByteArray)) ++ t686) ++ (⟨#[32]⟩ : ByteArray)) ++ t687)) x683000 x683001 x683002 x683003 x683004 x683005 x683006 x683007 x683008 x683009 x683010 x683011)) else (none)) else (none))) else (none)) else (none))) else (none)) else (none))) else (none))
def impl_MsgText.j1 : Nat → ByteArray → Int → Bool → Bool → Bool → Bool → Bool → Int → ByteArray → Int → List (S25) → List (S25) → List (S25) → Option (ByteArray)
 | 0, _, _, _, _, _, _, _, _, _, _, _, _, _ => none
 | k + 1, x3, x683000, x683001, x683002, x683003, x683004, x683005, x683006, x683007, x683008, x683009, x683010, x683011 => if x683003 = true then (if x3.size + 4 ≤ 9223372036854775807 then (impl_MsgText.j2 k (x3 ++ (⟨#[32, 99, 117, 116]⟩ : ByteArray)) x683000 x683001 x683002 x683003 x683004 x683005 x683006 x683007 x683008 x683009 x683010 x683011) else (none)) else (impl_MsgText.j2 k x3 x683000 x683001 x683002 x683003 x683004 x683005 x683006 x683007 x683008 x683009 x683010 x683011)
def impl_MsgText.j2 : Nat → ByteArray → Int → Bool → Bool → Bool → Bool → Bool → Int → ByteArray → Int → List (S25) → List (S25) → List (S25) → Option (ByteArray)
 | 0, _, _, _, _, _, _, _, _, _, _, _, _, _ => none
 | k + 1, x3, x683000, x683001, x683002, x683003, x683004, x683005, x683006, x683007, x683008, x683009, x683010, x683011 => (slices_Concat_impl_Record.f k (([x683009, x683010, x683011] : List (List (S25))))).bind fun t691 => (impl_MsgText.l0 k x3 t691 (t691.length : Int) 0)
def impl_MsgText.l0 : Nat → ByteArray → List (S25) → Int → Int → Option (ByteArray)
 | 0, _, _, _, _ => none
 | k + 1, x3, x48, x49, x50 => if x50 < x49 then (if 0 ≤ x50 then (if x50 < (x48.length : Int) then ((impl_RecordText.f k ((rd_T25 x48 x50).f0) ((rd_T25 x48 x50).f1) ((rd_T25 x48 x50).f2) ((rd_T25 x48 x50).f3) ((rd_T25 x48 x50).f4) ((rd_T25 x48 x50).f5)).bind fun t696 => (if 2 + t696.size ≤ 9223372036854775807 then (if x3.size + ((⟨#[59, 32]⟩ : ByteArray) ++ t696).size ≤ 9223372036854775807 then (impl_MsgText.l0 k (x3 ++ ((⟨#[59, 32]⟩ : ByteArray) ++ t696)) x48 x49 (wrap64 (x50 + 1))) else (none)) else (none))) else (none)) else (none)) else (some x3)
end
def impl_MsgText.f (k : Nat) (a0_0 : Int) (a0_1 : Bool) (a0_2 : Bool) (a0_3 : Bool) (a0_4 : Bool) (a0_5 : Bool) (a0_6 : Int) (a0_7 : ByteArray) (a0_8 : Int) (l0_9 : List (S25)) (l0_10 : List (S25)) (l0_11 : List (S25)) : Option (ByteArray) := (impl_MsgOk.f k a0_0 a0_1 a0_2 a0_3 a0_4 a0_5 a0_6 a0_7 a0_8 l0_9 l0_10 l0_11).bind fun t683 => (if t683 = true then (if a0_1 = true then (impl_MsgText.j0 k (⟨#[114, 101, 112, 108, 121, 32]⟩ : ByteArray) a0_0 a0_1 a0_2 a0_3 a0_4 a0_5 a0_6 a0_7 a0_8 l0_9 l0_10 l0_11) else (impl_MsgText.j0 k (⟨#[97, 115, 107, 32]⟩ : ByteArray) a0_0 a0_1 a0_2 a0_3 a0_4 a0_5 a0_6 a0_7 a0_8 l0_9 l0_10 l0_11)) else (some (⟨#[]⟩ : ByteArray)))
theorem impl_MsgText.mono_l : ∀ k, (∀ y0 y1 y2 y3 y4 y5 y6 y7 y8 y9 y10 y11 y12, LeO (impl_MsgText.j0 k y0 y1 y2 y3 y4 y5 y6 y7 y8 y9 y10 y11 y12) (impl_MsgText.j0 (k + 1) y0 y1 y2 y3 y4 y5 y6 y7 y8 y9 y10 y11 y12)) ∧ (∀ y0 y1 y2 y3 y4 y5 y6 y7 y8 y9 y10 y11 y12, LeO (impl_MsgText.j1 k y0 y1 y2 y3 y4 y5 y6 y7 y8 y9 y10 y11 y12) (impl_MsgText.j1 (k + 1) y0 y1 y2 y3 y4 y5 y6 y7 y8 y9 y10 y11 y12)) ∧ (∀ y0 y1 y2 y3 y4 y5 y6 y7 y8 y9 y10 y11 y12, LeO (impl_MsgText.j2 k y0 y1 y2 y3 y4 y5 y6 y7 y8 y9 y10 y11 y12) (impl_MsgText.j2 (k + 1) y0 y1 y2 y3 y4 y5 y6 y7 y8 y9 y10 y11 y12)) ∧ (∀ y0 y1 y2 y3, LeO (impl_MsgText.l0 k y0 y1 y2 y3) (impl_MsgText.l0 (k + 1) y0 y1 y2 y3))
 | 0 => ⟨fun _ _ _ _ _ _ _ _ _ _ _ _ _ r h => by simp [impl_MsgText.j0] at h, fun _ _ _ _ _ _ _ _ _ _ _ _ _ r h => by simp [impl_MsgText.j1] at h, fun _ _ _ _ _ _ _ _ _ _ _ _ _ r h => by simp [impl_MsgText.j2] at h, fun _ _ _ _ r h => by simp [impl_MsgText.l0] at h⟩
 | k + 1 => by
  obtain ⟨ih0, ih1, ih2, ih3⟩ := impl_MsgText.mono_l k
  refine ⟨?_, ?_, ?_, ?_⟩
  ·intro y0 y1 y2 y3 y4 y5 y6 y7 y8 y9 y10 y11 y12
   unfold impl_MsgText.j0
   repeat' first
   | (with_reducible first | exact ih0 _ _ _ _ _ _ _ _ _ _ _ _ _ | exact ih1 _ _ _ _ _ _ _ _ _ _ _ _ _ | exact ih2 _ _ _ _ _ _ _ _ _ _ _ _ _ | exact ih3 _ _ _ _ | exact impl_MsgOk.mono _ _ _ _ _ _ _ _ _ _ _ _ _ | exact impl_NumText.mono _ _ | exact impl_RecordText.mono _ _ _ _ _ _ _ | exact slices_Concat_impl_Record.mono _ _ | exact LeO.refl _ | exact LeO.none _ | refine LeO.ite ?_ ?_ | refine LeO.bind ?_ (fun _ => ?_))
   | refine LeO.ite ?_ ?_
   | refine LeO.bind ?_ (fun _ => ?_)
  ·intro y0 y1 y2 y3 y4 y5 y6 y7 y8 y9 y10 y11 y12
   unfold impl_MsgText.j1
   repeat' first
   | (with_reducible first | exact ih0 _ _ _ _ _ _ _ _ _ _ _ _ _ | exact ih1 _ _ _ _ _ _ _ _ _ _ _ _ _ | exact ih2 _ _ _ _ _ _ _ _ _ _ _ _ _ | exact ih3 _ _ _ _ | exact impl_MsgOk.mono _ _ _ _ _ _ _ _ _ _ _ _ _ | exact impl_NumText.mono _ _ | exact impl_RecordText.mono _ _ _ _ _ _ _ | exact slices_Concat_impl_Record.mono _ _ | exact LeO.refl _ | exact LeO.none _ | refine LeO.ite ?_ ?_ | refine LeO.bind ?_ (fun _ => ?_))
   | refine LeO.ite ?_ ?_
   | refine LeO.bind ?_ (fun _ => ?_)
  ·intro y0 y1 y2 y3 y4 y5 y6 y7 y8 y9 y10 y11 y12
   unfold impl_MsgText.j2
   repeat' first
   | (with_reducible first | exact ih0 _ _ _ _ _ _ _ _ _ _ _ _ _ | exact ih1 _ _ _ _ _ _ _ _ _ _ _ _ _ | exact ih2 _ _ _ _ _ _ _ _ _ _ _ _ _ | exact ih3 _ _ _ _ | exact impl_MsgOk.mono _ _ _ _ _ _ _ _ _ _ _ _ _ | exact impl_NumText.mono _ _ | exact impl_RecordText.mono _ _ _ _ _ _ _ | exact slices_Concat_impl_Record.mono _ _ | exact LeO.refl _ | exact LeO.none _ | refine LeO.ite ?_ ?_ | refine LeO.bind ?_ (fun _ => ?_))
   | refine LeO.ite ?_ ?_
   | refine LeO.bind ?_ (fun _ => ?_)
  ·intro y0 y1 y2 y3
   unfold impl_MsgText.l0
   repeat' first
   | (with_reducible first | exact ih0 _ _ _ _ _ _ _ _ _ _ _ _ _ | exact ih1 _ _ _ _ _ _ _ _ _ _ _ _ _ | exact ih2 _ _ _ _ _ _ _ _ _ _ _ _ _ | exact ih3 _ _ _ _ | exact impl_MsgOk.mono _ _ _ _ _ _ _ _ _ _ _ _ _ | exact impl_NumText.mono _ _ | exact impl_RecordText.mono _ _ _ _ _ _ _ | exact slices_Concat_impl_Record.mono _ _ | exact LeO.refl _ | exact LeO.none _ | refine LeO.ite ?_ ?_ | refine LeO.bind ?_ (fun _ => ?_))
   | refine LeO.ite ?_ ?_
   | refine LeO.bind ?_ (fun _ => ?_)
theorem impl_MsgText.mono : ∀ a0 a1 a2 a3 a4 a5 a6 a7 a8 a9 a10 a11 k, LeO (impl_MsgText.f k a0 a1 a2 a3 a4 a5 a6 a7 a8 a9 a10 a11) (impl_MsgText.f (k + 1) a0 a1 a2 a3 a4 a5 a6 a7 a8 a9 a10 a11) := by
 intro a0 a1 a2 a3 a4 a5 a6 a7 a8 a9 a10 a11 k
 obtain ⟨ih0, ih1, ih2, ih3⟩ := impl_MsgText.mono_l k
 unfold impl_MsgText.f
 repeat' first
   | (with_reducible first | exact ih0 _ _ _ _ _ _ _ _ _ _ _ _ _ | exact ih1 _ _ _ _ _ _ _ _ _ _ _ _ _ | exact ih2 _ _ _ _ _ _ _ _ _ _ _ _ _ | exact ih3 _ _ _ _ | exact impl_MsgOk.mono _ _ _ _ _ _ _ _ _ _ _ _ _ | exact impl_NumText.mono _ _ | exact impl_RecordText.mono _ _ _ _ _ _ _ | exact slices_Concat_impl_Record.mono _ _ | exact LeO.refl _ | exact LeO.none _ | refine LeO.ite ?_ ?_ | refine LeO.bind ?_ (fun _ => ?_))
   | refine LeO.ite ?_ ?_
   | refine LeO.bind ?_ (fun _ => ?_)
set_option maxHeartbeats 8000000 in
set_option maxRecDepth 100000 in
theorem impl_MsgText.calls (k : Nat) (a0_0 : Int) (a0_1 : Bool) (a0_2 : Bool) (a0_3 : Bool) (a0_4 : Bool) (a0_5 : Bool) (a0_6 : Int) (a0_7 : ByteArray) (a0_8 : Int) (P0_9_ : Nat → Prop) (A0_9 : Option Addr) (c0_9 : Nat) (l0_9 : List (S25)) (P0_10_ : Nat → Prop) (A0_10 : Option Addr) (c0_10 : Nat) (l0_10 : List (S25)) (P0_11_ : Nat → Prop) (A0_11 : Option Addr) (c0_11 : Nat) (l0_11 : List (S25)) (r : ByteArray) (w : World) (hs0_9 : Kd.V k25 25 w w.heap.size (fun k_ => P0_9_ k_) (.slice A0_9 l0_9.length c0_9) l0_9) (hs0_10 : Kd.V k25 25 w w.heap.size (fun k_ => P0_10_ k_) (.slice A0_10 l0_10.length c0_10) l0_10) (hs0_11 : Kd.V k25 25 w w.heap.size (fun k_ => P0_11_ k_) (.slice A0_11 l0_11.length c0_11) l0_11) (h : impl_MsgText.f k a0_0 a0_1 a0_2 a0_3 a0_4 a0_5 a0_6 a0_7 a0_8 l0_9 l0_10 l0_11 = some r) :
  Calls Tryd.prog 40 #[.agg #[.int .i64 a0_0, .bool a0_1, .bool a0_2, .bool a0_3, .bool a0_4, .bool a0_5, .int .i64 a0_6, .string a0_7, .int .i64 a0_8, .slice A0_9 l0_9.length c0_9, .slice A0_10 l0_10.length c0_10, .slice A0_11 l0_11.length c0_11]] w fun e w' => e = .returned (.string r) ∧ Below w.heap.size w w' := by
 have hu52 := Tryd.underlying52
 have hu25 := Tryd.underlying25
 have HO0_9 := aS (show Kd.V k25 25 w w.heap.size (fun k_ => ((P0_9_ k_ ∨ P0_10_ k_ ∨ P0_11_ k_) ∨ w.heap.size ≤ k_)) (.slice A0_9 l0_9.length c0_9) l0_9 from Kd.V_mono hs0_9 (fun k_ hk => .inl (.inl hk)))
 have HO0_10 := aS (show Kd.V k25 25 w w.heap.size (fun k_ => ((P0_9_ k_ ∨ P0_10_ k_ ∨ P0_11_ k_) ∨ w.heap.size ≤ k_)) (.slice A0_10 l0_10.length c0_10) l0_10 from Kd.V_mono hs0_10 (fun k_ hk => .inl (.inr (.inl hk))))
 have HO0_11 := aS (show Kd.V k25 25 w w.heap.size (fun k_ => ((P0_9_ k_ ∨ P0_10_ k_ ∨ P0_11_ k_) ∨ w.heap.size ≤ k_)) (.slice A0_11 l0_11.length c0_11) l0_11 from Kd.V_mono hs0_11 (fun k_ hk => .inl (.inr (.inr hk))))
 have HB := aS (Below.refl w.heap.size w)
 have H := h
 unfold impl_MsgText.f at H
 clear h
 obtain ⟨t683, A2, H⟩ := bM H
 try dsimp only at H
 by_cases c3 : t683 = true
 ·subst c3
  rw [if_pos rfl] at H
  have HC4 := aS H
  clear H
  go_enter Tryd.func40, Tryd.ntmps40
  go_upto_if 10 with (first | ((with_reducible refine gate_dst (N := 1) rfl ?_); refine xB 1 #[.int .i64 a0_0, .bool a0_1, .bool a0_2, .bool a0_3, .bool a0_4, .bool a0_5, .int .i64 a0_6, .string a0_7, .int .i64 a0_8, .slice A0_9 l0_9.length c0_9, .slice A0_10 l0_10.length c0_10, .slice A0_11 l0_11.length c0_11] 52 ?_; intro gb682 hg w5 hbox hb; replace HO0_9 := aS (Kd.V_below (Kd.V_elderB (by exact vO HO0_9.out) gb682 (Nat.le_of_eq hg.symm)) hb); replace HO0_10 := aS (Kd.V_below (Kd.V_elderB (by exact vO HO0_10.out) gb682 (Nat.le_of_eq hg.symm)) hb); replace HO0_11 := aS (Kd.V_below (Kd.V_elderB (by exact vO HO0_11.out) gb682 (Nat.le_of_eq hg.symm)) hb); have BK682 := aS (hbox); have GW682 := gW hg (wU HB.out); have GE682 := gW hg (wU HB.out); replace HB := aS (below_step (wU HB.out) hb); clear hb hbox hg; have hcz6 := cells12f BK682.out) | (go_at_call 38; (with_reducible refine (impl_MsgOk.calls k a0_0 a0_1 a0_2 a0_3 a0_4 a0_5 a0_6 a0_7 a0_8 _ _ l0_9 _ _ l0_10 _ _ l0_11 true _ ?side1 ?side2 ?side3 ?side4 ?side5 ?side6 A2.out).mono ?_); (case side1 => exact cU ((Kd.V_reads' HO0_9.out).2.2)); (case side2 => exact (Kd.V_reads' HO0_9.out).2.1); (case side3 => exact cU ((Kd.V_reads' HO0_10.out).2.2)); (case side4 => exact (Kd.V_reads' HO0_10.out).2.1); (case side5 => exact cU ((Kd.V_reads' HO0_11.out).2.2)); (case side6 => exact (Kd.V_reads' HO0_11.out).2.1); rintro e w7 ⟨rfl, hb⟩; replace HO0_9 := aS (Kd.V_below (by exact vO HO0_9.out) hb); replace HO0_10 := aS (Kd.V_below (by exact vO HO0_10.out) hb); replace HO0_11 := aS (Kd.V_below (by exact vO HO0_11.out) hb); replace BK682 := bB BK682 hb; replace HB := aS (below_step (wS1 HB.out GE682.out) hb); clear hb; have hcz8 := cells12f BK682.out))
  repeat (go_quiet (first | ((with_reducible refine gate_dst (N := 1) rfl ?_); refine xB 1 #[.int .i64 a0_0, .bool a0_1, .bool a0_2, .bool a0_3, .bool a0_4, .bool a0_5, .int .i64 a0_6, .string a0_7, .int .i64 a0_8, .slice A0_9 l0_9.length c0_9, .slice A0_10 l0_10.length c0_10, .slice A0_11 l0_11.length c0_11] 52 ?_; intro gb682 hg w5 hbox hb; replace HO0_9 := aS (Kd.V_below (Kd.V_elderB (by exact vO HO0_9.out) gb682 (Nat.le_of_eq hg.symm)) hb); replace HO0_10 := aS (Kd.V_below (Kd.V_elderB (by exact vO HO0_10.out) gb682 (Nat.le_of_eq hg.symm)) hb); replace HO0_11 := aS (Kd.V_below (Kd.V_elderB (by exact vO HO0_11.out) gb682 (Nat.le_of_eq hg.symm)) hb); have BK682 := aS (hbox); have GW682 := gW hg (wU HB.out); have GE682 := gW hg (wU HB.out); replace HB := aS (below_step (wU HB.out) hb); clear hb hbox hg; have hcz6 := cells12f BK682.out) | (go_at_call 38; (with_reducible refine (impl_MsgOk.calls k a0_0 a0_1 a0_2 a0_3 a0_4 a0_5 a0_6 a0_7 a0_8 _ _ l0_9 _ _ l0_10 _ _ l0_11 true _ ?side1 ?side2 ?side3 ?side4 ?side5 ?side6 A2.out).mono ?_); (case side1 => exact cU ((Kd.V_reads' HO0_9.out).2.2)); (case side2 => exact (Kd.V_reads' HO0_9.out).2.1); (case side3 => exact cU ((Kd.V_reads' HO0_10.out).2.2)); (case side4 => exact (Kd.V_reads' HO0_10.out).2.1); (case side5 => exact cU ((Kd.V_reads' HO0_11.out).2.2)); (case side6 => exact (Kd.V_reads' HO0_11.out).2.1); rintro e w7 ⟨rfl, hb⟩; replace HO0_9 := aS (Kd.V_below (by exact vO HO0_9.out) hb); replace HO0_10 := aS (Kd.V_below (by exact vO HO0_10.out) hb); replace HO0_11 := aS (Kd.V_below (by exact vO HO0_11.out) hb); replace BK682 := bB BK682 hb; replace HB := aS (below_step (wS1 HB.out GE682.out) hb); clear hb; have hcz8 := cells12f BK682.out)); go_upto_if 10 with (first | ((with_reducible refine gate_dst (N := 1) rfl ?_); refine xB 1 #[.int .i64 a0_0, .bool a0_1, .bool a0_2, .bool a0_3, .bool a0_4, .bool a0_5, .int .i64 a0_6, .string a0_7, .int .i64 a0_8, .slice A0_9 l0_9.length c0_9, .slice A0_10 l0_10.length c0_10, .slice A0_11 l0_11.length c0_11] 52 ?_; intro gb682 hg w5 hbox hb; replace HO0_9 := aS (Kd.V_below (Kd.V_elderB (by exact vO HO0_9.out) gb682 (Nat.le_of_eq hg.symm)) hb); replace HO0_10 := aS (Kd.V_below (Kd.V_elderB (by exact vO HO0_10.out) gb682 (Nat.le_of_eq hg.symm)) hb); replace HO0_11 := aS (Kd.V_below (Kd.V_elderB (by exact vO HO0_11.out) gb682 (Nat.le_of_eq hg.symm)) hb); have BK682 := aS (hbox); have GW682 := gW hg (wU HB.out); have GE682 := gW hg (wU HB.out); replace HB := aS (below_step (wU HB.out) hb); clear hb hbox hg; have hcz6 := cells12f BK682.out) | (go_at_call 38; (with_reducible refine (impl_MsgOk.calls k a0_0 a0_1 a0_2 a0_3 a0_4 a0_5 a0_6 a0_7 a0_8 _ _ l0_9 _ _ l0_10 _ _ l0_11 true _ ?side1 ?side2 ?side3 ?side4 ?side5 ?side6 A2.out).mono ?_); (case side1 => exact cU ((Kd.V_reads' HO0_9.out).2.2)); (case side2 => exact (Kd.V_reads' HO0_9.out).2.1); (case side3 => exact cU ((Kd.V_reads' HO0_10.out).2.2)); (case side4 => exact (Kd.V_reads' HO0_10.out).2.1); (case side5 => exact cU ((Kd.V_reads' HO0_11.out).2.2)); (case side6 => exact (Kd.V_reads' HO0_11.out).2.1); rintro e w7 ⟨rfl, hb⟩; replace HO0_9 := aS (Kd.V_below (by exact vO HO0_9.out) hb); replace HO0_10 := aS (Kd.V_below (by exact vO HO0_10.out) hb); replace HO0_11 := aS (Kd.V_below (by exact vO HO0_11.out) hb); replace BK682 := bB BK682 hb; replace HB := aS (below_step (wS1 HB.out GE682.out) hb); clear hb; have hcz8 := cells12f BK682.out)))
  (try simp only [Act.put, List.setIfInBounds_toArray, List.set_cons_zero, List.set_cons_succ])
  go_cut [3] (fun v3 wc => ∃ (kq : Nat) (x3_3 : ByteArray), v3 = .string x3_3 ∧ Aside0 (impl_MsgText.j0 kq x3_3 a0_0 a0_1 a0_2 a0_3 a0_4 a0_5 a0_6 a0_7 a0_8 l0_9 l0_10 l0_11 = some r) ∧ Aside0 (kq ≤ k) ∧ Aside0 (Kd.V k25 25 wc w.heap.size (fun k_ => ((P0_9_ k_ ∨ P0_10_ k_ ∨ P0_11_ k_) ∨ w.heap.size ≤ k_) ∧ k_ ≠ gb682) (.slice A0_9 l0_9.length c0_9) l0_9) ∧ Aside0 (Kd.V k25 25 wc w.heap.size (fun k_ => ((P0_9_ k_ ∨ P0_10_ k_ ∨ P0_11_ k_) ∨ w.heap.size ≤ k_) ∧ k_ ≠ gb682) (.slice A0_10 l0_10.length c0_10) l0_10) ∧ Aside0 (Kd.V k25 25 wc w.heap.size (fun k_ => ((P0_9_ k_ ∨ P0_10_ k_ ∨ P0_11_ k_) ∨ w.heap.size ≤ k_) ∧ k_ ≠ gb682) (.slice A0_11 l0_11.length c0_11) l0_11) ∧ Aside0 (wc.heap[gb682]? = some (.cells #[.int .i64 a0_0, .bool a0_1, .bool a0_2, .bool a0_3, .bool a0_4, .bool a0_5, .int .i64 a0_6, .string a0_7, .int .i64 a0_8, (.slice A0_9 l0_9.length c0_9), (.slice A0_10 l0_10.length c0_10), (.slice A0_11 l0_11.length c0_11)] 52 (0, 0))) ∧ Aside0 (Below w.heap.size w wc))
  case first =>
   have H := HC4.out
   clear HC4
   by_cases c9 : a0_1 = true
   ·subst c9
    rw [if_pos rfl] at H
    have H' := aS H
    clear H
    go_wp2
    repeat (go_quiet (fail); try go_wp2)
    go_meet
    case rel => exact ⟨_, ((⟨#[114, 101, 112, 108, 121, 32]⟩ : ByteArray)), jB, H', ⟨by first | omega | exact Nat.le_refl _⟩, ⟨by exact vO HO0_9.out⟩, ⟨by exact vO HO0_10.out⟩, ⟨by exact vO HO0_11.out⟩, ⟨by exact bU BK682.out⟩, ⟨by exact wS1 HB.out GE682.out⟩⟩
   ·replace c9 := Bool.eq_false_iff.mpr c9
    subst c9
    rw [if_neg Bool.false_ne_true] at H
    have H' := aS H
    clear H
    go_wp2
    repeat (go_quiet (fail); try go_wp2)
    go_meet
    case rel => exact ⟨_, ((⟨#[97, 115, 107, 32]⟩ : ByteArray)), jB, H', ⟨by first | omega | exact Nat.le_refl _⟩, ⟨by exact vO HO0_9.out⟩, ⟨by exact vO HO0_10.out⟩, ⟨by exact vO HO0_11.out⟩, ⟨by exact bU BK682.out⟩, ⟨by exact wS1 HB.out GE682.out⟩⟩
  case rest =>
   clear HC4
   try clear p2
   try clear c3
   try clear c4
   try clear c9
   try clear hcz6
   try clear hcz8
   obtain ⟨kq, x3_3, rfl, HA, HJ3, HO_683009, HO_683010, HO_683011, BK682, HB⟩ := hcut
   cases kq with
   | zero => exact absurd HA.out (by simp [impl_MsgText.j0])
   | succ kj3 =>
    have H := HA.out
    clear HA
    simp only [impl_MsgText.j0] at H
    obtain ⟨t684, A10, H⟩ := bM H
    try dsimp only at H
    by_cases c11 : t684.size + 1 ≤ 9223372036854775807
    ·rw [if_pos c11] at H
     have c11b0 := eq_true c11
     have c11b1 := decide_eq_true c11
     try have c11b2 : (9223372036854775807 < t684.size + 1) = False := eq_false (Nat.not_lt.2 c11)
     obtain ⟨t685, A12, H⟩ := bM H
     try dsimp only at H
     by_cases c13 : (t684 ++ (⟨#[32]⟩ : ByteArray)).size + t685.size ≤ 9223372036854775807
     ·rw [if_pos c13] at H
      have c13b0 := eq_true c13
      have c13b1 := decide_eq_true c13
      try have c13b2 : (9223372036854775807 < (t684 ++ (⟨#[32]⟩ : ByteArray)).size + t685.size) = False := eq_false (Nat.not_lt.2 c13)
      try have c13b8 : (9223372036854775807 < t684.size + 1 + t685.size) = False := by have q_ := c13b2; simp only [ByteArray.size_append] at q_; exact q_
      by_cases c14 : ((t684 ++ (⟨#[32]⟩ : ByteArray)) ++ t685).size + 1 ≤ 9223372036854775807
      ·rw [if_pos c14] at H
       have c14b0 := eq_true c14
       have c14b1 := decide_eq_true c14
       try have c14b2 : (9223372036854775807 < ((t684 ++ (⟨#[32]⟩ : ByteArray)) ++ t685).size + 1) = False := eq_false (Nat.not_lt.2 c14)
       try have c14b8 : (9223372036854775807 < t684.size + 1 + t685.size + 1) = False := by have q_ := c14b2; simp only [ByteArray.size_append] at q_; exact q_
       obtain ⟨t686, A15, H⟩ := bM H
       try dsimp only at H
       by_cases c16 : (((t684 ++ (⟨#[32]⟩ : ByteArray)) ++ t685) ++ (⟨#[32]⟩ : ByteArray)).size + t686.size ≤ 9223372036854775807
       ·rw [if_pos c16] at H
        have c16b0 := eq_true c16
        have c16b1 := decide_eq_true c16
        try have c16b2 : (9223372036854775807 < (((t684 ++ (⟨#[32]⟩ : ByteArray)) ++ t685) ++ (⟨#[32]⟩ : ByteArray)).size + t686.size) = False := eq_false (Nat.not_lt.2 c16)
        try have c16b8 : (9223372036854775807 < t684.size + 1 + t685.size + 1 + t686.size) = False := by have q_ := c16b2; simp only [ByteArray.size_append] at q_; exact q_
        by_cases c17 : ((((t684 ++ (⟨#[32]⟩ : ByteArray)) ++ t685) ++ (⟨#[32]⟩ : ByteArray)) ++ t686).size + 1 ≤ 9223372036854775807
        ·rw [if_pos c17] at H
         have c17b0 := eq_true c17
         have c17b1 := decide_eq_true c17
         try have c17b2 : (9223372036854775807 < ((((t684 ++ (⟨#[32]⟩ : ByteArray)) ++ t685) ++ (⟨#[32]⟩ : ByteArray)) ++ t686).size + 1) = False := eq_false (Nat.not_lt.2 c17)
         try have c17b8 : (9223372036854775807 < t684.size + 1 + t685.size + 1 + t686.size + 1) = False := by have q_ := c17b2; simp only [ByteArray.size_append] at q_; exact q_
         obtain ⟨t687, A18, H⟩ := bM H
         try dsimp only at H
         by_cases c19 : (((((t684 ++ (⟨#[32]⟩ : ByteArray)) ++ t685) ++ (⟨#[32]⟩ : ByteArray)) ++ t686) ++ (⟨#[32]⟩ : ByteArray)).size + t687.size ≤ 9223372036854775807
         ·rw [if_pos c19] at H
          have c19b0 := eq_true c19
          have c19b1 := decide_eq_true c19
          try have c19b2 : (9223372036854775807 < (((((t684 ++ (⟨#[32]⟩ : ByteArray)) ++ t685) ++ (⟨#[32]⟩ : ByteArray)) ++ t686) ++ (⟨#[32]⟩ : ByteArray)).size + t687.size) = False := eq_false (Nat.not_lt.2 c19)
          try have c19b8 : (9223372036854775807 < t684.size + 1 + t685.size + 1 + t686.size + 1 + t687.size) = False := by have q_ := c19b2; simp only [ByteArray.size_append] at q_; exact q_
          by_cases c20 : x3_3.size + ((((((t684 ++ (⟨#[32]⟩ : ByteArray)) ++ t685) ++ (⟨#[32]⟩ : ByteArray)) ++ t686) ++ (⟨#[32]⟩ : ByteArray)) ++ t687).size ≤ 9223372036854775807
          ·rw [if_pos c20] at H
           have c20b0 := eq_true c20
           have c20b1 := decide_eq_true c20
           try have c20b2 : (9223372036854775807 < x3_3.size + ((((((t684 ++ (⟨#[32]⟩ : ByteArray)) ++ t685) ++ (⟨#[32]⟩ : ByteArray)) ++ t686) ++ (⟨#[32]⟩ : ByteArray)) ++ t687).size) = False := eq_false (Nat.not_lt.2 c20)
           have HC21 := aS H
           clear H
           have hcz22 := cells12f BK682.out
           go_upto_if 34 with (first | (go_at_call 97; (with_reducible refine (impl_NumText.calls kj3 a0_0 t684 _ A10.out).mono ?_); rintro e w' ⟨rfl, ⟨nd, rfl⟩⟩; (try first | exact ⟨rfl, _, World.drewN_drewN _ _ _⟩ | exact ⟨rfl, _, Eq.trans (World.drewN_drewN _ _ _) (congrArg (World.drewN _) (Nat.add_assoc _ _ _))⟩)) | (go_at_call 97; (with_reducible refine (impl_NumText.calls kj3 a0_6 t685 _ A12.out).mono ?_); rintro e w' ⟨rfl, ⟨nd, rfl⟩⟩; (try first | exact ⟨rfl, _, World.drewN_drewN _ _ _⟩ | exact ⟨rfl, _, Eq.trans (World.drewN_drewN _ _ _) (congrArg (World.drewN _) (Nat.add_assoc _ _ _))⟩)) | (go_at_call 98; (with_reducible refine (impl_nameText.calls a0_7 t686 _ A15.out).mono ?_); rintro e w' ⟨rfl, ⟨nd, rfl⟩⟩; (try first | exact ⟨rfl, _, World.drewN_drewN _ _ _⟩ | exact ⟨rfl, _, Eq.trans (World.drewN_drewN _ _ _) (congrArg (World.drewN _) (Nat.add_assoc _ _ _))⟩)) | (go_at_call 99; (with_reducible refine (impl_TypeText.calls a0_8 t687 _ A18.out).mono ?_); rintro e w' ⟨rfl, ⟨nd, rfl⟩⟩; (try first | exact ⟨rfl, _, World.drewN_drewN _ _ _⟩ | exact ⟨rfl, _, Eq.trans (World.drewN_drewN _ _ _) (congrArg (World.drewN _) (Nat.add_assoc _ _ _))⟩)))
           repeat (go_quiet (first | (go_at_call 97; (with_reducible refine (impl_NumText.calls kj3 a0_0 t684 _ A10.out).mono ?_); rintro e w' ⟨rfl, ⟨nd, rfl⟩⟩; (try first | exact ⟨rfl, _, World.drewN_drewN _ _ _⟩ | exact ⟨rfl, _, Eq.trans (World.drewN_drewN _ _ _) (congrArg (World.drewN _) (Nat.add_assoc _ _ _))⟩)) | (go_at_call 97; (with_reducible refine (impl_NumText.calls kj3 a0_6 t685 _ A12.out).mono ?_); rintro e w' ⟨rfl, ⟨nd, rfl⟩⟩; (try first | exact ⟨rfl, _, World.drewN_drewN _ _ _⟩ | exact ⟨rfl, _, Eq.trans (World.drewN_drewN _ _ _) (congrArg (World.drewN _) (Nat.add_assoc _ _ _))⟩)) | (go_at_call 98; (with_reducible refine (impl_nameText.calls a0_7 t686 _ A15.out).mono ?_); rintro e w' ⟨rfl, ⟨nd, rfl⟩⟩; (try first | exact ⟨rfl, _, World.drewN_drewN _ _ _⟩ | exact ⟨rfl, _, Eq.trans (World.drewN_drewN _ _ _) (congrArg (World.drewN _) (Nat.add_assoc _ _ _))⟩)) | (go_at_call 99; (with_reducible refine (impl_TypeText.calls a0_8 t687 _ A18.out).mono ?_); rintro e w' ⟨rfl, ⟨nd, rfl⟩⟩; (try first | exact ⟨rfl, _, World.drewN_drewN _ _ _⟩ | exact ⟨rfl, _, Eq.trans (World.drewN_drewN _ _ _) (congrArg (World.drewN _) (Nat.add_assoc _ _ _))⟩))); go_upto_if 34 with (first | (go_at_call 97; (with_reducible refine (impl_NumText.calls kj3 a0_0 t684 _ A10.out).mono ?_); rintro e w' ⟨rfl, ⟨nd, rfl⟩⟩; (try first | exact ⟨rfl, _, World.drewN_drewN _ _ _⟩ | exact ⟨rfl, _, Eq.trans (World.drewN_drewN _ _ _) (congrArg (World.drewN _) (Nat.add_assoc _ _ _))⟩)) | (go_at_call 97; (with_reducible refine (impl_NumText.calls kj3 a0_6 t685 _ A12.out).mono ?_); rintro e w' ⟨rfl, ⟨nd, rfl⟩⟩; (try first | exact ⟨rfl, _, World.drewN_drewN _ _ _⟩ | exact ⟨rfl, _, Eq.trans (World.drewN_drewN _ _ _) (congrArg (World.drewN _) (Nat.add_assoc _ _ _))⟩)) | (go_at_call 98; (with_reducible refine (impl_nameText.calls a0_7 t686 _ A15.out).mono ?_); rintro e w' ⟨rfl, ⟨nd, rfl⟩⟩; (try first | exact ⟨rfl, _, World.drewN_drewN _ _ _⟩ | exact ⟨rfl, _, Eq.trans (World.drewN_drewN _ _ _) (congrArg (World.drewN _) (Nat.add_assoc _ _ _))⟩)) | (go_at_call 99; (with_reducible refine (impl_TypeText.calls a0_8 t687 _ A18.out).mono ?_); rintro e w' ⟨rfl, ⟨nd, rfl⟩⟩; (try first | exact ⟨rfl, _, World.drewN_drewN _ _ _⟩ | exact ⟨rfl, _, Eq.trans (World.drewN_drewN _ _ _) (congrArg (World.drewN _) (Nat.add_assoc _ _ _))⟩))))
           (try simp only [Act.put, List.setIfInBounds_toArray, List.set_cons_zero, List.set_cons_succ])
           go_cut [3] (fun v3 wc => ∃ (kq : Nat) (x3_20 : ByteArray), v3 = .string x3_20 ∧ Aside0 (impl_MsgText.j1 kq x3_20 a0_0 a0_1 a0_2 a0_3 a0_4 a0_5 a0_6 a0_7 a0_8 l0_9 l0_10 l0_11 = some r) ∧ Aside0 (kq ≤ kj3) ∧ Aside0 (Kd.V k25 25 wc w.heap.size (fun k_ => ((P0_9_ k_ ∨ P0_10_ k_ ∨ P0_11_ k_) ∨ w.heap.size ≤ k_) ∧ k_ ≠ gb682) (.slice A0_9 l0_9.length c0_9) l0_9) ∧ Aside0 (Kd.V k25 25 wc w.heap.size (fun k_ => ((P0_9_ k_ ∨ P0_10_ k_ ∨ P0_11_ k_) ∨ w.heap.size ≤ k_) ∧ k_ ≠ gb682) (.slice A0_10 l0_10.length c0_10) l0_10) ∧ Aside0 (Kd.V k25 25 wc w.heap.size (fun k_ => ((P0_9_ k_ ∨ P0_10_ k_ ∨ P0_11_ k_) ∨ w.heap.size ≤ k_) ∧ k_ ≠ gb682) (.slice A0_11 l0_11.length c0_11) l0_11) ∧ Aside0 (wc.heap[gb682]? = some (.cells #[.int .i64 a0_0, .bool a0_1, .bool a0_2, .bool a0_3, .bool a0_4, .bool a0_5, .int .i64 a0_6, .string a0_7, .int .i64 a0_8, (.slice A0_9 l0_9.length c0_9), (.slice A0_10 l0_10.length c0_10), (.slice A0_11 l0_11.length c0_11)] 52 (0, 0))) ∧ Aside0 (Below w.heap.size w wc))
           case first =>
            have H := HC21.out
            clear HC21
            by_cases c23 : a0_2 = true
            ·subst c23
             rw [if_pos rfl] at H
             by_cases c24 : (x3_3 ++ ((((((t684 ++ (⟨#[32]⟩ : ByteArray)) ++ t685) ++ (⟨#[32]⟩ : ByteArray)) ++ t686) ++ (⟨#[32]⟩ : ByteArray)) ++ t687)).size + 5 ≤ 9223372036854775807
             ·rw [if_pos c24] at H
              have c24b0 := eq_true c24
              have c24b1 := decide_eq_true c24
              try have c24b2 : (9223372036854775807 < (x3_3 ++ ((((((t684 ++ (⟨#[32]⟩ : ByteArray)) ++ t685) ++ (⟨#[32]⟩ : ByteArray)) ++ t686) ++ (⟨#[32]⟩ : ByteArray)) ++ t687)).size + 5) = False := eq_false (Nat.not_lt.2 c24)
              try have c24b8 : (9223372036854775807 < x3_3.size + (t684.size + 1 + t685.size + 1 + t686.size + 1 + t687.size) + 5) = False := by have q_ := c24b2; simp only [ByteArray.size_append] at q_; exact q_
              have H' := aS H
              clear H
              go_wp2
              repeat (go_quiet (fail); try go_wp2)
              go_meet
              case rel => exact ⟨_, ((x3_3 ++ ((((((t684 ++ (⟨#[32]⟩ : ByteArray)) ++ t685) ++ (⟨#[32]⟩ : ByteArray)) ++ t686) ++ (⟨#[32]⟩ : ByteArray)) ++ t687)) ++ (⟨#[32, 97, 117, 116, 104]⟩ : ByteArray)), jB, H', ⟨by have := HJ3.out; first | omega | exact Nat.le_refl _⟩, ⟨by exact vO HO_683009.out⟩, ⟨by exact vO HO_683010.out⟩, ⟨by exact vO HO_683011.out⟩, ⟨by exact bU BK682.out⟩, ⟨by exact wS1 HB.out GE682.out⟩⟩
             ·rw [if_neg c24] at H
              exact absurd H (by simp)
            ·replace c23 := Bool.eq_false_iff.mpr c23
             subst c23
             rw [if_neg Bool.false_ne_true] at H
             have H' := aS H
             clear H
             go_wp2
             repeat (go_quiet (fail); try go_wp2)
             go_meet
             case rel => exact ⟨_, (x3_3 ++ ((((((t684 ++ (⟨#[32]⟩ : ByteArray)) ++ t685) ++ (⟨#[32]⟩ : ByteArray)) ++ t686) ++ (⟨#[32]⟩ : ByteArray)) ++ t687)), jB, H', ⟨by have := HJ3.out; first | omega | exact Nat.le_refl _⟩, ⟨by exact vO HO_683009.out⟩, ⟨by exact vO HO_683010.out⟩, ⟨by exact vO HO_683011.out⟩, ⟨by exact bU BK682.out⟩, ⟨by exact wS1 HB.out GE682.out⟩⟩
           case rest =>
            clear HC21
            try clear c1
            try clear c2
            try clear p2
            try clear c3
            try clear c4
            try clear c9
            try clear c11
            try clear c11b0
            try clear c11b1
            try clear c11b2
            try clear c13
            try clear c13b0
            try clear c13b1
            try clear c13b2
            try clear c14
            try clear c14b0
            try clear c14b1
            try clear c14b2
            try clear c16
            try clear c16b0
            try clear c16b1
            try clear c16b2
            try clear c17
            try clear c17b0
            try clear c17b1
            try clear c17b2
            try clear c19
            try clear c19b0
            try clear c19b1
            try clear c19b2
            try clear c20
            try clear c20b0
            try clear c20b1
            try clear c20b2
            try clear c23
            try clear c24
            try clear c24b0
            try clear c24b1
            try clear c24b2
            try clear hcz22
            try clear hcz6
            try clear hcz8
            try clear p2
            obtain ⟨kq, x3_20, rfl, HA, HJ20, HO_683009, HO_683010, HO_683011, BK682, HB⟩ := hcut
            cases kq with
            | zero => exact absurd HA.out (by simp [impl_MsgText.j1])
            | succ kj20 =>
             have H := HA.out
             clear HA
             simp only [impl_MsgText.j1] at H
             have HC25 := aS H
             clear H
             have hcz26 := cells12f BK682.out
             go_upto_if 38 with (fail)
             repeat (go_quiet (fail); go_upto_if 38 with (fail))
             go_cut [3] (fun v3 wc => ∃ (kq : Nat) (x3_24 : ByteArray), v3 = .string x3_24 ∧ Aside0 (impl_MsgText.j2 kq x3_24 a0_0 a0_1 a0_2 a0_3 a0_4 a0_5 a0_6 a0_7 a0_8 l0_9 l0_10 l0_11 = some r) ∧ Aside0 (kq ≤ kj20) ∧ Aside0 (Kd.V k25 25 wc w.heap.size (fun k_ => ((P0_9_ k_ ∨ P0_10_ k_ ∨ P0_11_ k_) ∨ w.heap.size ≤ k_) ∧ k_ ≠ gb682) (.slice A0_9 l0_9.length c0_9) l0_9) ∧ Aside0 (Kd.V k25 25 wc w.heap.size (fun k_ => ((P0_9_ k_ ∨ P0_10_ k_ ∨ P0_11_ k_) ∨ w.heap.size ≤ k_) ∧ k_ ≠ gb682) (.slice A0_10 l0_10.length c0_10) l0_10) ∧ Aside0 (Kd.V k25 25 wc w.heap.size (fun k_ => ((P0_9_ k_ ∨ P0_10_ k_ ∨ P0_11_ k_) ∨ w.heap.size ≤ k_) ∧ k_ ≠ gb682) (.slice A0_11 l0_11.length c0_11) l0_11) ∧ Aside0 (wc.heap[gb682]? = some (.cells #[.int .i64 a0_0, .bool a0_1, .bool a0_2, .bool a0_3, .bool a0_4, .bool a0_5, .int .i64 a0_6, .string a0_7, .int .i64 a0_8, (.slice A0_9 l0_9.length c0_9), (.slice A0_10 l0_10.length c0_10), (.slice A0_11 l0_11.length c0_11)] 52 (0, 0))) ∧ Aside0 (Below w.heap.size w wc))
             case first =>
              have H := HC25.out
              clear HC25
              by_cases c27 : a0_3 = true
              ·subst c27
               rw [if_pos rfl] at H
               by_cases c28 : x3_20.size + 4 ≤ 9223372036854775807
               ·rw [if_pos c28] at H
                have c28b0 := eq_true c28
                have c28b1 := decide_eq_true c28
                try have c28b2 : (9223372036854775807 < x3_20.size + 4) = False := eq_false (Nat.not_lt.2 c28)
                have H' := aS H
                clear H
                go_wp2
                repeat (go_quiet (fail); try go_wp2)
                go_meet
                case rel => exact ⟨_, (x3_20 ++ (⟨#[32, 99, 117, 116]⟩ : ByteArray)), jB, H', ⟨by have := HJ3.out; have := HJ20.out; first | omega | exact Nat.le_refl _⟩, ⟨by exact vO HO_683009.out⟩, ⟨by exact vO HO_683010.out⟩, ⟨by exact vO HO_683011.out⟩, ⟨by exact bU BK682.out⟩, ⟨by exact wS1 HB.out GE682.out⟩⟩
               ·rw [if_neg c28] at H
                exact absurd H (by simp)
              ·replace c27 := Bool.eq_false_iff.mpr c27
               subst c27
               rw [if_neg Bool.false_ne_true] at H
               have H' := aS H
               clear H
               go_wp2
               repeat (go_quiet (fail); try go_wp2)
               go_meet
               case rel => exact ⟨_, (x3_20), jB, H', ⟨by have := HJ3.out; have := HJ20.out; first | omega | exact Nat.le_refl _⟩, ⟨by exact vO HO_683009.out⟩, ⟨by exact vO HO_683010.out⟩, ⟨by exact vO HO_683011.out⟩, ⟨by exact bU BK682.out⟩, ⟨by exact wS1 HB.out GE682.out⟩⟩
             case rest =>
              clear HC25
              try clear c1
              try clear c2
              try clear p2
              try clear c3
              try clear c4
              try clear c9
              try clear c11
              try clear c11b0
              try clear c11b1
              try clear c11b2
              try clear c13
              try clear c13b0
              try clear c13b1
              try clear c13b2
              try clear c14
              try clear c14b0
              try clear c14b1
              try clear c14b2
              try clear c16
              try clear c16b0
              try clear c16b1
              try clear c16b2
              try clear c17
              try clear c17b0
              try clear c17b1
              try clear c17b2
              try clear c19
              try clear c19b0
              try clear c19b1
              try clear c19b2
              try clear c20
              try clear c20b0
              try clear c20b1
              try clear c20b2
              try clear c23
              try clear c24
              try clear c24b0
              try clear c24b1
              try clear c24b2
              try clear c27
              try clear c28
              try clear c28b0
              try clear c28b1
              try clear c28b2
              try clear hcz22
              try clear hcz26
              try clear hcz6
              try clear hcz8
              try clear p2
              obtain ⟨kq, x3_24, rfl, HA, HJ24, HO_683009, HO_683010, HO_683011, BK682, HB⟩ := hcut
              cases kq with
              | zero => exact absurd HA.out (by simp [impl_MsgText.j2])
              | succ kj24 =>
               have H := HA.out
               clear HA
               simp only [impl_MsgText.j2] at H
               obtain ⟨y688, hy_⟩ : ∃ y_ : List (List (S25)), y_ = (([l0_9, l0_10, l0_11] : List (List (S25)))) := ⟨_, rfl⟩
               replace H : ((slices_Concat_impl_Record.f kj24 y688).bind fun t691 => (impl_MsgText.l0 kj24 x3_24 t691 (t691.length : Int) 0)) = some r := jD
               have Ny688 := aS hy_
               clear hy_
               obtain ⟨t691, A29, H⟩ := bM H
               try dsimp only at H
               have H' := aS H
               clear H
               have hcz30 := cells12f BK682.out
               go_wp2_with (first | ((with_reducible refine gate_dst (N := 47) rfl ?_); refine Kd.N_lit (Kd.slice 25 k25) _ 36 ?hg (N' := 47) ?hd (xs := ([l0_9, l0_10, l0_11] : List (List (S25)))) (inner := [.slice A0_9 l0_9.length c0_9, .slice A0_10 l0_10.length c0_10, .slice A0_11 l0_11.length c0_11]) (ok := (fun k_ => ((P0_9_ k_ ∨ P0_10_ k_ ∨ P0_11_ k_) ∨ w.heap.size ≤ k_) ∧ k_ ≠ gb682)) (okp := (fun k_ => ((P0_9_ k_ ∨ P0_10_ k_ ∨ P0_11_ k_) ∨ w.heap.size ≤ k_) ∧ k_ ≠ gb682)) ?hr ?hp (fun _ hk => hk) ((show ∀ k_, wc.heap.size ≤ k_ → (fun k_ => ((P0_9_ k_ ∨ P0_10_ k_ ∨ P0_11_ k_) ∨ w.heap.size ≤ k_) ∧ k_ ≠ gb682) k_ from fun k_ hk => ⟨(.inr (Nat.le_trans (below_size (wS1 HB.out GE682.out)) hk)), Kd.freshB (g := gb682) (o := .cells #[.int .i64 a0_0, .bool a0_1, .bool a0_2, .bool a0_3, .bool a0_4, .bool a0_5, .int .i64 a0_6, .string a0_7, .int .i64 a0_8, .slice A0_9 l0_9.length c0_9, .slice A0_10 l0_10.length c0_10, .slice A0_11 l0_11.length c0_11] 52 (0, 0)) (bU BK682.out) k_ hk⟩) _ (Nat.le_refl _)) (Below.refl _ _) (Nat.le_refl _) (by simp) ?_; (case hd => rfl); (case hg => rfl); (case hr => first | (go_simp; done) | (go_simp; rfl)); (case hp => exact (Reps.one (show Kd.FK (Kd.slice 25 k25) _ _ l0_9 [.slice A0_9 l0_9.length c0_9] from (Kd.FK_slice_mk (Kd.V_reads' (Kd.V_mono (ok' := (fun k_ => ((P0_9_ k_ ∨ P0_10_ k_ ∨ P0_11_ k_) ∨ w.heap.size ≤ k_) ∧ k_ ≠ gb682)) (HO_683009.out) (fun k_ hk => ⟨hk.1, hk.2⟩))).2.1 (Kd.V_F (Kd.V_mono (ok' := (fun k_ => ((P0_9_ k_ ∨ P0_10_ k_ ∨ P0_11_ k_) ∨ w.heap.size ≤ k_) ∧ k_ ≠ gb682)) (HO_683009.out) (fun k_ hk => ⟨hk.1, hk.2⟩))))) (Reps.one (show Kd.FK (Kd.slice 25 k25) _ _ l0_10 [.slice A0_10 l0_10.length c0_10] from (Kd.FK_slice_mk (Kd.V_reads' (Kd.V_mono (ok' := (fun k_ => ((P0_9_ k_ ∨ P0_10_ k_ ∨ P0_11_ k_) ∨ w.heap.size ≤ k_) ∧ k_ ≠ gb682)) (HO_683010.out) (fun k_ hk => ⟨hk.1, hk.2⟩))).2.1 (Kd.V_F (Kd.V_mono (ok' := (fun k_ => ((P0_9_ k_ ∨ P0_10_ k_ ∨ P0_11_ k_) ∨ w.heap.size ≤ k_) ∧ k_ ≠ gb682)) (HO_683010.out) (fun k_ hk => ⟨hk.1, hk.2⟩))))) (Reps.one (show Kd.FK (Kd.slice 25 k25) _ _ l0_11 [.slice A0_11 l0_11.length c0_11] from (Kd.FK_slice_mk (Kd.V_reads' (Kd.V_mono (ok' := (fun k_ => ((P0_9_ k_ ∨ P0_10_ k_ ∨ P0_11_ k_) ∨ w.heap.size ≤ k_) ∧ k_ ≠ gb682)) (HO_683011.out) (fun k_ hk => ⟨hk.1, hk.2⟩))).2.1 (Kd.V_F (Kd.V_mono (ok' := (fun k_ => ((P0_9_ k_ ∨ P0_10_ k_ ∨ P0_11_ k_) ∨ w.heap.size ≤ k_) ∧ k_ ≠ gb682)) (HO_683011.out) (fun k_ hk => ⟨hk.1, hk.2⟩))))) (Reps.none _ _))))); intro v689 w31 ho32 hb hg_ hnew_; clear hg_ hnew_; (first | rw [← Ny688.out] at ho32 | (simp only [Int.reduceToNat] at ho32; rw [← Ny688.out] at ho32)); replace HO_683009 := aS (Kd.V_elder' (by exact vO HO_683009.out) (Kd.N_base ho32) hb); replace HO_683010 := aS (Kd.V_elder' (by exact vO HO_683010.out) (Kd.N_base ho32) hb); replace HO_683011 := aS (Kd.V_elder' (by exact vO HO_683011.out) (Kd.N_base ho32) hb); have HO690 := aS (Kd.N_lower ho32 (below_size (wS1 HB.out GE682.out))); replace BK682 := bB BK682 hb; replace HB := aS (below_step (wS1 HB.out GE682.out) hb); clear hb ho32; obtain ⟨Ao33, co33, eo33⟩ := Kd.N_slice HO690.out; subst eo33) | (go_at_call 100; (with_reducible refine (slices_Concat_impl_Record.calls kj24 _ _ y688 t691 _ ?side1 ?side2 A29.out).mono ?_); (case side1 => exact cU ((Kd.N_reads' HO690.out).2.2)); (case side2 => exact (Kd.N_reads' HO690.out).2.1); rintro e w34 ⟨v692, rfl, ho0, hb⟩; replace HO_683009 := aS (Kd.V_elder' (by exact vO HO_683009.out) (Kd.R_base ho0) hb); replace HO_683010 := aS (Kd.V_elder' (by exact vO HO_683010.out) (Kd.R_base ho0) hb); replace HO_683011 := aS (Kd.V_elder' (by exact vO HO_683011.out) (Kd.R_base ho0) hb); replace HO690 := aS (Kd.N_elder' (by (with_reducible repeat (first | apply Kd.N_alloc | apply Kd.N_drewN | apply Kd.N_drew)); exact HO690.out) (Kd.R_base ho0) hb); have HO693 := aS (Kd.R_lower (Kd.R_newM (M := fun k_ => (w.heap.size ≤ k_)) ho0 (below_size (wS1 HB.out GE682.out)) (fun k_ h_ => h_)) (below_size (wS1 HB.out GE682.out))); replace BK682 := bB BK682 hb; replace HB := aS (below_step (wS1 HB.out GE682.out) hb); clear hb; (try clear ho0); obtain ⟨Ao35, co35, eo35⟩ := Kd.R_slice HO693.out; subst eo35))
               repeat (go_quiet (first | ((with_reducible refine gate_dst (N := 47) rfl ?_); refine Kd.N_lit (Kd.slice 25 k25) _ 36 ?hg (N' := 47) ?hd (xs := ([l0_9, l0_10, l0_11] : List (List (S25)))) (inner := [.slice A0_9 l0_9.length c0_9, .slice A0_10 l0_10.length c0_10, .slice A0_11 l0_11.length c0_11]) (ok := (fun k_ => ((P0_9_ k_ ∨ P0_10_ k_ ∨ P0_11_ k_) ∨ w.heap.size ≤ k_) ∧ k_ ≠ gb682)) (okp := (fun k_ => ((P0_9_ k_ ∨ P0_10_ k_ ∨ P0_11_ k_) ∨ w.heap.size ≤ k_) ∧ k_ ≠ gb682)) ?hr ?hp (fun _ hk => hk) ((show ∀ k_, wc.heap.size ≤ k_ → (fun k_ => ((P0_9_ k_ ∨ P0_10_ k_ ∨ P0_11_ k_) ∨ w.heap.size ≤ k_) ∧ k_ ≠ gb682) k_ from fun k_ hk => ⟨(.inr (Nat.le_trans (below_size (wS1 HB.out GE682.out)) hk)), Kd.freshB (g := gb682) (o := .cells #[.int .i64 a0_0, .bool a0_1, .bool a0_2, .bool a0_3, .bool a0_4, .bool a0_5, .int .i64 a0_6, .string a0_7, .int .i64 a0_8, .slice A0_9 l0_9.length c0_9, .slice A0_10 l0_10.length c0_10, .slice A0_11 l0_11.length c0_11] 52 (0, 0)) (bU BK682.out) k_ hk⟩) _ (Nat.le_refl _)) (Below.refl _ _) (Nat.le_refl _) (by simp) ?_; (case hd => rfl); (case hg => rfl); (case hr => first | (go_simp; done) | (go_simp; rfl)); (case hp => exact (Reps.one (show Kd.FK (Kd.slice 25 k25) _ _ l0_9 [.slice A0_9 l0_9.length c0_9] from (Kd.FK_slice_mk (Kd.V_reads' (Kd.V_mono (ok' := (fun k_ => ((P0_9_ k_ ∨ P0_10_ k_ ∨ P0_11_ k_) ∨ w.heap.size ≤ k_) ∧ k_ ≠ gb682)) (HO_683009.out) (fun k_ hk => ⟨hk.1, hk.2⟩))).2.1 (Kd.V_F (Kd.V_mono (ok' := (fun k_ => ((P0_9_ k_ ∨ P0_10_ k_ ∨ P0_11_ k_) ∨ w.heap.size ≤ k_) ∧ k_ ≠ gb682)) (HO_683009.out) (fun k_ hk => ⟨hk.1, hk.2⟩))))) (Reps.one (show Kd.FK (Kd.slice 25 k25) _ _ l0_10 [.slice A0_10 l0_10.length c0_10] from (Kd.FK_slice_mk (Kd.V_reads' (Kd.V_mono (ok' := (fun k_ => ((P0_9_ k_ ∨ P0_10_ k_ ∨ P0_11_ k_) ∨ w.heap.size ≤ k_) ∧ k_ ≠ gb682)) (HO_683010.out) (fun k_ hk => ⟨hk.1, hk.2⟩))).2.1 (Kd.V_F (Kd.V_mono (ok' := (fun k_ => ((P0_9_ k_ ∨ P0_10_ k_ ∨ P0_11_ k_) ∨ w.heap.size ≤ k_) ∧ k_ ≠ gb682)) (HO_683010.out) (fun k_ hk => ⟨hk.1, hk.2⟩))))) (Reps.one (show Kd.FK (Kd.slice 25 k25) _ _ l0_11 [.slice A0_11 l0_11.length c0_11] from (Kd.FK_slice_mk (Kd.V_reads' (Kd.V_mono (ok' := (fun k_ => ((P0_9_ k_ ∨ P0_10_ k_ ∨ P0_11_ k_) ∨ w.heap.size ≤ k_) ∧ k_ ≠ gb682)) (HO_683011.out) (fun k_ hk => ⟨hk.1, hk.2⟩))).2.1 (Kd.V_F (Kd.V_mono (ok' := (fun k_ => ((P0_9_ k_ ∨ P0_10_ k_ ∨ P0_11_ k_) ∨ w.heap.size ≤ k_) ∧ k_ ≠ gb682)) (HO_683011.out) (fun k_ hk => ⟨hk.1, hk.2⟩))))) (Reps.none _ _))))); intro v689 w31 ho32 hb hg_ hnew_; clear hg_ hnew_; (first | rw [← Ny688.out] at ho32 | (simp only [Int.reduceToNat] at ho32; rw [← Ny688.out] at ho32)); replace HO_683009 := aS (Kd.V_elder' (by exact vO HO_683009.out) (Kd.N_base ho32) hb); replace HO_683010 := aS (Kd.V_elder' (by exact vO HO_683010.out) (Kd.N_base ho32) hb); replace HO_683011 := aS (Kd.V_elder' (by exact vO HO_683011.out) (Kd.N_base ho32) hb); have HO690 := aS (Kd.N_lower ho32 (below_size (wS1 HB.out GE682.out))); replace BK682 := bB BK682 hb; replace HB := aS (below_step (wS1 HB.out GE682.out) hb); clear hb ho32; obtain ⟨Ao33, co33, eo33⟩ := Kd.N_slice HO690.out; subst eo33) | (go_at_call 100; (with_reducible refine (slices_Concat_impl_Record.calls kj24 _ _ y688 t691 _ ?side1 ?side2 A29.out).mono ?_); (case side1 => exact cU ((Kd.N_reads' HO690.out).2.2)); (case side2 => exact (Kd.N_reads' HO690.out).2.1); rintro e w34 ⟨v692, rfl, ho0, hb⟩; replace HO_683009 := aS (Kd.V_elder' (by exact vO HO_683009.out) (Kd.R_base ho0) hb); replace HO_683010 := aS (Kd.V_elder' (by exact vO HO_683010.out) (Kd.R_base ho0) hb); replace HO_683011 := aS (Kd.V_elder' (by exact vO HO_683011.out) (Kd.R_base ho0) hb); replace HO690 := aS (Kd.N_elder' (by (with_reducible repeat (first | apply Kd.N_alloc | apply Kd.N_drewN | apply Kd.N_drew)); exact HO690.out) (Kd.R_base ho0) hb); have HO693 := aS (Kd.R_lower (Kd.R_newM (M := fun k_ => (w.heap.size ≤ k_)) ho0 (below_size (wS1 HB.out GE682.out)) (fun k_ h_ => h_)) (below_size (wS1 HB.out GE682.out))); replace BK682 := bB BK682 hb; replace HB := aS (below_step (wS1 HB.out GE682.out) hb); clear hb; (try clear ho0); obtain ⟨Ao35, co35, eo35⟩ := Kd.R_slice HO693.out; subst eo35)); try go_wp2_with (first | ((with_reducible refine gate_dst (N := 47) rfl ?_); refine Kd.N_lit (Kd.slice 25 k25) _ 36 ?hg (N' := 47) ?hd (xs := ([l0_9, l0_10, l0_11] : List (List (S25)))) (inner := [.slice A0_9 l0_9.length c0_9, .slice A0_10 l0_10.length c0_10, .slice A0_11 l0_11.length c0_11]) (ok := (fun k_ => ((P0_9_ k_ ∨ P0_10_ k_ ∨ P0_11_ k_) ∨ w.heap.size ≤ k_) ∧ k_ ≠ gb682)) (okp := (fun k_ => ((P0_9_ k_ ∨ P0_10_ k_ ∨ P0_11_ k_) ∨ w.heap.size ≤ k_) ∧ k_ ≠ gb682)) ?hr ?hp (fun _ hk => hk) ((show ∀ k_, wc.heap.size ≤ k_ → (fun k_ => ((P0_9_ k_ ∨ P0_10_ k_ ∨ P0_11_ k_) ∨ w.heap.size ≤ k_) ∧ k_ ≠ gb682) k_ from fun k_ hk => ⟨(.inr (Nat.le_trans (below_size (wS1 HB.out GE682.out)) hk)), Kd.freshB (g := gb682) (o := .cells #[.int .i64 a0_0, .bool a0_1, .bool a0_2, .bool a0_3, .bool a0_4, .bool a0_5, .int .i64 a0_6, .string a0_7, .int .i64 a0_8, .slice A0_9 l0_9.length c0_9, .slice A0_10 l0_10.length c0_10, .slice A0_11 l0_11.length c0_11] 52 (0, 0)) (bU BK682.out) k_ hk⟩) _ (Nat.le_refl _)) (Below.refl _ _) (Nat.le_refl _) (by simp) ?_; (case hd => rfl); (case hg => rfl); (case hr => first | (go_simp; done) | (go_simp; rfl)); (case hp => exact (Reps.one (show Kd.FK (Kd.slice 25 k25) _ _ l0_9 [.slice A0_9 l0_9.length c0_9] from (Kd.FK_slice_mk (Kd.V_reads' (Kd.V_mono (ok' := (fun k_ => ((P0_9_ k_ ∨ P0_10_ k_ ∨ P0_11_ k_) ∨ w.heap.size ≤ k_) ∧ k_ ≠ gb682)) (HO_683009.out) (fun k_ hk => ⟨hk.1, hk.2⟩))).2.1 (Kd.V_F (Kd.V_mono (ok' := (fun k_ => ((P0_9_ k_ ∨ P0_10_ k_ ∨ P0_11_ k_) ∨ w.heap.size ≤ k_) ∧ k_ ≠ gb682)) (HO_683009.out) (fun k_ hk => ⟨hk.1, hk.2⟩))))) (Reps.one (show Kd.FK (Kd.slice 25 k25) _ _ l0_10 [.slice A0_10 l0_10.length c0_10] from (Kd.FK_slice_mk (Kd.V_reads' (Kd.V_mono (ok' := (fun k_ => ((P0_9_ k_ ∨ P0_10_ k_ ∨ P0_11_ k_) ∨ w.heap.size ≤ k_) ∧ k_ ≠ gb682)) (HO_683010.out) (fun k_ hk => ⟨hk.1, hk.2⟩))).2.1 (Kd.V_F (Kd.V_mono (ok' := (fun k_ => ((P0_9_ k_ ∨ P0_10_ k_ ∨ P0_11_ k_) ∨ w.heap.size ≤ k_) ∧ k_ ≠ gb682)) (HO_683010.out) (fun k_ hk => ⟨hk.1, hk.2⟩))))) (Reps.one (show Kd.FK (Kd.slice 25 k25) _ _ l0_11 [.slice A0_11 l0_11.length c0_11] from (Kd.FK_slice_mk (Kd.V_reads' (Kd.V_mono (ok' := (fun k_ => ((P0_9_ k_ ∨ P0_10_ k_ ∨ P0_11_ k_) ∨ w.heap.size ≤ k_) ∧ k_ ≠ gb682)) (HO_683011.out) (fun k_ hk => ⟨hk.1, hk.2⟩))).2.1 (Kd.V_F (Kd.V_mono (ok' := (fun k_ => ((P0_9_ k_ ∨ P0_10_ k_ ∨ P0_11_ k_) ∨ w.heap.size ≤ k_) ∧ k_ ≠ gb682)) (HO_683011.out) (fun k_ hk => ⟨hk.1, hk.2⟩))))) (Reps.none _ _))))); intro v689 w31 ho32 hb hg_ hnew_; clear hg_ hnew_; (first | rw [← Ny688.out] at ho32 | (simp only [Int.reduceToNat] at ho32; rw [← Ny688.out] at ho32)); replace HO_683009 := aS (Kd.V_elder' (by exact vO HO_683009.out) (Kd.N_base ho32) hb); replace HO_683010 := aS (Kd.V_elder' (by exact vO HO_683010.out) (Kd.N_base ho32) hb); replace HO_683011 := aS (Kd.V_elder' (by exact vO HO_683011.out) (Kd.N_base ho32) hb); have HO690 := aS (Kd.N_lower ho32 (below_size (wS1 HB.out GE682.out))); replace BK682 := bB BK682 hb; replace HB := aS (below_step (wS1 HB.out GE682.out) hb); clear hb ho32; obtain ⟨Ao33, co33, eo33⟩ := Kd.N_slice HO690.out; subst eo33) | (go_at_call 100; (with_reducible refine (slices_Concat_impl_Record.calls kj24 _ _ y688 t691 _ ?side1 ?side2 A29.out).mono ?_); (case side1 => exact cU ((Kd.N_reads' HO690.out).2.2)); (case side2 => exact (Kd.N_reads' HO690.out).2.1); rintro e w34 ⟨v692, rfl, ho0, hb⟩; replace HO_683009 := aS (Kd.V_elder' (by exact vO HO_683009.out) (Kd.R_base ho0) hb); replace HO_683010 := aS (Kd.V_elder' (by exact vO HO_683010.out) (Kd.R_base ho0) hb); replace HO_683011 := aS (Kd.V_elder' (by exact vO HO_683011.out) (Kd.R_base ho0) hb); replace HO690 := aS (Kd.N_elder' (by (with_reducible repeat (first | apply Kd.N_alloc | apply Kd.N_drewN | apply Kd.N_drew)); exact HO690.out) (Kd.R_base ho0) hb); have HO693 := aS (Kd.R_lower (Kd.R_newM (M := fun k_ => (w.heap.size ≤ k_)) ho0 (below_size (wS1 HB.out GE682.out)) (fun k_ h_ => h_)) (below_size (wS1 HB.out GE682.out))); replace BK682 := bB BK682 hb; replace HB := aS (below_step (wS1 HB.out GE682.out) hb); clear hb; (try clear ho0); obtain ⟨Ao35, co35, eo35⟩ := Kd.R_slice HO693.out; subst eo35)))
               go_loopg [3, 50] kj24 (fun kq v3 v50 w' => ∃ (x3_4 : ByteArray) (x50_4 : Int), v3 = .string x3_4 ∧ v50 = .int .i64 x50_4 ∧ Aside0 (impl_MsgText.l0 kq x3_4 t691 (t691.length : Int) x50_4 = some r) ∧ Aside0 (kq ≤ kj24) ∧ Aside0 (Kd.R k25 25 w' w.heap.size (fun k_ => (w.heap.size ≤ k_)) (.slice Ao35 t691.length co35) t691) ∧ Aside0 (Kd.V k25 25 w' w.heap.size (fun k_ => ((P0_9_ k_ ∨ P0_10_ k_ ∨ P0_11_ k_) ∨ w.heap.size ≤ k_) ∧ some k_ ≠ ((.slice Ao35 t691.length co35) : Value).ownBlock ∧ k_ ≠ gb682) (.slice A0_9 l0_9.length c0_9) l0_9) ∧ Aside0 (Kd.V k25 25 w' w.heap.size (fun k_ => ((P0_9_ k_ ∨ P0_10_ k_ ∨ P0_11_ k_) ∨ w.heap.size ≤ k_) ∧ some k_ ≠ ((.slice Ao35 t691.length co35) : Value).ownBlock ∧ k_ ≠ gb682) (.slice A0_10 l0_10.length c0_10) l0_10) ∧ Aside0 (Kd.V k25 25 w' w.heap.size (fun k_ => ((P0_9_ k_ ∨ P0_10_ k_ ∨ P0_11_ k_) ∨ w.heap.size ≤ k_) ∧ some k_ ≠ ((.slice Ao35 t691.length co35) : Value).ownBlock ∧ k_ ≠ gb682) (.slice A0_11 l0_11.length c0_11) l0_11) ∧ Aside0 (w'.heap[gb682]? = some (.cells #[.int .i64 a0_0, .bool a0_1, .bool a0_2, .bool a0_3, .bool a0_4, .bool a0_5, .int .i64 a0_6, .string a0_7, .int .i64 a0_8, (.slice A0_9 l0_9.length c0_9), (.slice A0_10 l0_10.length c0_10), (.slice A0_11 l0_11.length c0_11)] 52 (0, 0))) ∧ Aside0 (Below w.heap.size w w'))
               case atStart => exact ⟨(x3_24), (0), jB, jB, H', ⟨Nat.le_refl _⟩, ⟨by exact rO (Kd.R_mono HO693.out (fun _ hk => hk.1))⟩, ⟨by exact vO (Kd.V_mono HO_683009.out (fun _ hk => ⟨hk.1.1.1, ⟨hk.2, hk.1.1.2⟩⟩))⟩, ⟨by exact vO (Kd.V_mono HO_683010.out (fun _ hk => ⟨hk.1.1.1, ⟨hk.2, hk.1.1.2⟩⟩))⟩, ⟨by exact vO (Kd.V_mono HO_683011.out (fun _ hk => ⟨hk.1.1.1, ⟨hk.2, hk.1.1.2⟩⟩))⟩, ⟨by exact bU BK682.out⟩, ⟨by exact wS1 HB.out GE682.out⟩⟩
               case round =>
                clear H'
                try clear c1
                try clear c2
                try clear p2
                try clear c3
                try clear c4
                try clear c9
                try clear c11
                try clear c11b0
                try clear c11b1
                try clear c11b2
                try clear c13
                try clear c13b0
                try clear c13b1
                try clear c13b2
                try clear c14
                try clear c14b0
                try clear c14b1
                try clear c14b2
                try clear c16
                try clear c16b0
                try clear c16b1
                try clear c16b2
                try clear c17
                try clear c17b0
                try clear c17b1
                try clear c17b2
                try clear c19
                try clear c19b0
                try clear c19b1
                try clear c19b2
                try clear c20
                try clear c20b0
                try clear c20b1
                try clear c20b2
                try clear c23
                try clear c24
                try clear c24b0
                try clear c24b1
                try clear c24b2
                try clear c27
                try clear c28
                try clear c28b0
                try clear c28b1
                try clear c28b2
                try clear hcz22
                try clear hcz26
                try clear hcz30
                try clear hcz6
                try clear hcz8
                try clear p2
                obtain ⟨x3_4, x50_4, rfl, rfl, HA, HK4, HO_48, HO_683009, HO_683010, HO_683011, BK682, HB⟩ := hrel
                cases gk with
                | zero => exact absurd HA.out (by simp [impl_MsgText.l0])
                | succ k4 =>
                 have H := HA.out
                 clear HA
                 simp only [impl_MsgText.l0] at H
                 by_cases c36 : x50_4 < (t691.length : Int)
                 ·rw [if_pos c36] at H
                  have c36b0 := decide_eq_true c36
                  clear c36
                  by_cases c37 : 0 ≤ x50_4
                  ·rw [if_pos c37] at H
                   have c37b0 := decide_eq_true c37
                   clear c37
                   by_cases c38 : x50_4 < (t691.length : Int)
                   ·rw [if_pos c38] at H
                    have c38b0 := decide_eq_true c38
                    clear c38
                    obtain ⟨t696, A39, H⟩ := bM H
                    try dsimp only at H
                    by_cases c40 : 2 + t696.size ≤ 9223372036854775807
                    ·rw [if_pos c40] at H
                     have c40b0 := eq_true c40
                     have c40b1 := decide_eq_true c40
                     try have c40b2 : (9223372036854775807 < 2 + t696.size) = False := eq_false (Nat.not_lt.2 c40)
                     by_cases c41 : x3_4.size + ((⟨#[59, 32]⟩ : ByteArray) ++ t696).size ≤ 9223372036854775807
                     ·rw [if_pos c41] at H
                      have c41b0 := eq_true c41
                      have c41b1 := decide_eq_true c41
                      try have c41b2 : (9223372036854775807 < x3_4.size + ((⟨#[59, 32]⟩ : ByteArray) ++ t696).size) = False := eq_false (Nat.not_lt.2 c41)
                      have H' := aS H
                      clear H
                      have p694 : 0 ≤ (x50_4 : Int) := of_decide_eq_true jC
                      have q694 : x50_4 < (t691.length : Int) := of_decide_eq_true jC
                      obtain ⟨ad694, e694, hx694_0, hx694_1, hx694_2, hx694_3, hx694_4, hx694_5⟩ := at_T25 (Kd.R_reads' HO_48.out).2.2 x50_4 p694 q694
                      cases e694
                      replace p694 := eq_true p694
                      replace q694 := eq_true q694
                      go_wp2_with (first | ((with_reducible refine gate_dst (N := 5) rfl ?_); refine xB 5 #[.string (⟨#[]⟩ : ByteArray), .int .i64 0, .int .i64 0, .int .i64 0, .string (⟨#[]⟩ : ByteArray), .string (⟨#[]⟩ : ByteArray)] 25 ?_; intro gb695 hg w42 hbox hb; replace HO_48 := aS (Kd.R_below (Kd.R_elderB (rU HO_48.out) gb695 (Nat.le_of_eq hg.symm)) hb); replace HO_683009 := aS (Kd.V_below (Kd.V_elderB (by exact vO HO_683009.out) gb695 (Nat.le_of_eq hg.symm)) hb); replace HO_683010 := aS (Kd.V_below (Kd.V_elderB (by exact vO HO_683010.out) gb695 (Nat.le_of_eq hg.symm)) hb); replace HO_683011 := aS (Kd.V_below (Kd.V_elderB (by exact vO HO_683011.out) gb695 (Nat.le_of_eq hg.symm)) hb); have BK695 := aS (hbox); have GW695 := gW hg (wS1 HB.out GE682.out); have GE695 := gW hg (wS1 HB.out GE682.out); replace HB := aS (below_step (wS1 HB.out GE682.out) hb); have NB682_695 := nB hg BK682; have NB695_682 := nS NB682_695; replace BK682 := bB BK682 hb; clear hb hbox hg; have hnb43 := NB695_682.out; have hnc43 := NB682_695.out; have hcz44 := cells6f BK695.out) | (go_at_call 52; (with_reducible refine (impl_RecordText.calls k4 ((rd_T25 t691 x50_4).f0) ((rd_T25 t691 x50_4).f1) ((rd_T25 t691 x50_4).f2) ((rd_T25 t691 x50_4).f3) ((rd_T25 t691 x50_4).f4) ((rd_T25 t691 x50_4).f5) t696 _ A39.out).mono ?_); rintro e w45 ⟨rfl, hb⟩; replace HO_48 := aS (Kd.R_below (by exact rO (Kd.R_mono (Kd.R_far (p := ⟨gb695, 5, none⟩) (Kd.R_far (p := ⟨gb695, 4, none⟩) (Kd.R_far (p := ⟨gb695, 3, none⟩) (Kd.R_far (p := ⟨gb695, 2, none⟩) (Kd.R_far (p := ⟨gb695, 1, none⟩) (Kd.R_far (p := ⟨gb695, 0, none⟩) (Kd.R_mono HO_48.out (fun k_ hk => (⟨hk, hk.2⟩ : _ ∧ k_ ≠ gb695))) (fun _ hk => hk.2) (.string ((rd_T25 t691 x50_4).f0))) (fun _ hk => hk.2) (.int .i64 ((rd_T25 t691 x50_4).f1))) (fun _ hk => hk.2) (.int .i64 ((rd_T25 t691 x50_4).f2))) (fun _ hk => hk.2) (.int .i64 ((rd_T25 t691 x50_4).f3))) (fun _ hk => hk.2) (.string ((rd_T25 t691 x50_4).f4))) (fun _ hk => hk.2) (.string ((rd_T25 t691 x50_4).f5))) (fun _ h_ => h_.1))) hb); replace HO_683009 := aS (Kd.V_below (by exact (vF1 HO_683009.out (fun k_ hk => (hk.2 : k_ ≠ gb695)))) hb); replace HO_683010 := aS (Kd.V_below (by exact (vF1 HO_683010.out (fun k_ hk => (hk.2 : k_ ≠ gb695)))) hb); replace HO_683011 := aS (Kd.V_below (by exact (vF1 HO_683011.out (fun k_ hk => (hk.2 : k_ ≠ gb695)))) hb); replace BK682 := aS (blk_below (g := gb682) (o := .cells #[.int .i64 a0_0, .bool a0_1, .bool a0_2, .bool a0_3, .bool a0_4, .bool a0_5, .int .i64 a0_6, .string a0_7, .int .i64 a0_8, .slice A0_9 l0_9.length c0_9, .slice A0_10 l0_10.length c0_10, .slice A0_11 l0_11.length c0_11] 52 (0, 0)) (by exact bF1 BK682.out NB682_695.out) hb); replace BK695 := aS (blk_below (g := gb695) (o := .cells #[.string ((rd_T25 t691 x50_4).f0), .int .i64 ((rd_T25 t691 x50_4).f1), .int .i64 ((rd_T25 t691 x50_4).f2), .int .i64 ((rd_T25 t691 x50_4).f3), .string ((rd_T25 t691 x50_4).f4), .string ((rd_T25 t691 x50_4).f5)] 25 (0, 0)) (by exact bO (p6 (bU BK695.out))) hb); replace HB := aS (below_step (wS2 HB.out GE682.out GE695.out) hb); clear hb))
                      repeat (go_quiet (first | ((with_reducible refine gate_dst (N := 5) rfl ?_); refine xB 5 #[.string (⟨#[]⟩ : ByteArray), .int .i64 0, .int .i64 0, .int .i64 0, .string (⟨#[]⟩ : ByteArray), .string (⟨#[]⟩ : ByteArray)] 25 ?_; intro gb695 hg w42 hbox hb; replace HO_48 := aS (Kd.R_below (Kd.R_elderB (rU HO_48.out) gb695 (Nat.le_of_eq hg.symm)) hb); replace HO_683009 := aS (Kd.V_below (Kd.V_elderB (by exact vO HO_683009.out) gb695 (Nat.le_of_eq hg.symm)) hb); replace HO_683010 := aS (Kd.V_below (Kd.V_elderB (by exact vO HO_683010.out) gb695 (Nat.le_of_eq hg.symm)) hb); replace HO_683011 := aS (Kd.V_below (Kd.V_elderB (by exact vO HO_683011.out) gb695 (Nat.le_of_eq hg.symm)) hb); have BK695 := aS (hbox); have GW695 := gW hg (wS1 HB.out GE682.out); have GE695 := gW hg (wS1 HB.out GE682.out); replace HB := aS (below_step (wS1 HB.out GE682.out) hb); have NB682_695 := nB hg BK682; have NB695_682 := nS NB682_695; replace BK682 := bB BK682 hb; clear hb hbox hg; have hnb43 := NB695_682.out; have hnc43 := NB682_695.out; have hcz44 := cells6f BK695.out) | (go_at_call 52; (with_reducible refine (impl_RecordText.calls k4 ((rd_T25 t691 x50_4).f0) ((rd_T25 t691 x50_4).f1) ((rd_T25 t691 x50_4).f2) ((rd_T25 t691 x50_4).f3) ((rd_T25 t691 x50_4).f4) ((rd_T25 t691 x50_4).f5) t696 _ A39.out).mono ?_); rintro e w45 ⟨rfl, hb⟩; replace HO_48 := aS (Kd.R_below (by exact rO (Kd.R_mono (Kd.R_far (p := ⟨gb695, 5, none⟩) (Kd.R_far (p := ⟨gb695, 4, none⟩) (Kd.R_far (p := ⟨gb695, 3, none⟩) (Kd.R_far (p := ⟨gb695, 2, none⟩) (Kd.R_far (p := ⟨gb695, 1, none⟩) (Kd.R_far (p := ⟨gb695, 0, none⟩) (Kd.R_mono HO_48.out (fun k_ hk => (⟨hk, hk.2⟩ : _ ∧ k_ ≠ gb695))) (fun _ hk => hk.2) (.string ((rd_T25 t691 x50_4).f0))) (fun _ hk => hk.2) (.int .i64 ((rd_T25 t691 x50_4).f1))) (fun _ hk => hk.2) (.int .i64 ((rd_T25 t691 x50_4).f2))) (fun _ hk => hk.2) (.int .i64 ((rd_T25 t691 x50_4).f3))) (fun _ hk => hk.2) (.string ((rd_T25 t691 x50_4).f4))) (fun _ hk => hk.2) (.string ((rd_T25 t691 x50_4).f5))) (fun _ h_ => h_.1))) hb); replace HO_683009 := aS (Kd.V_below (by exact (vF1 HO_683009.out (fun k_ hk => (hk.2 : k_ ≠ gb695)))) hb); replace HO_683010 := aS (Kd.V_below (by exact (vF1 HO_683010.out (fun k_ hk => (hk.2 : k_ ≠ gb695)))) hb); replace HO_683011 := aS (Kd.V_below (by exact (vF1 HO_683011.out (fun k_ hk => (hk.2 : k_ ≠ gb695)))) hb); replace BK682 := aS (blk_below (g := gb682) (o := .cells #[.int .i64 a0_0, .bool a0_1, .bool a0_2, .bool a0_3, .bool a0_4, .bool a0_5, .int .i64 a0_6, .string a0_7, .int .i64 a0_8, .slice A0_9 l0_9.length c0_9, .slice A0_10 l0_10.length c0_10, .slice A0_11 l0_11.length c0_11] 52 (0, 0)) (by exact bF1 BK682.out NB682_695.out) hb); replace BK695 := aS (blk_below (g := gb695) (o := .cells #[.string ((rd_T25 t691 x50_4).f0), .int .i64 ((rd_T25 t691 x50_4).f1), .int .i64 ((rd_T25 t691 x50_4).f2), .int .i64 ((rd_T25 t691 x50_4).f3), .string ((rd_T25 t691 x50_4).f4), .string ((rd_T25 t691 x50_4).f5)] 25 (0, 0)) (by exact bO (p6 (bU BK695.out))) hb); replace HB := aS (below_step (wS2 HB.out GE682.out GE695.out) hb); clear hb)); try go_wp2_with (first | ((with_reducible refine gate_dst (N := 5) rfl ?_); refine xB 5 #[.string (⟨#[]⟩ : ByteArray), .int .i64 0, .int .i64 0, .int .i64 0, .string (⟨#[]⟩ : ByteArray), .string (⟨#[]⟩ : ByteArray)] 25 ?_; intro gb695 hg w42 hbox hb; replace HO_48 := aS (Kd.R_below (Kd.R_elderB (rU HO_48.out) gb695 (Nat.le_of_eq hg.symm)) hb); replace HO_683009 := aS (Kd.V_below (Kd.V_elderB (by exact vO HO_683009.out) gb695 (Nat.le_of_eq hg.symm)) hb); replace HO_683010 := aS (Kd.V_below (Kd.V_elderB (by exact vO HO_683010.out) gb695 (Nat.le_of_eq hg.symm)) hb); replace HO_683011 := aS (Kd.V_below (Kd.V_elderB (by exact vO HO_683011.out) gb695 (Nat.le_of_eq hg.symm)) hb); have BK695 := aS (hbox); have GW695 := gW hg (wS1 HB.out GE682.out); have GE695 := gW hg (wS1 HB.out GE682.out); replace HB := aS (below_step (wS1 HB.out GE682.out) hb); have NB682_695 := nB hg BK682; have NB695_682 := nS NB682_695; replace BK682 := bB BK682 hb; clear hb hbox hg; have hnb43 := NB695_682.out; have hnc43 := NB682_695.out; have hcz44 := cells6f BK695.out) | (go_at_call 52; (with_reducible refine (impl_RecordText.calls k4 ((rd_T25 t691 x50_4).f0) ((rd_T25 t691 x50_4).f1) ((rd_T25 t691 x50_4).f2) ((rd_T25 t691 x50_4).f3) ((rd_T25 t691 x50_4).f4) ((rd_T25 t691 x50_4).f5) t696 _ A39.out).mono ?_); rintro e w45 ⟨rfl, hb⟩; replace HO_48 := aS (Kd.R_below (by exact rO (Kd.R_mono (Kd.R_far (p := ⟨gb695, 5, none⟩) (Kd.R_far (p := ⟨gb695, 4, none⟩) (Kd.R_far (p := ⟨gb695, 3, none⟩) (Kd.R_far (p := ⟨gb695, 2, none⟩) (Kd.R_far (p := ⟨gb695, 1, none⟩) (Kd.R_far (p := ⟨gb695, 0, none⟩) (Kd.R_mono HO_48.out (fun k_ hk => (⟨hk, hk.2⟩ : _ ∧ k_ ≠ gb695))) (fun _ hk => hk.2) (.string ((rd_T25 t691 x50_4).f0))) (fun _ hk => hk.2) (.int .i64 ((rd_T25 t691 x50_4).f1))) (fun _ hk => hk.2) (.int .i64 ((rd_T25 t691 x50_4).f2))) (fun _ hk => hk.2) (.int .i64 ((rd_T25 t691 x50_4).f3))) (fun _ hk => hk.2) (.string ((rd_T25 t691 x50_4).f4))) (fun _ hk => hk.2) (.string ((rd_T25 t691 x50_4).f5))) (fun _ h_ => h_.1))) hb); replace HO_683009 := aS (Kd.V_below (by exact (vF1 HO_683009.out (fun k_ hk => (hk.2 : k_ ≠ gb695)))) hb); replace HO_683010 := aS (Kd.V_below (by exact (vF1 HO_683010.out (fun k_ hk => (hk.2 : k_ ≠ gb695)))) hb); replace HO_683011 := aS (Kd.V_below (by exact (vF1 HO_683011.out (fun k_ hk => (hk.2 : k_ ≠ gb695)))) hb); replace BK682 := aS (blk_below (g := gb682) (o := .cells #[.int .i64 a0_0, .bool a0_1, .bool a0_2, .bool a0_3, .bool a0_4, .bool a0_5, .int .i64 a0_6, .string a0_7, .int .i64 a0_8, .slice A0_9 l0_9.length c0_9, .slice A0_10 l0_10.length c0_10, .slice A0_11 l0_11.length c0_11] 52 (0, 0)) (by exact bF1 BK682.out NB682_695.out) hb); replace BK695 := aS (blk_below (g := gb695) (o := .cells #[.string ((rd_T25 t691 x50_4).f0), .int .i64 ((rd_T25 t691 x50_4).f1), .int .i64 ((rd_T25 t691 x50_4).f2), .int .i64 ((rd_T25 t691 x50_4).f3), .string ((rd_T25 t691 x50_4).f4), .string ((rd_T25 t691 x50_4).f5)] 25 (0, 0)) (by exact bO (p6 (bU BK695.out))) hb); replace HB := aS (below_step (wS2 HB.out GE682.out GE695.out) hb); clear hb)))
                      go_roundg k4
                      case measure => have := HJ3.out; have := HJ20.out; have := HJ24.out; have := HK4.out; omega
                      case rel => exact ⟨(x3_4 ++ ((⟨#[59, 32]⟩ : ByteArray) ++ t696)), (wrap64 (x50_4 + 1)), jB, jB, H', ⟨by have := HJ3.out; have := HJ20.out; have := HJ24.out; have := HK4.out; omega⟩, ⟨by exact rO (Kd.R_mono HO_48.out (fun _ hk => hk.1))⟩, ⟨by exact vO (Kd.V_mono HO_683009.out (fun _ hk => ⟨hk.1.1, ⟨hk.1.2.1, hk.1.2.2⟩⟩))⟩, ⟨by exact vO (Kd.V_mono HO_683010.out (fun _ hk => ⟨hk.1.1, ⟨hk.1.2.1, hk.1.2.2⟩⟩))⟩, ⟨by exact vO (Kd.V_mono HO_683011.out (fun _ hk => ⟨hk.1.1, ⟨hk.1.2.1, hk.1.2.2⟩⟩))⟩, ⟨by exact bU BK682.out⟩, ⟨by exact wS2 HB.out GE682.out GE695.out⟩⟩
                     ·rw [if_neg c41] at H
                      exact absurd H (by simp)
                    ·rw [if_neg c40] at H
                     exact absurd H (by simp)
                   ·rw [if_neg c38] at H
                    exact absurd H (by simp)
                  ·rw [if_neg c37] at H
                   exact absurd H (by simp)
                 ·rw [if_neg c36] at H
                  have c36b0 := decide_eq_false c36
                  clear c36
                  obtain rfl := Option.some.inj H
                  go_wp2
                  repeat (go_quiet (fail); try go_wp2)
                  go_ret
                  exact ⟨jE, by exact wS1 HB.out GE682.out⟩
          ·rw [if_neg c20] at H
           exact absurd H (by simp)
         ·rw [if_neg c19] at H
          exact absurd H (by simp)
        ·rw [if_neg c17] at H
         exact absurd H (by simp)
       ·rw [if_neg c16] at H
        exact absurd H (by simp)
      ·rw [if_neg c14] at H
       exact absurd H (by simp)
     ·rw [if_neg c13] at H
      exact absurd H (by simp)
    ·rw [if_neg c11] at H
     exact absurd H (by simp)
 ·replace c3 := Bool.eq_false_iff.mpr c3
  subst c3
  rw [if_neg Bool.false_ne_true] at H
  obtain rfl := Option.some.inj H
  go_enter Tryd.func40, Tryd.ntmps40
  go_wp2_with (first | ((with_reducible refine gate_dst (N := 1) rfl ?_); refine xB 1 #[.int .i64 a0_0, .bool a0_1, .bool a0_2, .bool a0_3, .bool a0_4, .bool a0_5, .int .i64 a0_6, .string a0_7, .int .i64 a0_8, .slice A0_9 l0_9.length c0_9, .slice A0_10 l0_10.length c0_10, .slice A0_11 l0_11.length c0_11] 52 ?_; intro gb682 hg w46 hbox hb; replace HO0_9 := aS (Kd.V_below (Kd.V_elderB (by exact vO HO0_9.out) gb682 (Nat.le_of_eq hg.symm)) hb); replace HO0_10 := aS (Kd.V_below (Kd.V_elderB (by exact vO HO0_10.out) gb682 (Nat.le_of_eq hg.symm)) hb); replace HO0_11 := aS (Kd.V_below (Kd.V_elderB (by exact vO HO0_11.out) gb682 (Nat.le_of_eq hg.symm)) hb); have BK682 := aS (hbox); have GW682 := gW hg (wU HB.out); have GE682 := gW hg (wU HB.out); replace HB := aS (below_step (wU HB.out) hb); clear hb hbox hg; have hcz47 := cells12f BK682.out) | (go_at_call 38; (with_reducible refine (impl_MsgOk.calls k a0_0 a0_1 a0_2 a0_3 a0_4 a0_5 a0_6 a0_7 a0_8 _ _ l0_9 _ _ l0_10 _ _ l0_11 false _ ?side1 ?side2 ?side3 ?side4 ?side5 ?side6 A2.out).mono ?_); (case side1 => exact cU ((Kd.V_reads' HO0_9.out).2.2)); (case side2 => exact (Kd.V_reads' HO0_9.out).2.1); (case side3 => exact cU ((Kd.V_reads' HO0_10.out).2.2)); (case side4 => exact (Kd.V_reads' HO0_10.out).2.1); (case side5 => exact cU ((Kd.V_reads' HO0_11.out).2.2)); (case side6 => exact (Kd.V_reads' HO0_11.out).2.1); rintro e w48 ⟨rfl, hb⟩; replace HO0_9 := aS (Kd.V_below (by exact vO HO0_9.out) hb); replace HO0_10 := aS (Kd.V_below (by exact vO HO0_10.out) hb); replace HO0_11 := aS (Kd.V_below (by exact vO HO0_11.out) hb); replace BK682 := bB BK682 hb; replace HB := aS (below_step (wS1 HB.out GE682.out) hb); clear hb))
  repeat (go_quiet (first | ((with_reducible refine gate_dst (N := 1) rfl ?_); refine xB 1 #[.int .i64 a0_0, .bool a0_1, .bool a0_2, .bool a0_3, .bool a0_4, .bool a0_5, .int .i64 a0_6, .string a0_7, .int .i64 a0_8, .slice A0_9 l0_9.length c0_9, .slice A0_10 l0_10.length c0_10, .slice A0_11 l0_11.length c0_11] 52 ?_; intro gb682 hg w46 hbox hb; replace HO0_9 := aS (Kd.V_below (Kd.V_elderB (by exact vO HO0_9.out) gb682 (Nat.le_of_eq hg.symm)) hb); replace HO0_10 := aS (Kd.V_below (Kd.V_elderB (by exact vO HO0_10.out) gb682 (Nat.le_of_eq hg.symm)) hb); replace HO0_11 := aS (Kd.V_below (Kd.V_elderB (by exact vO HO0_11.out) gb682 (Nat.le_of_eq hg.symm)) hb); have BK682 := aS (hbox); have GW682 := gW hg (wU HB.out); have GE682 := gW hg (wU HB.out); replace HB := aS (below_step (wU HB.out) hb); clear hb hbox hg; have hcz47 := cells12f BK682.out) | (go_at_call 38; (with_reducible refine (impl_MsgOk.calls k a0_0 a0_1 a0_2 a0_3 a0_4 a0_5 a0_6 a0_7 a0_8 _ _ l0_9 _ _ l0_10 _ _ l0_11 false _ ?side1 ?side2 ?side3 ?side4 ?side5 ?side6 A2.out).mono ?_); (case side1 => exact cU ((Kd.V_reads' HO0_9.out).2.2)); (case side2 => exact (Kd.V_reads' HO0_9.out).2.1); (case side3 => exact cU ((Kd.V_reads' HO0_10.out).2.2)); (case side4 => exact (Kd.V_reads' HO0_10.out).2.1); (case side5 => exact cU ((Kd.V_reads' HO0_11.out).2.2)); (case side6 => exact (Kd.V_reads' HO0_11.out).2.1); rintro e w48 ⟨rfl, hb⟩; replace HO0_9 := aS (Kd.V_below (by exact vO HO0_9.out) hb); replace HO0_10 := aS (Kd.V_below (by exact vO HO0_10.out) hb); replace HO0_11 := aS (Kd.V_below (by exact vO HO0_11.out) hb); replace BK682 := bB BK682 hb; replace HB := aS (below_step (wS1 HB.out GE682.out) hb); clear hb)); try go_wp2_with (first | ((with_reducible refine gate_dst (N := 1) rfl ?_); refine xB 1 #[.int .i64 a0_0, .bool a0_1, .bool a0_2, .bool a0_3, .bool a0_4, .bool a0_5, .int .i64 a0_6, .string a0_7, .int .i64 a0_8, .slice A0_9 l0_9.length c0_9, .slice A0_10 l0_10.length c0_10, .slice A0_11 l0_11.length c0_11] 52 ?_; intro gb682 hg w46 hbox hb; replace HO0_9 := aS (Kd.V_below (Kd.V_elderB (by exact vO HO0_9.out) gb682 (Nat.le_of_eq hg.symm)) hb); replace HO0_10 := aS (Kd.V_below (Kd.V_elderB (by exact vO HO0_10.out) gb682 (Nat.le_of_eq hg.symm)) hb); replace HO0_11 := aS (Kd.V_below (Kd.V_elderB (by exact vO HO0_11.out) gb682 (Nat.le_of_eq hg.symm)) hb); have BK682 := aS (hbox); have GW682 := gW hg (wU HB.out); have GE682 := gW hg (wU HB.out); replace HB := aS (below_step (wU HB.out) hb); clear hb hbox hg; have hcz47 := cells12f BK682.out) | (go_at_call 38; (with_reducible refine (impl_MsgOk.calls k a0_0 a0_1 a0_2 a0_3 a0_4 a0_5 a0_6 a0_7 a0_8 _ _ l0_9 _ _ l0_10 _ _ l0_11 false _ ?side1 ?side2 ?side3 ?side4 ?side5 ?side6 A2.out).mono ?_); (case side1 => exact cU ((Kd.V_reads' HO0_9.out).2.2)); (case side2 => exact (Kd.V_reads' HO0_9.out).2.1); (case side3 => exact cU ((Kd.V_reads' HO0_10.out).2.2)); (case side4 => exact (Kd.V_reads' HO0_10.out).2.1); (case side5 => exact cU ((Kd.V_reads' HO0_11.out).2.2)); (case side6 => exact (Kd.V_reads' HO0_11.out).2.1); rintro e w48 ⟨rfl, hb⟩; replace HO0_9 := aS (Kd.V_below (by exact vO HO0_9.out) hb); replace HO0_10 := aS (Kd.V_below (by exact vO HO0_10.out) hb); replace HO0_11 := aS (Kd.V_below (by exact vO HO0_11.out) hb); replace BK682 := bB BK682 hb; replace HB := aS (below_step (wS1 HB.out GE682.out) hb); clear hb)))
  go_ret
  exact ⟨jE, by exact wS1 HB.out GE682.out⟩

end Go.Proofs.YtdigilidomimdaaDoor.Pr
