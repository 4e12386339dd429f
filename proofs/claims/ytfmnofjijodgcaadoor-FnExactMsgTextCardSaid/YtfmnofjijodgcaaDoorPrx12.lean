-- Written for this claim by a program of this session (wip/tool/pr.py, over the kit's printer).
-- half
import Derived.Test.YtfmnofjijodgcaaDoorPrx0
import Derived.Test.YtfmnofjijodgcaaDoorPrx9
import Derived.Test.YtfmnofjijodgcaaDoorPrx10
import Derived.Test.YtfmnofjijodgcaaDoorPrx11
namespace Go.Proofs.YtfmnofjijodgcaaDoor.Pr
open Go.RowKit Go.Proofs.YtfmnofjijodgcaaDoorW.PrintWords Go.Proofs.YtfmnofjijodgcaaDoorW.PrintLast Go.Proofs.YtfmnofjijodgcaaDoorW.PrintMore
attribute [local go_sem] max2_int min2_int max_two min_two max_three min_three max_four min_four   -- for this text's walks alone
set_option linter.unusedVariables false
set_option linter.unusedSimpArgs false

/-! ### impl_MsgText: function 47 -/
mutual
def impl_MsgText.j0 : Nat → ByteArray → Int → Bool → Bool → Bool → Bool → Bool → Int → ByteArray → Int → List (S33) → List (S33) → List (S33) → Option (ByteArray)
 | 0, _, _, _, _, _, _, _, _, _, _, _, _, _ => none
 | k + 1, x3, x301000, x301001, x301002, x301003, x301004, x301005, x301006, x301007, x301008, x301009, x301010, x301011 => (impl_NumText.f k x301000).bind fun t302 => (if t302.size + 1 ≤ 9223372036854775807 then ((impl_NumText.f k x301006).bind fun t303 => (if (t302 ++ (⟨#[32]⟩ : ByteArray)).size + t303.size ≤ 9223372036854775807 then (if ((t302 ++ (⟨#[32]⟩ : ByteArray)) ++ t303).size + 1 ≤ 9223372036854775807 then ((impl_nameText.f x301007).bind fun t304 => (if (((t302 ++ (⟨#[32]⟩ : ByteArray)) ++ t303) ++ (⟨#[32]⟩ : ByteArray)).size + t304.size ≤ 9223372036854775807 then (if ((((t302 ++ (⟨#[32]⟩ : ByteArray)) ++ t303) ++ (⟨#[32]⟩ : ByteArray)) ++ t304).size + 1 ≤ 9223372036854775807 then ((impl_TypeText.f x301008).bind fun t305 => (if (((((t302 ++ (⟨#[32]⟩ : ByteArray)) ++ t303) ++ (⟨#[32]⟩ : ByteArray)) ++ t304) ++ (⟨#[32]⟩ : ByteArray)).size + t305.size ≤ 9223372036854775807 then (if x3.size + ((((((t302 ++ (⟨#[32]⟩ : ByteArray)) ++ t303) ++ (⟨#[32]⟩ : ByteArray)) ++ t304) ++ (⟨#[32]⟩ : ByteArray)) ++ t305).size ≤ 9223372036854775807 then (if x301002 = true then (if (x3 ++ ((((((t302 ++ (⟨#[32]⟩ : ByteArray)) ++ t303) ++ (⟨#[32]⟩ : ByteArray)) ++ t304) ++ (⟨#[32]⟩ : ByteArray)) ++ t305)).size + 5 ≤ 9223372036854775807 then (impl_MsgText.j1 k ((x3 ++ ((((((t302 ++ (⟨#[32]⟩ : ByteArray)) ++ t303) ++ (⟨#[32]⟩ : ByteArray)) ++ t304) ++ (⟨#[32]⟩ : ByteArray)) ++ t305)) ++ (⟨#[32, 97, 117, 116, 104]⟩ : ByteArray)) x301000 x301001 x301002 x301003 x301004 x301005 x301006 x301007 x301008 x301009 x301010 x301011) else (none)) else (impl_MsgText.j1 k (x3 ++ ((((((t302 ++ (⟨#[32]⟩ : ByteArray)) ++ t303) ++ (⟨#[32]⟩ : ByteArray)) ++ t304) ++ (⟨#[32]⟩ : ByteArray)) ++ t305)) x301000 x301001 x301002 x301003 x301004 x301005 x301006 x301007 x301008 x301009 x301010 x301011)) else (none)) else (none))) else (none)) else (none))) else (none)) else (none))) else (none))
def impl_MsgText.j1 : Nat → ByteArray → Int → Bool → Bool → Bool → Bool → Bool → Int → ByteArray → Int → List (S33) → List (S33) → List (S33) → Option (ByteArray)
 | 0, _, _, _, _, _, _, _, _, _, _, _, _, _ => none
 | k + 1, x3, x301000, x301001, x301002, x301003, x301004, x301005, x301006, x301007, x301008, x301009, x301010, x301011 => if x301003 = true then (if x3.size + 4 ≤ 9223372036854775807 then (impl_MsgText.j2 k (x3 ++ (⟨#[32, 99, 117, 116]⟩ : ByteArray)) x301000 x301001 x301002 x301003 x301004 x301005 x301006 x301007 x301008 x301009 x301010 x301011) else (none)) else (impl_MsgText.j2 k x3 x301000 x301001 x301002 x301003 x301004 x301005 x301006 x301007 x301008 x301009 x301010 x301011)
def impl_MsgText.j2 : Nat → ByteArray → Int → Bool → Bool → Bool → Bool → Bool → Int → ByteArray → Int → List (S33) → List (S33) → List (S33) → Option (ByteArray)
 | 0, _, _, _, _, _, _, _, _, _, _, _, _, _ => none
 | k + 1, x3, x301000, x301001, x301002, x301003, x301004, x301005, x301006, x301007, x301008, x301009, x301010, x301011 => (slices_Concat_impl_Record.f k (([x301009, x301010, x301011] : List (List (S33))))).bind fun t309 => (impl_MsgText.l0 k x3 t309 (t309.length : Int) 0)
def impl_MsgText.l0 : Nat → ByteArray → List (S33) → Int → Int → Option (ByteArray)
 | 0, _, _, _, _ => none
 | k + 1, x3, x48, x49, x50 => if x50 < x49 then (if 0 ≤ x50 then (if x50 < (x48.length : Int) then ((impl_RecordText.f k ((rd_T33 x48 x50).f0) ((rd_T33 x48 x50).f1) ((rd_T33 x48 x50).f2) ((rd_T33 x48 x50).f3) ((rd_T33 x48 x50).f4) ((rd_T33 x48 x50).f5)).bind fun t314 => (if 2 + t314.size ≤ 9223372036854775807 then (if x3.size + ((⟨#[59, 32]⟩ : ByteArray) ++ t314).size ≤ 9223372036854775807 then (impl_MsgText.l0 k (x3 ++ ((⟨#[59, 32]⟩ : ByteArray) ++ t314)) x48 x49 (wrap64 (x50 + 1))) else (none)) else (none))) else (none)) else (none)) else (some x3)
end
def impl_MsgText.f (k : Nat) (a0_0 : Int) (a0_1 : Bool) (a0_2 : Bool) (a0_3 : Bool) (a0_4 : Bool) (a0_5 : Bool) (a0_6 : Int) (a0_7 : ByteArray) (a0_8 : Int) (l0_9 : List (S33)) (l0_10 : List (S33)) (l0_11 : List (S33)) : Option (ByteArray) := (impl_MsgOk.f k a0_0 a0_1 a0_2 a0_3 a0_4 a0_5 a0_6 a0_7 a0_8 l0_9 l0_10 l0_11).bind fun t301 => (if t301 = true then (if a0_1 = true then (impl_MsgText.j0 k (⟨#[114, 101, 112, 108, 121, 32]⟩ : ByteArray) a0_0 a0_1 a0_2 a0_3 a0_4 a0_5 a0_6 a0_7 a0_8 l0_9 l0_10 l0_11) else (impl_MsgText.j0 k (⟨#[97, 115, 107, 32]⟩ : ByteArray) a0_0 a0_1 a0_2 a0_3 a0_4 a0_5 a0_6 a0_7 a0_8 l0_9 l0_10 l0_11)) else (some (⟨#[]⟩ : ByteArray)))
theorem impl_MsgText.mono_l : ∀ k, (∀ y0 y1 y2 y3 y4 y5 y6 y7 y8 y9 y10 y11 y12, LeO (impl_MsgText.j0 k y0 y1 y2 y3 y4 y5 y6 y7 y8 y9 y10 y11 y12) (impl_MsgText.j0 (k + 1) y0 y1 y2 y3 y4 y5 y6 y7 y8 y9 y10 y11 y12)) ∧ (∀ y0 y1 y2 y3 y4 y5 y6 y7 y8 y9 y10 y11 y12, LeO (impl_MsgText.j1 k y0 y1 y2 y3 y4 y5 y6 y7 y8 y9 y10 y11 y12) (impl_MsgText.j1 (k + 1) y0 y1 y2 y3 y4 y5 y6 y7 y8 y9 y10 y11 y12)) ∧ (∀ y0 y1 y2 y3 y4 y5 y6 y7 y8 y9 y10 y11 y12, LeO (impl_MsgText.j2 k y0 y1 y2 y3 y4 y5 y6 y7 y8 y9 y10 y11 y12) (impl_MsgText.j2 (k + 1) y0 y1 y2 y3 y4 y5 y6 y7 y8 y9 y10 y11 y12)) ∧ (∀ y0 y1 y2 y3, LeO (impl_MsgText.l0 k y0 y1 y2 y3) (impl_MsgText.l0 (k + 1) y0 y1 y2 y3))
 | 0 => ⟨fun _ _ _ _ _ _ _ _ _ _ _ _ _ r h => by simp [impl_MsgText.j0] at h, fun _ _ _ _ _ _ _ _ _ _ _ _ _ r h => by simp [impl_MsgText.j1] at h, fun _ _ _ _ _ _ _ _ _ _ _ _ _ r h => by simp [impl_MsgText.j2] at h, fun _ _ _ _ r h => by simp [impl_MsgText.l0] at h⟩
 | k + 1 => by
  obtain ⟨ih0, ih1, ih2, ih3⟩ := impl_MsgText.mono_l k
  refine ⟨?_, ?_, ?_, ?_⟩
  ·intro y0 y1 y2 y3 y4 y5 y6 y7 y8 y9 y10 y11 y12
   unfold impl_MsgText.j0
   repeat' first
   | (with_reducible first | exact ih0 _ _ _ _ _ _ _ _ _ _ _ _ _ | exact ih1 _ _ _ _ _ _ _ _ _ _ _ _ _ | exact ih2 _ _ _ _ _ _ _ _ _ _ _ _ _ | exact ih3 _ _ _ _ | exact impl_MsgOk.mono _ _ _ _ _ _ _ _ _ _ _ _ _ | exact impl_NumText.mono _ _ | exact impl_RecordText.mono _ _ _ _ _ _ _ | exact slices_Concat_impl_Record.mono _ _ | exact LeO.refl _ | exact LeO.none _ | refine LeO.ite ?_ ?_ | refine LeO.bind ?_ (fun _ => ?_))
   | exact ih0 _ _ _ _ _ _ _ _ _ _ _ _ _
   | exact ih1 _ _ _ _ _ _ _ _ _ _ _ _ _
   | exact ih2 _ _ _ _ _ _ _ _ _ _ _ _ _
   | exact ih3 _ _ _ _
   | exact impl_MsgOk.mono _ _ _ _ _ _ _ _ _ _ _ _ _
   | exact impl_NumText.mono _ _
   | exact impl_RecordText.mono _ _ _ _ _ _ _
   | exact slices_Concat_impl_Record.mono _ _
   | exact LeO.none _
   | refine LeO.ite ?_ ?_
   | refine LeO.bind ?_ (fun _ => ?_)
  ·intro y0 y1 y2 y3 y4 y5 y6 y7 y8 y9 y10 y11 y12
   unfold impl_MsgText.j1
   repeat' first
   | (with_reducible first | exact ih0 _ _ _ _ _ _ _ _ _ _ _ _ _ | exact ih1 _ _ _ _ _ _ _ _ _ _ _ _ _ | exact ih2 _ _ _ _ _ _ _ _ _ _ _ _ _ | exact ih3 _ _ _ _ | exact impl_MsgOk.mono _ _ _ _ _ _ _ _ _ _ _ _ _ | exact impl_NumText.mono _ _ | exact impl_RecordText.mono _ _ _ _ _ _ _ | exact slices_Concat_impl_Record.mono _ _ | exact LeO.refl _ | exact LeO.none _ | refine LeO.ite ?_ ?_ | refine LeO.bind ?_ (fun _ => ?_))
   | exact ih0 _ _ _ _ _ _ _ _ _ _ _ _ _
   | exact ih1 _ _ _ _ _ _ _ _ _ _ _ _ _
   | exact ih2 _ _ _ _ _ _ _ _ _ _ _ _ _
   | exact ih3 _ _ _ _
   | exact impl_MsgOk.mono _ _ _ _ _ _ _ _ _ _ _ _ _
   | exact impl_NumText.mono _ _
   | exact impl_RecordText.mono _ _ _ _ _ _ _
   | exact slices_Concat_impl_Record.mono _ _
   | exact LeO.none _
   | refine LeO.ite ?_ ?_
   | refine LeO.bind ?_ (fun _ => ?_)
  ·intro y0 y1 y2 y3 y4 y5 y6 y7 y8 y9 y10 y11 y12
   unfold impl_MsgText.j2
   repeat' first
   | (with_reducible first | exact ih0 _ _ _ _ _ _ _ _ _ _ _ _ _ | exact ih1 _ _ _ _ _ _ _ _ _ _ _ _ _ | exact ih2 _ _ _ _ _ _ _ _ _ _ _ _ _ | exact ih3 _ _ _ _ | exact impl_MsgOk.mono _ _ _ _ _ _ _ _ _ _ _ _ _ | exact impl_NumText.mono _ _ | exact impl_RecordText.mono _ _ _ _ _ _ _ | exact slices_Concat_impl_Record.mono _ _ | exact LeO.refl _ | exact LeO.none _ | refine LeO.ite ?_ ?_ | refine LeO.bind ?_ (fun _ => ?_))
   | exact ih0 _ _ _ _ _ _ _ _ _ _ _ _ _
   | exact ih1 _ _ _ _ _ _ _ _ _ _ _ _ _
   | exact ih2 _ _ _ _ _ _ _ _ _ _ _ _ _
   | exact ih3 _ _ _ _
   | exact impl_MsgOk.mono _ _ _ _ _ _ _ _ _ _ _ _ _
   | exact impl_NumText.mono _ _
   | exact impl_RecordText.mono _ _ _ _ _ _ _
   | exact slices_Concat_impl_Record.mono _ _
   | exact LeO.none _
   | refine LeO.ite ?_ ?_
   | refine LeO.bind ?_ (fun _ => ?_)
  ·intro y0 y1 y2 y3
   unfold impl_MsgText.l0
   repeat' first
   | (with_reducible first | exact ih0 _ _ _ _ _ _ _ _ _ _ _ _ _ | exact ih1 _ _ _ _ _ _ _ _ _ _ _ _ _ | exact ih2 _ _ _ _ _ _ _ _ _ _ _ _ _ | exact ih3 _ _ _ _ | exact impl_MsgOk.mono _ _ _ _ _ _ _ _ _ _ _ _ _ | exact impl_NumText.mono _ _ | exact impl_RecordText.mono _ _ _ _ _ _ _ | exact slices_Concat_impl_Record.mono _ _ | exact LeO.refl _ | exact LeO.none _ | refine LeO.ite ?_ ?_ | refine LeO.bind ?_ (fun _ => ?_))
   | exact ih0 _ _ _ _ _ _ _ _ _ _ _ _ _
   | exact ih1 _ _ _ _ _ _ _ _ _ _ _ _ _
   | exact ih2 _ _ _ _ _ _ _ _ _ _ _ _ _
   | exact ih3 _ _ _ _
   | exact impl_MsgOk.mono _ _ _ _ _ _ _ _ _ _ _ _ _
   | exact impl_NumText.mono _ _
   | exact impl_RecordText.mono _ _ _ _ _ _ _
   | exact slices_Concat_impl_Record.mono _ _
   | exact LeO.none _
   | refine LeO.ite ?_ ?_
   | refine LeO.bind ?_ (fun _ => ?_)
theorem impl_MsgText.mono : ∀ a0 a1 a2 a3 a4 a5 a6 a7 a8 a9 a10 a11 k, LeO (impl_MsgText.f k a0 a1 a2 a3 a4 a5 a6 a7 a8 a9 a10 a11) (impl_MsgText.f (k + 1) a0 a1 a2 a3 a4 a5 a6 a7 a8 a9 a10 a11) := by
 intro a0 a1 a2 a3 a4 a5 a6 a7 a8 a9 a10 a11 k
 obtain ⟨ih0, ih1, ih2, ih3⟩ := impl_MsgText.mono_l k
 unfold impl_MsgText.f
 repeat' first
   | (with_reducible first | exact ih0 _ _ _ _ _ _ _ _ _ _ _ _ _ | exact ih1 _ _ _ _ _ _ _ _ _ _ _ _ _ | exact ih2 _ _ _ _ _ _ _ _ _ _ _ _ _ | exact ih3 _ _ _ _ | exact impl_MsgOk.mono _ _ _ _ _ _ _ _ _ _ _ _ _ | exact impl_NumText.mono _ _ | exact impl_RecordText.mono _ _ _ _ _ _ _ | exact slices_Concat_impl_Record.mono _ _ | exact LeO.refl _ | exact LeO.none _ | refine LeO.ite ?_ ?_ | refine LeO.bind ?_ (fun _ => ?_))
   | exact ih0 _ _ _ _ _ _ _ _ _ _ _ _ _
   | exact ih1 _ _ _ _ _ _ _ _ _ _ _ _ _
   | exact ih2 _ _ _ _ _ _ _ _ _ _ _ _ _
   | exact ih3 _ _ _ _
   | exact impl_MsgOk.mono _ _ _ _ _ _ _ _ _ _ _ _ _
   | exact impl_NumText.mono _ _
   | exact impl_RecordText.mono _ _ _ _ _ _ _
   | exact slices_Concat_impl_Record.mono _ _
   | exact LeO.none _
   | refine LeO.ite ?_ ?_
   | refine LeO.bind ?_ (fun _ => ?_)
set_option maxHeartbeats 8000000 in
set_option maxRecDepth 100000 in
theorem impl_MsgText.calls (k : Nat) (a0_0 : Int) (a0_1 : Bool) (a0_2 : Bool) (a0_3 : Bool) (a0_4 : Bool) (a0_5 : Bool) (a0_6 : Int) (a0_7 : ByteArray) (a0_8 : Int) (P0_9_ : Nat → Prop) (A0_9 : Option Addr) (c0_9 : Nat) (l0_9 : List (S33)) (P0_10_ : Nat → Prop) (A0_10 : Option Addr) (c0_10 : Nat) (l0_10 : List (S33)) (P0_11_ : Nat → Prop) (A0_11 : Option Addr) (c0_11 : Nat) (l0_11 : List (S33)) (r : ByteArray) (w : World) (hs0_9 : Kd.V k33 33 w w.heap.size (fun k_ => P0_9_ k_) (.slice A0_9 l0_9.length c0_9) l0_9) (hs0_10 : Kd.V k33 33 w w.heap.size (fun k_ => P0_10_ k_) (.slice A0_10 l0_10.length c0_10) l0_10) (hs0_11 : Kd.V k33 33 w w.heap.size (fun k_ => P0_11_ k_) (.slice A0_11 l0_11.length c0_11) l0_11) (h : impl_MsgText.f k a0_0 a0_1 a0_2 a0_3 a0_4 a0_5 a0_6 a0_7 a0_8 l0_9 l0_10 l0_11 = some r) :
  Calls Tryd.prog 47 #[.agg #[.int .i64 a0_0, .bool a0_1, .bool a0_2, .bool a0_3, .bool a0_4, .bool a0_5, .int .i64 a0_6, .string a0_7, .int .i64 a0_8, .slice A0_9 l0_9.length c0_9, .slice A0_10 l0_10.length c0_10, .slice A0_11 l0_11.length c0_11]] w fun e w' => e = .returned (.string r) ∧ Below w.heap.size w w' := by
 have hu48 := Tryd.underlying48
 have hu33 := Tryd.underlying33
 have HO0_9 := aS (show Kd.V k33 33 w w.heap.size (fun k_ => ((P0_9_ k_ ∨ P0_10_ k_ ∨ P0_11_ k_) ∨ w.heap.size ≤ k_)) (.slice A0_9 l0_9.length c0_9) l0_9 from Kd.V_mono hs0_9 (fun k_ hk => .inl (.inl hk)))
 have HO0_10 := aS (show Kd.V k33 33 w w.heap.size (fun k_ => ((P0_9_ k_ ∨ P0_10_ k_ ∨ P0_11_ k_) ∨ w.heap.size ≤ k_)) (.slice A0_10 l0_10.length c0_10) l0_10 from Kd.V_mono hs0_10 (fun k_ hk => .inl (.inr (.inl hk))))
 have HO0_11 := aS (show Kd.V k33 33 w w.heap.size (fun k_ => ((P0_9_ k_ ∨ P0_10_ k_ ∨ P0_11_ k_) ∨ w.heap.size ≤ k_)) (.slice A0_11 l0_11.length c0_11) l0_11 from Kd.V_mono hs0_11 (fun k_ hk => .inl (.inr (.inr hk))))
 have HB := aS (Below.refl w.heap.size w)
 have H : ((impl_MsgOk.f k a0_0 a0_1 a0_2 a0_3 a0_4 a0_5 a0_6 a0_7 a0_8 l0_9 l0_10 l0_11).bind fun t301 => (if t301 = true then (if a0_1 = true then (impl_MsgText.j0 k (⟨#[114, 101, 112, 108, 121, 32]⟩ : ByteArray) a0_0 a0_1 a0_2 a0_3 a0_4 a0_5 a0_6 a0_7 a0_8 l0_9 l0_10 l0_11) else (impl_MsgText.j0 k (⟨#[97, 115, 107, 32]⟩ : ByteArray) a0_0 a0_1 a0_2 a0_3 a0_4 a0_5 a0_6 a0_7 a0_8 l0_9 l0_10 l0_11)) else (some (⟨#[]⟩ : ByteArray)))) = some r := h
 clear h
 replace H := Option.bind_eq_some_iff.mp H
 obtain ⟨t301, A2, H⟩ := H
 try dsimp only at H
 replace A2 := aS A2
 by_cases c3 : t301 = true
 ·subst c3
  have H1 : (if a0_1 = true then (impl_MsgText.j0 k (⟨#[114, 101, 112, 108, 121, 32]⟩ : ByteArray) a0_0 a0_1 a0_2 a0_3 a0_4 a0_5 a0_6 a0_7 a0_8 l0_9 l0_10 l0_11) else (impl_MsgText.j0 k (⟨#[97, 115, 107, 32]⟩ : ByteArray) a0_0 a0_1 a0_2 a0_3 a0_4 a0_5 a0_6 a0_7 a0_8 l0_9 l0_10 l0_11)) = some r := by rw [if_pos rfl] at H; exact H
  clear H
  have H := H1
  clear H1
  have HC4 := aS H
  clear H
  go_enter Tryd.func47, Tryd.ntmps47
  go_upto_if 10 with (first | ((with_reducible refine gate_dst (N := 1) rfl ?_); refine box_event ?hg (N := 1) ?hd (cs := #[.int .i64 a0_0, .bool a0_1, .bool a0_2, .bool a0_3, .bool a0_4, .bool a0_5, .int .i64 a0_6, .string a0_7, .int .i64 a0_8, .slice A0_9 l0_9.length c0_9, .slice A0_10 l0_10.length c0_10, .slice A0_11 l0_11.length c0_11]) (t := 48) ?hr ?_; (case hd => rfl); (case hg => rfl); (case hr => first | (go_simp; done) | (go_simp; rfl)); intro gb300 hg w5 hbox hb; have n0_ := aS (Kd.V_below (Kd.V_elderB (by (with_reducible repeat (first | apply Kd.V_alloc | apply Kd.V_drewN | apply Kd.V_drew)); exact HO0_9.out) gb300 (Nat.le_of_eq hg.symm)) hb); have n1_ := aS (Kd.V_below (Kd.V_elderB (by (with_reducible repeat (first | apply Kd.V_alloc | apply Kd.V_drewN | apply Kd.V_drew)); exact HO0_10.out) gb300 (Nat.le_of_eq hg.symm)) hb); have n2_ := aS (Kd.V_below (Kd.V_elderB (by (with_reducible repeat (first | apply Kd.V_alloc | apply Kd.V_drewN | apply Kd.V_drew)); exact HO0_11.out) gb300 (Nat.le_of_eq hg.symm)) hb); have n3_ := aS (below_step (wU HB.out) hb); have n4_ := aS (hbox); have n5_ := aS ((by rw [hg]; exact (below_size (wU HB.out)) : w.heap.size ≤ gb300)); have n6_ := aS ((by rw [hg]; exact (below_size (wU HB.out)) : w.heap.size ≤ gb300)); clear HO0_9 HO0_10 HO0_11 HB; revert n0_ n1_ n2_ n3_ n4_ n5_ n6_; intro HO0_9 HO0_10 HO0_11 HB BK300 GW300 GE300; clear hb hbox hg; have hcz6 := cells12f BK300.out) | (go_at_call 30; (with_reducible refine (impl_MsgOk.calls k a0_0 a0_1 a0_2 a0_3 a0_4 a0_5 a0_6 a0_7 a0_8 _ _ l0_9 _ _ l0_10 _ _ l0_11 true _ ?side1 ?side2 ?side3 ?side4 ?side5 ?side6 A2.out).mono ?_); (case side1 => exact cU ((Kd.V_reads' HO0_9.out).2.2)); (case side2 => exact (Kd.V_reads' HO0_9.out).2.1); (case side3 => exact cU ((Kd.V_reads' HO0_10.out).2.2)); (case side4 => exact (Kd.V_reads' HO0_10.out).2.1); (case side5 => exact cU ((Kd.V_reads' HO0_11.out).2.2)); (case side6 => exact (Kd.V_reads' HO0_11.out).2.1); rintro e w7 ⟨rfl, hb⟩; have n0_ := aS (Kd.V_below (by (with_reducible repeat (first | apply Kd.V_alloc | apply Kd.V_drewN | apply Kd.V_drew)); exact HO0_9.out) hb); have n1_ := aS (Kd.V_below (by (with_reducible repeat (first | apply Kd.V_alloc | apply Kd.V_drewN | apply Kd.V_drew)); exact HO0_10.out) hb); have n2_ := aS (Kd.V_below (by (with_reducible repeat (first | apply Kd.V_alloc | apply Kd.V_drewN | apply Kd.V_drew)); exact HO0_11.out) hb); have n3_ := aS (blk_below (bU BK300.out) hb); have n4_ := aS (below_step (wS1 HB.out GE300.out) hb); clear HO0_9 HO0_10 HO0_11 BK300 HB; revert n0_ n1_ n2_ n3_ n4_; intro HO0_9 HO0_10 HO0_11 BK300 HB; clear hb; have hcz8 := cells12f BK300.out))
  repeat (go_quiet (first | ((with_reducible refine gate_dst (N := 1) rfl ?_); refine box_event ?hg (N := 1) ?hd (cs := #[.int .i64 a0_0, .bool a0_1, .bool a0_2, .bool a0_3, .bool a0_4, .bool a0_5, .int .i64 a0_6, .string a0_7, .int .i64 a0_8, .slice A0_9 l0_9.length c0_9, .slice A0_10 l0_10.length c0_10, .slice A0_11 l0_11.length c0_11]) (t := 48) ?hr ?_; (case hd => rfl); (case hg => rfl); (case hr => first | (go_simp; done) | (go_simp; rfl)); intro gb300 hg w5 hbox hb; have n0_ := aS (Kd.V_below (Kd.V_elderB (by (with_reducible repeat (first | apply Kd.V_alloc | apply Kd.V_drewN | apply Kd.V_drew)); exact HO0_9.out) gb300 (Nat.le_of_eq hg.symm)) hb); have n1_ := aS (Kd.V_below (Kd.V_elderB (by (with_reducible repeat (first | apply Kd.V_alloc | apply Kd.V_drewN | apply Kd.V_drew)); exact HO0_10.out) gb300 (Nat.le_of_eq hg.symm)) hb); have n2_ := aS (Kd.V_below (Kd.V_elderB (by (with_reducible repeat (first | apply Kd.V_alloc | apply Kd.V_drewN | apply Kd.V_drew)); exact HO0_11.out) gb300 (Nat.le_of_eq hg.symm)) hb); have n3_ := aS (below_step (wU HB.out) hb); have n4_ := aS (hbox); have n5_ := aS ((by rw [hg]; exact (below_size (wU HB.out)) : w.heap.size ≤ gb300)); have n6_ := aS ((by rw [hg]; exact (below_size (wU HB.out)) : w.heap.size ≤ gb300)); clear HO0_9 HO0_10 HO0_11 HB; revert n0_ n1_ n2_ n3_ n4_ n5_ n6_; intro HO0_9 HO0_10 HO0_11 HB BK300 GW300 GE300; clear hb hbox hg; have hcz6 := cells12f BK300.out) | (go_at_call 30; (with_reducible refine (impl_MsgOk.calls k a0_0 a0_1 a0_2 a0_3 a0_4 a0_5 a0_6 a0_7 a0_8 _ _ l0_9 _ _ l0_10 _ _ l0_11 true _ ?side1 ?side2 ?side3 ?side4 ?side5 ?side6 A2.out).mono ?_); (case side1 => exact cU ((Kd.V_reads' HO0_9.out).2.2)); (case side2 => exact (Kd.V_reads' HO0_9.out).2.1); (case side3 => exact cU ((Kd.V_reads' HO0_10.out).2.2)); (case side4 => exact (Kd.V_reads' HO0_10.out).2.1); (case side5 => exact cU ((Kd.V_reads' HO0_11.out).2.2)); (case side6 => exact (Kd.V_reads' HO0_11.out).2.1); rintro e w7 ⟨rfl, hb⟩; have n0_ := aS (Kd.V_below (by (with_reducible repeat (first | apply Kd.V_alloc | apply Kd.V_drewN | apply Kd.V_drew)); exact HO0_9.out) hb); have n1_ := aS (Kd.V_below (by (with_reducible repeat (first | apply Kd.V_alloc | apply Kd.V_drewN | apply Kd.V_drew)); exact HO0_10.out) hb); have n2_ := aS (Kd.V_below (by (with_reducible repeat (first | apply Kd.V_alloc | apply Kd.V_drewN | apply Kd.V_drew)); exact HO0_11.out) hb); have n3_ := aS (blk_below (bU BK300.out) hb); have n4_ := aS (below_step (wS1 HB.out GE300.out) hb); clear HO0_9 HO0_10 HO0_11 BK300 HB; revert n0_ n1_ n2_ n3_ n4_; intro HO0_9 HO0_10 HO0_11 BK300 HB; clear hb; have hcz8 := cells12f BK300.out)); go_upto_if 10 with (first | ((with_reducible refine gate_dst (N := 1) rfl ?_); refine box_event ?hg (N := 1) ?hd (cs := #[.int .i64 a0_0, .bool a0_1, .bool a0_2, .bool a0_3, .bool a0_4, .bool a0_5, .int .i64 a0_6, .string a0_7, .int .i64 a0_8, .slice A0_9 l0_9.length c0_9, .slice A0_10 l0_10.length c0_10, .slice A0_11 l0_11.length c0_11]) (t := 48) ?hr ?_; (case hd => rfl); (case hg => rfl); (case hr => first | (go_simp; done) | (go_simp; rfl)); intro gb300 hg w5 hbox hb; have n0_ := aS (Kd.V_below (Kd.V_elderB (by (with_reducible repeat (first | apply Kd.V_alloc | apply Kd.V_drewN | apply Kd.V_drew)); exact HO0_9.out) gb300 (Nat.le_of_eq hg.symm)) hb); have n1_ := aS (Kd.V_below (Kd.V_elderB (by (with_reducible repeat (first | apply Kd.V_alloc | apply Kd.V_drewN | apply Kd.V_drew)); exact HO0_10.out) gb300 (Nat.le_of_eq hg.symm)) hb); have n2_ := aS (Kd.V_below (Kd.V_elderB (by (with_reducible repeat (first | apply Kd.V_alloc | apply Kd.V_drewN | apply Kd.V_drew)); exact HO0_11.out) gb300 (Nat.le_of_eq hg.symm)) hb); have n3_ := aS (below_step (wU HB.out) hb); have n4_ := aS (hbox); have n5_ := aS ((by rw [hg]; exact (below_size (wU HB.out)) : w.heap.size ≤ gb300)); have n6_ := aS ((by rw [hg]; exact (below_size (wU HB.out)) : w.heap.size ≤ gb300)); clear HO0_9 HO0_10 HO0_11 HB; revert n0_ n1_ n2_ n3_ n4_ n5_ n6_; intro HO0_9 HO0_10 HO0_11 HB BK300 GW300 GE300; clear hb hbox hg; have hcz6 := cells12f BK300.out) | (go_at_call 30; (with_reducible refine (impl_MsgOk.calls k a0_0 a0_1 a0_2 a0_3 a0_4 a0_5 a0_6 a0_7 a0_8 _ _ l0_9 _ _ l0_10 _ _ l0_11 true _ ?side1 ?side2 ?side3 ?side4 ?side5 ?side6 A2.out).mono ?_); (case side1 => exact cU ((Kd.V_reads' HO0_9.out).2.2)); (case side2 => exact (Kd.V_reads' HO0_9.out).2.1); (case side3 => exact cU ((Kd.V_reads' HO0_10.out).2.2)); (case side4 => exact (Kd.V_reads' HO0_10.out).2.1); (case side5 => exact cU ((Kd.V_reads' HO0_11.out).2.2)); (case side6 => exact (Kd.V_reads' HO0_11.out).2.1); rintro e w7 ⟨rfl, hb⟩; have n0_ := aS (Kd.V_below (by (with_reducible repeat (first | apply Kd.V_alloc | apply Kd.V_drewN | apply Kd.V_drew)); exact HO0_9.out) hb); have n1_ := aS (Kd.V_below (by (with_reducible repeat (first | apply Kd.V_alloc | apply Kd.V_drewN | apply Kd.V_drew)); exact HO0_10.out) hb); have n2_ := aS (Kd.V_below (by (with_reducible repeat (first | apply Kd.V_alloc | apply Kd.V_drewN | apply Kd.V_drew)); exact HO0_11.out) hb); have n3_ := aS (blk_below (bU BK300.out) hb); have n4_ := aS (below_step (wS1 HB.out GE300.out) hb); clear HO0_9 HO0_10 HO0_11 BK300 HB; revert n0_ n1_ n2_ n3_ n4_; intro HO0_9 HO0_10 HO0_11 BK300 HB; clear hb; have hcz8 := cells12f BK300.out)))
  (try simp only [Act.put, List.setIfInBounds_toArray, List.set_cons_zero, List.set_cons_succ])
  go_cut [3] (fun v3 wc => ∃ (kq : Nat) (x3_3 : ByteArray), v3 = .string x3_3 ∧ Aside0 (impl_MsgText.j0 kq x3_3 a0_0 a0_1 a0_2 a0_3 a0_4 a0_5 a0_6 a0_7 a0_8 l0_9 l0_10 l0_11 = some r) ∧ Aside0 (kq ≤ k) ∧ Aside0 (Kd.V k33 33 wc w.heap.size (fun k_ => ((P0_9_ k_ ∨ P0_10_ k_ ∨ P0_11_ k_) ∨ w.heap.size ≤ k_) ∧ k_ ≠ gb300) (.slice A0_9 l0_9.length c0_9) l0_9) ∧ Aside0 (Kd.V k33 33 wc w.heap.size (fun k_ => ((P0_9_ k_ ∨ P0_10_ k_ ∨ P0_11_ k_) ∨ w.heap.size ≤ k_) ∧ k_ ≠ gb300) (.slice A0_10 l0_10.length c0_10) l0_10) ∧ Aside0 (Kd.V k33 33 wc w.heap.size (fun k_ => ((P0_9_ k_ ∨ P0_10_ k_ ∨ P0_11_ k_) ∨ w.heap.size ≤ k_) ∧ k_ ≠ gb300) (.slice A0_11 l0_11.length c0_11) l0_11) ∧ Aside0 (wc.heap[gb300]? = some (.cells #[.int .i64 a0_0, .bool a0_1, .bool a0_2, .bool a0_3, .bool a0_4, .bool a0_5, .int .i64 a0_6, .string a0_7, .int .i64 a0_8, (.slice A0_9 l0_9.length c0_9), (.slice A0_10 l0_10.length c0_10), (.slice A0_11 l0_11.length c0_11)] 48 (0, 0))) ∧ Aside0 (Below w.heap.size w wc))
  case first =>
   have H := HC4.out
   clear HC4
   by_cases c9 : a0_1 = true
   ·subst c9
    have H1 : (impl_MsgText.j0 k (⟨#[114, 101, 112, 108, 121, 32]⟩ : ByteArray) a0_0 true a0_2 a0_3 a0_4 a0_5 a0_6 a0_7 a0_8 l0_9 l0_10 l0_11) = some r := by rw [if_pos rfl] at H; exact H
    clear H
    have H := H1
    clear H1
    have H' := aS H
    clear H
    go_wp2
    repeat (go_quiet (fail); try go_wp2)
    go_meet
    case rel => exact ⟨_, ((⟨#[114, 101, 112, 108, 121, 32]⟩ : ByteArray)), jB, H', ⟨by first | omega | exact Nat.le_refl _⟩, ⟨by (with_reducible repeat (first | apply Kd.V_alloc | apply Kd.V_drewN | apply Kd.V_drew)); exact HO0_9.out⟩, ⟨by (with_reducible repeat (first | apply Kd.V_alloc | apply Kd.V_drewN | apply Kd.V_drew)); exact HO0_10.out⟩, ⟨by (with_reducible repeat (first | apply Kd.V_alloc | apply Kd.V_drewN | apply Kd.V_drew)); exact HO0_11.out⟩, ⟨by (with_reducible repeat (first | refine blk_drewN ?_ _ | refine blk_drew ?_ | refine blk_alloc ?_ _)); exact BK300.out⟩, ⟨by exact wS1 HB.out GE300.out⟩⟩
   ·replace c9 := Bool.eq_false_iff.mpr c9
    subst c9
    have H1 : (impl_MsgText.j0 k (⟨#[97, 115, 107, 32]⟩ : ByteArray) a0_0 false a0_2 a0_3 a0_4 a0_5 a0_6 a0_7 a0_8 l0_9 l0_10 l0_11) = some r := by rw [if_neg (show ¬ (false = true) by decide)] at H; exact H
    clear H
    have H := H1
    clear H1
    have H' := aS H
    clear H
    go_wp2
    repeat (go_quiet (fail); try go_wp2)
    go_meet
    case rel => exact ⟨_, ((⟨#[97, 115, 107, 32]⟩ : ByteArray)), jB, H', ⟨by first | omega | exact Nat.le_refl _⟩, ⟨by (with_reducible repeat (first | apply Kd.V_alloc | apply Kd.V_drewN | apply Kd.V_drew)); exact HO0_9.out⟩, ⟨by (with_reducible repeat (first | apply Kd.V_alloc | apply Kd.V_drewN | apply Kd.V_drew)); exact HO0_10.out⟩, ⟨by (with_reducible repeat (first | apply Kd.V_alloc | apply Kd.V_drewN | apply Kd.V_drew)); exact HO0_11.out⟩, ⟨by (with_reducible repeat (first | refine blk_drewN ?_ _ | refine blk_drew ?_ | refine blk_alloc ?_ _)); exact BK300.out⟩, ⟨by exact wS1 HB.out GE300.out⟩⟩
  case rest =>
   clear HC4
   try clear p2
   try clear c3
   try clear c4
   try clear c9
   try clear hcz6
   try clear hcz6_10
   try clear hcz6_11
   try clear hcz6_2
   try clear hcz6_3
   try clear hcz6_4
   try clear hcz6_5
   try clear hcz6_6
   try clear hcz6_7
   try clear hcz6_8
   try clear hcz6_9
   try clear hcz8
   try clear hcz8_10
   try clear hcz8_11
   try clear hcz8_2
   try clear hcz8_3
   try clear hcz8_4
   try clear hcz8_5
   try clear hcz8_6
   try clear hcz8_7
   try clear hcz8_8
   try clear hcz8_9
   try clear hfz6_10
   try clear hfz6_11
   try clear hfz6_2
   try clear hfz6_3
   try clear hfz6_4
   try clear hfz6_5
   try clear hfz6_6
   try clear hfz6_7
   try clear hfz6_8
   try clear hfz6_9
   try clear hfz8_10
   try clear hfz8_11
   try clear hfz8_2
   try clear hfz8_3
   try clear hfz8_4
   try clear hfz8_5
   try clear hfz8_6
   try clear hfz8_7
   try clear hfz8_8
   try clear hfz8_9
   obtain ⟨kq, x3_3, rfl, HA, HJ3, HO_301009, HO_301010, HO_301011, BK300, HB⟩ := hcut
   cases kq with
   | zero => exact absurd HA.out (by simp [impl_MsgText.j0])
   | succ kj3 =>
    have H := HA.out
    clear HA
    simp only [impl_MsgText.j0] at H
    replace H := Option.bind_eq_some_iff.mp H
    obtain ⟨t302, A10, H⟩ := H
    try dsimp only at H
    replace A10 := aS A10
    by_cases c11 : t302.size + 1 ≤ 9223372036854775807
    ·rw [if_pos c11] at H
     have c11b0 := eq_true c11
     have c11b1 : decide (t302.size + 1 ≤ 9223372036854775807) = true := decide_eq_true c11
     try have c11b2 : (9223372036854775807 < t302.size + 1) = False := eq_false (Nat.not_lt.2 c11)
     replace H := Option.bind_eq_some_iff.mp H
     obtain ⟨t303, A12, H⟩ := H
     try dsimp only at H
     replace A12 := aS A12
     by_cases c13 : (t302 ++ (⟨#[32]⟩ : ByteArray)).size + t303.size ≤ 9223372036854775807
     ·rw [if_pos c13] at H
      have c13b0 := eq_true c13
      have c13b1 : decide ((t302 ++ (⟨#[32]⟩ : ByteArray)).size + t303.size ≤ 9223372036854775807) = true := decide_eq_true c13
      try have c13b2 : (9223372036854775807 < (t302 ++ (⟨#[32]⟩ : ByteArray)).size + t303.size) = False := eq_false (Nat.not_lt.2 c13)
      try have c13b8 : (9223372036854775807 < t302.size + 1 + t303.size) = False := by have q_ := c13b2; simp only [ByteArray.size_append] at q_; exact q_
      by_cases c14 : ((t302 ++ (⟨#[32]⟩ : ByteArray)) ++ t303).size + 1 ≤ 9223372036854775807
      ·rw [if_pos c14] at H
       have c14b0 := eq_true c14
       have c14b1 : decide (((t302 ++ (⟨#[32]⟩ : ByteArray)) ++ t303).size + 1 ≤ 9223372036854775807) = true := decide_eq_true c14
       try have c14b2 : (9223372036854775807 < ((t302 ++ (⟨#[32]⟩ : ByteArray)) ++ t303).size + 1) = False := eq_false (Nat.not_lt.2 c14)
       try have c14b8 : (9223372036854775807 < t302.size + 1 + t303.size + 1) = False := by have q_ := c14b2; simp only [ByteArray.size_append] at q_; exact q_
       replace H := Option.bind_eq_some_iff.mp H
       obtain ⟨t304, A15, H⟩ := H
       try dsimp only at H
       replace A15 := aS A15
       by_cases c16 : (((t302 ++ (⟨#[32]⟩ : ByteArray)) ++ t303) ++ (⟨#[32]⟩ : ByteArray)).size + t304.size ≤ 9223372036854775807
       ·rw [if_pos c16] at H
        have c16b0 := eq_true c16
        have c16b1 : decide ((((t302 ++ (⟨#[32]⟩ : ByteArray)) ++ t303) ++ (⟨#[32]⟩ : ByteArray)).size + t304.size ≤ 9223372036854775807) = true := decide_eq_true c16
        try have c16b2 : (9223372036854775807 < (((t302 ++ (⟨#[32]⟩ : ByteArray)) ++ t303) ++ (⟨#[32]⟩ : ByteArray)).size + t304.size) = False := eq_false (Nat.not_lt.2 c16)
        try have c16b8 : (9223372036854775807 < t302.size + 1 + t303.size + 1 + t304.size) = False := by have q_ := c16b2; simp only [ByteArray.size_append] at q_; exact q_
        by_cases c17 : ((((t302 ++ (⟨#[32]⟩ : ByteArray)) ++ t303) ++ (⟨#[32]⟩ : ByteArray)) ++ t304).size + 1 ≤ 9223372036854775807
        ·rw [if_pos c17] at H
         have c17b0 := eq_true c17
         have c17b1 : decide (((((t302 ++ (⟨#[32]⟩ : ByteArray)) ++ t303) ++ (⟨#[32]⟩ : ByteArray)) ++ t304).size + 1 ≤ 9223372036854775807) = true := decide_eq_true c17
         try have c17b2 : (9223372036854775807 < ((((t302 ++ (⟨#[32]⟩ : ByteArray)) ++ t303) ++ (⟨#[32]⟩ : ByteArray)) ++ t304).size + 1) = False := eq_false (Nat.not_lt.2 c17)
         try have c17b8 : (9223372036854775807 < t302.size + 1 + t303.size + 1 + t304.size + 1) = False := by have q_ := c17b2; simp only [ByteArray.size_append] at q_; exact q_
         replace H := Option.bind_eq_some_iff.mp H
         obtain ⟨t305, A18, H⟩ := H
         try dsimp only at H
         replace A18 := aS A18
         by_cases c19 : (((((t302 ++ (⟨#[32]⟩ : ByteArray)) ++ t303) ++ (⟨#[32]⟩ : ByteArray)) ++ t304) ++ (⟨#[32]⟩ : ByteArray)).size + t305.size ≤ 9223372036854775807
         ·rw [if_pos c19] at H
          have c19b0 := eq_true c19
          have c19b1 : decide ((((((t302 ++ (⟨#[32]⟩ : ByteArray)) ++ t303) ++ (⟨#[32]⟩ : ByteArray)) ++ t304) ++ (⟨#[32]⟩ : ByteArray)).size + t305.size ≤ 9223372036854775807) = true := decide_eq_true c19
          try have c19b2 : (9223372036854775807 < (((((t302 ++ (⟨#[32]⟩ : ByteArray)) ++ t303) ++ (⟨#[32]⟩ : ByteArray)) ++ t304) ++ (⟨#[32]⟩ : ByteArray)).size + t305.size) = False := eq_false (Nat.not_lt.2 c19)
          try have c19b8 : (9223372036854775807 < t302.size + 1 + t303.size + 1 + t304.size + 1 + t305.size) = False := by have q_ := c19b2; simp only [ByteArray.size_append] at q_; exact q_
          by_cases c20 : x3_3.size + ((((((t302 ++ (⟨#[32]⟩ : ByteArray)) ++ t303) ++ (⟨#[32]⟩ : ByteArray)) ++ t304) ++ (⟨#[32]⟩ : ByteArray)) ++ t305).size ≤ 9223372036854775807
          ·rw [if_pos c20] at H
           have c20b0 := eq_true c20
           have c20b1 : decide (x3_3.size + ((((((t302 ++ (⟨#[32]⟩ : ByteArray)) ++ t303) ++ (⟨#[32]⟩ : ByteArray)) ++ t304) ++ (⟨#[32]⟩ : ByteArray)) ++ t305).size ≤ 9223372036854775807) = true := decide_eq_true c20
           try have c20b2 : (9223372036854775807 < x3_3.size + ((((((t302 ++ (⟨#[32]⟩ : ByteArray)) ++ t303) ++ (⟨#[32]⟩ : ByteArray)) ++ t304) ++ (⟨#[32]⟩ : ByteArray)) ++ t305).size) = False := eq_false (Nat.not_lt.2 c20)
           have HC21 := aS H
           clear H
           have hcz22 := cells12f BK300.out
           go_upto_if 34 with (first | (go_at_call 62; (with_reducible refine (impl_NumText.calls kj3 a0_0 t302 _ A10.out).mono ?_); rintro e w' ⟨rfl, ⟨nd, rfl⟩⟩; (try first | exact ⟨rfl, _, World.drewN_drewN _ _ _⟩ | exact ⟨rfl, _, Eq.trans (World.drewN_drewN _ _ _) (congrArg (World.drewN _) (Nat.add_assoc _ _ _))⟩)) | (go_at_call 62; (with_reducible refine (impl_NumText.calls kj3 a0_6 t303 _ A12.out).mono ?_); rintro e w' ⟨rfl, ⟨nd, rfl⟩⟩; (try first | exact ⟨rfl, _, World.drewN_drewN _ _ _⟩ | exact ⟨rfl, _, Eq.trans (World.drewN_drewN _ _ _) (congrArg (World.drewN _) (Nat.add_assoc _ _ _))⟩)) | (go_at_call 61; (with_reducible refine (impl_nameText.calls a0_7 t304 _ A15.out).mono ?_); rintro e w' ⟨rfl, ⟨nd, rfl⟩⟩; (try first | exact ⟨rfl, _, World.drewN_drewN _ _ _⟩ | exact ⟨rfl, _, Eq.trans (World.drewN_drewN _ _ _) (congrArg (World.drewN _) (Nat.add_assoc _ _ _))⟩)) | (go_at_call 63; (with_reducible refine (impl_TypeText.calls a0_8 t305 _ A18.out).mono ?_); rintro e w' ⟨rfl, ⟨nd, rfl⟩⟩; (try first | exact ⟨rfl, _, World.drewN_drewN _ _ _⟩ | exact ⟨rfl, _, Eq.trans (World.drewN_drewN _ _ _) (congrArg (World.drewN _) (Nat.add_assoc _ _ _))⟩)))
           repeat (go_quiet (first | (go_at_call 62; (with_reducible refine (impl_NumText.calls kj3 a0_0 t302 _ A10.out).mono ?_); rintro e w' ⟨rfl, ⟨nd, rfl⟩⟩; (try first | exact ⟨rfl, _, World.drewN_drewN _ _ _⟩ | exact ⟨rfl, _, Eq.trans (World.drewN_drewN _ _ _) (congrArg (World.drewN _) (Nat.add_assoc _ _ _))⟩)) | (go_at_call 62; (with_reducible refine (impl_NumText.calls kj3 a0_6 t303 _ A12.out).mono ?_); rintro e w' ⟨rfl, ⟨nd, rfl⟩⟩; (try first | exact ⟨rfl, _, World.drewN_drewN _ _ _⟩ | exact ⟨rfl, _, Eq.trans (World.drewN_drewN _ _ _) (congrArg (World.drewN _) (Nat.add_assoc _ _ _))⟩)) | (go_at_call 61; (with_reducible refine (impl_nameText.calls a0_7 t304 _ A15.out).mono ?_); rintro e w' ⟨rfl, ⟨nd, rfl⟩⟩; (try first | exact ⟨rfl, _, World.drewN_drewN _ _ _⟩ | exact ⟨rfl, _, Eq.trans (World.drewN_drewN _ _ _) (congrArg (World.drewN _) (Nat.add_assoc _ _ _))⟩)) | (go_at_call 63; (with_reducible refine (impl_TypeText.calls a0_8 t305 _ A18.out).mono ?_); rintro e w' ⟨rfl, ⟨nd, rfl⟩⟩; (try first | exact ⟨rfl, _, World.drewN_drewN _ _ _⟩ | exact ⟨rfl, _, Eq.trans (World.drewN_drewN _ _ _) (congrArg (World.drewN _) (Nat.add_assoc _ _ _))⟩))); go_upto_if 34 with (first | (go_at_call 62; (with_reducible refine (impl_NumText.calls kj3 a0_0 t302 _ A10.out).mono ?_); rintro e w' ⟨rfl, ⟨nd, rfl⟩⟩; (try first | exact ⟨rfl, _, World.drewN_drewN _ _ _⟩ | exact ⟨rfl, _, Eq.trans (World.drewN_drewN _ _ _) (congrArg (World.drewN _) (Nat.add_assoc _ _ _))⟩)) | (go_at_call 62; (with_reducible refine (impl_NumText.calls kj3 a0_6 t303 _ A12.out).mono ?_); rintro e w' ⟨rfl, ⟨nd, rfl⟩⟩; (try first | exact ⟨rfl, _, World.drewN_drewN _ _ _⟩ | exact ⟨rfl, _, Eq.trans (World.drewN_drewN _ _ _) (congrArg (World.drewN _) (Nat.add_assoc _ _ _))⟩)) | (go_at_call 61; (with_reducible refine (impl_nameText.calls a0_7 t304 _ A15.out).mono ?_); rintro e w' ⟨rfl, ⟨nd, rfl⟩⟩; (try first | exact ⟨rfl, _, World.drewN_drewN _ _ _⟩ | exact ⟨rfl, _, Eq.trans (World.drewN_drewN _ _ _) (congrArg (World.drewN _) (Nat.add_assoc _ _ _))⟩)) | (go_at_call 63; (with_reducible refine (impl_TypeText.calls a0_8 t305 _ A18.out).mono ?_); rintro e w' ⟨rfl, ⟨nd, rfl⟩⟩; (try first | exact ⟨rfl, _, World.drewN_drewN _ _ _⟩ | exact ⟨rfl, _, Eq.trans (World.drewN_drewN _ _ _) (congrArg (World.drewN _) (Nat.add_assoc _ _ _))⟩))))
           (try simp only [Act.put, List.setIfInBounds_toArray, List.set_cons_zero, List.set_cons_succ])
           go_cut [3] (fun v3 wc => ∃ (kq : Nat) (x3_20 : ByteArray), v3 = .string x3_20 ∧ Aside0 (impl_MsgText.j1 kq x3_20 a0_0 a0_1 a0_2 a0_3 a0_4 a0_5 a0_6 a0_7 a0_8 l0_9 l0_10 l0_11 = some r) ∧ Aside0 (kq ≤ kj3) ∧ Aside0 (Kd.V k33 33 wc w.heap.size (fun k_ => ((P0_9_ k_ ∨ P0_10_ k_ ∨ P0_11_ k_) ∨ w.heap.size ≤ k_) ∧ k_ ≠ gb300) (.slice A0_9 l0_9.length c0_9) l0_9) ∧ Aside0 (Kd.V k33 33 wc w.heap.size (fun k_ => ((P0_9_ k_ ∨ P0_10_ k_ ∨ P0_11_ k_) ∨ w.heap.size ≤ k_) ∧ k_ ≠ gb300) (.slice A0_10 l0_10.length c0_10) l0_10) ∧ Aside0 (Kd.V k33 33 wc w.heap.size (fun k_ => ((P0_9_ k_ ∨ P0_10_ k_ ∨ P0_11_ k_) ∨ w.heap.size ≤ k_) ∧ k_ ≠ gb300) (.slice A0_11 l0_11.length c0_11) l0_11) ∧ Aside0 (wc.heap[gb300]? = some (.cells #[.int .i64 a0_0, .bool a0_1, .bool a0_2, .bool a0_3, .bool a0_4, .bool a0_5, .int .i64 a0_6, .string a0_7, .int .i64 a0_8, (.slice A0_9 l0_9.length c0_9), (.slice A0_10 l0_10.length c0_10), (.slice A0_11 l0_11.length c0_11)] 48 (0, 0))) ∧ Aside0 (Below w.heap.size w wc))
           case first =>
            have H := HC21.out
            clear HC21
            by_cases c23 : a0_2 = true
            ·subst c23
             have H1 : (if (x3_3 ++ ((((((t302 ++ (⟨#[32]⟩ : ByteArray)) ++ t303) ++ (⟨#[32]⟩ : ByteArray)) ++ t304) ++ (⟨#[32]⟩ : ByteArray)) ++ t305)).size + 5 ≤ 9223372036854775807 then (impl_MsgText.j1 kj3 ((x3_3 ++ ((((((t302 ++ (⟨#[32]⟩ : ByteArray)) ++ t303) ++ (⟨#[32]⟩ : ByteArray)) ++ t304) ++ (⟨#[32]⟩ : ByteArray)) ++ t305)) ++ (⟨#[32, 97, 117, 116, 104]⟩ : ByteArray)) a0_0 a0_1 true a0_3 a0_4 a0_5 a0_6 a0_7 a0_8 l0_9 l0_10 l0_11) else (none)) = some r := by rw [if_pos rfl] at H; exact H
             clear H
             have H := H1
             clear H1
             by_cases c24 : (x3_3 ++ ((((((t302 ++ (⟨#[32]⟩ : ByteArray)) ++ t303) ++ (⟨#[32]⟩ : ByteArray)) ++ t304) ++ (⟨#[32]⟩ : ByteArray)) ++ t305)).size + 5 ≤ 9223372036854775807
             ·rw [if_pos c24] at H
              have c24b0 := eq_true c24
              have c24b1 : decide ((x3_3 ++ ((((((t302 ++ (⟨#[32]⟩ : ByteArray)) ++ t303) ++ (⟨#[32]⟩ : ByteArray)) ++ t304) ++ (⟨#[32]⟩ : ByteArray)) ++ t305)).size + 5 ≤ 9223372036854775807) = true := decide_eq_true c24
              try have c24b2 : (9223372036854775807 < (x3_3 ++ ((((((t302 ++ (⟨#[32]⟩ : ByteArray)) ++ t303) ++ (⟨#[32]⟩ : ByteArray)) ++ t304) ++ (⟨#[32]⟩ : ByteArray)) ++ t305)).size + 5) = False := eq_false (Nat.not_lt.2 c24)
              try have c24b8 : (9223372036854775807 < x3_3.size + (t302.size + 1 + t303.size + 1 + t304.size + 1 + t305.size) + 5) = False := by have q_ := c24b2; simp only [ByteArray.size_append] at q_; exact q_
              have H' := aS H
              clear H
              go_wp2
              repeat (go_quiet (fail); try go_wp2)
              go_meet
              case rel => exact ⟨_, ((x3_3 ++ ((((((t302 ++ (⟨#[32]⟩ : ByteArray)) ++ t303) ++ (⟨#[32]⟩ : ByteArray)) ++ t304) ++ (⟨#[32]⟩ : ByteArray)) ++ t305)) ++ (⟨#[32, 97, 117, 116, 104]⟩ : ByteArray)), jB, H', ⟨by have := HJ3.out; first | omega | exact Nat.le_refl _⟩, ⟨by (with_reducible repeat (first | apply Kd.V_alloc | apply Kd.V_drewN | apply Kd.V_drew)); exact HO_301009.out⟩, ⟨by (with_reducible repeat (first | apply Kd.V_alloc | apply Kd.V_drewN | apply Kd.V_drew)); exact HO_301010.out⟩, ⟨by (with_reducible repeat (first | apply Kd.V_alloc | apply Kd.V_drewN | apply Kd.V_drew)); exact HO_301011.out⟩, ⟨by (with_reducible repeat (first | refine blk_drewN ?_ _ | refine blk_drew ?_ | refine blk_alloc ?_ _)); exact BK300.out⟩, ⟨by exact wS1 HB.out GE300.out⟩⟩
             ·rw [if_neg c24] at H
              exact absurd H (by simp)
            ·replace c23 := Bool.eq_false_iff.mpr c23
             subst c23
             have H1 : (impl_MsgText.j1 kj3 (x3_3 ++ ((((((t302 ++ (⟨#[32]⟩ : ByteArray)) ++ t303) ++ (⟨#[32]⟩ : ByteArray)) ++ t304) ++ (⟨#[32]⟩ : ByteArray)) ++ t305)) a0_0 a0_1 false a0_3 a0_4 a0_5 a0_6 a0_7 a0_8 l0_9 l0_10 l0_11) = some r := by rw [if_neg (show ¬ (false = true) by decide)] at H; exact H
             clear H
             have H := H1
             clear H1
             have H' := aS H
             clear H
             go_wp2
             repeat (go_quiet (fail); try go_wp2)
             go_meet
             case rel => exact ⟨_, (x3_3 ++ ((((((t302 ++ (⟨#[32]⟩ : ByteArray)) ++ t303) ++ (⟨#[32]⟩ : ByteArray)) ++ t304) ++ (⟨#[32]⟩ : ByteArray)) ++ t305)), jB, H', ⟨by have := HJ3.out; first | omega | exact Nat.le_refl _⟩, ⟨by (with_reducible repeat (first | apply Kd.V_alloc | apply Kd.V_drewN | apply Kd.V_drew)); exact HO_301009.out⟩, ⟨by (with_reducible repeat (first | apply Kd.V_alloc | apply Kd.V_drewN | apply Kd.V_drew)); exact HO_301010.out⟩, ⟨by (with_reducible repeat (first | apply Kd.V_alloc | apply Kd.V_drewN | apply Kd.V_drew)); exact HO_301011.out⟩, ⟨by (with_reducible repeat (first | refine blk_drewN ?_ _ | refine blk_drew ?_ | refine blk_alloc ?_ _)); exact BK300.out⟩, ⟨by exact wS1 HB.out GE300.out⟩⟩
           case rest =>
            clear HC21
            try clear c1
            try clear c2
            try clear p2
            try clear c3
            try clear c4
            try clear c9
            try clear c11
            try clear c11b0
            try clear c11b1
            try clear c11b2
            try clear c13
            try clear c13b0
            try clear c13b1
            try clear c13b2
            try clear c14
            try clear c14b0
            try clear c14b1
            try clear c14b2
            try clear c16
            try clear c16b0
            try clear c16b1
            try clear c16b2
            try clear c17
            try clear c17b0
            try clear c17b1
            try clear c17b2
            try clear c19
            try clear c19b0
            try clear c19b1
            try clear c19b2
            try clear c20
            try clear c20b0
            try clear c20b1
            try clear c20b2
            try clear c23
            try clear c24
            try clear c24b0
            try clear c24b1
            try clear c24b2
            try clear hcz22
            try clear hcz22_10
            try clear hcz22_11
            try clear hcz22_2
            try clear hcz22_3
            try clear hcz22_4
            try clear hcz22_5
            try clear hcz22_6
            try clear hcz22_7
            try clear hcz22_8
            try clear hcz22_9
            try clear hcz6
            try clear hcz6_10
            try clear hcz6_11
            try clear hcz6_2
            try clear hcz6_3
            try clear hcz6_4
            try clear hcz6_5
            try clear hcz6_6
            try clear hcz6_7
            try clear hcz6_8
            try clear hcz6_9
            try clear hcz8
            try clear hcz8_10
            try clear hcz8_11
            try clear hcz8_2
            try clear hcz8_3
            try clear hcz8_4
            try clear hcz8_5
            try clear hcz8_6
            try clear hcz8_7
            try clear hcz8_8
            try clear hcz8_9
            try clear hfz22_10
            try clear hfz22_11
            try clear hfz22_2
            try clear hfz22_3
            try clear hfz22_4
            try clear hfz22_5
            try clear hfz22_6
            try clear hfz22_7
            try clear hfz22_8
            try clear hfz22_9
            try clear hfz6_10
            try clear hfz6_11
            try clear hfz6_2
            try clear hfz6_3
            try clear hfz6_4
            try clear hfz6_5
            try clear hfz6_6
            try clear hfz6_7
            try clear hfz6_8
            try clear hfz6_9
            try clear hfz8_10
            try clear hfz8_11
            try clear hfz8_2
            try clear hfz8_3
            try clear hfz8_4
            try clear hfz8_5
            try clear hfz8_6
            try clear hfz8_7
            try clear hfz8_8
            try clear hfz8_9
            try clear p2
            obtain ⟨kq, x3_20, rfl, HA, HJ20, HO_301009, HO_301010, HO_301011, BK300, HB⟩ := hcut
            cases kq with
            | zero => exact absurd HA.out (by simp [impl_MsgText.j1])
            | succ kj20 =>
             have H := HA.out
             clear HA
             simp only [impl_MsgText.j1] at H
             have HC25 := aS H
             clear H
             have hcz26 := cells12f BK300.out
             go_upto_if 38 with (fail)
             repeat (go_quiet (fail); go_upto_if 38 with (fail))
             go_cut [3] (fun v3 wc => ∃ (kq : Nat) (x3_24 : ByteArray), v3 = .string x3_24 ∧ Aside0 (impl_MsgText.j2 kq x3_24 a0_0 a0_1 a0_2 a0_3 a0_4 a0_5 a0_6 a0_7 a0_8 l0_9 l0_10 l0_11 = some r) ∧ Aside0 (kq ≤ kj20) ∧ Aside0 (Kd.V k33 33 wc w.heap.size (fun k_ => ((P0_9_ k_ ∨ P0_10_ k_ ∨ P0_11_ k_) ∨ w.heap.size ≤ k_) ∧ k_ ≠ gb300) (.slice A0_9 l0_9.length c0_9) l0_9) ∧ Aside0 (Kd.V k33 33 wc w.heap.size (fun k_ => ((P0_9_ k_ ∨ P0_10_ k_ ∨ P0_11_ k_) ∨ w.heap.size ≤ k_) ∧ k_ ≠ gb300) (.slice A0_10 l0_10.length c0_10) l0_10) ∧ Aside0 (Kd.V k33 33 wc w.heap.size (fun k_ => ((P0_9_ k_ ∨ P0_10_ k_ ∨ P0_11_ k_) ∨ w.heap.size ≤ k_) ∧ k_ ≠ gb300) (.slice A0_11 l0_11.length c0_11) l0_11) ∧ Aside0 (wc.heap[gb300]? = some (.cells #[.int .i64 a0_0, .bool a0_1, .bool a0_2, .bool a0_3, .bool a0_4, .bool a0_5, .int .i64 a0_6, .string a0_7, .int .i64 a0_8, (.slice A0_9 l0_9.length c0_9), (.slice A0_10 l0_10.length c0_10), (.slice A0_11 l0_11.length c0_11)] 48 (0, 0))) ∧ Aside0 (Below w.heap.size w wc))
             case first =>
              have H := HC25.out
              clear HC25
              by_cases c27 : a0_3 = true
              ·subst c27
               have H1 : (if x3_20.size + 4 ≤ 9223372036854775807 then (impl_MsgText.j2 kj20 (x3_20 ++ (⟨#[32, 99, 117, 116]⟩ : ByteArray)) a0_0 a0_1 a0_2 true a0_4 a0_5 a0_6 a0_7 a0_8 l0_9 l0_10 l0_11) else (none)) = some r := by rw [if_pos rfl] at H; exact H
               clear H
               have H := H1
               clear H1
               by_cases c28 : x3_20.size + 4 ≤ 9223372036854775807
               ·rw [if_pos c28] at H
                have c28b0 := eq_true c28
                have c28b1 : decide (x3_20.size + 4 ≤ 9223372036854775807) = true := decide_eq_true c28
                try have c28b2 : (9223372036854775807 < x3_20.size + 4) = False := eq_false (Nat.not_lt.2 c28)
                have H' := aS H
                clear H
                go_wp2
                repeat (go_quiet (fail); try go_wp2)
                go_meet
                case rel => exact ⟨_, (x3_20 ++ (⟨#[32, 99, 117, 116]⟩ : ByteArray)), jB, H', ⟨by have := HJ3.out; have := HJ20.out; first | omega | exact Nat.le_refl _⟩, ⟨by (with_reducible repeat (first | apply Kd.V_alloc | apply Kd.V_drewN | apply Kd.V_drew)); exact HO_301009.out⟩, ⟨by (with_reducible repeat (first | apply Kd.V_alloc | apply Kd.V_drewN | apply Kd.V_drew)); exact HO_301010.out⟩, ⟨by (with_reducible repeat (first | apply Kd.V_alloc | apply Kd.V_drewN | apply Kd.V_drew)); exact HO_301011.out⟩, ⟨by (with_reducible repeat (first | refine blk_drewN ?_ _ | refine blk_drew ?_ | refine blk_alloc ?_ _)); exact BK300.out⟩, ⟨by exact wS1 HB.out GE300.out⟩⟩
               ·rw [if_neg c28] at H
                exact absurd H (by simp)
              ·replace c27 := Bool.eq_false_iff.mpr c27
               subst c27
               have H1 : (impl_MsgText.j2 kj20 x3_20 a0_0 a0_1 a0_2 false a0_4 a0_5 a0_6 a0_7 a0_8 l0_9 l0_10 l0_11) = some r := by rw [if_neg (show ¬ (false = true) by decide)] at H; exact H
               clear H
               have H := H1
               clear H1
               have H' := aS H
               clear H
               go_wp2
               repeat (go_quiet (fail); try go_wp2)
               go_meet
               case rel => exact ⟨_, (x3_20), jB, H', ⟨by have := HJ3.out; have := HJ20.out; first | omega | exact Nat.le_refl _⟩, ⟨by (with_reducible repeat (first | apply Kd.V_alloc | apply Kd.V_drewN | apply Kd.V_drew)); exact HO_301009.out⟩, ⟨by (with_reducible repeat (first | apply Kd.V_alloc | apply Kd.V_drewN | apply Kd.V_drew)); exact HO_301010.out⟩, ⟨by (with_reducible repeat (first | apply Kd.V_alloc | apply Kd.V_drewN | apply Kd.V_drew)); exact HO_301011.out⟩, ⟨by (with_reducible repeat (first | refine blk_drewN ?_ _ | refine blk_drew ?_ | refine blk_alloc ?_ _)); exact BK300.out⟩, ⟨by exact wS1 HB.out GE300.out⟩⟩
             case rest =>
              clear HC25
              try clear c1
              try clear c2
              try clear p2
              try clear c3
              try clear c4
              try clear c9
              try clear c11
              try clear c11b0
              try clear c11b1
              try clear c11b2
              try clear c13
              try clear c13b0
              try clear c13b1
              try clear c13b2
              try clear c14
              try clear c14b0
              try clear c14b1
              try clear c14b2
              try clear c16
              try clear c16b0
              try clear c16b1
              try clear c16b2
              try clear c17
              try clear c17b0
              try clear c17b1
              try clear c17b2
              try clear c19
              try clear c19b0
              try clear c19b1
              try clear c19b2
              try clear c20
              try clear c20b0
              try clear c20b1
              try clear c20b2
              try clear c23
              try clear c24
              try clear c24b0
              try clear c24b1
              try clear c24b2
              try clear c27
              try clear c28
              try clear c28b0
              try clear c28b1
              try clear c28b2
              try clear hcz22
              try clear hcz22_10
              try clear hcz22_11
              try clear hcz22_2
              try clear hcz22_3
              try clear hcz22_4
              try clear hcz22_5
              try clear hcz22_6
              try clear hcz22_7
              try clear hcz22_8
              try clear hcz22_9
              try clear hcz26
              try clear hcz26_10
              try clear hcz26_11
              try clear hcz26_2
              try clear hcz26_3
              try clear hcz26_4
              try clear hcz26_5
              try clear hcz26_6
              try clear hcz26_7
              try clear hcz26_8
              try clear hcz26_9
              try clear hcz6
              try clear hcz6_10
              try clear hcz6_11
              try clear hcz6_2
              try clear hcz6_3
              try clear hcz6_4
              try clear hcz6_5
              try clear hcz6_6
              try clear hcz6_7
              try clear hcz6_8
              try clear hcz6_9
              try clear hcz8
              try clear hcz8_10
              try clear hcz8_11
              try clear hcz8_2
              try clear hcz8_3
              try clear hcz8_4
              try clear hcz8_5
              try clear hcz8_6
              try clear hcz8_7
              try clear hcz8_8
              try clear hcz8_9
              try clear hfz22_10
              try clear hfz22_11
              try clear hfz22_2
              try clear hfz22_3
              try clear hfz22_4
              try clear hfz22_5
              try clear hfz22_6
              try clear hfz22_7
              try clear hfz22_8
              try clear hfz22_9
              try clear hfz26_10
              try clear hfz26_11
              try clear hfz26_2
              try clear hfz26_3
              try clear hfz26_4
              try clear hfz26_5
              try clear hfz26_6
              try clear hfz26_7
              try clear hfz26_8
              try clear hfz26_9
              try clear hfz6_10
              try clear hfz6_11
              try clear hfz6_2
              try clear hfz6_3
              try clear hfz6_4
              try clear hfz6_5
              try clear hfz6_6
              try clear hfz6_7
              try clear hfz6_8
              try clear hfz6_9
              try clear hfz8_10
              try clear hfz8_11
              try clear hfz8_2
              try clear hfz8_3
              try clear hfz8_4
              try clear hfz8_5
              try clear hfz8_6
              try clear hfz8_7
              try clear hfz8_8
              try clear hfz8_9
              try clear p2
              obtain ⟨kq, x3_24, rfl, HA, HJ24, HO_301009, HO_301010, HO_301011, BK300, HB⟩ := hcut
              cases kq with
              | zero => exact absurd HA.out (by simp [impl_MsgText.j2])
              | succ kj24 =>
               have H := HA.out
               clear HA
               simp only [impl_MsgText.j2] at H
               obtain ⟨y306, hy_⟩ : ∃ y_ : List (List (S33)), y_ = (([l0_9, l0_10, l0_11] : List (List (S33)))) := ⟨_, rfl⟩
               replace H : ((slices_Concat_impl_Record.f kj24 y306).bind fun t309 => (impl_MsgText.l0 kj24 x3_24 t309 (t309.length : Int) 0)) = some r := jD
               have Ny306 := aS hy_
               clear hy_
               replace H := Option.bind_eq_some_iff.mp H
               obtain ⟨t309, A29, H⟩ := H
               try dsimp only at H
               replace A29 := aS A29
               have H' := aS H
               clear H
               have hcz30 := cells12f BK300.out
               go_wp2_with (first | ((with_reducible refine gate_dst (N := 47) rfl ?_); refine Kd.N_lit (Kd.slice 33 k33) _ 46 ?hg (N' := 47) ?hd (xs := ([l0_9, l0_10, l0_11] : List (List (S33)))) (inner := [.slice A0_9 l0_9.length c0_9, .slice A0_10 l0_10.length c0_10, .slice A0_11 l0_11.length c0_11]) (ok := (fun k_ => ((P0_9_ k_ ∨ P0_10_ k_ ∨ P0_11_ k_) ∨ w.heap.size ≤ k_) ∧ k_ ≠ gb300)) (okp := (fun k_ => ((P0_9_ k_ ∨ P0_10_ k_ ∨ P0_11_ k_) ∨ w.heap.size ≤ k_) ∧ k_ ≠ gb300)) ?hr ?hp (fun _ hk => hk) ((show ∀ k_, wc.heap.size ≤ k_ → (fun k_ => ((P0_9_ k_ ∨ P0_10_ k_ ∨ P0_11_ k_) ∨ w.heap.size ≤ k_) ∧ k_ ≠ gb300) k_ from fun k_ hk => ⟨(.inr (Nat.le_trans (below_size (wS1 HB.out GE300.out)) hk)), Kd.freshB (g := gb300) (o := .cells #[.int .i64 a0_0, .bool a0_1, .bool a0_2, .bool a0_3, .bool a0_4, .bool a0_5, .int .i64 a0_6, .string a0_7, .int .i64 a0_8, .slice A0_9 l0_9.length c0_9, .slice A0_10 l0_10.length c0_10, .slice A0_11 l0_11.length c0_11] 48 (0, 0)) (bU BK300.out) k_ hk⟩) _ (Nat.le_refl _)) (Below.refl _ _) (Nat.le_refl _) (by simp) ?_; (case hd => rfl); (case hg => rfl); (case hr => first | (go_simp; done) | (go_simp; rfl)); (case hp => exact (Reps.one (show Kd.FK (Kd.slice 33 k33) _ _ l0_9 [.slice A0_9 l0_9.length c0_9] from (Kd.FK_slice_mk (Kd.V_reads' (Kd.V_mono (ok' := (fun k_ => ((P0_9_ k_ ∨ P0_10_ k_ ∨ P0_11_ k_) ∨ w.heap.size ≤ k_) ∧ k_ ≠ gb300)) (HO_301009.out) (fun k_ hk => ⟨hk.1, hk.2⟩))).2.1 (Kd.V_F (Kd.V_mono (ok' := (fun k_ => ((P0_9_ k_ ∨ P0_10_ k_ ∨ P0_11_ k_) ∨ w.heap.size ≤ k_) ∧ k_ ≠ gb300)) (HO_301009.out) (fun k_ hk => ⟨hk.1, hk.2⟩))))) (Reps.one (show Kd.FK (Kd.slice 33 k33) _ _ l0_10 [.slice A0_10 l0_10.length c0_10] from (Kd.FK_slice_mk (Kd.V_reads' (Kd.V_mono (ok' := (fun k_ => ((P0_9_ k_ ∨ P0_10_ k_ ∨ P0_11_ k_) ∨ w.heap.size ≤ k_) ∧ k_ ≠ gb300)) (HO_301010.out) (fun k_ hk => ⟨hk.1, hk.2⟩))).2.1 (Kd.V_F (Kd.V_mono (ok' := (fun k_ => ((P0_9_ k_ ∨ P0_10_ k_ ∨ P0_11_ k_) ∨ w.heap.size ≤ k_) ∧ k_ ≠ gb300)) (HO_301010.out) (fun k_ hk => ⟨hk.1, hk.2⟩))))) (Reps.one (show Kd.FK (Kd.slice 33 k33) _ _ l0_11 [.slice A0_11 l0_11.length c0_11] from (Kd.FK_slice_mk (Kd.V_reads' (Kd.V_mono (ok' := (fun k_ => ((P0_9_ k_ ∨ P0_10_ k_ ∨ P0_11_ k_) ∨ w.heap.size ≤ k_) ∧ k_ ≠ gb300)) (HO_301011.out) (fun k_ hk => ⟨hk.1, hk.2⟩))).2.1 (Kd.V_F (Kd.V_mono (ok' := (fun k_ => ((P0_9_ k_ ∨ P0_10_ k_ ∨ P0_11_ k_) ∨ w.heap.size ≤ k_) ∧ k_ ≠ gb300)) (HO_301011.out) (fun k_ hk => ⟨hk.1, hk.2⟩))))) (Reps.none _ _))))); intro v307 w31 ho32 hb hg_ hnew_; clear hg_ hnew_; (first | rw [← Ny306.out] at ho32 | (simp only [Int.reduceToNat] at ho32; rw [← Ny306.out] at ho32)); have n0_ := aS (Kd.V_elder' (by (with_reducible repeat (first | apply Kd.V_alloc | apply Kd.V_drewN | apply Kd.V_drew)); exact HO_301009.out) (Kd.N_base ho32) hb); have n1_ := aS (Kd.V_elder' (by (with_reducible repeat (first | apply Kd.V_alloc | apply Kd.V_drewN | apply Kd.V_drew)); exact HO_301010.out) (Kd.N_base ho32) hb); have n2_ := aS (Kd.V_elder' (by (with_reducible repeat (first | apply Kd.V_alloc | apply Kd.V_drewN | apply Kd.V_drew)); exact HO_301011.out) (Kd.N_base ho32) hb); have n3_ := aS (Kd.N_lower ho32 (below_size (wS1 HB.out GE300.out))); have n4_ := aS (blk_below (bU BK300.out) hb); have n5_ := aS (below_step (wS1 HB.out GE300.out) hb); clear HO_301009 HO_301010 HO_301011 BK300 HB; revert n0_ n1_ n2_ n3_ n4_ n5_; intro HO_301009 HO_301010 HO_301011 HO308 BK300 HB; clear hb ho32; obtain ⟨Ao33, co33, eo33⟩ := Kd.N_slice HO308.out; subst eo33) | (go_at_call 95; (with_reducible refine (slices_Concat_impl_Record.calls kj24 _ _ y306 t309 _ ?side1 ?side2 A29.out).mono ?_); (case side1 => exact cU ((Kd.N_reads' HO308.out).2.2)); (case side2 => exact (Kd.N_reads' HO308.out).2.1); rintro e w34 ⟨v310, rfl, ho0, hb⟩; have n0_ := aS (Kd.V_elder' (by (with_reducible repeat (first | apply Kd.V_alloc | apply Kd.V_drewN | apply Kd.V_drew)); exact HO_301009.out) (Kd.R_base ho0) hb); have n1_ := aS (Kd.V_elder' (by (with_reducible repeat (first | apply Kd.V_alloc | apply Kd.V_drewN | apply Kd.V_drew)); exact HO_301010.out) (Kd.R_base ho0) hb); have n2_ := aS (Kd.V_elder' (by (with_reducible repeat (first | apply Kd.V_alloc | apply Kd.V_drewN | apply Kd.V_drew)); exact HO_301011.out) (Kd.R_base ho0) hb); have n3_ := aS (Kd.N_elder' (by (with_reducible repeat (first | apply Kd.N_alloc | apply Kd.N_drewN | apply Kd.N_drew)); exact HO308.out) (Kd.R_base ho0) hb); have n4_ := aS (Kd.R_lower (Kd.R_newM (M := fun k_ => (w.heap.size ≤ k_)) ho0 (below_size (wS1 HB.out GE300.out)) (fun k_ h_ => h_)) (below_size (wS1 HB.out GE300.out))); have n5_ := aS (blk_below (bU BK300.out) hb); have n6_ := aS (below_step (wS1 HB.out GE300.out) hb); clear HO_301009 HO_301010 HO_301011 HO308 BK300 HB; revert n0_ n1_ n2_ n3_ n4_ n5_ n6_; intro HO_301009 HO_301010 HO_301011 HO308 HO311 BK300 HB; clear hb; (try clear ho0); obtain ⟨Ao35, co35, eo35⟩ := Kd.R_slice HO311.out; subst eo35))
               repeat (go_quiet (first | ((with_reducible refine gate_dst (N := 47) rfl ?_); refine Kd.N_lit (Kd.slice 33 k33) _ 46 ?hg (N' := 47) ?hd (xs := ([l0_9, l0_10, l0_11] : List (List (S33)))) (inner := [.slice A0_9 l0_9.length c0_9, .slice A0_10 l0_10.length c0_10, .slice A0_11 l0_11.length c0_11]) (ok := (fun k_ => ((P0_9_ k_ ∨ P0_10_ k_ ∨ P0_11_ k_) ∨ w.heap.size ≤ k_) ∧ k_ ≠ gb300)) (okp := (fun k_ => ((P0_9_ k_ ∨ P0_10_ k_ ∨ P0_11_ k_) ∨ w.heap.size ≤ k_) ∧ k_ ≠ gb300)) ?hr ?hp (fun _ hk => hk) ((show ∀ k_, wc.heap.size ≤ k_ → (fun k_ => ((P0_9_ k_ ∨ P0_10_ k_ ∨ P0_11_ k_) ∨ w.heap.size ≤ k_) ∧ k_ ≠ gb300) k_ from fun k_ hk => ⟨(.inr (Nat.le_trans (below_size (wS1 HB.out GE300.out)) hk)), Kd.freshB (g := gb300) (o := .cells #[.int .i64 a0_0, .bool a0_1, .bool a0_2, .bool a0_3, .bool a0_4, .bool a0_5, .int .i64 a0_6, .string a0_7, .int .i64 a0_8, .slice A0_9 l0_9.length c0_9, .slice A0_10 l0_10.length c0_10, .slice A0_11 l0_11.length c0_11] 48 (0, 0)) (bU BK300.out) k_ hk⟩) _ (Nat.le_refl _)) (Below.refl _ _) (Nat.le_refl _) (by simp) ?_; (case hd => rfl); (case hg => rfl); (case hr => first | (go_simp; done) | (go_simp; rfl)); (case hp => exact (Reps.one (show Kd.FK (Kd.slice 33 k33) _ _ l0_9 [.slice A0_9 l0_9.length c0_9] from (Kd.FK_slice_mk (Kd.V_reads' (Kd.V_mono (ok' := (fun k_ => ((P0_9_ k_ ∨ P0_10_ k_ ∨ P0_11_ k_) ∨ w.heap.size ≤ k_) ∧ k_ ≠ gb300)) (HO_301009.out) (fun k_ hk => ⟨hk.1, hk.2⟩))).2.1 (Kd.V_F (Kd.V_mono (ok' := (fun k_ => ((P0_9_ k_ ∨ P0_10_ k_ ∨ P0_11_ k_) ∨ w.heap.size ≤ k_) ∧ k_ ≠ gb300)) (HO_301009.out) (fun k_ hk => ⟨hk.1, hk.2⟩))))) (Reps.one (show Kd.FK (Kd.slice 33 k33) _ _ l0_10 [.slice A0_10 l0_10.length c0_10] from (Kd.FK_slice_mk (Kd.V_reads' (Kd.V_mono (ok' := (fun k_ => ((P0_9_ k_ ∨ P0_10_ k_ ∨ P0_11_ k_) ∨ w.heap.size ≤ k_) ∧ k_ ≠ gb300)) (HO_301010.out) (fun k_ hk => ⟨hk.1, hk.2⟩))).2.1 (Kd.V_F (Kd.V_mono (ok' := (fun k_ => ((P0_9_ k_ ∨ P0_10_ k_ ∨ P0_11_ k_) ∨ w.heap.size ≤ k_) ∧ k_ ≠ gb300)) (HO_301010.out) (fun k_ hk => ⟨hk.1, hk.2⟩))))) (Reps.one (show Kd.FK (Kd.slice 33 k33) _ _ l0_11 [.slice A0_11 l0_11.length c0_11] from (Kd.FK_slice_mk (Kd.V_reads' (Kd.V_mono (ok' := (fun k_ => ((P0_9_ k_ ∨ P0_10_ k_ ∨ P0_11_ k_) ∨ w.heap.size ≤ k_) ∧ k_ ≠ gb300)) (HO_301011.out) (fun k_ hk => ⟨hk.1, hk.2⟩))).2.1 (Kd.V_F (Kd.V_mono (ok' := (fun k_ => ((P0_9_ k_ ∨ P0_10_ k_ ∨ P0_11_ k_) ∨ w.heap.size ≤ k_) ∧ k_ ≠ gb300)) (HO_301011.out) (fun k_ hk => ⟨hk.1, hk.2⟩))))) (Reps.none _ _))))); intro v307 w31 ho32 hb hg_ hnew_; clear hg_ hnew_; (first | rw [← Ny306.out] at ho32 | (simp only [Int.reduceToNat] at ho32; rw [← Ny306.out] at ho32)); have n0_ := aS (Kd.V_elder' (by (with_reducible repeat (first | apply Kd.V_alloc | apply Kd.V_drewN | apply Kd.V_drew)); exact HO_301009.out) (Kd.N_base ho32) hb); have n1_ := aS (Kd.V_elder' (by (with_reducible repeat (first | apply Kd.V_alloc | apply Kd.V_drewN | apply Kd.V_drew)); exact HO_301010.out) (Kd.N_base ho32) hb); have n2_ := aS (Kd.V_elder' (by (with_reducible repeat (first | apply Kd.V_alloc | apply Kd.V_drewN | apply Kd.V_drew)); exact HO_301011.out) (Kd.N_base ho32) hb); have n3_ := aS (Kd.N_lower ho32 (below_size (wS1 HB.out GE300.out))); have n4_ := aS (blk_below (bU BK300.out) hb); have n5_ := aS (below_step (wS1 HB.out GE300.out) hb); clear HO_301009 HO_301010 HO_301011 BK300 HB; revert n0_ n1_ n2_ n3_ n4_ n5_; intro HO_301009 HO_301010 HO_301011 HO308 BK300 HB; clear hb ho32; obtain ⟨Ao33, co33, eo33⟩ := Kd.N_slice HO308.out; subst eo33) | (go_at_call 95; (with_reducible refine (slices_Concat_impl_Record.calls kj24 _ _ y306 t309 _ ?side1 ?side2 A29.out).mono ?_); (case side1 => exact cU ((Kd.N_reads' HO308.out).2.2)); (case side2 => exact (Kd.N_reads' HO308.out).2.1); rintro e w34 ⟨v310, rfl, ho0, hb⟩; have n0_ := aS (Kd.V_elder' (by (with_reducible repeat (first | apply Kd.V_alloc | apply Kd.V_drewN | apply Kd.V_drew)); exact HO_301009.out) (Kd.R_base ho0) hb); have n1_ := aS (Kd.V_elder' (by (with_reducible repeat (first | apply Kd.V_alloc | apply Kd.V_drewN | apply Kd.V_drew)); exact HO_301010.out) (Kd.R_base ho0) hb); have n2_ := aS (Kd.V_elder' (by (with_reducible repeat (first | apply Kd.V_alloc | apply Kd.V_drewN | apply Kd.V_drew)); exact HO_301011.out) (Kd.R_base ho0) hb); have n3_ := aS (Kd.N_elder' (by (with_reducible repeat (first | apply Kd.N_alloc | apply Kd.N_drewN | apply Kd.N_drew)); exact HO308.out) (Kd.R_base ho0) hb); have n4_ := aS (Kd.R_lower (Kd.R_newM (M := fun k_ => (w.heap.size ≤ k_)) ho0 (below_size (wS1 HB.out GE300.out)) (fun k_ h_ => h_)) (below_size (wS1 HB.out GE300.out))); have n5_ := aS (blk_below (bU BK300.out) hb); have n6_ := aS (below_step (wS1 HB.out GE300.out) hb); clear HO_301009 HO_301010 HO_301011 HO308 BK300 HB; revert n0_ n1_ n2_ n3_ n4_ n5_ n6_; intro HO_301009 HO_301010 HO_301011 HO308 HO311 BK300 HB; clear hb; (try clear ho0); obtain ⟨Ao35, co35, eo35⟩ := Kd.R_slice HO311.out; subst eo35)); try go_wp2_with (first | ((with_reducible refine gate_dst (N := 47) rfl ?_); refine Kd.N_lit (Kd.slice 33 k33) _ 46 ?hg (N' := 47) ?hd (xs := ([l0_9, l0_10, l0_11] : List (List (S33)))) (inner := [.slice A0_9 l0_9.length c0_9, .slice A0_10 l0_10.length c0_10, .slice A0_11 l0_11.length c0_11]) (ok := (fun k_ => ((P0_9_ k_ ∨ P0_10_ k_ ∨ P0_11_ k_) ∨ w.heap.size ≤ k_) ∧ k_ ≠ gb300)) (okp := (fun k_ => ((P0_9_ k_ ∨ P0_10_ k_ ∨ P0_11_ k_) ∨ w.heap.size ≤ k_) ∧ k_ ≠ gb300)) ?hr ?hp (fun _ hk => hk) ((show ∀ k_, wc.heap.size ≤ k_ → (fun k_ => ((P0_9_ k_ ∨ P0_10_ k_ ∨ P0_11_ k_) ∨ w.heap.size ≤ k_) ∧ k_ ≠ gb300) k_ from fun k_ hk => ⟨(.inr (Nat.le_trans (below_size (wS1 HB.out GE300.out)) hk)), Kd.freshB (g := gb300) (o := .cells #[.int .i64 a0_0, .bool a0_1, .bool a0_2, .bool a0_3, .bool a0_4, .bool a0_5, .int .i64 a0_6, .string a0_7, .int .i64 a0_8, .slice A0_9 l0_9.length c0_9, .slice A0_10 l0_10.length c0_10, .slice A0_11 l0_11.length c0_11] 48 (0, 0)) (bU BK300.out) k_ hk⟩) _ (Nat.le_refl _)) (Below.refl _ _) (Nat.le_refl _) (by simp) ?_; (case hd => rfl); (case hg => rfl); (case hr => first | (go_simp; done) | (go_simp; rfl)); (case hp => exact (Reps.one (show Kd.FK (Kd.slice 33 k33) _ _ l0_9 [.slice A0_9 l0_9.length c0_9] from (Kd.FK_slice_mk (Kd.V_reads' (Kd.V_mono (ok' := (fun k_ => ((P0_9_ k_ ∨ P0_10_ k_ ∨ P0_11_ k_) ∨ w.heap.size ≤ k_) ∧ k_ ≠ gb300)) (HO_301009.out) (fun k_ hk => ⟨hk.1, hk.2⟩))).2.1 (Kd.V_F (Kd.V_mono (ok' := (fun k_ => ((P0_9_ k_ ∨ P0_10_ k_ ∨ P0_11_ k_) ∨ w.heap.size ≤ k_) ∧ k_ ≠ gb300)) (HO_301009.out) (fun k_ hk => ⟨hk.1, hk.2⟩))))) (Reps.one (show Kd.FK (Kd.slice 33 k33) _ _ l0_10 [.slice A0_10 l0_10.length c0_10] from (Kd.FK_slice_mk (Kd.V_reads' (Kd.V_mono (ok' := (fun k_ => ((P0_9_ k_ ∨ P0_10_ k_ ∨ P0_11_ k_) ∨ w.heap.size ≤ k_) ∧ k_ ≠ gb300)) (HO_301010.out) (fun k_ hk => ⟨hk.1, hk.2⟩))).2.1 (Kd.V_F (Kd.V_mono (ok' := (fun k_ => ((P0_9_ k_ ∨ P0_10_ k_ ∨ P0_11_ k_) ∨ w.heap.size ≤ k_) ∧ k_ ≠ gb300)) (HO_301010.out) (fun k_ hk => ⟨hk.1, hk.2⟩))))) (Reps.one (show Kd.FK (Kd.slice 33 k33) _ _ l0_11 [.slice A0_11 l0_11.length c0_11] from (Kd.FK_slice_mk (Kd.V_reads' (Kd.V_mono (ok' := (fun k_ => ((P0_9_ k_ ∨ P0_10_ k_ ∨ P0_11_ k_) ∨ w.heap.size ≤ k_) ∧ k_ ≠ gb300)) (HO_301011.out) (fun k_ hk => ⟨hk.1, hk.2⟩))).2.1 (Kd.V_F (Kd.V_mono (ok' := (fun k_ => ((P0_9_ k_ ∨ P0_10_ k_ ∨ P0_11_ k_) ∨ w.heap.size ≤ k_) ∧ k_ ≠ gb300)) (HO_301011.out) (fun k_ hk => ⟨hk.1, hk.2⟩))))) (Reps.none _ _))))); intro v307 w31 ho32 hb hg_ hnew_; clear hg_ hnew_; (first | rw [← Ny306.out] at ho32 | (simp only [Int.reduceToNat] at ho32; rw [← Ny306.out] at ho32)); have n0_ := aS (Kd.V_elder' (by (with_reducible repeat (first | apply Kd.V_alloc | apply Kd.V_drewN | apply Kd.V_drew)); exact HO_301009.out) (Kd.N_base ho32) hb); have n1_ := aS (Kd.V_elder' (by (with_reducible repeat (first | apply Kd.V_alloc | apply Kd.V_drewN | apply Kd.V_drew)); exact HO_301010.out) (Kd.N_base ho32) hb); have n2_ := aS (Kd.V_elder' (by (with_reducible repeat (first | apply Kd.V_alloc | apply Kd.V_drewN | apply Kd.V_drew)); exact HO_301011.out) (Kd.N_base ho32) hb); have n3_ := aS (Kd.N_lower ho32 (below_size (wS1 HB.out GE300.out))); have n4_ := aS (blk_below (bU BK300.out) hb); have n5_ := aS (below_step (wS1 HB.out GE300.out) hb); clear HO_301009 HO_301010 HO_301011 BK300 HB; revert n0_ n1_ n2_ n3_ n4_ n5_; intro HO_301009 HO_301010 HO_301011 HO308 BK300 HB; clear hb ho32; obtain ⟨Ao33, co33, eo33⟩ := Kd.N_slice HO308.out; subst eo33) | (go_at_call 95; (with_reducible refine (slices_Concat_impl_Record.calls kj24 _ _ y306 t309 _ ?side1 ?side2 A29.out).mono ?_); (case side1 => exact cU ((Kd.N_reads' HO308.out).2.2)); (case side2 => exact (Kd.N_reads' HO308.out).2.1); rintro e w34 ⟨v310, rfl, ho0, hb⟩; have n0_ := aS (Kd.V_elder' (by (with_reducible repeat (first | apply Kd.V_alloc | apply Kd.V_drewN | apply Kd.V_drew)); exact HO_301009.out) (Kd.R_base ho0) hb); have n1_ := aS (Kd.V_elder' (by (with_reducible repeat (first | apply Kd.V_alloc | apply Kd.V_drewN | apply Kd.V_drew)); exact HO_301010.out) (Kd.R_base ho0) hb); have n2_ := aS (Kd.V_elder' (by (with_reducible repeat (first | apply Kd.V_alloc | apply Kd.V_drewN | apply Kd.V_drew)); exact HO_301011.out) (Kd.R_base ho0) hb); have n3_ := aS (Kd.N_elder' (by (with_reducible repeat (first | apply Kd.N_alloc | apply Kd.N_drewN | apply Kd.N_drew)); exact HO308.out) (Kd.R_base ho0) hb); have n4_ := aS (Kd.R_lower (Kd.R_newM (M := fun k_ => (w.heap.size ≤ k_)) ho0 (below_size (wS1 HB.out GE300.out)) (fun k_ h_ => h_)) (below_size (wS1 HB.out GE300.out))); have n5_ := aS (blk_below (bU BK300.out) hb); have n6_ := aS (below_step (wS1 HB.out GE300.out) hb); clear HO_301009 HO_301010 HO_301011 HO308 BK300 HB; revert n0_ n1_ n2_ n3_ n4_ n5_ n6_; intro HO_301009 HO_301010 HO_301011 HO308 HO311 BK300 HB; clear hb; (try clear ho0); obtain ⟨Ao35, co35, eo35⟩ := Kd.R_slice HO311.out; subst eo35)))
               go_loopg [3, 50] kj24 (fun kq v3 v50 w' => ∃ (x3_4 : ByteArray) (x50_4 : Int), v3 = .string x3_4 ∧ v50 = .int .i64 x50_4 ∧ Aside0 (impl_MsgText.l0 kq x3_4 t309 (t309.length : Int) x50_4 = some r) ∧ Aside0 (kq ≤ kj24) ∧ Aside0 (Kd.R k33 33 w' w.heap.size (fun k_ => (w.heap.size ≤ k_)) (.slice Ao35 t309.length co35) t309) ∧ Aside0 (Kd.V k33 33 w' w.heap.size (fun k_ => ((P0_9_ k_ ∨ P0_10_ k_ ∨ P0_11_ k_) ∨ w.heap.size ≤ k_) ∧ some k_ ≠ ((.slice Ao35 t309.length co35) : Value).ownBlock ∧ k_ ≠ gb300) (.slice A0_9 l0_9.length c0_9) l0_9) ∧ Aside0 (Kd.V k33 33 w' w.heap.size (fun k_ => ((P0_9_ k_ ∨ P0_10_ k_ ∨ P0_11_ k_) ∨ w.heap.size ≤ k_) ∧ some k_ ≠ ((.slice Ao35 t309.length co35) : Value).ownBlock ∧ k_ ≠ gb300) (.slice A0_10 l0_10.length c0_10) l0_10) ∧ Aside0 (Kd.V k33 33 w' w.heap.size (fun k_ => ((P0_9_ k_ ∨ P0_10_ k_ ∨ P0_11_ k_) ∨ w.heap.size ≤ k_) ∧ some k_ ≠ ((.slice Ao35 t309.length co35) : Value).ownBlock ∧ k_ ≠ gb300) (.slice A0_11 l0_11.length c0_11) l0_11) ∧ Aside0 (w'.heap[gb300]? = some (.cells #[.int .i64 a0_0, .bool a0_1, .bool a0_2, .bool a0_3, .bool a0_4, .bool a0_5, .int .i64 a0_6, .string a0_7, .int .i64 a0_8, (.slice A0_9 l0_9.length c0_9), (.slice A0_10 l0_10.length c0_10), (.slice A0_11 l0_11.length c0_11)] 48 (0, 0))) ∧ Aside0 (Below w.heap.size w w'))
               case atStart => exact ⟨(x3_24), (0), jB, jB, H', ⟨Nat.le_refl _⟩, ⟨by (with_reducible repeat (first | apply Kd.R_alloc | apply Kd.R_drewN | apply Kd.R_drew)); exact Kd.R_mono HO311.out (fun _ hk => hk.1)⟩, ⟨by (with_reducible repeat (first | apply Kd.V_alloc | apply Kd.V_drewN | apply Kd.V_drew)); exact Kd.V_mono HO_301009.out (fun _ hk => ⟨hk.1.1.1, ⟨hk.2, hk.1.1.2⟩⟩)⟩, ⟨by (with_reducible repeat (first | apply Kd.V_alloc | apply Kd.V_drewN | apply Kd.V_drew)); exact Kd.V_mono HO_301010.out (fun _ hk => ⟨hk.1.1.1, ⟨hk.2, hk.1.1.2⟩⟩)⟩, ⟨by (with_reducible repeat (first | apply Kd.V_alloc | apply Kd.V_drewN | apply Kd.V_drew)); exact Kd.V_mono HO_301011.out (fun _ hk => ⟨hk.1.1.1, ⟨hk.2, hk.1.1.2⟩⟩)⟩, ⟨by (with_reducible repeat (first | refine blk_drewN ?_ _ | refine blk_drew ?_ | refine blk_alloc ?_ _)); exact BK300.out⟩, ⟨by exact wS1 HB.out GE300.out⟩⟩
               case round =>
                clear H'
                try clear c1
                try clear c2
                try clear p2
                try clear c3
                try clear c4
                try clear c9
                try clear c11
                try clear c11b0
                try clear c11b1
                try clear c11b2
                try clear c13
                try clear c13b0
                try clear c13b1
                try clear c13b2
                try clear c14
                try clear c14b0
                try clear c14b1
                try clear c14b2
                try clear c16
                try clear c16b0
                try clear c16b1
                try clear c16b2
                try clear c17
                try clear c17b0
                try clear c17b1
                try clear c17b2
                try clear c19
                try clear c19b0
                try clear c19b1
                try clear c19b2
                try clear c20
                try clear c20b0
                try clear c20b1
                try clear c20b2
                try clear c23
                try clear c24
                try clear c24b0
                try clear c24b1
                try clear c24b2
                try clear c27
                try clear c28
                try clear c28b0
                try clear c28b1
                try clear c28b2
                try clear hcz22
                try clear hcz22_10
                try clear hcz22_11
                try clear hcz22_2
                try clear hcz22_3
                try clear hcz22_4
                try clear hcz22_5
                try clear hcz22_6
                try clear hcz22_7
                try clear hcz22_8
                try clear hcz22_9
                try clear hcz26
                try clear hcz26_10
                try clear hcz26_11
                try clear hcz26_2
                try clear hcz26_3
                try clear hcz26_4
                try clear hcz26_5
                try clear hcz26_6
                try clear hcz26_7
                try clear hcz26_8
                try clear hcz26_9
                try clear hcz30
                try clear hcz30_10
                try clear hcz30_11
                try clear hcz30_2
                try clear hcz30_3
                try clear hcz30_4
                try clear hcz30_5
                try clear hcz30_6
                try clear hcz30_7
                try clear hcz30_8
                try clear hcz30_9
                try clear hcz6
                try clear hcz6_10
                try clear hcz6_11
                try clear hcz6_2
                try clear hcz6_3
                try clear hcz6_4
                try clear hcz6_5
                try clear hcz6_6
                try clear hcz6_7
                try clear hcz6_8
                try clear hcz6_9
                try clear hcz8
                try clear hcz8_10
                try clear hcz8_11
                try clear hcz8_2
                try clear hcz8_3
                try clear hcz8_4
                try clear hcz8_5
                try clear hcz8_6
                try clear hcz8_7
                try clear hcz8_8
                try clear hcz8_9
                try clear hfz22_10
                try clear hfz22_11
                try clear hfz22_2
                try clear hfz22_3
                try clear hfz22_4
                try clear hfz22_5
                try clear hfz22_6
                try clear hfz22_7
                try clear hfz22_8
                try clear hfz22_9
                try clear hfz26_10
                try clear hfz26_11
                try clear hfz26_2
                try clear hfz26_3
                try clear hfz26_4
                try clear hfz26_5
                try clear hfz26_6
                try clear hfz26_7
                try clear hfz26_8
                try clear hfz26_9
                try clear hfz30_10
                try clear hfz30_11
                try clear hfz30_2
                try clear hfz30_3
                try clear hfz30_4
                try clear hfz30_5
                try clear hfz30_6
                try clear hfz30_7
                try clear hfz30_8
                try clear hfz30_9
                try clear hfz6_10
                try clear hfz6_11
                try clear hfz6_2
                try clear hfz6_3
                try clear hfz6_4
                try clear hfz6_5
                try clear hfz6_6
                try clear hfz6_7
                try clear hfz6_8
                try clear hfz6_9
                try clear hfz8_10
                try clear hfz8_11
                try clear hfz8_2
                try clear hfz8_3
                try clear hfz8_4
                try clear hfz8_5
                try clear hfz8_6
                try clear hfz8_7
                try clear hfz8_8
                try clear hfz8_9
                try clear p2
                obtain ⟨x3_4, x50_4, rfl, rfl, HA, HK4, HO_48, HO_301009, HO_301010, HO_301011, BK300, HB⟩ := hrel
                cases gk with
                | zero => exact absurd HA.out (by simp [impl_MsgText.l0])
                | succ k4 =>
                 have H := HA.out
                 clear HA
                 simp only [impl_MsgText.l0] at H
                 by_cases c36 : x50_4 < (t309.length : Int)
                 ·rw [if_pos c36] at H
                  have c36b0 : decide (x50_4 < (t309.length : Int)) = true := decide_eq_true c36
                  clear c36
                  by_cases c37 : 0 ≤ x50_4
                  ·rw [if_pos c37] at H
                   have c37b0 : decide (0 ≤ x50_4) = true := decide_eq_true c37
                   clear c37
                   by_cases c38 : x50_4 < (t309.length : Int)
                   ·rw [if_pos c38] at H
                    have c38b0 : decide (x50_4 < (t309.length : Int)) = true := decide_eq_true c38
                    clear c38
                    replace H := Option.bind_eq_some_iff.mp H
                    obtain ⟨t314, A39, H⟩ := H
                    try dsimp only at H
                    replace A39 := aS A39
                    by_cases c40 : 2 + t314.size ≤ 9223372036854775807
                    ·rw [if_pos c40] at H
                     have c40b0 := eq_true c40
                     have c40b1 : decide (2 + t314.size ≤ 9223372036854775807) = true := decide_eq_true c40
                     try have c40b2 : (9223372036854775807 < 2 + t314.size) = False := eq_false (Nat.not_lt.2 c40)
                     by_cases c41 : x3_4.size + ((⟨#[59, 32]⟩ : ByteArray) ++ t314).size ≤ 9223372036854775807
                     ·rw [if_pos c41] at H
                      have c41b0 := eq_true c41
                      have c41b1 : decide (x3_4.size + ((⟨#[59, 32]⟩ : ByteArray) ++ t314).size ≤ 9223372036854775807) = true := decide_eq_true c41
                      try have c41b2 : (9223372036854775807 < x3_4.size + ((⟨#[59, 32]⟩ : ByteArray) ++ t314).size) = False := eq_false (Nat.not_lt.2 c41)
                      have H' := aS H
                      clear H
                      have p312 : 0 ≤ (x50_4 : Int) := of_decide_eq_true jC
                      have q312 : x50_4 < (t309.length : Int) := of_decide_eq_true jC
                      obtain ⟨ad312, e312, hx312_0, hx312_1, hx312_2, hx312_3, hx312_4, hx312_5⟩ := at_T33 (Kd.R_reads' HO_48.out).2.2 x50_4 p312 q312
                      cases e312
                      replace p312 := eq_true p312
                      replace q312 := eq_true q312
                      go_wp2_with (first | ((with_reducible refine gate_dst (N := 5) rfl ?_); refine box_event ?hg (N := 5) ?hd (cs := #[.string (⟨#[]⟩ : ByteArray), .int .i64 0, .int .i64 0, .int .i64 0, .string (⟨#[]⟩ : ByteArray), .string (⟨#[]⟩ : ByteArray)]) (t := 33) ?hr ?_; (case hd => rfl); (case hg => rfl); (case hr => first | (go_simp; done) | (go_simp; rfl)); intro gb313 hg w42 hbox hb; have n0_ := aS (Kd.R_below (Kd.R_elderB (rU HO_48.out) gb313 (Nat.le_of_eq hg.symm)) hb); have n1_ := aS (Kd.V_below (Kd.V_elderB (by (with_reducible repeat (first | apply Kd.V_alloc | apply Kd.V_drewN | apply Kd.V_drew)); exact HO_301009.out) gb313 (Nat.le_of_eq hg.symm)) hb); have n2_ := aS (Kd.V_below (Kd.V_elderB (by (with_reducible repeat (first | apply Kd.V_alloc | apply Kd.V_drewN | apply Kd.V_drew)); exact HO_301010.out) gb313 (Nat.le_of_eq hg.symm)) hb); have n3_ := aS (Kd.V_below (Kd.V_elderB (by (with_reducible repeat (first | apply Kd.V_alloc | apply Kd.V_drewN | apply Kd.V_drew)); exact HO_301011.out) gb313 (Nat.le_of_eq hg.symm)) hb); have n4_ := aS (blk_below (bU BK300.out) hb); have n5_ := aS (below_step (wS1 HB.out GE300.out) hb); have n6_ := aS (hbox); have n7_ := aS ((by rw [hg]; exact (below_size (wS1 HB.out GE300.out)) : w.heap.size ≤ gb313)); have n8_ := aS ((by rw [hg]; exact (below_size (wS1 HB.out GE300.out)) : w.heap.size ≤ gb313)); have n9_ := aS ((by rw [hg]; exact Nat.ne_of_lt (blk_lt (bU BK300.out)) : gb300 ≠ gb313)); have n10_ := aS ((by rw [hg]; exact Nat.ne_of_gt (blk_lt (bU BK300.out)) : gb313 ≠ gb300)); clear HO_48 HO_301009 HO_301010 HO_301011 BK300 HB; revert n0_ n1_ n2_ n3_ n4_ n5_ n6_ n7_ n8_ n9_ n10_; intro HO_48 HO_301009 HO_301010 HO_301011 BK300 HB BK313 GW313 GE313 NB300_313 NB313_300; clear hb hbox hg; have hnb43 := NB313_300.out; have hnc43 := NB300_313.out; have hcz44 := cells6f BK313.out) | (go_at_call 24; (with_reducible refine (impl_RecordText.calls k4 ((rd_T33 t309 x50_4).f0) ((rd_T33 t309 x50_4).f1) ((rd_T33 t309 x50_4).f2) ((rd_T33 t309 x50_4).f3) ((rd_T33 t309 x50_4).f4) ((rd_T33 t309 x50_4).f5) t314 _ A39.out).mono ?_); rintro e w45 ⟨rfl, hb⟩; have n0_ := aS (Kd.R_below (by (with_reducible repeat (first | apply Kd.R_alloc | apply Kd.R_drewN | apply Kd.R_drew)); exact (Kd.R_mono (Kd.R_far (p := ⟨gb313, 5, none⟩) (Kd.R_far (p := ⟨gb313, 4, none⟩) (Kd.R_far (p := ⟨gb313, 3, none⟩) (Kd.R_far (p := ⟨gb313, 2, none⟩) (Kd.R_far (p := ⟨gb313, 1, none⟩) (Kd.R_far (p := ⟨gb313, 0, none⟩) (Kd.R_mono HO_48.out (fun k_ hk => (⟨hk, hk.2⟩ : _ ∧ k_ ≠ gb313))) (fun _ hk => hk.2) (.string ((rd_T33 t309 x50_4).f0))) (fun _ hk => hk.2) (.int .i64 ((rd_T33 t309 x50_4).f1))) (fun _ hk => hk.2) (.int .i64 ((rd_T33 t309 x50_4).f2))) (fun _ hk => hk.2) (.int .i64 ((rd_T33 t309 x50_4).f3))) (fun _ hk => hk.2) (.string ((rd_T33 t309 x50_4).f4))) (fun _ hk => hk.2) (.string ((rd_T33 t309 x50_4).f5))) (fun _ h_ => h_.1))) hb); have n1_ := aS (Kd.V_below (by (with_reducible repeat (first | apply Kd.V_alloc | apply Kd.V_drewN | apply Kd.V_drew)); exact (Kd.V_mono (Kd.V_far (p := ⟨gb313, 5, none⟩) (Kd.V_far (p := ⟨gb313, 4, none⟩) (Kd.V_far (p := ⟨gb313, 3, none⟩) (Kd.V_far (p := ⟨gb313, 2, none⟩) (Kd.V_far (p := ⟨gb313, 1, none⟩) (Kd.V_far (p := ⟨gb313, 0, none⟩) (Kd.V_mono HO_301009.out (fun k_ hk => (⟨hk, hk.2⟩ : _ ∧ k_ ≠ gb313))) (fun _ hk => hk.2) (.string ((rd_T33 t309 x50_4).f0))) (fun _ hk => hk.2) (.int .i64 ((rd_T33 t309 x50_4).f1))) (fun _ hk => hk.2) (.int .i64 ((rd_T33 t309 x50_4).f2))) (fun _ hk => hk.2) (.int .i64 ((rd_T33 t309 x50_4).f3))) (fun _ hk => hk.2) (.string ((rd_T33 t309 x50_4).f4))) (fun _ hk => hk.2) (.string ((rd_T33 t309 x50_4).f5))) (fun _ h_ => h_.1))) hb); have n2_ := aS (Kd.V_below (by (with_reducible repeat (first | apply Kd.V_alloc | apply Kd.V_drewN | apply Kd.V_drew)); exact (Kd.V_mono (Kd.V_far (p := ⟨gb313, 5, none⟩) (Kd.V_far (p := ⟨gb313, 4, none⟩) (Kd.V_far (p := ⟨gb313, 3, none⟩) (Kd.V_far (p := ⟨gb313, 2, none⟩) (Kd.V_far (p := ⟨gb313, 1, none⟩) (Kd.V_far (p := ⟨gb313, 0, none⟩) (Kd.V_mono HO_301010.out (fun k_ hk => (⟨hk, hk.2⟩ : _ ∧ k_ ≠ gb313))) (fun _ hk => hk.2) (.string ((rd_T33 t309 x50_4).f0))) (fun _ hk => hk.2) (.int .i64 ((rd_T33 t309 x50_4).f1))) (fun _ hk => hk.2) (.int .i64 ((rd_T33 t309 x50_4).f2))) (fun _ hk => hk.2) (.int .i64 ((rd_T33 t309 x50_4).f3))) (fun _ hk => hk.2) (.string ((rd_T33 t309 x50_4).f4))) (fun _ hk => hk.2) (.string ((rd_T33 t309 x50_4).f5))) (fun _ h_ => h_.1))) hb); have n3_ := aS (Kd.V_below (by (with_reducible repeat (first | apply Kd.V_alloc | apply Kd.V_drewN | apply Kd.V_drew)); exact (Kd.V_mono (Kd.V_far (p := ⟨gb313, 5, none⟩) (Kd.V_far (p := ⟨gb313, 4, none⟩) (Kd.V_far (p := ⟨gb313, 3, none⟩) (Kd.V_far (p := ⟨gb313, 2, none⟩) (Kd.V_far (p := ⟨gb313, 1, none⟩) (Kd.V_far (p := ⟨gb313, 0, none⟩) (Kd.V_mono HO_301011.out (fun k_ hk => (⟨hk, hk.2⟩ : _ ∧ k_ ≠ gb313))) (fun _ hk => hk.2) (.string ((rd_T33 t309 x50_4).f0))) (fun _ hk => hk.2) (.int .i64 ((rd_T33 t309 x50_4).f1))) (fun _ hk => hk.2) (.int .i64 ((rd_T33 t309 x50_4).f2))) (fun _ hk => hk.2) (.int .i64 ((rd_T33 t309 x50_4).f3))) (fun _ hk => hk.2) (.string ((rd_T33 t309 x50_4).f4))) (fun _ hk => hk.2) (.string ((rd_T33 t309 x50_4).f5))) (fun _ h_ => h_.1))) hb); have n4_ := aS (blk_below (g := gb300) (o := .cells #[.int .i64 a0_0, .bool a0_1, .bool a0_2, .bool a0_3, .bool a0_4, .bool a0_5, .int .i64 a0_6, .string a0_7, .int .i64 a0_8, .slice A0_9 l0_9.length c0_9, .slice A0_10 l0_10.length c0_10, .slice A0_11 l0_11.length c0_11] 48 (0, 0)) (by (iterate 6 ((with_reducible repeat (first | refine blk_drewN ?_ _ | refine blk_drew ?_ | refine blk_alloc ?_ _)); refine blk_far ?_ NB300_313.out _)); (with_reducible repeat (first | refine blk_drewN ?_ _ | refine blk_drew ?_ | refine blk_alloc ?_ _)); exact BK300.out) hb); have n5_ := aS (blk_below (g := gb313) (o := .cells #[.string ((rd_T33 t309 x50_4).f0), .int .i64 ((rd_T33 t309 x50_4).f1), .int .i64 ((rd_T33 t309 x50_4).f2), .int .i64 ((rd_T33 t309 x50_4).f3), .string ((rd_T33 t309 x50_4).f4), .string ((rd_T33 t309 x50_4).f5)] 33 (0, 0)) (by (with_reducible repeat (first | refine blk_drewN ?_ _ | refine blk_drew ?_ | refine blk_alloc ?_ _)); refine blk_put_6 (.string (⟨#[]⟩ : ByteArray)) (.int .i64 0) (.int .i64 0) (.int .i64 0) (.string (⟨#[]⟩ : ByteArray)) (.string (⟨#[]⟩ : ByteArray)) ?_; (with_reducible repeat (first | refine blk_drewN ?_ _ | refine blk_drew ?_ | refine blk_alloc ?_ _)); exact BK313.out) hb); have n6_ := aS (below_step (wS2 HB.out GE300.out GE313.out) hb); clear HO_48 HO_301009 HO_301010 HO_301011 BK300 BK313 HB; revert n0_ n1_ n2_ n3_ n4_ n5_ n6_; intro HO_48 HO_301009 HO_301010 HO_301011 BK300 BK313 HB; clear hb))
                      repeat (go_quiet (first | ((with_reducible refine gate_dst (N := 5) rfl ?_); refine box_event ?hg (N := 5) ?hd (cs := #[.string (⟨#[]⟩ : ByteArray), .int .i64 0, .int .i64 0, .int .i64 0, .string (⟨#[]⟩ : ByteArray), .string (⟨#[]⟩ : ByteArray)]) (t := 33) ?hr ?_; (case hd => rfl); (case hg => rfl); (case hr => first | (go_simp; done) | (go_simp; rfl)); intro gb313 hg w42 hbox hb; have n0_ := aS (Kd.R_below (Kd.R_elderB (rU HO_48.out) gb313 (Nat.le_of_eq hg.symm)) hb); have n1_ := aS (Kd.V_below (Kd.V_elderB (by (with_reducible repeat (first | apply Kd.V_alloc | apply Kd.V_drewN | apply Kd.V_drew)); exact HO_301009.out) gb313 (Nat.le_of_eq hg.symm)) hb); have n2_ := aS (Kd.V_below (Kd.V_elderB (by (with_reducible repeat (first | apply Kd.V_alloc | apply Kd.V_drewN | apply Kd.V_drew)); exact HO_301010.out) gb313 (Nat.le_of_eq hg.symm)) hb); have n3_ := aS (Kd.V_below (Kd.V_elderB (by (with_reducible repeat (first | apply Kd.V_alloc | apply Kd.V_drewN | apply Kd.V_drew)); exact HO_301011.out) gb313 (Nat.le_of_eq hg.symm)) hb); have n4_ := aS (blk_below (bU BK300.out) hb); have n5_ := aS (below_step (wS1 HB.out GE300.out) hb); have n6_ := aS (hbox); have n7_ := aS ((by rw [hg]; exact (below_size (wS1 HB.out GE300.out)) : w.heap.size ≤ gb313)); have n8_ := aS ((by rw [hg]; exact (below_size (wS1 HB.out GE300.out)) : w.heap.size ≤ gb313)); have n9_ := aS ((by rw [hg]; exact Nat.ne_of_lt (blk_lt (bU BK300.out)) : gb300 ≠ gb313)); have n10_ := aS ((by rw [hg]; exact Nat.ne_of_gt (blk_lt (bU BK300.out)) : gb313 ≠ gb300)); clear HO_48 HO_301009 HO_301010 HO_301011 BK300 HB; revert n0_ n1_ n2_ n3_ n4_ n5_ n6_ n7_ n8_ n9_ n10_; intro HO_48 HO_301009 HO_301010 HO_301011 BK300 HB BK313 GW313 GE313 NB300_313 NB313_300; clear hb hbox hg; have hnb43 := NB313_300.out; have hnc43 := NB300_313.out; have hcz44 := cells6f BK313.out) | (go_at_call 24; (with_reducible refine (impl_RecordText.calls k4 ((rd_T33 t309 x50_4).f0) ((rd_T33 t309 x50_4).f1) ((rd_T33 t309 x50_4).f2) ((rd_T33 t309 x50_4).f3) ((rd_T33 t309 x50_4).f4) ((rd_T33 t309 x50_4).f5) t314 _ A39.out).mono ?_); rintro e w45 ⟨rfl, hb⟩; have n0_ := aS (Kd.R_below (by (with_reducible repeat (first | apply Kd.R_alloc | apply Kd.R_drewN | apply Kd.R_drew)); exact (Kd.R_mono (Kd.R_far (p := ⟨gb313, 5, none⟩) (Kd.R_far (p := ⟨gb313, 4, none⟩) (Kd.R_far (p := ⟨gb313, 3, none⟩) (Kd.R_far (p := ⟨gb313, 2, none⟩) (Kd.R_far (p := ⟨gb313, 1, none⟩) (Kd.R_far (p := ⟨gb313, 0, none⟩) (Kd.R_mono HO_48.out (fun k_ hk => (⟨hk, hk.2⟩ : _ ∧ k_ ≠ gb313))) (fun _ hk => hk.2) (.string ((rd_T33 t309 x50_4).f0))) (fun _ hk => hk.2) (.int .i64 ((rd_T33 t309 x50_4).f1))) (fun _ hk => hk.2) (.int .i64 ((rd_T33 t309 x50_4).f2))) (fun _ hk => hk.2) (.int .i64 ((rd_T33 t309 x50_4).f3))) (fun _ hk => hk.2) (.string ((rd_T33 t309 x50_4).f4))) (fun _ hk => hk.2) (.string ((rd_T33 t309 x50_4).f5))) (fun _ h_ => h_.1))) hb); have n1_ := aS (Kd.V_below (by (with_reducible repeat (first | apply Kd.V_alloc | apply Kd.V_drewN | apply Kd.V_drew)); exact (Kd.V_mono (Kd.V_far (p := ⟨gb313, 5, none⟩) (Kd.V_far (p := ⟨gb313, 4, none⟩) (Kd.V_far (p := ⟨gb313, 3, none⟩) (Kd.V_far (p := ⟨gb313, 2, none⟩) (Kd.V_far (p := ⟨gb313, 1, none⟩) (Kd.V_far (p := ⟨gb313, 0, none⟩) (Kd.V_mono HO_301009.out (fun k_ hk => (⟨hk, hk.2⟩ : _ ∧ k_ ≠ gb313))) (fun _ hk => hk.2) (.string ((rd_T33 t309 x50_4).f0))) (fun _ hk => hk.2) (.int .i64 ((rd_T33 t309 x50_4).f1))) (fun _ hk => hk.2) (.int .i64 ((rd_T33 t309 x50_4).f2))) (fun _ hk => hk.2) (.int .i64 ((rd_T33 t309 x50_4).f3))) (fun _ hk => hk.2) (.string ((rd_T33 t309 x50_4).f4))) (fun _ hk => hk.2) (.string ((rd_T33 t309 x50_4).f5))) (fun _ h_ => h_.1))) hb); have n2_ := aS (Kd.V_below (by (with_reducible repeat (first | apply Kd.V_alloc | apply Kd.V_drewN | apply Kd.V_drew)); exact (Kd.V_mono (Kd.V_far (p := ⟨gb313, 5, none⟩) (Kd.V_far (p := ⟨gb313, 4, none⟩) (Kd.V_far (p := ⟨gb313, 3, none⟩) (Kd.V_far (p := ⟨gb313, 2, none⟩) (Kd.V_far (p := ⟨gb313, 1, none⟩) (Kd.V_far (p := ⟨gb313, 0, none⟩) (Kd.V_mono HO_301010.out (fun k_ hk => (⟨hk, hk.2⟩ : _ ∧ k_ ≠ gb313))) (fun _ hk => hk.2) (.string ((rd_T33 t309 x50_4).f0))) (fun _ hk => hk.2) (.int .i64 ((rd_T33 t309 x50_4).f1))) (fun _ hk => hk.2) (.int .i64 ((rd_T33 t309 x50_4).f2))) (fun _ hk => hk.2) (.int .i64 ((rd_T33 t309 x50_4).f3))) (fun _ hk => hk.2) (.string ((rd_T33 t309 x50_4).f4))) (fun _ hk => hk.2) (.string ((rd_T33 t309 x50_4).f5))) (fun _ h_ => h_.1))) hb); have n3_ := aS (Kd.V_below (by (with_reducible repeat (first | apply Kd.V_alloc | apply Kd.V_drewN | apply Kd.V_drew)); exact (Kd.V_mono (Kd.V_far (p := ⟨gb313, 5, none⟩) (Kd.V_far (p := ⟨gb313, 4, none⟩) (Kd.V_far (p := ⟨gb313, 3, none⟩) (Kd.V_far (p := ⟨gb313, 2, none⟩) (Kd.V_far (p := ⟨gb313, 1, none⟩) (Kd.V_far (p := ⟨gb313, 0, none⟩) (Kd.V_mono HO_301011.out (fun k_ hk => (⟨hk, hk.2⟩ : _ ∧ k_ ≠ gb313))) (fun _ hk => hk.2) (.string ((rd_T33 t309 x50_4).f0))) (fun _ hk => hk.2) (.int .i64 ((rd_T33 t309 x50_4).f1))) (fun _ hk => hk.2) (.int .i64 ((rd_T33 t309 x50_4).f2))) (fun _ hk => hk.2) (.int .i64 ((rd_T33 t309 x50_4).f3))) (fun _ hk => hk.2) (.string ((rd_T33 t309 x50_4).f4))) (fun _ hk => hk.2) (.string ((rd_T33 t309 x50_4).f5))) (fun _ h_ => h_.1))) hb); have n4_ := aS (blk_below (g := gb300) (o := .cells #[.int .i64 a0_0, .bool a0_1, .bool a0_2, .bool a0_3, .bool a0_4, .bool a0_5, .int .i64 a0_6, .string a0_7, .int .i64 a0_8, .slice A0_9 l0_9.length c0_9, .slice A0_10 l0_10.length c0_10, .slice A0_11 l0_11.length c0_11] 48 (0, 0)) (by (iterate 6 ((with_reducible repeat (first | refine blk_drewN ?_ _ | refine blk_drew ?_ | refine blk_alloc ?_ _)); refine blk_far ?_ NB300_313.out _)); (with_reducible repeat (first | refine blk_drewN ?_ _ | refine blk_drew ?_ | refine blk_alloc ?_ _)); exact BK300.out) hb); have n5_ := aS (blk_below (g := gb313) (o := .cells #[.string ((rd_T33 t309 x50_4).f0), .int .i64 ((rd_T33 t309 x50_4).f1), .int .i64 ((rd_T33 t309 x50_4).f2), .int .i64 ((rd_T33 t309 x50_4).f3), .string ((rd_T33 t309 x50_4).f4), .string ((rd_T33 t309 x50_4).f5)] 33 (0, 0)) (by (with_reducible repeat (first | refine blk_drewN ?_ _ | refine blk_drew ?_ | refine blk_alloc ?_ _)); refine blk_put_6 (.string (⟨#[]⟩ : ByteArray)) (.int .i64 0) (.int .i64 0) (.int .i64 0) (.string (⟨#[]⟩ : ByteArray)) (.string (⟨#[]⟩ : ByteArray)) ?_; (with_reducible repeat (first | refine blk_drewN ?_ _ | refine blk_drew ?_ | refine blk_alloc ?_ _)); exact BK313.out) hb); have n6_ := aS (below_step (wS2 HB.out GE300.out GE313.out) hb); clear HO_48 HO_301009 HO_301010 HO_301011 BK300 BK313 HB; revert n0_ n1_ n2_ n3_ n4_ n5_ n6_; intro HO_48 HO_301009 HO_301010 HO_301011 BK300 BK313 HB; clear hb)); try go_wp2_with (first | ((with_reducible refine gate_dst (N := 5) rfl ?_); refine box_event ?hg (N := 5) ?hd (cs := #[.string (⟨#[]⟩ : ByteArray), .int .i64 0, .int .i64 0, .int .i64 0, .string (⟨#[]⟩ : ByteArray), .string (⟨#[]⟩ : ByteArray)]) (t := 33) ?hr ?_; (case hd => rfl); (case hg => rfl); (case hr => first | (go_simp; done) | (go_simp; rfl)); intro gb313 hg w42 hbox hb; have n0_ := aS (Kd.R_below (Kd.R_elderB (rU HO_48.out) gb313 (Nat.le_of_eq hg.symm)) hb); have n1_ := aS (Kd.V_below (Kd.V_elderB (by (with_reducible repeat (first | apply Kd.V_alloc | apply Kd.V_drewN | apply Kd.V_drew)); exact HO_301009.out) gb313 (Nat.le_of_eq hg.symm)) hb); have n2_ := aS (Kd.V_below (Kd.V_elderB (by (with_reducible repeat (first | apply Kd.V_alloc | apply Kd.V_drewN | apply Kd.V_drew)); exact HO_301010.out) gb313 (Nat.le_of_eq hg.symm)) hb); have n3_ := aS (Kd.V_below (Kd.V_elderB (by (with_reducible repeat (first | apply Kd.V_alloc | apply Kd.V_drewN | apply Kd.V_drew)); exact HO_301011.out) gb313 (Nat.le_of_eq hg.symm)) hb); have n4_ := aS (blk_below (bU BK300.out) hb); have n5_ := aS (below_step (wS1 HB.out GE300.out) hb); have n6_ := aS (hbox); have n7_ := aS ((by rw [hg]; exact (below_size (wS1 HB.out GE300.out)) : w.heap.size ≤ gb313)); have n8_ := aS ((by rw [hg]; exact (below_size (wS1 HB.out GE300.out)) : w.heap.size ≤ gb313)); have n9_ := aS ((by rw [hg]; exact Nat.ne_of_lt (blk_lt (bU BK300.out)) : gb300 ≠ gb313)); have n10_ := aS ((by rw [hg]; exact Nat.ne_of_gt (blk_lt (bU BK300.out)) : gb313 ≠ gb300)); clear HO_48 HO_301009 HO_301010 HO_301011 BK300 HB; revert n0_ n1_ n2_ n3_ n4_ n5_ n6_ n7_ n8_ n9_ n10_; intro HO_48 HO_301009 HO_301010 HO_301011 BK300 HB BK313 GW313 GE313 NB300_313 NB313_300; clear hb hbox hg; have hnb43 := NB313_300.out; have hnc43 := NB300_313.out; have hcz44 := cells6f BK313.out) | (go_at_call 24; (with_reducible refine (impl_RecordText.calls k4 ((rd_T33 t309 x50_4).f0) ((rd_T33 t309 x50_4).f1) ((rd_T33 t309 x50_4).f2) ((rd_T33 t309 x50_4).f3) ((rd_T33 t309 x50_4).f4) ((rd_T33 t309 x50_4).f5) t314 _ A39.out).mono ?_); rintro e w45 ⟨rfl, hb⟩; have n0_ := aS (Kd.R_below (by (with_reducible repeat (first | apply Kd.R_alloc | apply Kd.R_drewN | apply Kd.R_drew)); exact (Kd.R_mono (Kd.R_far (p := ⟨gb313, 5, none⟩) (Kd.R_far (p := ⟨gb313, 4, none⟩) (Kd.R_far (p := ⟨gb313, 3, none⟩) (Kd.R_far (p := ⟨gb313, 2, none⟩) (Kd.R_far (p := ⟨gb313, 1, none⟩) (Kd.R_far (p := ⟨gb313, 0, none⟩) (Kd.R_mono HO_48.out (fun k_ hk => (⟨hk, hk.2⟩ : _ ∧ k_ ≠ gb313))) (fun _ hk => hk.2) (.string ((rd_T33 t309 x50_4).f0))) (fun _ hk => hk.2) (.int .i64 ((rd_T33 t309 x50_4).f1))) (fun _ hk => hk.2) (.int .i64 ((rd_T33 t309 x50_4).f2))) (fun _ hk => hk.2) (.int .i64 ((rd_T33 t309 x50_4).f3))) (fun _ hk => hk.2) (.string ((rd_T33 t309 x50_4).f4))) (fun _ hk => hk.2) (.string ((rd_T33 t309 x50_4).f5))) (fun _ h_ => h_.1))) hb); have n1_ := aS (Kd.V_below (by (with_reducible repeat (first | apply Kd.V_alloc | apply Kd.V_drewN | apply Kd.V_drew)); exact (Kd.V_mono (Kd.V_far (p := ⟨gb313, 5, none⟩) (Kd.V_far (p := ⟨gb313, 4, none⟩) (Kd.V_far (p := ⟨gb313, 3, none⟩) (Kd.V_far (p := ⟨gb313, 2, none⟩) (Kd.V_far (p := ⟨gb313, 1, none⟩) (Kd.V_far (p := ⟨gb313, 0, none⟩) (Kd.V_mono HO_301009.out (fun k_ hk => (⟨hk, hk.2⟩ : _ ∧ k_ ≠ gb313))) (fun _ hk => hk.2) (.string ((rd_T33 t309 x50_4).f0))) (fun _ hk => hk.2) (.int .i64 ((rd_T33 t309 x50_4).f1))) (fun _ hk => hk.2) (.int .i64 ((rd_T33 t309 x50_4).f2))) (fun _ hk => hk.2) (.int .i64 ((rd_T33 t309 x50_4).f3))) (fun _ hk => hk.2) (.string ((rd_T33 t309 x50_4).f4))) (fun _ hk => hk.2) (.string ((rd_T33 t309 x50_4).f5))) (fun _ h_ => h_.1))) hb); have n2_ := aS (Kd.V_below (by (with_reducible repeat (first | apply Kd.V_alloc | apply Kd.V_drewN | apply Kd.V_drew)); exact (Kd.V_mono (Kd.V_far (p := ⟨gb313, 5, none⟩) (Kd.V_far (p := ⟨gb313, 4, none⟩) (Kd.V_far (p := ⟨gb313, 3, none⟩) (Kd.V_far (p := ⟨gb313, 2, none⟩) (Kd.V_far (p := ⟨gb313, 1, none⟩) (Kd.V_far (p := ⟨gb313, 0, none⟩) (Kd.V_mono HO_301010.out (fun k_ hk => (⟨hk, hk.2⟩ : _ ∧ k_ ≠ gb313))) (fun _ hk => hk.2) (.string ((rd_T33 t309 x50_4).f0))) (fun _ hk => hk.2) (.int .i64 ((rd_T33 t309 x50_4).f1))) (fun _ hk => hk.2) (.int .i64 ((rd_T33 t309 x50_4).f2))) (fun _ hk => hk.2) (.int .i64 ((rd_T33 t309 x50_4).f3))) (fun _ hk => hk.2) (.string ((rd_T33 t309 x50_4).f4))) (fun _ hk => hk.2) (.string ((rd_T33 t309 x50_4).f5))) (fun _ h_ => h_.1))) hb); have n3_ := aS (Kd.V_below (by (with_reducible repeat (first | apply Kd.V_alloc | apply Kd.V_drewN | apply Kd.V_drew)); exact (Kd.V_mono (Kd.V_far (p := ⟨gb313, 5, none⟩) (Kd.V_far (p := ⟨gb313, 4, none⟩) (Kd.V_far (p := ⟨gb313, 3, none⟩) (Kd.V_far (p := ⟨gb313, 2, none⟩) (Kd.V_far (p := ⟨gb313, 1, none⟩) (Kd.V_far (p := ⟨gb313, 0, none⟩) (Kd.V_mono HO_301011.out (fun k_ hk => (⟨hk, hk.2⟩ : _ ∧ k_ ≠ gb313))) (fun _ hk => hk.2) (.string ((rd_T33 t309 x50_4).f0))) (fun _ hk => hk.2) (.int .i64 ((rd_T33 t309 x50_4).f1))) (fun _ hk => hk.2) (.int .i64 ((rd_T33 t309 x50_4).f2))) (fun _ hk => hk.2) (.int .i64 ((rd_T33 t309 x50_4).f3))) (fun _ hk => hk.2) (.string ((rd_T33 t309 x50_4).f4))) (fun _ hk => hk.2) (.string ((rd_T33 t309 x50_4).f5))) (fun _ h_ => h_.1))) hb); have n4_ := aS (blk_below (g := gb300) (o := .cells #[.int .i64 a0_0, .bool a0_1, .bool a0_2, .bool a0_3, .bool a0_4, .bool a0_5, .int .i64 a0_6, .string a0_7, .int .i64 a0_8, .slice A0_9 l0_9.length c0_9, .slice A0_10 l0_10.length c0_10, .slice A0_11 l0_11.length c0_11] 48 (0, 0)) (by (iterate 6 ((with_reducible repeat (first | refine blk_drewN ?_ _ | refine blk_drew ?_ | refine blk_alloc ?_ _)); refine blk_far ?_ NB300_313.out _)); (with_reducible repeat (first | refine blk_drewN ?_ _ | refine blk_drew ?_ | refine blk_alloc ?_ _)); exact BK300.out) hb); have n5_ := aS (blk_below (g := gb313) (o := .cells #[.string ((rd_T33 t309 x50_4).f0), .int .i64 ((rd_T33 t309 x50_4).f1), .int .i64 ((rd_T33 t309 x50_4).f2), .int .i64 ((rd_T33 t309 x50_4).f3), .string ((rd_T33 t309 x50_4).f4), .string ((rd_T33 t309 x50_4).f5)] 33 (0, 0)) (by (with_reducible repeat (first | refine blk_drewN ?_ _ | refine blk_drew ?_ | refine blk_alloc ?_ _)); refine blk_put_6 (.string (⟨#[]⟩ : ByteArray)) (.int .i64 0) (.int .i64 0) (.int .i64 0) (.string (⟨#[]⟩ : ByteArray)) (.string (⟨#[]⟩ : ByteArray)) ?_; (with_reducible repeat (first | refine blk_drewN ?_ _ | refine blk_drew ?_ | refine blk_alloc ?_ _)); exact BK313.out) hb); have n6_ := aS (below_step (wS2 HB.out GE300.out GE313.out) hb); clear HO_48 HO_301009 HO_301010 HO_301011 BK300 BK313 HB; revert n0_ n1_ n2_ n3_ n4_ n5_ n6_; intro HO_48 HO_301009 HO_301010 HO_301011 BK300 BK313 HB; clear hb)))
                      go_roundg k4
                      case measure => have := HJ3.out; have := HJ20.out; have := HJ24.out; have := HK4.out; omega
                      case rel => exact ⟨(x3_4 ++ ((⟨#[59, 32]⟩ : ByteArray) ++ t314)), (wrap64 (x50_4 + 1)), jB, jB, H', ⟨by have := HJ3.out; have := HJ20.out; have := HJ24.out; have := HK4.out; omega⟩, ⟨by (with_reducible repeat (first | apply Kd.R_alloc | apply Kd.R_drewN | apply Kd.R_drew)); exact Kd.R_mono HO_48.out (fun _ hk => hk.1)⟩, ⟨by (with_reducible repeat (first | apply Kd.V_alloc | apply Kd.V_drewN | apply Kd.V_drew)); exact Kd.V_mono HO_301009.out (fun _ hk => ⟨hk.1.1, ⟨hk.1.2.1, hk.1.2.2⟩⟩)⟩, ⟨by (with_reducible repeat (first | apply Kd.V_alloc | apply Kd.V_drewN | apply Kd.V_drew)); exact Kd.V_mono HO_301010.out (fun _ hk => ⟨hk.1.1, ⟨hk.1.2.1, hk.1.2.2⟩⟩)⟩, ⟨by (with_reducible repeat (first | apply Kd.V_alloc | apply Kd.V_drewN | apply Kd.V_drew)); exact Kd.V_mono HO_301011.out (fun _ hk => ⟨hk.1.1, ⟨hk.1.2.1, hk.1.2.2⟩⟩)⟩, ⟨by (with_reducible repeat (first | refine blk_drewN ?_ _ | refine blk_drew ?_ | refine blk_alloc ?_ _)); exact BK300.out⟩, ⟨by exact wS2 HB.out GE300.out GE313.out⟩⟩
                     ·rw [if_neg c41] at H
                      exact absurd H (by simp)
                    ·rw [if_neg c40] at H
                     exact absurd H (by simp)
                   ·rw [if_neg c38] at H
                    exact absurd H (by simp)
                  ·rw [if_neg c37] at H
                   exact absurd H (by simp)
                 ·rw [if_neg c36] at H
                  have c36b0 : decide (x50_4 < (t309.length : Int)) = false := decide_eq_false c36
                  clear c36
                  obtain rfl := Option.some.inj H
                  go_wp2
                  repeat (go_quiet (fail); try go_wp2)
                  go_ret
                  exact ⟨jE, by exact wS1 HB.out GE300.out⟩
          ·rw [if_neg c20] at H
           exact absurd H (by simp)
         ·rw [if_neg c19] at H
          exact absurd H (by simp)
        ·rw [if_neg c17] at H
         exact absurd H (by simp)
       ·rw [if_neg c16] at H
        exact absurd H (by simp)
      ·rw [if_neg c14] at H
       exact absurd H (by simp)
     ·rw [if_neg c13] at H
      exact absurd H (by simp)
    ·rw [if_neg c11] at H
     exact absurd H (by simp)
 ·replace c3 := Bool.eq_false_iff.mpr c3
  subst c3
  have H1 : (some (⟨#[]⟩ : ByteArray)) = some r := by rw [if_neg (show ¬ (false = true) by decide)] at H; exact H
  clear H
  have H := H1
  clear H1
  obtain rfl := Option.some.inj H
  go_enter Tryd.func47, Tryd.ntmps47
  go_wp2_with (first | ((with_reducible refine gate_dst (N := 1) rfl ?_); refine box_event ?hg (N := 1) ?hd (cs := #[.int .i64 a0_0, .bool a0_1, .bool a0_2, .bool a0_3, .bool a0_4, .bool a0_5, .int .i64 a0_6, .string a0_7, .int .i64 a0_8, .slice A0_9 l0_9.length c0_9, .slice A0_10 l0_10.length c0_10, .slice A0_11 l0_11.length c0_11]) (t := 48) ?hr ?_; (case hd => rfl); (case hg => rfl); (case hr => first | (go_simp; done) | (go_simp; rfl)); intro gb300 hg w46 hbox hb; have n0_ := aS (Kd.V_below (Kd.V_elderB (by (with_reducible repeat (first | apply Kd.V_alloc | apply Kd.V_drewN | apply Kd.V_drew)); exact HO0_9.out) gb300 (Nat.le_of_eq hg.symm)) hb); have n1_ := aS (Kd.V_below (Kd.V_elderB (by (with_reducible repeat (first | apply Kd.V_alloc | apply Kd.V_drewN | apply Kd.V_drew)); exact HO0_10.out) gb300 (Nat.le_of_eq hg.symm)) hb); have n2_ := aS (Kd.V_below (Kd.V_elderB (by (with_reducible repeat (first | apply Kd.V_alloc | apply Kd.V_drewN | apply Kd.V_drew)); exact HO0_11.out) gb300 (Nat.le_of_eq hg.symm)) hb); have n3_ := aS (below_step (wU HB.out) hb); have n4_ := aS (hbox); have n5_ := aS ((by rw [hg]; exact (below_size (wU HB.out)) : w.heap.size ≤ gb300)); have n6_ := aS ((by rw [hg]; exact (below_size (wU HB.out)) : w.heap.size ≤ gb300)); clear HO0_9 HO0_10 HO0_11 HB; revert n0_ n1_ n2_ n3_ n4_ n5_ n6_; intro HO0_9 HO0_10 HO0_11 HB BK300 GW300 GE300; clear hb hbox hg; have hcz47 := cells12f BK300.out) | (go_at_call 30; (with_reducible refine (impl_MsgOk.calls k a0_0 a0_1 a0_2 a0_3 a0_4 a0_5 a0_6 a0_7 a0_8 _ _ l0_9 _ _ l0_10 _ _ l0_11 false _ ?side1 ?side2 ?side3 ?side4 ?side5 ?side6 A2.out).mono ?_); (case side1 => exact cU ((Kd.V_reads' HO0_9.out).2.2)); (case side2 => exact (Kd.V_reads' HO0_9.out).2.1); (case side3 => exact cU ((Kd.V_reads' HO0_10.out).2.2)); (case side4 => exact (Kd.V_reads' HO0_10.out).2.1); (case side5 => exact cU ((Kd.V_reads' HO0_11.out).2.2)); (case side6 => exact (Kd.V_reads' HO0_11.out).2.1); rintro e w48 ⟨rfl, hb⟩; have n0_ := aS (Kd.V_below (by (with_reducible repeat (first | apply Kd.V_alloc | apply Kd.V_drewN | apply Kd.V_drew)); exact HO0_9.out) hb); have n1_ := aS (Kd.V_below (by (with_reducible repeat (first | apply Kd.V_alloc | apply Kd.V_drewN | apply Kd.V_drew)); exact HO0_10.out) hb); have n2_ := aS (Kd.V_below (by (with_reducible repeat (first | apply Kd.V_alloc | apply Kd.V_drewN | apply Kd.V_drew)); exact HO0_11.out) hb); have n3_ := aS (blk_below (bU BK300.out) hb); have n4_ := aS (below_step (wS1 HB.out GE300.out) hb); clear HO0_9 HO0_10 HO0_11 BK300 HB; revert n0_ n1_ n2_ n3_ n4_; intro HO0_9 HO0_10 HO0_11 BK300 HB; clear hb))
  repeat (go_quiet (first | ((with_reducible refine gate_dst (N := 1) rfl ?_); refine box_event ?hg (N := 1) ?hd (cs := #[.int .i64 a0_0, .bool a0_1, .bool a0_2, .bool a0_3, .bool a0_4, .bool a0_5, .int .i64 a0_6, .string a0_7, .int .i64 a0_8, .slice A0_9 l0_9.length c0_9, .slice A0_10 l0_10.length c0_10, .slice A0_11 l0_11.length c0_11]) (t := 48) ?hr ?_; (case hd => rfl); (case hg => rfl); (case hr => first | (go_simp; done) | (go_simp; rfl)); intro gb300 hg w46 hbox hb; have n0_ := aS (Kd.V_below (Kd.V_elderB (by (with_reducible repeat (first | apply Kd.V_alloc | apply Kd.V_drewN | apply Kd.V_drew)); exact HO0_9.out) gb300 (Nat.le_of_eq hg.symm)) hb); have n1_ := aS (Kd.V_below (Kd.V_elderB (by (with_reducible repeat (first | apply Kd.V_alloc | apply Kd.V_drewN | apply Kd.V_drew)); exact HO0_10.out) gb300 (Nat.le_of_eq hg.symm)) hb); have n2_ := aS (Kd.V_below (Kd.V_elderB (by (with_reducible repeat (first | apply Kd.V_alloc | apply Kd.V_drewN | apply Kd.V_drew)); exact HO0_11.out) gb300 (Nat.le_of_eq hg.symm)) hb); have n3_ := aS (below_step (wU HB.out) hb); have n4_ := aS (hbox); have n5_ := aS ((by rw [hg]; exact (below_size (wU HB.out)) : w.heap.size ≤ gb300)); have n6_ := aS ((by rw [hg]; exact (below_size (wU HB.out)) : w.heap.size ≤ gb300)); clear HO0_9 HO0_10 HO0_11 HB; revert n0_ n1_ n2_ n3_ n4_ n5_ n6_; intro HO0_9 HO0_10 HO0_11 HB BK300 GW300 GE300; clear hb hbox hg; have hcz47 := cells12f BK300.out) | (go_at_call 30; (with_reducible refine (impl_MsgOk.calls k a0_0 a0_1 a0_2 a0_3 a0_4 a0_5 a0_6 a0_7 a0_8 _ _ l0_9 _ _ l0_10 _ _ l0_11 false _ ?side1 ?side2 ?side3 ?side4 ?side5 ?side6 A2.out).mono ?_); (case side1 => exact cU ((Kd.V_reads' HO0_9.out).2.2)); (case side2 => exact (Kd.V_reads' HO0_9.out).2.1); (case side3 => exact cU ((Kd.V_reads' HO0_10.out).2.2)); (case side4 => exact (Kd.V_reads' HO0_10.out).2.1); (case side5 => exact cU ((Kd.V_reads' HO0_11.out).2.2)); (case side6 => exact (Kd.V_reads' HO0_11.out).2.1); rintro e w48 ⟨rfl, hb⟩; have n0_ := aS (Kd.V_below (by (with_reducible repeat (first | apply Kd.V_alloc | apply Kd.V_drewN | apply Kd.V_drew)); exact HO0_9.out) hb); have n1_ := aS (Kd.V_below (by (with_reducible repeat (first | apply Kd.V_alloc | apply Kd.V_drewN | apply Kd.V_drew)); exact HO0_10.out) hb); have n2_ := aS (Kd.V_below (by (with_reducible repeat (first | apply Kd.V_alloc | apply Kd.V_drewN | apply Kd.V_drew)); exact HO0_11.out) hb); have n3_ := aS (blk_below (bU BK300.out) hb); have n4_ := aS (below_step (wS1 HB.out GE300.out) hb); clear HO0_9 HO0_10 HO0_11 BK300 HB; revert n0_ n1_ n2_ n3_ n4_; intro HO0_9 HO0_10 HO0_11 BK300 HB; clear hb)); try go_wp2_with (first | ((with_reducible refine gate_dst (N := 1) rfl ?_); refine box_event ?hg (N := 1) ?hd (cs := #[.int .i64 a0_0, .bool a0_1, .bool a0_2, .bool a0_3, .bool a0_4, .bool a0_5, .int .i64 a0_6, .string a0_7, .int .i64 a0_8, .slice A0_9 l0_9.length c0_9, .slice A0_10 l0_10.length c0_10, .slice A0_11 l0_11.length c0_11]) (t := 48) ?hr ?_; (case hd => rfl); (case hg => rfl); (case hr => first | (go_simp; done) | (go_simp; rfl)); intro gb300 hg w46 hbox hb; have n0_ := aS (Kd.V_below (Kd.V_elderB (by (with_reducible repeat (first | apply Kd.V_alloc | apply Kd.V_drewN | apply Kd.V_drew)); exact HO0_9.out) gb300 (Nat.le_of_eq hg.symm)) hb); have n1_ := aS (Kd.V_below (Kd.V_elderB (by (with_reducible repeat (first | apply Kd.V_alloc | apply Kd.V_drewN | apply Kd.V_drew)); exact HO0_10.out) gb300 (Nat.le_of_eq hg.symm)) hb); have n2_ := aS (Kd.V_below (Kd.V_elderB (by (with_reducible repeat (first | apply Kd.V_alloc | apply Kd.V_drewN | apply Kd.V_drew)); exact HO0_11.out) gb300 (Nat.le_of_eq hg.symm)) hb); have n3_ := aS (below_step (wU HB.out) hb); have n4_ := aS (hbox); have n5_ := aS ((by rw [hg]; exact (below_size (wU HB.out)) : w.heap.size ≤ gb300)); have n6_ := aS ((by rw [hg]; exact (below_size (wU HB.out)) : w.heap.size ≤ gb300)); clear HO0_9 HO0_10 HO0_11 HB; revert n0_ n1_ n2_ n3_ n4_ n5_ n6_; intro HO0_9 HO0_10 HO0_11 HB BK300 GW300 GE300; clear hb hbox hg; have hcz47 := cells12f BK300.out) | (go_at_call 30; (with_reducible refine (impl_MsgOk.calls k a0_0 a0_1 a0_2 a0_3 a0_4 a0_5 a0_6 a0_7 a0_8 _ _ l0_9 _ _ l0_10 _ _ l0_11 false _ ?side1 ?side2 ?side3 ?side4 ?side5 ?side6 A2.out).mono ?_); (case side1 => exact cU ((Kd.V_reads' HO0_9.out).2.2)); (case side2 => exact (Kd.V_reads' HO0_9.out).2.1); (case side3 => exact cU ((Kd.V_reads' HO0_10.out).2.2)); (case side4 => exact (Kd.V_reads' HO0_10.out).2.1); (case side5 => exact cU ((Kd.V_reads' HO0_11.out).2.2)); (case side6 => exact (Kd.V_reads' HO0_11.out).2.1); rintro e w48 ⟨rfl, hb⟩; have n0_ := aS (Kd.V_below (by (with_reducible repeat (first | apply Kd.V_alloc | apply Kd.V_drewN | apply Kd.V_drew)); exact HO0_9.out) hb); have n1_ := aS (Kd.V_below (by (with_reducible repeat (first | apply Kd.V_alloc | apply Kd.V_drewN | apply Kd.V_drew)); exact HO0_10.out) hb); have n2_ := aS (Kd.V_below (by (with_reducible repeat (first | apply Kd.V_alloc | apply Kd.V_drewN | apply Kd.V_drew)); exact HO0_11.out) hb); have n3_ := aS (blk_below (bU BK300.out) hb); have n4_ := aS (below_step (wS1 HB.out GE300.out) hb); clear HO0_9 HO0_10 HO0_11 BK300 HB; revert n0_ n1_ n2_ n3_ n4_; intro HO0_9 HO0_10 HO0_11 BK300 HB; clear hb)))
  go_ret
  exact ⟨jE, by exact wS1 HB.out GE300.out⟩

end Go.Proofs.YtfmnofjijodgcaaDoor.Pr
