-- Written for this claim by a program of this session (wip/tool/pr.py, over the kit's printer).
-- half
import Derived.Test.YtfmnofjijodgcaaDoorPrx0
import Derived.Test.YtfmnofjijodgcaaDoorPrx4
import Derived.Test.YtfmnofjijodgcaaDoorPrx6
namespace Go.Proofs.YtfmnofjijodgcaaDoor.Pr
open Go.RowKit Go.Proofs.YtfmnofjijodgcaaDoorW.PrintWords Go.Proofs.YtfmnofjijodgcaaDoorW.PrintLast Go.Proofs.YtfmnofjijodgcaaDoorW.PrintMore
attribute [local go_sem] max2_int min2_int max_two min_two max_three min_three max_four min_four   -- for this text's walks alone
set_option linter.unusedVariables false
set_option linter.unusedSimpArgs false

/-! ### spec_MsgText: function 46 -/
mutual
def spec_MsgText.j0 : Nat → ByteArray → Int → Bool → Bool → Bool → Bool → Bool → Int → ByteArray → Int → List (S33) → List (S33) → List (S33) → Option (ByteArray)
 | 0, _, _, _, _, _, _, _, _, _, _, _, _, _ => none
 | k + 1, x3, x211000, x211001, x211002, x211003, x211004, x211005, x211006, x211007, x211008, x211009, x211010, x211011 => (spec_NumText.f k x211000).bind fun t212 => (if x3.size + t212.size ≤ 9223372036854775807 then (if (x3 ++ t212).size + 1 ≤ 9223372036854775807 then ((spec_NumText.f k x211006).bind fun t213 => (if ((x3 ++ t212) ++ (⟨#[32]⟩ : ByteArray)).size + t213.size ≤ 9223372036854775807 then (if (((x3 ++ t212) ++ (⟨#[32]⟩ : ByteArray)) ++ t213).size + 1 ≤ 9223372036854775807 then ((spec_l5Dot.f x211007).bind fun t214 => (if ((((x3 ++ t212) ++ (⟨#[32]⟩ : ByteArray)) ++ t213) ++ (⟨#[32]⟩ : ByteArray)).size + t214.size ≤ 9223372036854775807 then (if (((((x3 ++ t212) ++ (⟨#[32]⟩ : ByteArray)) ++ t213) ++ (⟨#[32]⟩ : ByteArray)) ++ t214).size + 1 ≤ 9223372036854775807 then ((spec_TypeText.f x211008).bind fun t215 => (if ((((((x3 ++ t212) ++ (⟨#[32]⟩ : ByteArray)) ++ t213) ++ (⟨#[32]⟩ : ByteArray)) ++ t214) ++ (⟨#[32]⟩ : ByteArray)).size + t215.size ≤ 9223372036854775807 then (if x211002 = true then (if (((((((x3 ++ t212) ++ (⟨#[32]⟩ : ByteArray)) ++ t213) ++ (⟨#[32]⟩ : ByteArray)) ++ t214) ++ (⟨#[32]⟩ : ByteArray)) ++ t215).size + 5 ≤ 9223372036854775807 then (spec_MsgText.j1 k ((((((((x3 ++ t212) ++ (⟨#[32]⟩ : ByteArray)) ++ t213) ++ (⟨#[32]⟩ : ByteArray)) ++ t214) ++ (⟨#[32]⟩ : ByteArray)) ++ t215) ++ (⟨#[32, 97, 117, 116, 104]⟩ : ByteArray)) x211000 x211001 x211002 x211003 x211004 x211005 x211006 x211007 x211008 x211009 x211010 x211011) else (none)) else (spec_MsgText.j1 k (((((((x3 ++ t212) ++ (⟨#[32]⟩ : ByteArray)) ++ t213) ++ (⟨#[32]⟩ : ByteArray)) ++ t214) ++ (⟨#[32]⟩ : ByteArray)) ++ t215) x211000 x211001 x211002 x211003 x211004 x211005 x211006 x211007 x211008 x211009 x211010 x211011)) else (none))) else (none)) else (none))) else (none)) else (none))) else (none)) else (none))
def spec_MsgText.j1 : Nat → ByteArray → Int → Bool → Bool → Bool → Bool → Bool → Int → ByteArray → Int → List (S33) → List (S33) → List (S33) → Option (ByteArray)
 | 0, _, _, _, _, _, _, _, _, _, _, _, _, _ => none
 | k + 1, x3, x211000, x211001, x211002, x211003, x211004, x211005, x211006, x211007, x211008, x211009, x211010, x211011 => if x211003 = true then (if x3.size + 4 ≤ 9223372036854775807 then ((spec_l7Texts.f k x211009).bind fun t216 => (if (x3 ++ (⟨#[32, 99, 117, 116]⟩ : ByteArray)).size + t216.size ≤ 9223372036854775807 then ((spec_l7Texts.f k x211010).bind fun t217 => (if ((x3 ++ (⟨#[32, 99, 117, 116]⟩ : ByteArray)) ++ t216).size + t217.size ≤ 9223372036854775807 then ((spec_l7Texts.f k x211011).bind fun t218 => (if (((x3 ++ (⟨#[32, 99, 117, 116]⟩ : ByteArray)) ++ t216) ++ t217).size + t218.size ≤ 9223372036854775807 then (some ((((x3 ++ (⟨#[32, 99, 117, 116]⟩ : ByteArray)) ++ t216) ++ t217) ++ t218)) else (none))) else (none))) else (none))) else (none)) else ((spec_l7Texts.f k x211009).bind fun t219 => (if x3.size + t219.size ≤ 9223372036854775807 then ((spec_l7Texts.f k x211010).bind fun t220 => (if (x3 ++ t219).size + t220.size ≤ 9223372036854775807 then ((spec_l7Texts.f k x211011).bind fun t221 => (if ((x3 ++ t219) ++ t220).size + t221.size ≤ 9223372036854775807 then (some (((x3 ++ t219) ++ t220) ++ t221)) else (none))) else (none))) else (none)))
end
def spec_MsgText.f (k : Nat) (a0_0 : Int) (a0_1 : Bool) (a0_2 : Bool) (a0_3 : Bool) (a0_4 : Bool) (a0_5 : Bool) (a0_6 : Int) (a0_7 : ByteArray) (a0_8 : Int) (l0_9 : List (S33)) (l0_10 : List (S33)) (l0_11 : List (S33)) : Option (ByteArray) := (spec_MsgOk.f k a0_0 a0_1 a0_2 a0_3 a0_4 a0_5 a0_6 a0_7 a0_8 l0_9 l0_10 l0_11).bind fun t211 => (if t211 = true then (if a0_1 = true then (spec_MsgText.j0 k (⟨#[114, 101, 112, 108, 121, 32]⟩ : ByteArray) a0_0 a0_1 a0_2 a0_3 a0_4 a0_5 a0_6 a0_7 a0_8 l0_9 l0_10 l0_11) else (spec_MsgText.j0 k (⟨#[97, 115, 107, 32]⟩ : ByteArray) a0_0 a0_1 a0_2 a0_3 a0_4 a0_5 a0_6 a0_7 a0_8 l0_9 l0_10 l0_11)) else (some (⟨#[]⟩ : ByteArray)))
theorem spec_MsgText.mono_l : ∀ k, (∀ y0 y1 y2 y3 y4 y5 y6 y7 y8 y9 y10 y11 y12, LeO (spec_MsgText.j0 k y0 y1 y2 y3 y4 y5 y6 y7 y8 y9 y10 y11 y12) (spec_MsgText.j0 (k + 1) y0 y1 y2 y3 y4 y5 y6 y7 y8 y9 y10 y11 y12)) ∧ (∀ y0 y1 y2 y3 y4 y5 y6 y7 y8 y9 y10 y11 y12, LeO (spec_MsgText.j1 k y0 y1 y2 y3 y4 y5 y6 y7 y8 y9 y10 y11 y12) (spec_MsgText.j1 (k + 1) y0 y1 y2 y3 y4 y5 y6 y7 y8 y9 y10 y11 y12))
 | 0 => ⟨fun _ _ _ _ _ _ _ _ _ _ _ _ _ r h => by simp [spec_MsgText.j0] at h, fun _ _ _ _ _ _ _ _ _ _ _ _ _ r h => by simp [spec_MsgText.j1] at h⟩
 | k + 1 => by
  obtain ⟨ih0, ih1⟩ := spec_MsgText.mono_l k
  refine ⟨?_, ?_⟩
  ·intro y0 y1 y2 y3 y4 y5 y6 y7 y8 y9 y10 y11 y12
   unfold spec_MsgText.j0
   repeat' first
   | (with_reducible first | exact ih0 _ _ _ _ _ _ _ _ _ _ _ _ _ | exact ih1 _ _ _ _ _ _ _ _ _ _ _ _ _ | exact spec_MsgOk.mono _ _ _ _ _ _ _ _ _ _ _ _ _ | exact spec_NumText.mono _ _ | exact spec_l7Texts.mono _ _ | exact LeO.refl _ | exact LeO.none _ | refine LeO.ite ?_ ?_ | refine LeO.bind ?_ (fun _ => ?_))
   | exact ih0 _ _ _ _ _ _ _ _ _ _ _ _ _
   | exact ih1 _ _ _ _ _ _ _ _ _ _ _ _ _
   | exact spec_MsgOk.mono _ _ _ _ _ _ _ _ _ _ _ _ _
   | exact spec_NumText.mono _ _
   | exact spec_l7Texts.mono _ _
   | exact LeO.none _
   | refine LeO.ite ?_ ?_
   | refine LeO.bind ?_ (fun _ => ?_)
  ·intro y0 y1 y2 y3 y4 y5 y6 y7 y8 y9 y10 y11 y12
   unfold spec_MsgText.j1
   repeat' first
   | (with_reducible first | exact ih0 _ _ _ _ _ _ _ _ _ _ _ _ _ | exact ih1 _ _ _ _ _ _ _ _ _ _ _ _ _ | exact spec_MsgOk.mono _ _ _ _ _ _ _ _ _ _ _ _ _ | exact spec_NumText.mono _ _ | exact spec_l7Texts.mono _ _ | exact LeO.refl _ | exact LeO.none _ | refine LeO.ite ?_ ?_ | refine LeO.bind ?_ (fun _ => ?_))
   | exact ih0 _ _ _ _ _ _ _ _ _ _ _ _ _
   | exact ih1 _ _ _ _ _ _ _ _ _ _ _ _ _
   | exact spec_MsgOk.mono _ _ _ _ _ _ _ _ _ _ _ _ _
   | exact spec_NumText.mono _ _
   | exact spec_l7Texts.mono _ _
   | exact LeO.none _
   | refine LeO.ite ?_ ?_
   | refine LeO.bind ?_ (fun _ => ?_)
theorem spec_MsgText.mono : ∀ a0 a1 a2 a3 a4 a5 a6 a7 a8 a9 a10 a11 k, LeO (spec_MsgText.f k a0 a1 a2 a3 a4 a5 a6 a7 a8 a9 a10 a11) (spec_MsgText.f (k + 1) a0 a1 a2 a3 a4 a5 a6 a7 a8 a9 a10 a11) := by
 intro a0 a1 a2 a3 a4 a5 a6 a7 a8 a9 a10 a11 k
 obtain ⟨ih0, ih1⟩ := spec_MsgText.mono_l k
 unfold spec_MsgText.f
 repeat' first
   | (with_reducible first | exact ih0 _ _ _ _ _ _ _ _ _ _ _ _ _ | exact ih1 _ _ _ _ _ _ _ _ _ _ _ _ _ | exact spec_MsgOk.mono _ _ _ _ _ _ _ _ _ _ _ _ _ | exact spec_NumText.mono _ _ | exact spec_l7Texts.mono _ _ | exact LeO.refl _ | exact LeO.none _ | refine LeO.ite ?_ ?_ | refine LeO.bind ?_ (fun _ => ?_))
   | exact ih0 _ _ _ _ _ _ _ _ _ _ _ _ _
   | exact ih1 _ _ _ _ _ _ _ _ _ _ _ _ _
   | exact spec_MsgOk.mono _ _ _ _ _ _ _ _ _ _ _ _ _
   | exact spec_NumText.mono _ _
   | exact spec_l7Texts.mono _ _
   | exact LeO.none _
   | refine LeO.ite ?_ ?_
   | refine LeO.bind ?_ (fun _ => ?_)
def spec_MsgText.T6 : Bool × List (List Nat × List Nat) := (true, [([], []), ([], []), ([1], [1]), ([2], [2]), ([0, 3], [0, 3]), ([4], [4]), ([], []), ([6], [6]), ([7, 3], [7]), ([5, 8], [5, 8]), ([9], [9]), ([], []), ([11], [11]), ([12], [12]), ([13, 8], [13]), ([10, 14], [10, 14]), ([15], [15]), ([], []), ([17], [17]), ([18], [18]), ([19, 14], [19]), ([16, 20], [16, 20]), ([21, 20, 0, 1, 2, 3, 4, 5, 6, 7, 8, 9, 10, 11, 12, 13, 14, 15, 16, 17, 18, 19, 20, 21], [0, 21])])
def spec_MsgText.B6 : List Nat := [0, 0, 2, 6, 15, 31, 0, 64, 206, 511, 1023, 0, 2048, 6144, 14798, 32767, 65535, 0, 131072, 393216, 948686, 2097151, 4194303]
theorem spec_MsgText.tab6 : rtab .any (opsOf Tryd.f46 6) = spec_MsgText.T6 := by kernel_rfl
theorem spec_MsgText.bits6 : waitsOk spec_MsgText.T6.2 spec_MsgText.B6 = true := by kernel_rfl
def spec_MsgText.T11 : Bool × List (List Nat × List Nat) := (true, [([], []), ([], []), ([1], [1]), ([2], [2]), ([0, 3], [0, 3]), ([], []), ([5], [5]), ([6, 3], [6]), ([4, 7], [4, 7]), ([], []), ([9], [9]), ([10, 7], [10]), ([8, 11], [8, 11]), ([12, 11, 0, 1, 2, 3, 4, 5, 6, 7, 8, 9, 10, 11, 12], [12])])
def spec_MsgText.B11 : List Nat := [0, 0, 2, 6, 15, 0, 32, 110, 255, 0, 512, 1774, 4095, 8191]
theorem spec_MsgText.tab11 : rtab .any (opsOf Tryd.f46 11) = spec_MsgText.T11 := by kernel_rfl
theorem spec_MsgText.bits11 : waitsOk spec_MsgText.T11.2 spec_MsgText.B11 = true := by kernel_rfl
set_option maxHeartbeats 8000000 in
set_option maxRecDepth 100000 in
theorem spec_MsgText.calls (k : Nat) (a0_0 : Int) (a0_1 : Bool) (a0_2 : Bool) (a0_3 : Bool) (a0_4 : Bool) (a0_5 : Bool) (a0_6 : Int) (a0_7 : ByteArray) (a0_8 : Int) (A0_9 : Option Addr) (c0_9 : Nat) (l0_9 : List (S33)) (A0_10 : Option Addr) (c0_10 : Nat) (l0_10 : List (S33)) (A0_11 : Option Addr) (c0_11 : Nat) (l0_11 : List (S33)) (r : ByteArray) (w : World) (hr0_9 : Kd.C k33 w A0_9 l0_9.length l0_9) (hc0_9 : l0_9.length ≤ c0_9) (hr0_10 : Kd.C k33 w A0_10 l0_10.length l0_10) (hc0_10 : l0_10.length ≤ c0_10) (hr0_11 : Kd.C k33 w A0_11 l0_11.length l0_11) (hc0_11 : l0_11.length ≤ c0_11) (h : spec_MsgText.f k a0_0 a0_1 a0_2 a0_3 a0_4 a0_5 a0_6 a0_7 a0_8 l0_9 l0_10 l0_11 = some r) :
  Calls Tryd.prog 46 #[.agg #[.int .i64 a0_0, .bool a0_1, .bool a0_2, .bool a0_3, .bool a0_4, .bool a0_5, .int .i64 a0_6, .string a0_7, .int .i64 a0_8, .slice A0_9 l0_9.length c0_9, .slice A0_10 l0_10.length c0_10, .slice A0_11 l0_11.length c0_11]] w fun e w' => e = .returned (.string r) ∧ Below w.heap.size w w' := by
 have hu48 := Tryd.underlying48
 have HR0_9 := aS hr0_9
 have HC0_9 := aS hc0_9
 clear hr0_9 hc0_9
 have HR0_10 := aS hr0_10
 have HC0_10 := aS hc0_10
 clear hr0_10 hc0_10
 have HR0_11 := aS hr0_11
 have HC0_11 := aS hc0_11
 clear hr0_11 hc0_11
 have HB := aS (Below.refl w.heap.size w)
 have H : ((spec_MsgOk.f k a0_0 a0_1 a0_2 a0_3 a0_4 a0_5 a0_6 a0_7 a0_8 l0_9 l0_10 l0_11).bind fun t211 => (if t211 = true then (if a0_1 = true then (spec_MsgText.j0 k (⟨#[114, 101, 112, 108, 121, 32]⟩ : ByteArray) a0_0 a0_1 a0_2 a0_3 a0_4 a0_5 a0_6 a0_7 a0_8 l0_9 l0_10 l0_11) else (spec_MsgText.j0 k (⟨#[97, 115, 107, 32]⟩ : ByteArray) a0_0 a0_1 a0_2 a0_3 a0_4 a0_5 a0_6 a0_7 a0_8 l0_9 l0_10 l0_11)) else (some (⟨#[]⟩ : ByteArray)))) = some r := h
 clear h
 replace H := Option.bind_eq_some_iff.mp H
 obtain ⟨t211, A2, H⟩ := H
 try dsimp only at H
 replace A2 := aS A2
 by_cases c3 : t211 = true
 ·subst c3
  have H1 : (if a0_1 = true then (spec_MsgText.j0 k (⟨#[114, 101, 112, 108, 121, 32]⟩ : ByteArray) a0_0 a0_1 a0_2 a0_3 a0_4 a0_5 a0_6 a0_7 a0_8 l0_9 l0_10 l0_11) else (spec_MsgText.j0 k (⟨#[97, 115, 107, 32]⟩ : ByteArray) a0_0 a0_1 a0_2 a0_3 a0_4 a0_5 a0_6 a0_7 a0_8 l0_9 l0_10 l0_11)) = some r := by rw [if_pos rfl] at H; exact H
  clear H
  have H := H1
  clear H1
  have HC4 := aS H
  clear H
  go_enter Tryd.func46, Tryd.ntmps46
  go_upto_if 8 with (first | ((with_reducible refine gate_dst (N := 1) rfl ?_); refine box_event ?hg (N := 1) ?hd (cs := #[.int .i64 a0_0, .bool a0_1, .bool a0_2, .bool a0_3, .bool a0_4, .bool a0_5, .int .i64 a0_6, .string a0_7, .int .i64 a0_8, .slice A0_9 l0_9.length c0_9, .slice A0_10 l0_10.length c0_10, .slice A0_11 l0_11.length c0_11]) (t := 48) ?hr ?_; (case hd => rfl); (case hg => rfl); (case hr => first | (go_simp; done) | (go_simp; rfl)); intro gb210 hg w5 hbox hb; have n0_ := aS (below_step (wU HB.out) hb); have n1_ := aS (hbox); have n2_ := aS ((by rw [hg]; exact (below_size (wU HB.out)) : w.heap.size ≤ gb210)); have n3_ := aS ((by rw [hg]; exact (below_size (wU HB.out)) : w.heap.size ≤ gb210)); clear HB; revert n0_ n1_ n2_ n3_; intro HB BK210 GW210 GE210; clear hb hbox hg; have hcz6 := cells12f BK210.out) | ((with_reducible refine gate_callee (f := 28) rfl ?_); refine goesL_ (some 5) rfl rfl Tryd.func28 jK rfl #[.agg #[.int .i64 a0_0, .bool a0_1, .bool a0_2, .bool a0_3, .bool a0_4, .bool a0_5, .int .i64 a0_6, .string a0_7, .int .i64 a0_8, .slice A0_9 l0_9.length c0_9, .slice A0_10 l0_10.length c0_10, .slice A0_11 l0_11.length c0_11]] rfl jA ?_; (with_reducible refine (spec_MsgOk.calls k a0_0 a0_1 a0_2 a0_3 a0_4 a0_5 a0_6 a0_7 a0_8 _ _ l0_9 _ _ l0_10 _ _ l0_11 true _ ?side1 ?side2 ?side3 ?side4 ?side5 ?side6 A2.out).mono ?_); (case side1 => exact cU ((Kd.C_below HR0_9.out HB.out))); (case side2 => exact HC0_9.out); (case side3 => exact cU ((Kd.C_below HR0_10.out HB.out))); (case side4 => exact HC0_10.out); (case side5 => exact cU ((Kd.C_below HR0_11.out HB.out))); (case side6 => exact HC0_11.out); rintro e w7 ⟨rfl, hb⟩; refine ⟨_, rfl, ?_⟩; have n0_ := aS (blk_below (bU BK210.out) hb); have n1_ := aS (below_step (wS1 HB.out GE210.out) hb); clear BK210 HB; revert n0_ n1_; intro BK210 HB; clear hb; have hcz8 := cells12f BK210.out))
  (try simp only [Act.put, List.setIfInBounds_toArray, List.set_cons_zero, List.set_cons_succ])
  go_cut [3] (fun v3 wc => ∃ (kq : Nat) (x3_3 : ByteArray), v3 = .string x3_3 ∧ Aside0 (spec_MsgText.j0 kq x3_3 a0_0 a0_1 a0_2 a0_3 a0_4 a0_5 a0_6 a0_7 a0_8 l0_9 l0_10 l0_11 = some r) ∧ Aside0 (kq ≤ k) ∧ Aside0 (wc.heap[gb210]? = some (.cells #[.int .i64 a0_0, .bool a0_1, .bool a0_2, .bool a0_3, .bool a0_4, .bool a0_5, .int .i64 a0_6, .string a0_7, .int .i64 a0_8, (.slice A0_9 l0_9.length c0_9), (.slice A0_10 l0_10.length c0_10), (.slice A0_11 l0_11.length c0_11)] 48 (0, 0))) ∧ Aside0 (Below w.heap.size w wc))
  case first =>
   have H := HC4.out
   clear HC4
   by_cases c9 : a0_1 = true
   ·subst c9
    have H1 : (spec_MsgText.j0 k (⟨#[114, 101, 112, 108, 121, 32]⟩ : ByteArray) a0_0 true a0_2 a0_3 a0_4 a0_5 a0_6 a0_7 a0_8 l0_9 l0_10 l0_11) = some r := by rw [if_pos rfl] at H; exact H
    clear H
    have H := H1
    clear H1
    have H' := aS H
    clear H
    go_wp2
    go_meet
    case rel => exact ⟨_, ((⟨#[114, 101, 112, 108, 121, 32]⟩ : ByteArray)), jB, H', ⟨by first | omega | exact Nat.le_refl _⟩, ⟨by (with_reducible repeat (first | refine blk_drewN ?_ _ | refine blk_drew ?_ | refine blk_alloc ?_ _)); exact BK210.out⟩, ⟨by exact wS1 HB.out GE210.out⟩⟩
   ·replace c9 := Bool.eq_false_iff.mpr c9
    subst c9
    have H1 : (spec_MsgText.j0 k (⟨#[97, 115, 107, 32]⟩ : ByteArray) a0_0 false a0_2 a0_3 a0_4 a0_5 a0_6 a0_7 a0_8 l0_9 l0_10 l0_11) = some r := by rw [if_neg (show ¬ (false = true) by decide)] at H; exact H
    clear H
    have H := H1
    clear H1
    have H' := aS H
    clear H
    go_wp2
    go_meet
    case rel => exact ⟨_, ((⟨#[97, 115, 107, 32]⟩ : ByteArray)), jB, H', ⟨by first | omega | exact Nat.le_refl _⟩, ⟨by (with_reducible repeat (first | refine blk_drewN ?_ _ | refine blk_drew ?_ | refine blk_alloc ?_ _)); exact BK210.out⟩, ⟨by exact wS1 HB.out GE210.out⟩⟩
  case rest =>
   clear HC4
   try clear c2
   try clear p2
   try clear c3
   try clear c4
   try clear c9
   try clear hcz6
   try clear hcz6_10
   try clear hcz6_11
   try clear hcz6_2
   try clear hcz6_3
   try clear hcz6_4
   try clear hcz6_5
   try clear hcz6_6
   try clear hcz6_7
   try clear hcz6_8
   try clear hcz6_9
   try clear hcz8
   try clear hcz8_10
   try clear hcz8_11
   try clear hcz8_2
   try clear hcz8_3
   try clear hcz8_4
   try clear hcz8_5
   try clear hcz8_6
   try clear hcz8_7
   try clear hcz8_8
   try clear hcz8_9
   try clear hfz6_10
   try clear hfz6_11
   try clear hfz6_2
   try clear hfz6_3
   try clear hfz6_4
   try clear hfz6_5
   try clear hfz6_6
   try clear hfz6_7
   try clear hfz6_8
   try clear hfz6_9
   try clear hfz8_10
   try clear hfz8_11
   try clear hfz8_2
   try clear hfz8_3
   try clear hfz8_4
   try clear hfz8_5
   try clear hfz8_6
   try clear hfz8_7
   try clear hfz8_8
   try clear hfz8_9
   obtain ⟨kq, x3_3, rfl, HA, HJ3, BK210, HB⟩ := hcut
   cases kq with
   | zero => exact absurd HA.out (by simp [spec_MsgText.j0])
   | succ kj3 =>
    have H := HA.out
    clear HA
    simp only [spec_MsgText.j0] at H
    replace H := Option.bind_eq_some_iff.mp H
    obtain ⟨t212, A10, H⟩ := H
    try dsimp only at H
    replace A10 := aS A10
    by_cases c11 : x3_3.size + t212.size ≤ 9223372036854775807
    ·rw [if_pos c11] at H
     have c11b0 := eq_true c11
     have c11b1 : decide (x3_3.size + t212.size ≤ 9223372036854775807) = true := decide_eq_true c11
     try have c11b2 : (9223372036854775807 < x3_3.size + t212.size) = False := eq_false (Nat.not_lt.2 c11)
     by_cases c12 : (x3_3 ++ t212).size + 1 ≤ 9223372036854775807
     ·rw [if_pos c12] at H
      have c12b0 := eq_true c12
      have c12b1 : decide ((x3_3 ++ t212).size + 1 ≤ 9223372036854775807) = true := decide_eq_true c12
      try have c12b2 : (9223372036854775807 < (x3_3 ++ t212).size + 1) = False := eq_false (Nat.not_lt.2 c12)
      try have c12b8 : (9223372036854775807 < x3_3.size + t212.size + 1) = False := by have q_ := c12b2; simp only [ByteArray.size_append] at q_; exact q_
      replace H := Option.bind_eq_some_iff.mp H
      obtain ⟨t213, A13, H⟩ := H
      try dsimp only at H
      replace A13 := aS A13
      by_cases c14 : ((x3_3 ++ t212) ++ (⟨#[32]⟩ : ByteArray)).size + t213.size ≤ 9223372036854775807
      ·rw [if_pos c14] at H
       have c14b0 := eq_true c14
       have c14b1 : decide (((x3_3 ++ t212) ++ (⟨#[32]⟩ : ByteArray)).size + t213.size ≤ 9223372036854775807) = true := decide_eq_true c14
       try have c14b2 : (9223372036854775807 < ((x3_3 ++ t212) ++ (⟨#[32]⟩ : ByteArray)).size + t213.size) = False := eq_false (Nat.not_lt.2 c14)
       try have c14b8 : (9223372036854775807 < x3_3.size + t212.size + 1 + t213.size) = False := by have q_ := c14b2; simp only [ByteArray.size_append] at q_; exact q_
       by_cases c15 : (((x3_3 ++ t212) ++ (⟨#[32]⟩ : ByteArray)) ++ t213).size + 1 ≤ 9223372036854775807
       ·rw [if_pos c15] at H
        have c15b0 := eq_true c15
        have c15b1 : decide ((((x3_3 ++ t212) ++ (⟨#[32]⟩ : ByteArray)) ++ t213).size + 1 ≤ 9223372036854775807) = true := decide_eq_true c15
        try have c15b2 : (9223372036854775807 < (((x3_3 ++ t212) ++ (⟨#[32]⟩ : ByteArray)) ++ t213).size + 1) = False := eq_false (Nat.not_lt.2 c15)
        try have c15b8 : (9223372036854775807 < x3_3.size + t212.size + 1 + t213.size + 1) = False := by have q_ := c15b2; simp only [ByteArray.size_append] at q_; exact q_
        replace H := Option.bind_eq_some_iff.mp H
        obtain ⟨t214, A16, H⟩ := H
        try dsimp only at H
        replace A16 := aS A16
        by_cases c17 : ((((x3_3 ++ t212) ++ (⟨#[32]⟩ : ByteArray)) ++ t213) ++ (⟨#[32]⟩ : ByteArray)).size + t214.size ≤ 9223372036854775807
        ·rw [if_pos c17] at H
         have c17b0 := eq_true c17
         have c17b1 : decide (((((x3_3 ++ t212) ++ (⟨#[32]⟩ : ByteArray)) ++ t213) ++ (⟨#[32]⟩ : ByteArray)).size + t214.size ≤ 9223372036854775807) = true := decide_eq_true c17
         try have c17b2 : (9223372036854775807 < ((((x3_3 ++ t212) ++ (⟨#[32]⟩ : ByteArray)) ++ t213) ++ (⟨#[32]⟩ : ByteArray)).size + t214.size) = False := eq_false (Nat.not_lt.2 c17)
         try have c17b8 : (9223372036854775807 < x3_3.size + t212.size + 1 + t213.size + 1 + t214.size) = False := by have q_ := c17b2; simp only [ByteArray.size_append] at q_; exact q_
         by_cases c18 : (((((x3_3 ++ t212) ++ (⟨#[32]⟩ : ByteArray)) ++ t213) ++ (⟨#[32]⟩ : ByteArray)) ++ t214).size + 1 ≤ 9223372036854775807
         ·rw [if_pos c18] at H
          have c18b0 := eq_true c18
          have c18b1 : decide ((((((x3_3 ++ t212) ++ (⟨#[32]⟩ : ByteArray)) ++ t213) ++ (⟨#[32]⟩ : ByteArray)) ++ t214).size + 1 ≤ 9223372036854775807) = true := decide_eq_true c18
          try have c18b2 : (9223372036854775807 < (((((x3_3 ++ t212) ++ (⟨#[32]⟩ : ByteArray)) ++ t213) ++ (⟨#[32]⟩ : ByteArray)) ++ t214).size + 1) = False := eq_false (Nat.not_lt.2 c18)
          try have c18b8 : (9223372036854775807 < x3_3.size + t212.size + 1 + t213.size + 1 + t214.size + 1) = False := by have q_ := c18b2; simp only [ByteArray.size_append] at q_; exact q_
          replace H := Option.bind_eq_some_iff.mp H
          obtain ⟨t215, A19, H⟩ := H
          try dsimp only at H
          replace A19 := aS A19
          by_cases c20 : ((((((x3_3 ++ t212) ++ (⟨#[32]⟩ : ByteArray)) ++ t213) ++ (⟨#[32]⟩ : ByteArray)) ++ t214) ++ (⟨#[32]⟩ : ByteArray)).size + t215.size ≤ 9223372036854775807
          ·rw [if_pos c20] at H
           have c20b0 := eq_true c20
           have c20b1 : decide (((((((x3_3 ++ t212) ++ (⟨#[32]⟩ : ByteArray)) ++ t213) ++ (⟨#[32]⟩ : ByteArray)) ++ t214) ++ (⟨#[32]⟩ : ByteArray)).size + t215.size ≤ 9223372036854775807) = true := decide_eq_true c20
           try have c20b2 : (9223372036854775807 < ((((((x3_3 ++ t212) ++ (⟨#[32]⟩ : ByteArray)) ++ t213) ++ (⟨#[32]⟩ : ByteArray)) ++ t214) ++ (⟨#[32]⟩ : ByteArray)).size + t215.size) = False := eq_false (Nat.not_lt.2 c20)
           try have c20b8 : (9223372036854775807 < x3_3.size + t212.size + 1 + t213.size + 1 + t214.size + 1 + t215.size) = False := by have q_ := c20b2; simp only [ByteArray.size_append] at q_; exact q_
           have HC21 := aS H
           clear H
           try go_wp2
           have n0_ := aS (blk_drew BK210.out)
           have n1_ := aS (below_drew1 HB.out)
           clear BK210
           clear HB
           have BK210 := n0_
           have HB := n1_
           clear n0_ n1_
           refine start_ (n := 23) (S := fun w' => w'.cell? ⟨gb210, 0, none⟩ = some (.int .i64 a0_0) ∧ w'.cell? ⟨gb210, 1, none⟩ = some (.bool a0_1) ∧ w'.cell? ⟨gb210, 2, none⟩ = some (.bool a0_2) ∧ w'.cell? ⟨gb210, 3, none⟩ = some (.bool a0_3) ∧ w'.cell? ⟨gb210, 4, none⟩ = some (.bool a0_4) ∧ w'.cell? ⟨gb210, 5, none⟩ = some (.bool a0_5) ∧ w'.cell? ⟨gb210, 6, none⟩ = some (.int .i64 a0_6) ∧ w'.cell? ⟨gb210, 7, none⟩ = some (.string a0_7) ∧ w'.cell? ⟨gb210, 8, none⟩ = some (.int .i64 a0_8) ∧ w'.cell? ⟨gb210, 9, none⟩ = some (.slice A0_9 l0_9.length c0_9) ∧ w'.cell? ⟨gb210, 10, none⟩ = some (.slice A0_10 l0_10.length c0_10) ∧ w'.cell? ⟨gb210, 11, none⟩ = some (.slice A0_11 l0_11.length c0_11)) (ds := []) #[false, false, false, false, false, false, false, false, false, false, false, false, false, false, false, false, false, false, false, false, false, false, false] jK rfl rfl ⟨(blk_cell BK210.out 0).trans rfl, (blk_cell BK210.out 1).trans rfl, (blk_cell BK210.out 2).trans rfl, (blk_cell BK210.out 3).trans rfl, (blk_cell BK210.out 4).trans rfl, (blk_cell BK210.out 5).trans rfl, (blk_cell BK210.out 6).trans rfl, (blk_cell BK210.out 7).trans rfl, (blk_cell BK210.out 8).trans rfl, (blk_cell BK210.out 9).trans rfl, (blk_cell BK210.out 10).trans rfl, (blk_cell BK210.out 11).trans rfl⟩ (fun hHeld => ?_); refine with_tabW spec_MsgText.tab6 spec_MsgText.bits6 (fun HT_ HW_ => ?_)
           generalize wc.drew = w22 at BK210 HB hHeld ⊢
           refine pure_ (i := 0) (N := some 9) (v := ?_) (a' := ?_) #[true, false, false, false, false, false, false, false, false, false, false, false, false, false, false, false, false, false, false, false, false, false, false] rfl rfl (any_of HT_.out jK) (fun _ _ _ h => h) (Or.inl ⟨by rfl, ?_⟩) ?_ ?_
           rotate_left
           ·intro w'
            go_simp
            with_reducible rfl
           rotate_left
           ·simp only [Act.put, List.setIfInBounds_toArray, List.set_cons_zero, List.set_cons_succ, i64_w, i32_w]
            rfl
           refine pure_ (i := 1) (N := some 10) (v := ?_) (a' := ?_) #[true, true, false, false, false, false, false, false, false, false, false, false, false, false, false, false, false, false, false, false, false, false, false] rfl rfl (any_of HT_.out jK) (fun _ _ _ h => h) (Or.inl ⟨by rfl, ?_⟩) ?_ ?_
           rotate_left
           ·intro w'
            go_simp
            with_reducible rfl
           rotate_left
           ·simp only [Act.put, List.setIfInBounds_toArray, List.set_cons_zero, List.set_cons_succ, i64_w, i32_w]
            rfl
           refine pure_ (i := 6) (N := some 15) (v := ?_) (a' := ?_) #[true, true, false, false, false, false, true, false, false, false, false, false, false, false, false, false, false, false, false, false, false, false, false] rfl rfl (any_of HT_.out jK) (fun _ _ _ h => h) (Or.inl ⟨by rfl, ?_⟩) ?_ ?_
           rotate_left
           ·intro w'
            go_simp
            with_reducible rfl
           rotate_left
           ·simp only [Act.put, List.setIfInBounds_toArray, List.set_cons_zero, List.set_cons_succ, i64_w, i32_w]
            rfl
           refine pure_ (i := 11) (N := some 20) (v := ?_) (a' := ?_) #[true, true, false, false, false, false, true, false, false, false, false, true, false, false, false, false, false, false, false, false, false, false, false] rfl rfl (any_of HT_.out jK) (fun _ _ _ h => h) (Or.inl ⟨by rfl, ?_⟩) ?_ ?_
           rotate_left
           ·intro w'
            go_simp
            with_reducible rfl
           rotate_left
           ·simp only [Act.put, List.setIfInBounds_toArray, List.set_cons_zero, List.set_cons_succ, i64_w, i32_w]
            rfl
           refine pure_ (i := 12) (N := some 21) (v := ?_) (a' := ?_) #[true, true, false, false, false, false, true, false, false, false, false, true, true, false, false, false, false, false, false, false, false, false, false] rfl rfl (any_of HT_.out jK) (fun _ _ _ h => h) (Or.inl ⟨by rfl, ?_⟩) ?_ ?_
           rotate_left
           ·intro w'
            go_simp
            with_reducible rfl
           rotate_left
           ·simp only [Act.put, List.setIfInBounds_toArray, List.set_cons_zero, List.set_cons_succ, i64_w, i32_w]
            rfl
           refine pure_ (i := 17) (N := some 26) (v := ?_) (a' := ?_) #[true, true, false, false, false, false, true, false, false, false, false, true, true, false, false, false, false, true, false, false, false, false, false] rfl rfl (any_of HT_.out jK) (fun _ _ _ h => h) (Or.inl ⟨by rfl, ?_⟩) ?_ ?_
           rotate_left
           ·intro w'
            go_simp
            with_reducible rfl
           rotate_left
           ·simp only [Act.put, List.setIfInBounds_toArray, List.set_cons_zero, List.set_cons_succ, i64_w, i32_w]
            rfl
           refine pure_ (i := 18) (N := some 27) (v := ?_) (a' := ?_) #[true, true, false, false, false, false, true, false, false, false, false, true, true, false, false, false, false, true, true, false, false, false, false] rfl rfl (any_of HT_.out jK) (fun _ _ _ h => h) (Or.inl ⟨by rfl, ?_⟩) ?_ ?_
           rotate_left
           ·intro w'
            go_simp
            with_reducible rfl
           rotate_left
           ·simp only [Act.put, List.setIfInBounds_toArray, List.set_cons_zero, List.set_cons_succ, i64_w, i32_w]
            rfl
           refine take_ (i := 2) (N := some 11) (v := ?_) (a' := ?_) #[true, true, true, false, false, false, true, false, false, false, false, true, true, false, false, false, false, true, true, false, false, false, false] rfl rfl (take_ofW HT_.out HW_.out jK) (fun _ _ _ h => h) (Or.inl ⟨by rfl, ?_⟩) hHeld ?_ ?_
           rotate_left
           ·rintro w' ⟨s0, s1, s2, s3, s4, s5, s6, s7, s8, s9, s10, s11⟩
            go_simp
            with_reducible rfl
           rotate_left
           ·simp only [Act.put, List.setIfInBounds_toArray, List.set_cons_zero, List.set_cons_succ, i64_w, i32_w]
            rfl
           refine take_ (i := 7) (N := some 16) (v := ?_) (a' := ?_) #[true, true, true, false, false, false, true, true, false, false, false, true, true, false, false, false, false, true, true, false, false, false, false] rfl rfl (take_ofW HT_.out HW_.out jK) (fun _ _ _ h => h) (Or.inl ⟨by rfl, ?_⟩) hHeld ?_ ?_
           rotate_left
           ·rintro w' ⟨s0, s1, s2, s3, s4, s5, s6, s7, s8, s9, s10, s11⟩
            go_simp
            with_reducible rfl
           rotate_left
           ·simp only [Act.put, List.setIfInBounds_toArray, List.set_cons_zero, List.set_cons_succ, i64_w, i32_w]
            rfl
           refine take_ (i := 13) (N := some 22) (v := ?_) (a' := ?_) #[true, true, true, false, false, false, true, true, false, false, false, true, true, true, false, false, false, true, true, false, false, false, false] rfl rfl (take_ofW HT_.out HW_.out jK) (fun _ _ _ h => h) (Or.inl ⟨by rfl, ?_⟩) hHeld ?_ ?_
           rotate_left
           ·rintro w' ⟨s0, s1, s2, s3, s4, s5, s6, s7, s8, s9, s10, s11⟩
            go_simp
            with_reducible rfl
           rotate_left
           ·simp only [Act.put, List.setIfInBounds_toArray, List.set_cons_zero, List.set_cons_succ, i64_w, i32_w]
            rfl
           refine take_ (i := 19) (N := some 28) (v := ?_) (a' := ?_) #[true, true, true, false, false, false, true, true, false, false, false, true, true, true, false, false, false, true, true, true, false, false, false] rfl rfl (take_ofW HT_.out HW_.out jK) (fun _ _ _ h => h) (Or.inl ⟨by rfl, ?_⟩) hHeld ?_ ?_
           rotate_left
           ·rintro w' ⟨s0, s1, s2, s3, s4, s5, s6, s7, s8, s9, s10, s11⟩
            go_simp
            with_reducible rfl
           rotate_left
           ·simp only [Act.put, List.setIfInBounds_toArray, List.set_cons_zero, List.set_cons_succ, i64_w, i32_w]
            rfl
           refine one_ (i := 3) (N := some 12) #[true, true, true, true, false, false, true, true, false, false, false, true, true, true, false, false, false, true, true, true, false, false, false] rfl rfl (one_of HT_.out jK) (by decide) (fun K hK => ?_)
           refine goes_ Tryd.func58 jK rfl #[.int .i64 a0_0] (by rfl) rfl rfl jA ?_
           with_reducible refine (spec_NumText.calls kj3 a0_0 t212 _ A10.out).mono ?_
           rintro e w23 ⟨rfl, hb⟩
           refine ⟨_, rfl, ?_⟩
           have n0_ := aS (blk_below (bU BK210.out) hb)
           have n1_ := aS (below_step (wS1 HB.out GE210.out) hb)
           clear BK210
           clear HB
           have BK210 := n0_
           have HB := n1_
           clear n0_ n1_
           (try clear hb)
           (try clear hb2)
           (try clear hk)
           (try clear hi)
           refine hK.out _ _ ⟨(blk_cell BK210.out 0).trans rfl, (blk_cell BK210.out 1).trans rfl, (blk_cell BK210.out 2).trans rfl, (blk_cell BK210.out 3).trans rfl, (blk_cell BK210.out 4).trans rfl, (blk_cell BK210.out 5).trans rfl, (blk_cell BK210.out 6).trans rfl, (blk_cell BK210.out 7).trans rfl, (blk_cell BK210.out 8).trans rfl, (blk_cell BK210.out 9).trans rfl, (blk_cell BK210.out 10).trans rfl, (blk_cell BK210.out 11).trans rfl⟩ (fun hHeld => ?_)
           clear hK K
           refine norm_ (a' := ?_) ?_ ?_
           rotate_left
           ·show Act.put _ (some 12) _ = _
            simp only [Act.put, List.setIfInBounds_toArray, List.set_cons_zero, List.set_cons_succ, i64_w, i32_w]
            rfl
           refine pure_ (i := 4) (N := some 13) (v := ?_) (a' := ?_) #[true, true, true, true, true, false, true, true, false, false, false, true, true, true, false, false, false, true, true, true, false, false, false] rfl rfl (any_of HT_.out jK) (fun _ _ _ h => h) (Or.inl ⟨by rfl, ?_⟩) ?_ ?_
           rotate_left
           ·intro w'
            go_simp
            with_reducible rfl
           rotate_left
           ·simp only [Act.put, List.setIfInBounds_toArray, List.set_cons_zero, List.set_cons_succ, i64_w, i32_w]
            rfl
           refine pure_ (i := 5) (N := some 14) (v := ?_) (a' := ?_) #[true, true, true, true, true, true, true, true, false, false, false, true, true, true, false, false, false, true, true, true, false, false, false] rfl rfl (any_of HT_.out jK) (fun _ _ _ h => h) (Or.inl ⟨by rfl, ?_⟩) ?_ ?_
           rotate_left
           ·intro w'
            go_simp
            with_reducible rfl
           rotate_left
           ·simp only [Act.put, List.setIfInBounds_toArray, List.set_cons_zero, List.set_cons_succ, i64_w, i32_w]
            rfl
           refine one_ (i := 8) (N := some 17) #[true, true, true, true, true, true, true, true, true, false, false, true, true, true, false, false, false, true, true, true, false, false, false] rfl rfl (one_of HT_.out jK) (by decide) (fun K hK => ?_)
           refine goes_ Tryd.func58 jK rfl #[.int .i64 a0_6] (by rfl) rfl rfl jA ?_
           with_reducible refine (spec_NumText.calls kj3 a0_6 t213 _ A13.out).mono ?_
           rintro e w24 ⟨rfl, hb⟩
           refine ⟨_, rfl, ?_⟩
           have n0_ := aS (blk_below (bU BK210.out) hb)
           have n1_ := aS (below_step (wS1 HB.out GE210.out) hb)
           clear BK210
           clear HB
           have BK210 := n0_
           have HB := n1_
           clear n0_ n1_
           (try clear hb)
           (try clear hb2)
           (try clear hk)
           (try clear hi)
           refine hK.out _ _ ⟨(blk_cell BK210.out 0).trans rfl, (blk_cell BK210.out 1).trans rfl, (blk_cell BK210.out 2).trans rfl, (blk_cell BK210.out 3).trans rfl, (blk_cell BK210.out 4).trans rfl, (blk_cell BK210.out 5).trans rfl, (blk_cell BK210.out 6).trans rfl, (blk_cell BK210.out 7).trans rfl, (blk_cell BK210.out 8).trans rfl, (blk_cell BK210.out 9).trans rfl, (blk_cell BK210.out 10).trans rfl, (blk_cell BK210.out 11).trans rfl⟩ (fun hHeld => ?_)
           clear hK K
           refine norm_ (a' := ?_) ?_ ?_
           rotate_left
           ·show Act.put _ (some 17) _ = _
            simp only [Act.put, List.setIfInBounds_toArray, List.set_cons_zero, List.set_cons_succ, i64_w, i32_w]
            rfl
           refine pure_ (i := 9) (N := some 18) (v := ?_) (a' := ?_) #[true, true, true, true, true, true, true, true, true, true, false, true, true, true, false, false, false, true, true, true, false, false, false] rfl rfl (any_of HT_.out jK) (fun _ _ _ h => h) (Or.inl ⟨by rfl, ?_⟩) ?_ ?_
           rotate_left
           ·intro w'
            go_simp
            with_reducible rfl
           rotate_left
           ·simp only [Act.put, List.setIfInBounds_toArray, List.set_cons_zero, List.set_cons_succ, i64_w, i32_w]
            rfl
           refine pure_ (i := 10) (N := some 19) (v := ?_) (a' := ?_) #[true, true, true, true, true, true, true, true, true, true, true, true, true, true, false, false, false, true, true, true, false, false, false] rfl rfl (any_of HT_.out jK) (fun _ _ _ h => h) (Or.inl ⟨by rfl, ?_⟩) ?_ ?_
           rotate_left
           ·intro w'
            go_simp
            with_reducible rfl
           rotate_left
           ·simp only [Act.put, List.setIfInBounds_toArray, List.set_cons_zero, List.set_cons_succ, i64_w, i32_w]
            rfl
           refine one_ (i := 14) (N := some 23) #[true, true, true, true, true, true, true, true, true, true, true, true, true, true, true, false, false, true, true, true, false, false, false] rfl rfl (one_of HT_.out jK) (by decide) (fun K hK => ?_)
           refine goes_ Tryd.func57 jK rfl #[.string a0_7] (by rfl) rfl rfl jA ?_
           with_reducible refine (spec_l5Dot.calls a0_7 t214 _ A16.out).mono ?_
           rintro e w' ⟨rfl, ⟨nd, rfl⟩⟩
           refine ⟨_, rfl, ?_⟩
           refine hK.out _ _ ⟨(blk_cell BK210.out 0).trans rfl, (blk_cell BK210.out 1).trans rfl, (blk_cell BK210.out 2).trans rfl, (blk_cell BK210.out 3).trans rfl, (blk_cell BK210.out 4).trans rfl, (blk_cell BK210.out 5).trans rfl, (blk_cell BK210.out 6).trans rfl, (blk_cell BK210.out 7).trans rfl, (blk_cell BK210.out 8).trans rfl, (blk_cell BK210.out 9).trans rfl, (blk_cell BK210.out 10).trans rfl, (blk_cell BK210.out 11).trans rfl⟩ (fun hHeld => ?_)
           clear hK K
           refine norm_ (a' := ?_) ?_ ?_
           rotate_left
           ·show Act.put _ (some 23) _ = _
            simp only [Act.put, List.setIfInBounds_toArray, List.set_cons_zero, List.set_cons_succ, i64_w, i32_w]
            rfl
           refine pure_ (i := 15) (N := some 24) (v := ?_) (a' := ?_) #[true, true, true, true, true, true, true, true, true, true, true, true, true, true, true, true, false, true, true, true, false, false, false] rfl rfl (any_of HT_.out jK) (fun _ _ _ h => h) (Or.inl ⟨by rfl, ?_⟩) ?_ ?_
           rotate_left
           ·intro w'
            go_simp
            with_reducible rfl
           rotate_left
           ·simp only [Act.put, List.setIfInBounds_toArray, List.set_cons_zero, List.set_cons_succ, i64_w, i32_w]
            rfl
           refine pure_ (i := 16) (N := some 25) (v := ?_) (a' := ?_) #[true, true, true, true, true, true, true, true, true, true, true, true, true, true, true, true, true, true, true, true, false, false, false] rfl rfl (any_of HT_.out jK) (fun _ _ _ h => h) (Or.inl ⟨by rfl, ?_⟩) ?_ ?_
           rotate_left
           ·intro w'
            go_simp
            with_reducible rfl
           rotate_left
           ·simp only [Act.put, List.setIfInBounds_toArray, List.set_cons_zero, List.set_cons_succ, i64_w, i32_w]
            rfl
           refine one_ (i := 20) (N := some 29) #[true, true, true, true, true, true, true, true, true, true, true, true, true, true, true, true, true, true, true, true, true, false, false] rfl rfl (one_of HT_.out jK) (by decide) (fun K hK => ?_)
           refine goes_ Tryd.func59 jK rfl #[.int .i64 a0_8] (by rfl) rfl rfl jA ?_
           with_reducible refine (spec_TypeText.calls a0_8 t215 _ A19.out).mono ?_
           rintro e w' ⟨rfl, ⟨nd, rfl⟩⟩
           refine ⟨_, rfl, ?_⟩
           refine hK.out _ _ ⟨(blk_cell BK210.out 0).trans rfl, (blk_cell BK210.out 1).trans rfl, (blk_cell BK210.out 2).trans rfl, (blk_cell BK210.out 3).trans rfl, (blk_cell BK210.out 4).trans rfl, (blk_cell BK210.out 5).trans rfl, (blk_cell BK210.out 6).trans rfl, (blk_cell BK210.out 7).trans rfl, (blk_cell BK210.out 8).trans rfl, (blk_cell BK210.out 9).trans rfl, (blk_cell BK210.out 10).trans rfl, (blk_cell BK210.out 11).trans rfl⟩ (fun hHeld => ?_)
           clear hK K
           refine norm_ (a' := ?_) ?_ ?_
           rotate_left
           ·show Act.put _ (some 29) _ = _
            simp only [Act.put, List.setIfInBounds_toArray, List.set_cons_zero, List.set_cons_succ, i64_w, i32_w]
            rfl
           refine pure_ (i := 21) (N := some 30) (v := ?_) (a' := ?_) #[true, true, true, true, true, true, true, true, true, true, true, true, true, true, true, true, true, true, true, true, true, true, false] rfl rfl (any_of HT_.out jK) (fun _ _ _ h => h) (Or.inl ⟨by rfl, ?_⟩) ?_ ?_
           rotate_left
           ·intro w'
            go_simp
            with_reducible rfl
           rotate_left
           ·simp only [Act.put, List.setIfInBounds_toArray, List.set_cons_zero, List.set_cons_succ, i64_w, i32_w]
            rfl
           refine pure_ (i := 22) (N := some 3) (v := ?_) (a' := ?_) #[true, true, true, true, true, true, true, true, true, true, true, true, true, true, true, true, true, true, true, true, true, true, true] rfl rfl (any_of HT_.out jK) (fun _ _ _ h => h) (Or.inl ⟨by rfl, ?_⟩) ?_ ?_
           rotate_left
           ·intro w'
            go_simp
            with_reducible rfl
           rotate_left
           ·simp only [Act.put, List.setIfInBounds_toArray, List.set_cons_zero, List.set_cons_succ, i64_w, i32_w]
            rfl
           refine done_ (done_of HT_.out jK) ?_
           have hcz25 := cells12f BK210.out
           go_upto_if 32 with (fail)
           go_cut [3] (fun v3 wc => ∃ (kq : Nat) (x3_20 : ByteArray), v3 = .string x3_20 ∧ Aside0 (spec_MsgText.j1 kq x3_20 a0_0 a0_1 a0_2 a0_3 a0_4 a0_5 a0_6 a0_7 a0_8 l0_9 l0_10 l0_11 = some r) ∧ Aside0 (kq ≤ kj3) ∧ Aside0 (wc.heap[gb210]? = some (.cells #[.int .i64 a0_0, .bool a0_1, .bool a0_2, .bool a0_3, .bool a0_4, .bool a0_5, .int .i64 a0_6, .string a0_7, .int .i64 a0_8, (.slice A0_9 l0_9.length c0_9), (.slice A0_10 l0_10.length c0_10), (.slice A0_11 l0_11.length c0_11)] 48 (0, 0))) ∧ Aside0 (Below w.heap.size w wc))
           case first =>
            have H := HC21.out
            clear HC21
            by_cases c26 : a0_2 = true
            ·subst c26
             have H1 : (if (((((((x3_3 ++ t212) ++ (⟨#[32]⟩ : ByteArray)) ++ t213) ++ (⟨#[32]⟩ : ByteArray)) ++ t214) ++ (⟨#[32]⟩ : ByteArray)) ++ t215).size + 5 ≤ 9223372036854775807 then (spec_MsgText.j1 kj3 ((((((((x3_3 ++ t212) ++ (⟨#[32]⟩ : ByteArray)) ++ t213) ++ (⟨#[32]⟩ : ByteArray)) ++ t214) ++ (⟨#[32]⟩ : ByteArray)) ++ t215) ++ (⟨#[32, 97, 117, 116, 104]⟩ : ByteArray)) a0_0 a0_1 true a0_3 a0_4 a0_5 a0_6 a0_7 a0_8 l0_9 l0_10 l0_11) else (none)) = some r := by rw [if_pos rfl] at H; exact H
             clear H
             have H := H1
             clear H1
             by_cases c27 : (((((((x3_3 ++ t212) ++ (⟨#[32]⟩ : ByteArray)) ++ t213) ++ (⟨#[32]⟩ : ByteArray)) ++ t214) ++ (⟨#[32]⟩ : ByteArray)) ++ t215).size + 5 ≤ 9223372036854775807
             ·rw [if_pos c27] at H
              have c27b0 := eq_true c27
              have c27b1 : decide ((((((((x3_3 ++ t212) ++ (⟨#[32]⟩ : ByteArray)) ++ t213) ++ (⟨#[32]⟩ : ByteArray)) ++ t214) ++ (⟨#[32]⟩ : ByteArray)) ++ t215).size + 5 ≤ 9223372036854775807) = true := decide_eq_true c27
              try have c27b2 : (9223372036854775807 < (((((((x3_3 ++ t212) ++ (⟨#[32]⟩ : ByteArray)) ++ t213) ++ (⟨#[32]⟩ : ByteArray)) ++ t214) ++ (⟨#[32]⟩ : ByteArray)) ++ t215).size + 5) = False := eq_false (Nat.not_lt.2 c27)
              try have c27b8 : (9223372036854775807 < x3_3.size + t212.size + 1 + t213.size + 1 + t214.size + 1 + t215.size + 5) = False := by have q_ := c27b2; simp only [ByteArray.size_append] at q_; exact q_
              have H' := aS H
              clear H
              go_wp2
              go_meet
              case rel => exact ⟨_, ((((((((x3_3 ++ t212) ++ (⟨#[32]⟩ : ByteArray)) ++ t213) ++ (⟨#[32]⟩ : ByteArray)) ++ t214) ++ (⟨#[32]⟩ : ByteArray)) ++ t215) ++ (⟨#[32, 97, 117, 116, 104]⟩ : ByteArray)), jB, H', ⟨by have := HJ3.out; first | omega | exact Nat.le_refl _⟩, ⟨by (with_reducible repeat (first | refine blk_drewN ?_ _ | refine blk_drew ?_ | refine blk_alloc ?_ _)); exact BK210.out⟩, ⟨by exact wS1 HB.out GE210.out⟩⟩
             ·rw [if_neg c27] at H
              exact absurd H (by simp)
            ·replace c26 := Bool.eq_false_iff.mpr c26
             subst c26
             have H1 : (spec_MsgText.j1 kj3 (((((((x3_3 ++ t212) ++ (⟨#[32]⟩ : ByteArray)) ++ t213) ++ (⟨#[32]⟩ : ByteArray)) ++ t214) ++ (⟨#[32]⟩ : ByteArray)) ++ t215) a0_0 a0_1 false a0_3 a0_4 a0_5 a0_6 a0_7 a0_8 l0_9 l0_10 l0_11) = some r := by rw [if_neg (show ¬ (false = true) by decide)] at H; exact H
             clear H
             have H := H1
             clear H1
             have H' := aS H
             clear H
             go_wp2
             go_meet
             case rel => exact ⟨_, (((((((x3_3 ++ t212) ++ (⟨#[32]⟩ : ByteArray)) ++ t213) ++ (⟨#[32]⟩ : ByteArray)) ++ t214) ++ (⟨#[32]⟩ : ByteArray)) ++ t215), jB, H', ⟨by have := HJ3.out; first | omega | exact Nat.le_refl _⟩, ⟨by (with_reducible repeat (first | refine blk_drewN ?_ _ | refine blk_drew ?_ | refine blk_alloc ?_ _)); exact BK210.out⟩, ⟨by exact wS1 HB.out GE210.out⟩⟩
           case rest =>
            clear HC21
            try clear c1
            try clear c2
            try clear p2
            try clear c3
            try clear c4
            try clear c5
            try clear c9
            try clear c11
            try clear c11b0
            try clear c11b1
            try clear c11b2
            try clear c12
            try clear c12b0
            try clear c12b1
            try clear c12b2
            try clear c14
            try clear c14b0
            try clear c14b1
            try clear c14b2
            try clear c15
            try clear c15b0
            try clear c15b1
            try clear c15b2
            try clear c17
            try clear c17b0
            try clear c17b1
            try clear c17b2
            try clear c18
            try clear c18b0
            try clear c18b1
            try clear c18b2
            try clear c20
            try clear c20b0
            try clear c20b1
            try clear c20b2
            try clear c26
            try clear c27
            try clear c27b0
            try clear c27b1
            try clear c27b2
            try clear hcz25
            try clear hcz25_10
            try clear hcz25_11
            try clear hcz25_2
            try clear hcz25_3
            try clear hcz25_4
            try clear hcz25_5
            try clear hcz25_6
            try clear hcz25_7
            try clear hcz25_8
            try clear hcz25_9
            try clear hcz6
            try clear hcz6_10
            try clear hcz6_11
            try clear hcz6_2
            try clear hcz6_3
            try clear hcz6_4
            try clear hcz6_5
            try clear hcz6_6
            try clear hcz6_7
            try clear hcz6_8
            try clear hcz6_9
            try clear hcz8
            try clear hcz8_10
            try clear hcz8_11
            try clear hcz8_2
            try clear hcz8_3
            try clear hcz8_4
            try clear hcz8_5
            try clear hcz8_6
            try clear hcz8_7
            try clear hcz8_8
            try clear hcz8_9
            try clear hfz25_10
            try clear hfz25_11
            try clear hfz25_2
            try clear hfz25_3
            try clear hfz25_4
            try clear hfz25_5
            try clear hfz25_6
            try clear hfz25_7
            try clear hfz25_8
            try clear hfz25_9
            try clear hfz6_10
            try clear hfz6_11
            try clear hfz6_2
            try clear hfz6_3
            try clear hfz6_4
            try clear hfz6_5
            try clear hfz6_6
            try clear hfz6_7
            try clear hfz6_8
            try clear hfz6_9
            try clear hfz8_10
            try clear hfz8_11
            try clear hfz8_2
            try clear hfz8_3
            try clear hfz8_4
            try clear hfz8_5
            try clear hfz8_6
            try clear hfz8_7
            try clear hfz8_8
            try clear hfz8_9
            try clear p2
            obtain ⟨kq, x3_20, rfl, HA, HJ20, BK210, HB⟩ := hcut
            cases kq with
            | zero => exact absurd HA.out (by simp [spec_MsgText.j1])
            | succ kj20 =>
             have H := HA.out
             clear HA
             simp only [spec_MsgText.j1] at H
             by_cases c28 : a0_3 = true
             ·subst c28
              have H1 : (if x3_20.size + 4 ≤ 9223372036854775807 then ((spec_l7Texts.f kj20 l0_9).bind fun t216 => (if (x3_20 ++ (⟨#[32, 99, 117, 116]⟩ : ByteArray)).size + t216.size ≤ 9223372036854775807 then ((spec_l7Texts.f kj20 l0_10).bind fun t217 => (if ((x3_20 ++ (⟨#[32, 99, 117, 116]⟩ : ByteArray)) ++ t216).size + t217.size ≤ 9223372036854775807 then ((spec_l7Texts.f kj20 l0_11).bind fun t218 => (if (((x3_20 ++ (⟨#[32, 99, 117, 116]⟩ : ByteArray)) ++ t216) ++ t217).size + t218.size ≤ 9223372036854775807 then (some ((((x3_20 ++ (⟨#[32, 99, 117, 116]⟩ : ByteArray)) ++ t216) ++ t217) ++ t218)) else (none))) else (none))) else (none))) else (none)) = some r := by rw [if_pos rfl] at H; exact H
              clear H
              have H := H1
              clear H1
              by_cases c29 : x3_20.size + 4 ≤ 9223372036854775807
              ·rw [if_pos c29] at H
               have c29b0 := eq_true c29
               have c29b1 : decide (x3_20.size + 4 ≤ 9223372036854775807) = true := decide_eq_true c29
               try have c29b2 : (9223372036854775807 < x3_20.size + 4) = False := eq_false (Nat.not_lt.2 c29)
               replace H := Option.bind_eq_some_iff.mp H
               obtain ⟨t216, A30, H⟩ := H
               try dsimp only at H
               replace A30 := aS A30
               by_cases c31 : (x3_20 ++ (⟨#[32, 99, 117, 116]⟩ : ByteArray)).size + t216.size ≤ 9223372036854775807
               ·rw [if_pos c31] at H
                have c31b0 := eq_true c31
                have c31b1 : decide ((x3_20 ++ (⟨#[32, 99, 117, 116]⟩ : ByteArray)).size + t216.size ≤ 9223372036854775807) = true := decide_eq_true c31
                try have c31b2 : (9223372036854775807 < (x3_20 ++ (⟨#[32, 99, 117, 116]⟩ : ByteArray)).size + t216.size) = False := eq_false (Nat.not_lt.2 c31)
                try have c31b8 : (9223372036854775807 < x3_20.size + 4 + t216.size) = False := by have q_ := c31b2; simp only [ByteArray.size_append] at q_; exact q_
                replace H := Option.bind_eq_some_iff.mp H
                obtain ⟨t217, A32, H⟩ := H
                try dsimp only at H
                replace A32 := aS A32
                by_cases c33 : ((x3_20 ++ (⟨#[32, 99, 117, 116]⟩ : ByteArray)) ++ t216).size + t217.size ≤ 9223372036854775807
                ·rw [if_pos c33] at H
                 have c33b0 := eq_true c33
                 have c33b1 : decide (((x3_20 ++ (⟨#[32, 99, 117, 116]⟩ : ByteArray)) ++ t216).size + t217.size ≤ 9223372036854775807) = true := decide_eq_true c33
                 try have c33b2 : (9223372036854775807 < ((x3_20 ++ (⟨#[32, 99, 117, 116]⟩ : ByteArray)) ++ t216).size + t217.size) = False := eq_false (Nat.not_lt.2 c33)
                 try have c33b8 : (9223372036854775807 < x3_20.size + 4 + t216.size + t217.size) = False := by have q_ := c33b2; simp only [ByteArray.size_append] at q_; exact q_
                 replace H := Option.bind_eq_some_iff.mp H
                 obtain ⟨t218, A34, H⟩ := H
                 try dsimp only at H
                 replace A34 := aS A34
                 by_cases c35 : (((x3_20 ++ (⟨#[32, 99, 117, 116]⟩ : ByteArray)) ++ t216) ++ t217).size + t218.size ≤ 9223372036854775807
                 ·rw [if_pos c35] at H
                  have c35b0 := eq_true c35
                  have c35b1 : decide ((((x3_20 ++ (⟨#[32, 99, 117, 116]⟩ : ByteArray)) ++ t216) ++ t217).size + t218.size ≤ 9223372036854775807) = true := decide_eq_true c35
                  try have c35b2 : (9223372036854775807 < (((x3_20 ++ (⟨#[32, 99, 117, 116]⟩ : ByteArray)) ++ t216) ++ t217).size + t218.size) = False := eq_false (Nat.not_lt.2 c35)
                  try have c35b8 : (9223372036854775807 < x3_20.size + 4 + t216.size + t217.size + t218.size) = False := by have q_ := c35b2; simp only [ByteArray.size_append] at q_; exact q_
                  obtain rfl := Option.some.inj H
                  have hcz36 := cells12f BK210.out
                  try go_wp2
                  have n0_ := aS (blk_drew BK210.out)
                  have n1_ := aS (below_drew1 HB.out)
                  clear BK210
                  clear HB
                  have BK210 := n0_
                  have HB := n1_
                  clear n0_ n1_
                  refine start_ (n := 14) (S := fun w' => w'.cell? ⟨gb210, 0, none⟩ = some (.int .i64 a0_0) ∧ w'.cell? ⟨gb210, 1, none⟩ = some (.bool a0_1) ∧ w'.cell? ⟨gb210, 2, none⟩ = some (.bool a0_2) ∧ w'.cell? ⟨gb210, 3, none⟩ = some (.bool true) ∧ w'.cell? ⟨gb210, 4, none⟩ = some (.bool a0_4) ∧ w'.cell? ⟨gb210, 5, none⟩ = some (.bool a0_5) ∧ w'.cell? ⟨gb210, 6, none⟩ = some (.int .i64 a0_6) ∧ w'.cell? ⟨gb210, 7, none⟩ = some (.string a0_7) ∧ w'.cell? ⟨gb210, 8, none⟩ = some (.int .i64 a0_8) ∧ w'.cell? ⟨gb210, 9, none⟩ = some (.slice A0_9 l0_9.length c0_9) ∧ w'.cell? ⟨gb210, 10, none⟩ = some (.slice A0_10 l0_10.length c0_10) ∧ w'.cell? ⟨gb210, 11, none⟩ = some (.slice A0_11 l0_11.length c0_11)) (ds := []) #[false, false, false, false, false, false, false, false, false, false, false, false, false, false] jK rfl rfl ⟨(blk_cell BK210.out 0).trans rfl, (blk_cell BK210.out 1).trans rfl, (blk_cell BK210.out 2).trans rfl, (blk_cell BK210.out 3).trans rfl, (blk_cell BK210.out 4).trans rfl, (blk_cell BK210.out 5).trans rfl, (blk_cell BK210.out 6).trans rfl, (blk_cell BK210.out 7).trans rfl, (blk_cell BK210.out 8).trans rfl, (blk_cell BK210.out 9).trans rfl, (blk_cell BK210.out 10).trans rfl, (blk_cell BK210.out 11).trans rfl⟩ (fun hHeld => ?_); refine with_tabW spec_MsgText.tab11 spec_MsgText.bits11 (fun HT_ HW_ => ?_)
                  generalize wc.drew = w37 at BK210 HB hHeld ⊢
                  refine pure_ (i := 0) (N := some 39) (v := ?_) (a' := ?_) #[true, false, false, false, false, false, false, false, false, false, false, false, false, false] rfl rfl (any_of HT_.out jK) (fun _ _ _ h => h) (Or.inl ⟨by rfl, ?_⟩) ?_ ?_
                  rotate_left
                  ·intro w'
                   go_simp
                   with_reducible rfl
                  rotate_left
                  ·simp only [Act.put, List.setIfInBounds_toArray, List.set_cons_zero, List.set_cons_succ, i64_w, i32_w]
                   rfl
                  refine pure_ (i := 1) (N := some 40) (v := ?_) (a' := ?_) #[true, true, false, false, false, false, false, false, false, false, false, false, false, false] rfl rfl (any_of HT_.out jK) (fun _ _ _ h => h) (Or.inl ⟨by rfl, ?_⟩) ?_ ?_
                  rotate_left
                  ·intro w'
                   go_simp
                   with_reducible rfl
                  rotate_left
                  ·simp only [Act.put, List.setIfInBounds_toArray, List.set_cons_zero, List.set_cons_succ, i64_w, i32_w]
                   rfl
                  refine pure_ (i := 5) (N := some 44) (v := ?_) (a' := ?_) #[true, true, false, false, false, true, false, false, false, false, false, false, false, false] rfl rfl (any_of HT_.out jK) (fun _ _ _ h => h) (Or.inl ⟨by rfl, ?_⟩) ?_ ?_
                  rotate_left
                  ·intro w'
                   go_simp
                   with_reducible rfl
                  rotate_left
                  ·simp only [Act.put, List.setIfInBounds_toArray, List.set_cons_zero, List.set_cons_succ, i64_w, i32_w]
                   rfl
                  refine pure_ (i := 9) (N := some 48) (v := ?_) (a' := ?_) #[true, true, false, false, false, true, false, false, false, true, false, false, false, false] rfl rfl (any_of HT_.out jK) (fun _ _ _ h => h) (Or.inl ⟨by rfl, ?_⟩) ?_ ?_
                  rotate_left
                  ·intro w'
                   go_simp
                   with_reducible rfl
                  rotate_left
                  ·simp only [Act.put, List.setIfInBounds_toArray, List.set_cons_zero, List.set_cons_succ, i64_w, i32_w]
                   rfl
                  refine take_ (i := 2) (N := some 41) (v := ?_) (a' := ?_) #[true, true, true, false, false, true, false, false, false, true, false, false, false, false] rfl rfl (take_ofW HT_.out HW_.out jK) (fun _ _ _ h => h) (Or.inl ⟨by rfl, ?_⟩) hHeld ?_ ?_
                  rotate_left
                  ·rintro w' ⟨s0, s1, s2, s3, s4, s5, s6, s7, s8, s9, s10, s11⟩
                   go_simp
                   with_reducible rfl
                  rotate_left
                  ·simp only [Act.put, List.setIfInBounds_toArray, List.set_cons_zero, List.set_cons_succ, i64_w, i32_w]
                   rfl
                  refine take_ (i := 6) (N := some 45) (v := ?_) (a' := ?_) #[true, true, true, false, false, true, true, false, false, true, false, false, false, false] rfl rfl (take_ofW HT_.out HW_.out jK) (fun _ _ _ h => h) (Or.inl ⟨by rfl, ?_⟩) hHeld ?_ ?_
                  rotate_left
                  ·rintro w' ⟨s0, s1, s2, s3, s4, s5, s6, s7, s8, s9, s10, s11⟩
                   go_simp
                   with_reducible rfl
                  rotate_left
                  ·simp only [Act.put, List.setIfInBounds_toArray, List.set_cons_zero, List.set_cons_succ, i64_w, i32_w]
                   rfl
                  refine take_ (i := 10) (N := some 49) (v := ?_) (a' := ?_) #[true, true, true, false, false, true, true, false, false, true, true, false, false, false] rfl rfl (take_ofW HT_.out HW_.out jK) (fun _ _ _ h => h) (Or.inl ⟨by rfl, ?_⟩) hHeld ?_ ?_
                  rotate_left
                  ·rintro w' ⟨s0, s1, s2, s3, s4, s5, s6, s7, s8, s9, s10, s11⟩
                   go_simp
                   with_reducible rfl
                  rotate_left
                  ·simp only [Act.put, List.setIfInBounds_toArray, List.set_cons_zero, List.set_cons_succ, i64_w, i32_w]
                   rfl
                  refine one_ (i := 3) (N := some 42) #[true, true, true, true, false, true, true, false, false, true, true, false, false, false] rfl rfl (one_of HT_.out jK) (by decide) (fun K hK => ?_)
                  refine goes_ Tryd.func94 jK rfl #[.slice A0_9 l0_9.length c0_9] (by rfl) rfl rfl jA ?_
                  with_reducible refine (spec_l7Texts.calls kj20 _ _ l0_9 t216 _ ?side1 ?side2 A30.out).mono ?_
                  (case side1 => exact cU ((Kd.C_below HR0_9.out HB.out)))
                  (case side2 => exact HC0_9.out)
                  rintro e w38 ⟨rfl, hb⟩
                  refine ⟨_, rfl, ?_⟩
                  have n0_ := aS (blk_below (bU BK210.out) hb)
                  have n1_ := aS (below_step (wS1 HB.out GE210.out) hb)
                  clear BK210
                  clear HB
                  have BK210 := n0_
                  have HB := n1_
                  clear n0_ n1_
                  (try clear hb)
                  (try clear hb2)
                  (try clear hk)
                  (try clear hi)
                  refine hK.out _ _ ⟨(blk_cell BK210.out 0).trans rfl, (blk_cell BK210.out 1).trans rfl, (blk_cell BK210.out 2).trans rfl, (blk_cell BK210.out 3).trans rfl, (blk_cell BK210.out 4).trans rfl, (blk_cell BK210.out 5).trans rfl, (blk_cell BK210.out 6).trans rfl, (blk_cell BK210.out 7).trans rfl, (blk_cell BK210.out 8).trans rfl, (blk_cell BK210.out 9).trans rfl, (blk_cell BK210.out 10).trans rfl, (blk_cell BK210.out 11).trans rfl⟩ (fun hHeld => ?_)
                  clear hK K
                  refine norm_ (a' := ?_) ?_ ?_
                  rotate_left
                  ·show Act.put _ (some 42) _ = _
                   simp only [Act.put, List.setIfInBounds_toArray, List.set_cons_zero, List.set_cons_succ, i64_w, i32_w]
                   rfl
                  refine pure_ (i := 4) (N := some 43) (v := ?_) (a' := ?_) #[true, true, true, true, true, true, true, false, false, true, true, false, false, false] rfl rfl (any_of HT_.out jK) (fun _ _ _ h => h) (Or.inl ⟨by rfl, ?_⟩) ?_ ?_
                  rotate_left
                  ·intro w'
                   go_simp
                   with_reducible rfl
                  rotate_left
                  ·simp only [Act.put, List.setIfInBounds_toArray, List.set_cons_zero, List.set_cons_succ, i64_w, i32_w]
                   rfl
                  refine one_ (i := 7) (N := some 46) #[true, true, true, true, true, true, true, true, false, true, true, false, false, false] rfl rfl (one_of HT_.out jK) (by decide) (fun K hK => ?_)
                  refine goes_ Tryd.func94 jK rfl #[.slice A0_10 l0_10.length c0_10] (by rfl) rfl rfl jA ?_
                  with_reducible refine (spec_l7Texts.calls kj20 _ _ l0_10 t217 _ ?side1 ?side2 A32.out).mono ?_
                  (case side1 => exact cU ((Kd.C_below HR0_10.out HB.out)))
                  (case side2 => exact HC0_10.out)
                  rintro e w39 ⟨rfl, hb⟩
                  refine ⟨_, rfl, ?_⟩
                  have n0_ := aS (blk_below (bU BK210.out) hb)
                  have n1_ := aS (below_step (wS1 HB.out GE210.out) hb)
                  clear BK210
                  clear HB
                  have BK210 := n0_
                  have HB := n1_
                  clear n0_ n1_
                  (try clear hb)
                  (try clear hb2)
                  (try clear hk)
                  (try clear hi)
                  refine hK.out _ _ ⟨(blk_cell BK210.out 0).trans rfl, (blk_cell BK210.out 1).trans rfl, (blk_cell BK210.out 2).trans rfl, (blk_cell BK210.out 3).trans rfl, (blk_cell BK210.out 4).trans rfl, (blk_cell BK210.out 5).trans rfl, (blk_cell BK210.out 6).trans rfl, (blk_cell BK210.out 7).trans rfl, (blk_cell BK210.out 8).trans rfl, (blk_cell BK210.out 9).trans rfl, (blk_cell BK210.out 10).trans rfl, (blk_cell BK210.out 11).trans rfl⟩ (fun hHeld => ?_)
                  clear hK K
                  refine norm_ (a' := ?_) ?_ ?_
                  rotate_left
                  ·show Act.put _ (some 46) _ = _
                   simp only [Act.put, List.setIfInBounds_toArray, List.set_cons_zero, List.set_cons_succ, i64_w, i32_w]
                   rfl
                  refine pure_ (i := 8) (N := some 47) (v := ?_) (a' := ?_) #[true, true, true, true, true, true, true, true, true, true, true, false, false, false] rfl rfl (any_of HT_.out jK) (fun _ _ _ h => h) (Or.inl ⟨by rfl, ?_⟩) ?_ ?_
                  rotate_left
                  ·intro w'
                   go_simp
                   with_reducible rfl
                  rotate_left
                  ·simp only [Act.put, List.setIfInBounds_toArray, List.set_cons_zero, List.set_cons_succ, i64_w, i32_w]
                   rfl
                  refine one_ (i := 11) (N := some 50) #[true, true, true, true, true, true, true, true, true, true, true, true, false, false] rfl rfl (one_of HT_.out jK) (by decide) (fun K hK => ?_)
                  refine goes_ Tryd.func94 jK rfl #[.slice A0_11 l0_11.length c0_11] (by rfl) rfl rfl jA ?_
                  with_reducible refine (spec_l7Texts.calls kj20 _ _ l0_11 t218 _ ?side1 ?side2 A34.out).mono ?_
                  (case side1 => exact cU ((Kd.C_below HR0_11.out HB.out)))
                  (case side2 => exact HC0_11.out)
                  rintro e w40 ⟨rfl, hb⟩
                  refine ⟨_, rfl, ?_⟩
                  have n0_ := aS (blk_below (bU BK210.out) hb)
                  have n1_ := aS (below_step (wS1 HB.out GE210.out) hb)
                  clear BK210
                  clear HB
                  have BK210 := n0_
                  have HB := n1_
                  clear n0_ n1_
                  (try clear hb)
                  (try clear hb2)
                  (try clear hk)
                  (try clear hi)
                  refine hK.out _ _ ⟨(blk_cell BK210.out 0).trans rfl, (blk_cell BK210.out 1).trans rfl, (blk_cell BK210.out 2).trans rfl, (blk_cell BK210.out 3).trans rfl, (blk_cell BK210.out 4).trans rfl, (blk_cell BK210.out 5).trans rfl, (blk_cell BK210.out 6).trans rfl, (blk_cell BK210.out 7).trans rfl, (blk_cell BK210.out 8).trans rfl, (blk_cell BK210.out 9).trans rfl, (blk_cell BK210.out 10).trans rfl, (blk_cell BK210.out 11).trans rfl⟩ (fun hHeld => ?_)
                  clear hK K
                  refine norm_ (a' := ?_) ?_ ?_
                  rotate_left
                  ·show Act.put _ (some 50) _ = _
                   simp only [Act.put, List.setIfInBounds_toArray, List.set_cons_zero, List.set_cons_succ, i64_w, i32_w]
                   rfl
                  refine pure_ (i := 12) (N := some 51) (v := ?_) (a' := ?_) #[true, true, true, true, true, true, true, true, true, true, true, true, true, false] rfl rfl (any_of HT_.out jK) (fun _ _ _ h => h) (Or.inl ⟨by rfl, ?_⟩) ?_ ?_
                  rotate_left
                  ·intro w'
                   go_simp
                   with_reducible rfl
                  rotate_left
                  ·simp only [Act.put, List.setIfInBounds_toArray, List.set_cons_zero, List.set_cons_succ, i64_w, i32_w]
                   rfl
                  refine pure_ (i := 13) (N := some 2) (v := ?_) (a' := ?_) #[true, true, true, true, true, true, true, true, true, true, true, true, true, true] rfl rfl (any_of HT_.out jK) (fun _ _ _ h => h) (Or.inl ⟨by rfl, ?_⟩) ?_ ?_
                  rotate_left
                  ·intro w'
                   go_simp
                   with_reducible rfl
                  rotate_left
                  ·simp only [Act.put, List.setIfInBounds_toArray, List.set_cons_zero, List.set_cons_succ, i64_w, i32_w]
                   rfl
                  refine done_ (done_of HT_.out jK) ?_
                  try go_wp2
                  go_ret
                  exact ⟨jE, by exact wS1 HB.out GE210.out⟩
                 ·rw [if_neg c35] at H
                  exact absurd H (by simp)
                ·rw [if_neg c33] at H
                 exact absurd H (by simp)
               ·rw [if_neg c31] at H
                exact absurd H (by simp)
              ·rw [if_neg c29] at H
               exact absurd H (by simp)
             ·replace c28 := Bool.eq_false_iff.mpr c28
              subst c28
              have H1 : ((spec_l7Texts.f kj20 l0_9).bind fun t219 => (if x3_20.size + t219.size ≤ 9223372036854775807 then ((spec_l7Texts.f kj20 l0_10).bind fun t220 => (if (x3_20 ++ t219).size + t220.size ≤ 9223372036854775807 then ((spec_l7Texts.f kj20 l0_11).bind fun t221 => (if ((x3_20 ++ t219) ++ t220).size + t221.size ≤ 9223372036854775807 then (some (((x3_20 ++ t219) ++ t220) ++ t221)) else (none))) else (none))) else (none))) = some r := by rw [if_neg (show ¬ (false = true) by decide)] at H; exact H
              clear H
              have H := H1
              clear H1
              replace H := Option.bind_eq_some_iff.mp H
              obtain ⟨t219, A41, H⟩ := H
              try dsimp only at H
              replace A41 := aS A41
              by_cases c42 : x3_20.size + t219.size ≤ 9223372036854775807
              ·rw [if_pos c42] at H
               have c42b0 := eq_true c42
               have c42b1 : decide (x3_20.size + t219.size ≤ 9223372036854775807) = true := decide_eq_true c42
               try have c42b2 : (9223372036854775807 < x3_20.size + t219.size) = False := eq_false (Nat.not_lt.2 c42)
               replace H := Option.bind_eq_some_iff.mp H
               obtain ⟨t220, A43, H⟩ := H
               try dsimp only at H
               replace A43 := aS A43
               by_cases c44 : (x3_20 ++ t219).size + t220.size ≤ 9223372036854775807
               ·rw [if_pos c44] at H
                have c44b0 := eq_true c44
                have c44b1 : decide ((x3_20 ++ t219).size + t220.size ≤ 9223372036854775807) = true := decide_eq_true c44
                try have c44b2 : (9223372036854775807 < (x3_20 ++ t219).size + t220.size) = False := eq_false (Nat.not_lt.2 c44)
                try have c44b8 : (9223372036854775807 < x3_20.size + t219.size + t220.size) = False := by have q_ := c44b2; simp only [ByteArray.size_append] at q_; exact q_
                replace H := Option.bind_eq_some_iff.mp H
                obtain ⟨t221, A45, H⟩ := H
                try dsimp only at H
                replace A45 := aS A45
                by_cases c46 : ((x3_20 ++ t219) ++ t220).size + t221.size ≤ 9223372036854775807
                ·rw [if_pos c46] at H
                 have c46b0 := eq_true c46
                 have c46b1 : decide (((x3_20 ++ t219) ++ t220).size + t221.size ≤ 9223372036854775807) = true := decide_eq_true c46
                 try have c46b2 : (9223372036854775807 < ((x3_20 ++ t219) ++ t220).size + t221.size) = False := eq_false (Nat.not_lt.2 c46)
                 try have c46b8 : (9223372036854775807 < x3_20.size + t219.size + t220.size + t221.size) = False := by have q_ := c46b2; simp only [ByteArray.size_append] at q_; exact q_
                 obtain rfl := Option.some.inj H
                 have hcz47 := cells12f BK210.out
                 try go_wp2
                 have n0_ := aS (blk_drew BK210.out)
                 have n1_ := aS (below_drew1 HB.out)
                 clear BK210
                 clear HB
                 have BK210 := n0_
                 have HB := n1_
                 clear n0_ n1_
                 refine start_ (n := 14) (S := fun w' => w'.cell? ⟨gb210, 0, none⟩ = some (.int .i64 a0_0) ∧ w'.cell? ⟨gb210, 1, none⟩ = some (.bool a0_1) ∧ w'.cell? ⟨gb210, 2, none⟩ = some (.bool a0_2) ∧ w'.cell? ⟨gb210, 3, none⟩ = some (.bool false) ∧ w'.cell? ⟨gb210, 4, none⟩ = some (.bool a0_4) ∧ w'.cell? ⟨gb210, 5, none⟩ = some (.bool a0_5) ∧ w'.cell? ⟨gb210, 6, none⟩ = some (.int .i64 a0_6) ∧ w'.cell? ⟨gb210, 7, none⟩ = some (.string a0_7) ∧ w'.cell? ⟨gb210, 8, none⟩ = some (.int .i64 a0_8) ∧ w'.cell? ⟨gb210, 9, none⟩ = some (.slice A0_9 l0_9.length c0_9) ∧ w'.cell? ⟨gb210, 10, none⟩ = some (.slice A0_10 l0_10.length c0_10) ∧ w'.cell? ⟨gb210, 11, none⟩ = some (.slice A0_11 l0_11.length c0_11)) (ds := []) #[false, false, false, false, false, false, false, false, false, false, false, false, false, false] jK rfl rfl ⟨(blk_cell BK210.out 0).trans rfl, (blk_cell BK210.out 1).trans rfl, (blk_cell BK210.out 2).trans rfl, (blk_cell BK210.out 3).trans rfl, (blk_cell BK210.out 4).trans rfl, (blk_cell BK210.out 5).trans rfl, (blk_cell BK210.out 6).trans rfl, (blk_cell BK210.out 7).trans rfl, (blk_cell BK210.out 8).trans rfl, (blk_cell BK210.out 9).trans rfl, (blk_cell BK210.out 10).trans rfl, (blk_cell BK210.out 11).trans rfl⟩ (fun hHeld => ?_); refine with_tabW spec_MsgText.tab11 spec_MsgText.bits11 (fun HT_ HW_ => ?_)
                 generalize wc.drew = w48 at BK210 HB hHeld ⊢
                 refine pure_ (i := 0) (N := some 39) (v := ?_) (a' := ?_) #[true, false, false, false, false, false, false, false, false, false, false, false, false, false] rfl rfl (any_of HT_.out jK) (fun _ _ _ h => h) (Or.inl ⟨by rfl, ?_⟩) ?_ ?_
                 rotate_left
                 ·intro w'
                  go_simp
                  with_reducible rfl
                 rotate_left
                 ·simp only [Act.put, List.setIfInBounds_toArray, List.set_cons_zero, List.set_cons_succ, i64_w, i32_w]
                  rfl
                 refine pure_ (i := 1) (N := some 40) (v := ?_) (a' := ?_) #[true, true, false, false, false, false, false, false, false, false, false, false, false, false] rfl rfl (any_of HT_.out jK) (fun _ _ _ h => h) (Or.inl ⟨by rfl, ?_⟩) ?_ ?_
                 rotate_left
                 ·intro w'
                  go_simp
                  with_reducible rfl
                 rotate_left
                 ·simp only [Act.put, List.setIfInBounds_toArray, List.set_cons_zero, List.set_cons_succ, i64_w, i32_w]
                  rfl
                 refine pure_ (i := 5) (N := some 44) (v := ?_) (a' := ?_) #[true, true, false, false, false, true, false, false, false, false, false, false, false, false] rfl rfl (any_of HT_.out jK) (fun _ _ _ h => h) (Or.inl ⟨by rfl, ?_⟩) ?_ ?_
                 rotate_left
                 ·intro w'
                  go_simp
                  with_reducible rfl
                 rotate_left
                 ·simp only [Act.put, List.setIfInBounds_toArray, List.set_cons_zero, List.set_cons_succ, i64_w, i32_w]
                  rfl
                 refine pure_ (i := 9) (N := some 48) (v := ?_) (a' := ?_) #[true, true, false, false, false, true, false, false, false, true, false, false, false, false] rfl rfl (any_of HT_.out jK) (fun _ _ _ h => h) (Or.inl ⟨by rfl, ?_⟩) ?_ ?_
                 rotate_left
                 ·intro w'
                  go_simp
                  with_reducible rfl
                 rotate_left
                 ·simp only [Act.put, List.setIfInBounds_toArray, List.set_cons_zero, List.set_cons_succ, i64_w, i32_w]
                  rfl
                 refine take_ (i := 2) (N := some 41) (v := ?_) (a' := ?_) #[true, true, true, false, false, true, false, false, false, true, false, false, false, false] rfl rfl (take_ofW HT_.out HW_.out jK) (fun _ _ _ h => h) (Or.inl ⟨by rfl, ?_⟩) hHeld ?_ ?_
                 rotate_left
                 ·rintro w' ⟨s0, s1, s2, s3, s4, s5, s6, s7, s8, s9, s10, s11⟩
                  go_simp
                  with_reducible rfl
                 rotate_left
                 ·simp only [Act.put, List.setIfInBounds_toArray, List.set_cons_zero, List.set_cons_succ, i64_w, i32_w]
                  rfl
                 refine take_ (i := 6) (N := some 45) (v := ?_) (a' := ?_) #[true, true, true, false, false, true, true, false, false, true, false, false, false, false] rfl rfl (take_ofW HT_.out HW_.out jK) (fun _ _ _ h => h) (Or.inl ⟨by rfl, ?_⟩) hHeld ?_ ?_
                 rotate_left
                 ·rintro w' ⟨s0, s1, s2, s3, s4, s5, s6, s7, s8, s9, s10, s11⟩
                  go_simp
                  with_reducible rfl
                 rotate_left
                 ·simp only [Act.put, List.setIfInBounds_toArray, List.set_cons_zero, List.set_cons_succ, i64_w, i32_w]
                  rfl
                 refine take_ (i := 10) (N := some 49) (v := ?_) (a' := ?_) #[true, true, true, false, false, true, true, false, false, true, true, false, false, false] rfl rfl (take_ofW HT_.out HW_.out jK) (fun _ _ _ h => h) (Or.inl ⟨by rfl, ?_⟩) hHeld ?_ ?_
                 rotate_left
                 ·rintro w' ⟨s0, s1, s2, s3, s4, s5, s6, s7, s8, s9, s10, s11⟩
                  go_simp
                  with_reducible rfl
                 rotate_left
                 ·simp only [Act.put, List.setIfInBounds_toArray, List.set_cons_zero, List.set_cons_succ, i64_w, i32_w]
                  rfl
                 refine one_ (i := 3) (N := some 42) #[true, true, true, true, false, true, true, false, false, true, true, false, false, false] rfl rfl (one_of HT_.out jK) (by decide) (fun K hK => ?_)
                 refine goes_ Tryd.func94 jK rfl #[.slice A0_9 l0_9.length c0_9] (by rfl) rfl rfl jA ?_
                 with_reducible refine (spec_l7Texts.calls kj20 _ _ l0_9 t219 _ ?side1 ?side2 A41.out).mono ?_
                 (case side1 => exact cU ((Kd.C_below HR0_9.out HB.out)))
                 (case side2 => exact HC0_9.out)
                 rintro e w49 ⟨rfl, hb⟩
                 refine ⟨_, rfl, ?_⟩
                 have n0_ := aS (blk_below (bU BK210.out) hb)
                 have n1_ := aS (below_step (wS1 HB.out GE210.out) hb)
                 clear BK210
                 clear HB
                 have BK210 := n0_
                 have HB := n1_
                 clear n0_ n1_
                 (try clear hb)
                 (try clear hb2)
                 (try clear hk)
                 (try clear hi)
                 refine hK.out _ _ ⟨(blk_cell BK210.out 0).trans rfl, (blk_cell BK210.out 1).trans rfl, (blk_cell BK210.out 2).trans rfl, (blk_cell BK210.out 3).trans rfl, (blk_cell BK210.out 4).trans rfl, (blk_cell BK210.out 5).trans rfl, (blk_cell BK210.out 6).trans rfl, (blk_cell BK210.out 7).trans rfl, (blk_cell BK210.out 8).trans rfl, (blk_cell BK210.out 9).trans rfl, (blk_cell BK210.out 10).trans rfl, (blk_cell BK210.out 11).trans rfl⟩ (fun hHeld => ?_)
                 clear hK K
                 refine norm_ (a' := ?_) ?_ ?_
                 rotate_left
                 ·show Act.put _ (some 42) _ = _
                  simp only [Act.put, List.setIfInBounds_toArray, List.set_cons_zero, List.set_cons_succ, i64_w, i32_w]
                  rfl
                 refine pure_ (i := 4) (N := some 43) (v := ?_) (a' := ?_) #[true, true, true, true, true, true, true, false, false, true, true, false, false, false] rfl rfl (any_of HT_.out jK) (fun _ _ _ h => h) (Or.inl ⟨by rfl, ?_⟩) ?_ ?_
                 rotate_left
                 ·intro w'
                  go_simp
                  with_reducible rfl
                 rotate_left
                 ·simp only [Act.put, List.setIfInBounds_toArray, List.set_cons_zero, List.set_cons_succ, i64_w, i32_w]
                  rfl
                 refine one_ (i := 7) (N := some 46) #[true, true, true, true, true, true, true, true, false, true, true, false, false, false] rfl rfl (one_of HT_.out jK) (by decide) (fun K hK => ?_)
                 refine goes_ Tryd.func94 jK rfl #[.slice A0_10 l0_10.length c0_10] (by rfl) rfl rfl jA ?_
                 with_reducible refine (spec_l7Texts.calls kj20 _ _ l0_10 t220 _ ?side1 ?side2 A43.out).mono ?_
                 (case side1 => exact cU ((Kd.C_below HR0_10.out HB.out)))
                 (case side2 => exact HC0_10.out)
                 rintro e w50 ⟨rfl, hb⟩
                 refine ⟨_, rfl, ?_⟩
                 have n0_ := aS (blk_below (bU BK210.out) hb)
                 have n1_ := aS (below_step (wS1 HB.out GE210.out) hb)
                 clear BK210
                 clear HB
                 have BK210 := n0_
                 have HB := n1_
                 clear n0_ n1_
                 (try clear hb)
                 (try clear hb2)
                 (try clear hk)
                 (try clear hi)
                 refine hK.out _ _ ⟨(blk_cell BK210.out 0).trans rfl, (blk_cell BK210.out 1).trans rfl, (blk_cell BK210.out 2).trans rfl, (blk_cell BK210.out 3).trans rfl, (blk_cell BK210.out 4).trans rfl, (blk_cell BK210.out 5).trans rfl, (blk_cell BK210.out 6).trans rfl, (blk_cell BK210.out 7).trans rfl, (blk_cell BK210.out 8).trans rfl, (blk_cell BK210.out 9).trans rfl, (blk_cell BK210.out 10).trans rfl, (blk_cell BK210.out 11).trans rfl⟩ (fun hHeld => ?_)
                 clear hK K
                 refine norm_ (a' := ?_) ?_ ?_
                 rotate_left
                 ·show Act.put _ (some 46) _ = _
                  simp only [Act.put, List.setIfInBounds_toArray, List.set_cons_zero, List.set_cons_succ, i64_w, i32_w]
                  rfl
                 refine pure_ (i := 8) (N := some 47) (v := ?_) (a' := ?_) #[true, true, true, true, true, true, true, true, true, true, true, false, false, false] rfl rfl (any_of HT_.out jK) (fun _ _ _ h => h) (Or.inl ⟨by rfl, ?_⟩) ?_ ?_
                 rotate_left
                 ·intro w'
                  go_simp
                  with_reducible rfl
                 rotate_left
                 ·simp only [Act.put, List.setIfInBounds_toArray, List.set_cons_zero, List.set_cons_succ, i64_w, i32_w]
                  rfl
                 refine one_ (i := 11) (N := some 50) #[true, true, true, true, true, true, true, true, true, true, true, true, false, false] rfl rfl (one_of HT_.out jK) (by decide) (fun K hK => ?_)
                 refine goes_ Tryd.func94 jK rfl #[.slice A0_11 l0_11.length c0_11] (by rfl) rfl rfl jA ?_
                 with_reducible refine (spec_l7Texts.calls kj20 _ _ l0_11 t221 _ ?side1 ?side2 A45.out).mono ?_
                 (case side1 => exact cU ((Kd.C_below HR0_11.out HB.out)))
                 (case side2 => exact HC0_11.out)
                 rintro e w51 ⟨rfl, hb⟩
                 refine ⟨_, rfl, ?_⟩
                 have n0_ := aS (blk_below (bU BK210.out) hb)
                 have n1_ := aS (below_step (wS1 HB.out GE210.out) hb)
                 clear BK210
                 clear HB
                 have BK210 := n0_
                 have HB := n1_
                 clear n0_ n1_
                 (try clear hb)
                 (try clear hb2)
                 (try clear hk)
                 (try clear hi)
                 refine hK.out _ _ ⟨(blk_cell BK210.out 0).trans rfl, (blk_cell BK210.out 1).trans rfl, (blk_cell BK210.out 2).trans rfl, (blk_cell BK210.out 3).trans rfl, (blk_cell BK210.out 4).trans rfl, (blk_cell BK210.out 5).trans rfl, (blk_cell BK210.out 6).trans rfl, (blk_cell BK210.out 7).trans rfl, (blk_cell BK210.out 8).trans rfl, (blk_cell BK210.out 9).trans rfl, (blk_cell BK210.out 10).trans rfl, (blk_cell BK210.out 11).trans rfl⟩ (fun hHeld => ?_)
                 clear hK K
                 refine norm_ (a' := ?_) ?_ ?_
                 rotate_left
                 ·show Act.put _ (some 50) _ = _
                  simp only [Act.put, List.setIfInBounds_toArray, List.set_cons_zero, List.set_cons_succ, i64_w, i32_w]
                  rfl
                 refine pure_ (i := 12) (N := some 51) (v := ?_) (a' := ?_) #[true, true, true, true, true, true, true, true, true, true, true, true, true, false] rfl rfl (any_of HT_.out jK) (fun _ _ _ h => h) (Or.inl ⟨by rfl, ?_⟩) ?_ ?_
                 rotate_left
                 ·intro w'
                  go_simp
                  with_reducible rfl
                 rotate_left
                 ·simp only [Act.put, List.setIfInBounds_toArray, List.set_cons_zero, List.set_cons_succ, i64_w, i32_w]
                  rfl
                 refine pure_ (i := 13) (N := some 2) (v := ?_) (a' := ?_) #[true, true, true, true, true, true, true, true, true, true, true, true, true, true] rfl rfl (any_of HT_.out jK) (fun _ _ _ h => h) (Or.inl ⟨by rfl, ?_⟩) ?_ ?_
                 rotate_left
                 ·intro w'
                  go_simp
                  with_reducible rfl
                 rotate_left
                 ·simp only [Act.put, List.setIfInBounds_toArray, List.set_cons_zero, List.set_cons_succ, i64_w, i32_w]
                  rfl
                 refine done_ (done_of HT_.out jK) ?_
                 try go_wp2
                 go_ret
                 exact ⟨jE, by exact wS1 HB.out GE210.out⟩
                ·rw [if_neg c46] at H
                 exact absurd H (by simp)
               ·rw [if_neg c44] at H
                exact absurd H (by simp)
              ·rw [if_neg c42] at H
               exact absurd H (by simp)
          ·rw [if_neg c20] at H
           exact absurd H (by simp)
         ·rw [if_neg c18] at H
          exact absurd H (by simp)
        ·rw [if_neg c17] at H
         exact absurd H (by simp)
       ·rw [if_neg c15] at H
        exact absurd H (by simp)
      ·rw [if_neg c14] at H
       exact absurd H (by simp)
     ·rw [if_neg c12] at H
      exact absurd H (by simp)
    ·rw [if_neg c11] at H
     exact absurd H (by simp)
 ·replace c3 := Bool.eq_false_iff.mpr c3
  subst c3
  have H1 : (some (⟨#[]⟩ : ByteArray)) = some r := by rw [if_neg (show ¬ (false = true) by decide)] at H; exact H
  clear H
  have H := H1
  clear H1
  obtain rfl := Option.some.inj H
  go_enter Tryd.func46, Tryd.ntmps46
  go_wp2_with (first | ((with_reducible refine gate_dst (N := 1) rfl ?_); refine box_event ?hg (N := 1) ?hd (cs := #[.int .i64 a0_0, .bool a0_1, .bool a0_2, .bool a0_3, .bool a0_4, .bool a0_5, .int .i64 a0_6, .string a0_7, .int .i64 a0_8, .slice A0_9 l0_9.length c0_9, .slice A0_10 l0_10.length c0_10, .slice A0_11 l0_11.length c0_11]) (t := 48) ?hr ?_; (case hd => rfl); (case hg => rfl); (case hr => first | (go_simp; done) | (go_simp; rfl)); intro gb210 hg w52 hbox hb; have n0_ := aS (below_step (wU HB.out) hb); have n1_ := aS (hbox); have n2_ := aS ((by rw [hg]; exact (below_size (wU HB.out)) : w.heap.size ≤ gb210)); have n3_ := aS ((by rw [hg]; exact (below_size (wU HB.out)) : w.heap.size ≤ gb210)); clear HB; revert n0_ n1_ n2_ n3_; intro HB BK210 GW210 GE210; clear hb hbox hg; have hcz53 := cells12f BK210.out) | ((with_reducible refine gate_callee (f := 28) rfl ?_); refine goesL_ (some 5) rfl rfl Tryd.func28 jK rfl #[.agg #[.int .i64 a0_0, .bool a0_1, .bool a0_2, .bool a0_3, .bool a0_4, .bool a0_5, .int .i64 a0_6, .string a0_7, .int .i64 a0_8, .slice A0_9 l0_9.length c0_9, .slice A0_10 l0_10.length c0_10, .slice A0_11 l0_11.length c0_11]] rfl jA ?_; (with_reducible refine (spec_MsgOk.calls k a0_0 a0_1 a0_2 a0_3 a0_4 a0_5 a0_6 a0_7 a0_8 _ _ l0_9 _ _ l0_10 _ _ l0_11 false _ ?side1 ?side2 ?side3 ?side4 ?side5 ?side6 A2.out).mono ?_); (case side1 => exact cU ((Kd.C_below HR0_9.out HB.out))); (case side2 => exact HC0_9.out); (case side3 => exact cU ((Kd.C_below HR0_10.out HB.out))); (case side4 => exact HC0_10.out); (case side5 => exact cU ((Kd.C_below HR0_11.out HB.out))); (case side6 => exact HC0_11.out); rintro e w54 ⟨rfl, hb⟩; refine ⟨_, rfl, ?_⟩; have n0_ := aS (blk_below (bU BK210.out) hb); have n1_ := aS (below_step (wS1 HB.out GE210.out) hb); clear BK210 HB; revert n0_ n1_; intro BK210 HB; clear hb))
  go_ret
  exact ⟨jE, by exact wS1 HB.out GE210.out⟩

end Go.Proofs.YtfmnofjijodgcaaDoor.Pr
