-- Written for this claim by a program of this session (wip/tool/pr.py, over the kit's printer).
-- half
import Derived.Test.YtdigilidomimdaaDoorPrx0
import Derived.Test.YtdigilidomimdaaDoorPrx2
import Derived.Test.YtdigilidomimdaaDoorPrx3
import Derived.Test.YtdigilidomimdaaDoorPrx4
import Derived.Test.YtdigilidomimdaaDoorPrx6
import Derived.Test.YtdigilidomimdaaDoorPrx7
import Derived.Test.YtdigilidomimdaaDoorPrx8
import Derived.Test.YtdigilidomimdaaDoorPrx9
import Derived.Test.YtdigilidomimdaaDoorPrx11
import Derived.Test.YtdigilidomimdaaDoorPrx12
import Derived.Test.YtdigilidomimdaaDoorPrx15
import Derived.Test.YtdigilidomimdaaDoorPrx19
import Derived.Test.YtdigilidomimdaaDoorPrx20
namespace Go.Proofs.YtdigilidomimdaaDoor.Pr
open Go.RowKit Go.Proofs.YtdigilidomimdaaDoorW.PrintWords Go.Proofs.YtdigilidomimdaaDoorW.PrintLast Go.Proofs.YtdigilidomimdaaDoorW.PrintMore
attribute [local go_sem] max2_int min2_int max_two min_two max_three min_three max_four min_four   -- for this text's walks alone
set_option linter.unusedVariables false
set_option linter.unusedSimpArgs false

attribute [local go_sem high] eqA50
/-! ### laws_FnMsgs: function 6 -/
def laws_FnMsgs.f (k : Nat) (l0 : List Int) : Option (Bool) := (laws_big.f l0).bind fun t728 => (if t728 = true then (some true) else ((spec_DrawReplyTo.f k l0).bind fun bt729 => ((impl_ReplyTo.f bt729.1 bt729.2.1 bt729.2.2.1 bt729.2.2.2.1 bt729.2.2.2.2.1 bt729.2.2.2.2.2.1 bt729.2.2.2.2.2.2.1 bt729.2.2.2.2.2.2.2.1 bt729.2.2.2.2.2.2.2.2.1 bt729.2.2.2.2.2.2.2.2.2.1 bt729.2.2.2.2.2.2.2.2.2.2.1 bt729.2.2.2.2.2.2.2.2.2.2.2.1 bt729.2.2.2.2.2.2.2.2.2.2.2.2.1 bt729.2.2.2.2.2.2.2.2.2.2.2.2.2.1 bt729.2.2.2.2.2.2.2.2.2.2.2.2.2.2.1 bt729.2.2.2.2.2.2.2.2.2.2.2.2.2.2.2.1 bt729.2.2.2.2.2.2.2.2.2.2.2.2.2.2.2.2).bind fun bt759 => ((spec_DrawAskMsg.f k l0).bind fun bt778 => ((impl_AskMsg.f bt778.1 bt778.2.1 bt778.2.2).bind fun bt782 => ((spec_DrawSameMsg.f k l0).bind fun bt801 => ((spec_ReplyTo.f bt729.1 bt729.2.1 bt729.2.2.1 bt729.2.2.2.1 bt729.2.2.2.2.1 bt729.2.2.2.2.2.1 bt729.2.2.2.2.2.2.1 bt729.2.2.2.2.2.2.2.1 bt729.2.2.2.2.2.2.2.2.1 bt729.2.2.2.2.2.2.2.2.2.1 bt729.2.2.2.2.2.2.2.2.2.2.1 bt729.2.2.2.2.2.2.2.2.2.2.2.1 bt729.2.2.2.2.2.2.2.2.2.2.2.2.1 bt729.2.2.2.2.2.2.2.2.2.2.2.2.2.1 bt729.2.2.2.2.2.2.2.2.2.2.2.2.2.2.1 bt729.2.2.2.2.2.2.2.2.2.2.2.2.2.2.2.1 bt729.2.2.2.2.2.2.2.2.2.2.2.2.2.2.2.2).bind fun bt839 => ((laws_sameMsg.f k bt759.1 bt759.2.1 bt759.2.2.1 bt759.2.2.2.1 bt759.2.2.2.2.1 bt759.2.2.2.2.2.1 bt759.2.2.2.2.2.2.1 bt759.2.2.2.2.2.2.2.1 bt759.2.2.2.2.2.2.2.2.1 bt759.2.2.2.2.2.2.2.2.2.1 bt759.2.2.2.2.2.2.2.2.2.2.1 bt759.2.2.2.2.2.2.2.2.2.2.2 bt839.1 bt839.2.1 bt839.2.2.1 bt839.2.2.2.1 bt839.2.2.2.2.1 bt839.2.2.2.2.2.1 bt839.2.2.2.2.2.2.1 bt839.2.2.2.2.2.2.2.1 bt839.2.2.2.2.2.2.2.2.1 bt839.2.2.2.2.2.2.2.2.2.1 bt839.2.2.2.2.2.2.2.2.2.2.1 bt839.2.2.2.2.2.2.2.2.2.2.2).bind fun t857 => (if t857 = true then ((spec_AskMsg.f bt778.1 bt778.2.1 bt778.2.2).bind fun bt858 => ((laws_sameMsg.f k bt782.1 bt782.2.1 bt782.2.2.1 bt782.2.2.2.1 bt782.2.2.2.2.1 bt782.2.2.2.2.2.1 bt782.2.2.2.2.2.2.1 bt782.2.2.2.2.2.2.2.1 bt782.2.2.2.2.2.2.2.2.1 bt782.2.2.2.2.2.2.2.2.2.1 bt782.2.2.2.2.2.2.2.2.2.2.1 bt782.2.2.2.2.2.2.2.2.2.2.2 bt858.1 bt858.2.1 bt858.2.2.1 bt858.2.2.2.1 bt858.2.2.2.2.1 bt858.2.2.2.2.2.1 bt858.2.2.2.2.2.2.1 bt858.2.2.2.2.2.2.2.1 bt858.2.2.2.2.2.2.2.2.1 bt858.2.2.2.2.2.2.2.2.2.1 bt858.2.2.2.2.2.2.2.2.2.2.1 bt858.2.2.2.2.2.2.2.2.2.2.2).bind fun t876 => (if t876 = true then ((impl_SameMsg.f k bt801.1 bt801.2.1 bt801.2.2.1 bt801.2.2.2.1 bt801.2.2.2.2.1 bt801.2.2.2.2.2.1 bt801.2.2.2.2.2.2.1 bt801.2.2.2.2.2.2.2.1 bt801.2.2.2.2.2.2.2.2.1 bt801.2.2.2.2.2.2.2.2.2.1 bt801.2.2.2.2.2.2.2.2.2.2.1 bt801.2.2.2.2.2.2.2.2.2.2.2.1 bt801.2.2.2.2.2.2.2.2.2.2.2.2.1 bt801.2.2.2.2.2.2.2.2.2.2.2.2.2.1 bt801.2.2.2.2.2.2.2.2.2.2.2.2.2.2.1 bt801.2.2.2.2.2.2.2.2.2.2.2.2.2.2.2.1 bt801.2.2.2.2.2.2.2.2.2.2.2.2.2.2.2.2.1 bt801.2.2.2.2.2.2.2.2.2.2.2.2.2.2.2.2.2.1 bt801.2.2.2.2.2.2.2.2.2.2.2.2.2.2.2.2.2.2.1 bt801.2.2.2.2.2.2.2.2.2.2.2.2.2.2.2.2.2.2.2.1 bt801.2.2.2.2.2.2.2.2.2.2.2.2.2.2.2.2.2.2.2.2.1 bt801.2.2.2.2.2.2.2.2.2.2.2.2.2.2.2.2.2.2.2.2.2.1 bt801.2.2.2.2.2.2.2.2.2.2.2.2.2.2.2.2.2.2.2.2.2.2.1 bt801.2.2.2.2.2.2.2.2.2.2.2.2.2.2.2.2.2.2.2.2.2.2.2).bind fun t877 => ((laws_sameMsg.f k bt801.1 bt801.2.1 bt801.2.2.1 bt801.2.2.2.1 bt801.2.2.2.2.1 bt801.2.2.2.2.2.1 bt801.2.2.2.2.2.2.1 bt801.2.2.2.2.2.2.2.1 bt801.2.2.2.2.2.2.2.2.1 bt801.2.2.2.2.2.2.2.2.2.1 bt801.2.2.2.2.2.2.2.2.2.2.1 bt801.2.2.2.2.2.2.2.2.2.2.2.1 bt801.2.2.2.2.2.2.2.2.2.2.2.2.1 bt801.2.2.2.2.2.2.2.2.2.2.2.2.2.1 bt801.2.2.2.2.2.2.2.2.2.2.2.2.2.2.1 bt801.2.2.2.2.2.2.2.2.2.2.2.2.2.2.2.1 bt801.2.2.2.2.2.2.2.2.2.2.2.2.2.2.2.2.1 bt801.2.2.2.2.2.2.2.2.2.2.2.2.2.2.2.2.2.1 bt801.2.2.2.2.2.2.2.2.2.2.2.2.2.2.2.2.2.2.1 bt801.2.2.2.2.2.2.2.2.2.2.2.2.2.2.2.2.2.2.2.1 bt801.2.2.2.2.2.2.2.2.2.2.2.2.2.2.2.2.2.2.2.2.1 bt801.2.2.2.2.2.2.2.2.2.2.2.2.2.2.2.2.2.2.2.2.2.1 bt801.2.2.2.2.2.2.2.2.2.2.2.2.2.2.2.2.2.2.2.2.2.2.1 bt801.2.2.2.2.2.2.2.2.2.2.2.2.2.2.2.2.2.2.2.2.2.2.2).bind fun t878 => (if (t877 != t878) = true then (some false) else ((impl_MsgOk.f k bt801.1 bt801.2.1 bt801.2.2.1 bt801.2.2.2.1 bt801.2.2.2.2.1 bt801.2.2.2.2.2.1 bt801.2.2.2.2.2.2.1 bt801.2.2.2.2.2.2.2.1 bt801.2.2.2.2.2.2.2.2.1 bt801.2.2.2.2.2.2.2.2.2.1 bt801.2.2.2.2.2.2.2.2.2.2.1 bt801.2.2.2.2.2.2.2.2.2.2.2.1).bind fun t879 => ((spec_MsgOk.f k bt801.1 bt801.2.1 bt801.2.2.1 bt801.2.2.2.1 bt801.2.2.2.2.1 bt801.2.2.2.2.2.1 bt801.2.2.2.2.2.2.1 bt801.2.2.2.2.2.2.2.1 bt801.2.2.2.2.2.2.2.2.1 bt801.2.2.2.2.2.2.2.2.2.1 bt801.2.2.2.2.2.2.2.2.2.2.1 bt801.2.2.2.2.2.2.2.2.2.2.2.1).bind fun t880 => (if (t879 != t880) = true then (some false) else ((impl_MsgText.f k bt801.1 bt801.2.1 bt801.2.2.1 bt801.2.2.2.1 bt801.2.2.2.2.1 bt801.2.2.2.2.2.1 bt801.2.2.2.2.2.2.1 bt801.2.2.2.2.2.2.2.1 bt801.2.2.2.2.2.2.2.2.1 bt801.2.2.2.2.2.2.2.2.2.1 bt801.2.2.2.2.2.2.2.2.2.2.1 bt801.2.2.2.2.2.2.2.2.2.2.2.1).bind fun t881 => ((spec_MsgText.f k bt801.1 bt801.2.1 bt801.2.2.1 bt801.2.2.2.1 bt801.2.2.2.2.1 bt801.2.2.2.2.2.1 bt801.2.2.2.2.2.2.1 bt801.2.2.2.2.2.2.2.1 bt801.2.2.2.2.2.2.2.2.1 bt801.2.2.2.2.2.2.2.2.2.1 bt801.2.2.2.2.2.2.2.2.2.2.1 bt801.2.2.2.2.2.2.2.2.2.2.2.1).bind fun t882 => (if t881.toList = t882.toList then ((impl_CountsOf.f bt801.1 bt801.2.1 bt801.2.2.1 bt801.2.2.2.1 bt801.2.2.2.2.1 bt801.2.2.2.2.2.1 bt801.2.2.2.2.2.2.1 bt801.2.2.2.2.2.2.2.1 bt801.2.2.2.2.2.2.2.2.1 bt801.2.2.2.2.2.2.2.2.2.1 bt801.2.2.2.2.2.2.2.2.2.2.1 bt801.2.2.2.2.2.2.2.2.2.2.2.1).bind fun t883 => ((spec_CountsOf.f bt801.1 bt801.2.1 bt801.2.2.1 bt801.2.2.2.1 bt801.2.2.2.2.1 bt801.2.2.2.2.2.1 bt801.2.2.2.2.2.2.1 bt801.2.2.2.2.2.2.2.1 bt801.2.2.2.2.2.2.2.2.1 bt801.2.2.2.2.2.2.2.2.2.1 bt801.2.2.2.2.2.2.2.2.2.2.1 bt801.2.2.2.2.2.2.2.2.2.2.2.1).bind fun t884 => (if t883 = t884 then (if bt759.2.1 = true then (if bt759.1 = bt729.1 then (if (bt759.2.2.2.2.2.2.2.1.toList == bt729.2.2.2.2.2.2.2.1.toList && (bt759.2.2.2.2.2.2.2.2.1 == bt729.2.2.2.2.2.2.2.2.1)) = true then (if (bt759.2.2.2.2.1 == bt729.2.2.2.2.1) = true then ((impl_CountsOf.f bt759.1 bt759.2.1 bt759.2.2.1 bt759.2.2.2.1 bt759.2.2.2.2.1 bt759.2.2.2.2.2.1 bt759.2.2.2.2.2.2.1 bt759.2.2.2.2.2.2.2.1 bt759.2.2.2.2.2.2.2.2.1 bt759.2.2.2.2.2.2.2.2.2.1 bt759.2.2.2.2.2.2.2.2.2.2.1 bt759.2.2.2.2.2.2.2.2.2.2.2).bind fun t885 => (if t885 = (wrap64 ((wrap64 ((bt729.2.2.2.2.2.2.2.2.2.2.2.2.2.2.1.length : Int) + (bt729.2.2.2.2.2.2.2.2.2.2.2.2.2.2.2.1.length : Int))) + (bt729.2.2.2.2.2.2.2.2.2.2.2.2.2.2.2.2.length : Int))) then (if bt782.2.1 = true then (some false) else (if (bt782.2.2.2.2.2.2.2.1.toList == bt778.2.1.toList && (bt782.2.2.2.2.2.2.2.2.1 == bt778.2.2)) = true then ((impl_CountsOf.f bt782.1 bt782.2.1 bt782.2.2.1 bt782.2.2.2.1 bt782.2.2.2.2.1 bt782.2.2.2.2.2.1 bt782.2.2.2.2.2.2.1 bt782.2.2.2.2.2.2.2.1 bt782.2.2.2.2.2.2.2.2.1 bt782.2.2.2.2.2.2.2.2.2.1 bt782.2.2.2.2.2.2.2.2.2.2.1 bt782.2.2.2.2.2.2.2.2.2.2.2).bind fun t886 => (some (t886 == 0))) else (some false))) else (some false))) else (some false)) else (some false)) else (some false)) else (some false)) else (some false)))) else (some false)))))))))) else (some false)))) else (some false))))))))))
theorem laws_FnMsgs.mono : ∀ a0 k, LeO (laws_FnMsgs.f k a0) (laws_FnMsgs.f (k + 1) a0) := by
 intro a0 k
 unfold laws_FnMsgs.f
 repeat' first
   | (with_reducible first | exact impl_MsgOk.mono _ _ _ _ _ _ _ _ _ _ _ _ _ | exact impl_MsgText.mono _ _ _ _ _ _ _ _ _ _ _ _ _ | exact impl_SameMsg.mono _ _ _ _ _ _ _ _ _ _ _ _ _ _ _ _ _ _ _ _ _ _ _ _ _ | exact laws_sameMsg.mono _ _ _ _ _ _ _ _ _ _ _ _ _ _ _ _ _ _ _ _ _ _ _ _ _ | exact spec_DrawAskMsg.mono _ _ | exact spec_DrawReplyTo.mono _ _ | exact spec_DrawSameMsg.mono _ _ | exact spec_MsgOk.mono _ _ _ _ _ _ _ _ _ _ _ _ _ | exact spec_MsgText.mono _ _ _ _ _ _ _ _ _ _ _ _ _ | exact LeO.refl _ | exact LeO.none _ | refine LeO.ite ?_ ?_ | refine LeO.bind ?_ (fun _ => ?_))
   | refine LeO.ite ?_ ?_
   | refine LeO.bind ?_ (fun _ => ?_)
def laws_FnMsgs.T8 : Bool × List (List Nat × List Nat) := (true, [([], []), ([], []), ([], []), ([], []), ([], []), ([], []), ([], []), ([1, 2, 3, 4, 5, 6], [1, 2, 3, 4, 5, 6]), ([0, 7, 7], [0, 7]), ([8], [8]), ([9, 8], [9]), ([10], [10]), ([10], [10]), ([10], [10]), ([12, 13, 10, 10], [10, 12, 13]), ([11, 14, 14, 10], [10, 11, 14]), ([15, 10], [10, 15]), ([10, 16], [10, 16]), ([17, 15], [17]), ([18], [18]), ([18], [18]), ([19, 20, 18, 18], [18, 19, 20]), ([18], [18]), ([18], [18]), ([22, 23, 21, 18], [18, 22, 23]), ([21, 24, 18], [18, 21, 24]), ([18, 25], [18, 25]), ([26, 24], [26]), ([27], [27]), ([28, 27, 27], [27, 28]), ([27], [27]), ([30, 29, 27], [27, 30]), ([29, 31, 27], [27, 29, 31]), ([27, 32], [27, 32]), ([33, 31], [33]), ([34], [34]), ([35, 34, 34], [34, 35]), ([34], [34]), ([37, 36, 34], [34, 37]), ([36, 38, 34], [34, 36, 38]), ([34, 39], [34, 39]), ([40, 38], [40]), ([41], [41]), ([42, 41, 41], [41, 42]), ([41], [41]), ([44, 43, 41], [41, 44]), ([43, 45, 41], [41, 43, 45]), ([41, 46], [41, 46])])
def laws_FnMsgs.B8 : List Nat := [0, 0, 0, 0, 0, 0, 0, 126, 255, 511, 1023, 2047, 2047, 2047, 14335, 32767, 65535, 131071, 262143, 524287, 524287, 2097151, 524287, 524287, 16777215, 33554431, 67108863, 134217727, 268435455, 536870911, 268435455, 2147483647, 4294967295, 8589934591, 17179869183, 34359738367, 68719476735, 34359738367, 274877906943, 549755813887, 1099511627775, 2199023255551, 4398046511103, 8796093022207, 4398046511103, 35184372088831, 70368744177663, 140737488355327]
theorem laws_FnMsgs.tab8 : rtab .any (opsOf Tryd.f6 8) = laws_FnMsgs.T8 := by kernel_rfl
theorem laws_FnMsgs.bits8 : waitsOk laws_FnMsgs.T8.2 laws_FnMsgs.B8 = true := by kernel_rfl
set_option maxHeartbeats 8000000 in
set_option maxRecDepth 100000 in
theorem laws_FnMsgs.calls (k : Nat) (A0 : Option Addr) (c0 : Nat) (l0 : List Int) (r : Bool) (w : World) (hr0 : Kd.C (Kd.int .u8) w A0 l0.length l0) (hc0 : l0.length ≤ c0) (hrt_ : r = true) (h : laws_FnMsgs.f k l0 = some r) :
  Calls Tryd.prog 6 #[.slice A0 l0.length c0] w fun e w' => e = .returned (.bool r) ∧ Below w.heap.size w w' := by
 have hu52 := Tryd.underlying52
 have hu50 := Tryd.underlying50
 have HR0 := aS hr0
 have HC0 := aS hc0
 clear hr0 hc0
 have HB := aS (Below.refl w.heap.size w)
 have H := h
 unfold laws_FnMsgs.f at H
 clear h
 obtain ⟨t728, A2, H⟩ := bM H
 try dsimp only at H
 by_cases c3 : t728 = true
 ·subst c3
  rw [if_pos rfl] at H
  obtain rfl := Option.some.inj H
  go_enter Tryd.func6, Tryd.ntmps6
  go_wp2_with (first | ((with_reducible refine gate_callee (f := 8) rfl ?_); refine gL (some 16) Tryd.func8 #[.slice A0 l0.length c0] ?_; (with_reducible refine (laws_big.calls _ _ l0 true _ ?side1 ?side2 A2.out).mono ?_); (case side1 => exact cU (HR0.out)); (case side2 => exact HC0.out); rintro e w' ⟨rfl, ⟨nd, rfl⟩⟩; refine ⟨_, rfl, ?_⟩))
  go_ret
  exact ⟨by first | rfl | (simp [errW_none, errW_some] <;> rfl) | (simp [*, errW_none, errW_some] <;> rfl) | (simp [X.bne_nil, X.beq_nil]; done) | (exfalso; simp_all; done) | ((have ai_ : ∀ p : Prop, Aside0 p ↔ p := fun p => ⟨fun h => h.out, fun h => ⟨h⟩⟩); simp_all [ai_]; done), by exact wU HB.out⟩
 ·replace c3 := Bool.eq_false_iff.mpr c3
  subst c3
  rw [if_neg Bool.false_ne_true] at H
  obtain ⟨⟨t729, t730, t731, t732, t733, t734, t735, t736, t737, t738, t741, t744, t747, t748, t749, t752, t755⟩, A4, H⟩ := bM H
  try dsimp only at H
  obtain ⟨⟨t759, t760, t761, t762, t763, t764, t765, t766, t767, t768, t771, t774⟩, A5, H⟩ := bM H
  try dsimp only at H
  obtain ⟨⟨t778, t779, t780⟩, A6, H⟩ := bM H
  try dsimp only at H
  obtain ⟨⟨t782, t783, t784, t785, t786, t787, t788, t789, t790, t791, t794, t797⟩, A7, H⟩ := bM H
  try dsimp only at H
  obtain ⟨⟨t801, t802, t803, t804, t805, t806, t807, t808, t809, t810, t813, t816, t819, t820, t821, t822, t823, t824, t825, t826, t827, t828, t831, t834⟩, A8, H⟩ := bM H
  try dsimp only at H
  obtain ⟨⟨t839, t840, t841, t842, t843, t844, t845, t846, t847, t848, t851, t854⟩, A9, H⟩ := bM H
  try dsimp only at H
  obtain ⟨t857, A10, H⟩ := bM H
  try dsimp only at H
  by_cases c11 : t857 = true
  ·subst c11
   rw [if_pos rfl] at H
   obtain ⟨⟨t858, t859, t860, t861, t862, t863, t864, t865, t866, t867, t870, t873⟩, A12, H⟩ := bM H
   try dsimp only at H
   obtain ⟨t876, A13, H⟩ := bM H
   try dsimp only at H
   by_cases c14 : t876 = true
   ·subst c14
    rw [if_pos rfl] at H
    obtain ⟨t877, A15, H⟩ := bM H
    try dsimp only at H
    obtain ⟨t878, A16, H⟩ := bM H
    try dsimp only at H
    by_cases c17 : (t877 != t878) = true
    ·rw [if_pos c17] at H
     have c17b0 : (t877 != t878) = true := c17
     (try (have c17b1 : decide (t877 = t878) = false := by simpa using c17))
     (try (have c17b2 : (t877 == t878) = false := by simpa using c17))
     (try (have c17b3 : ¬ (t877 = t878) := by simpa using c17))
     clear c17
     exact absurd (H.trans (congrArg some hrt_)) (by simp)
    ·rw [if_neg c17] at H
     have c17b0 : (t877 != t878) = false := by simpa using c17
     (try (have c17b1 : decide (t877 = t878) = true := by simpa using c17))
     (try (have c17b2 : (t877 == t878) = true := by simpa using c17))
     clear c17
     obtain ⟨t879, A18, H⟩ := bM H
     try dsimp only at H
     obtain ⟨t880, A19, H⟩ := bM H
     try dsimp only at H
     by_cases c20 : (t879 != t880) = true
     ·rw [if_pos c20] at H
      have c20b0 : (t879 != t880) = true := c20
      (try (have c20b1 : decide (t879 = t880) = false := by simpa using c20))
      (try (have c20b2 : (t879 == t880) = false := by simpa using c20))
      (try (have c20b3 : ¬ (t879 = t880) := by simpa using c20))
      clear c20
      exact absurd (H.trans (congrArg some hrt_)) (by simp)
     ·rw [if_neg c20] at H
      have c20b0 : (t879 != t880) = false := by simpa using c20
      (try (have c20b1 : decide (t879 = t880) = true := by simpa using c20))
      (try (have c20b2 : (t879 == t880) = true := by simpa using c20))
      clear c20
      obtain ⟨t881, A21, H⟩ := bM H
      try dsimp only at H
      obtain ⟨t882, A22, H⟩ := bM H
      try dsimp only at H
      by_cases c23 : t881.toList = t882.toList
      ·rw [if_pos c23] at H
       have c23b0 := beq_iff_eq.mpr c23
       have c23b1 := bne_eq_false_iff_eq.mpr c23
       clear c23
       obtain ⟨t883, A24, H⟩ := bM H
       try dsimp only at H
       obtain ⟨t884, A25, H⟩ := bM H
       try dsimp only at H
       by_cases c26 : t883 = t884
       ·rw [if_pos c26] at H
        have c26b0 := beq_iff_eq.mpr c26
        have c26b1 := bne_eq_false_iff_eq.mpr c26
        clear c26
        by_cases c27 : t760 = true
        ·subst c27
         rw [if_pos rfl] at H
         by_cases c28 : t759 = t729
         ·rw [if_pos c28] at H
          have c28b0 := beq_iff_eq.mpr c28
          have c28b1 := bne_eq_false_iff_eq.mpr c28
          clear c28
          by_cases c29 : (t766.toList == t736.toList && (t767 == t737)) = true
          ·rw [if_pos c29] at H
           have c29b0 : (t766.toList == t736.toList && (t767 == t737)) = true := c29
           (try (have c29b1 : decide (t766.toList = t736.toList && (t767 == t737)) = true := by simpa using c29))
           (try (have c29b2 : (t766.toList == t736.toList && (t767 == t737)) = true := by simpa using c29))
           clear c29
           by_cases c30 : (t763 == t733) = true
           ·rw [if_pos c30] at H
            have c30b0 : (t763 == t733) = true := c30
            (try (have c30b1 : decide (t763 = t733) = true := by simpa using c30))
            (try (have c30b2 : (t763 == t733) = true := by simpa using c30))
            clear c30
            obtain ⟨t885, A31, H⟩ := bM H
            try dsimp only at H
            by_cases c32 : t885 = (wrap64 ((wrap64 ((t749.length : Int) + (t752.length : Int))) + (t755.length : Int)))
            ·rw [if_pos c32] at H
             have c32b0 := beq_iff_eq.mpr c32
             have c32b1 := bne_eq_false_iff_eq.mpr c32
             clear c32
             by_cases c33 : t783 = true
             ·subst c33
              rw [if_pos rfl] at H
              exact absurd (H.trans (congrArg some hrt_)) (by simp)
             ·replace c33 := Bool.eq_false_iff.mpr c33
              subst c33
              rw [if_neg Bool.false_ne_true] at H
              by_cases c34 : (t789.toList == t779.toList && (t790 == t780)) = true
              ·rw [if_pos c34] at H
               have c34b0 : (t789.toList == t779.toList && (t790 == t780)) = true := c34
               (try (have c34b1 : decide (t789.toList = t779.toList && (t790 == t780)) = true := by simpa using c34))
               (try (have c34b2 : (t789.toList == t779.toList && (t790 == t780)) = true := by simpa using c34))
               clear c34
               obtain ⟨t886, A35, H⟩ := bM H
               try dsimp only at H
               obtain rfl := Option.some.inj H
               go_enter Tryd.func6, Tryd.ntmps6
               try go_wp2_with (first | ((with_reducible refine gate_callee (f := 8) rfl ?_); refine gL (some 16) Tryd.func8 #[.slice A0 l0.length c0] ?_; (with_reducible refine (laws_big.calls _ _ l0 false _ ?side1 ?side2 A2.out).mono ?_); (case side1 => exact cU (HR0.out)); (case side2 => exact HC0.out); rintro e w' ⟨rfl, ⟨nd, rfl⟩⟩; refine ⟨_, rfl, ?_⟩) | ((with_reducible refine gate_callee (f := 29) rfl ?_); refine gL (some 19) Tryd.func29 #[.slice A0 l0.length c0] ?_; (with_reducible refine (spec_DrawReplyTo.calls k _ _ l0 t729 t730 t731 t732 t733 t734 t735 t736 t737 t738 t741 t744 t747 t748 t749 t752 t755 _ ?side1 ?side2 A4.out).mono ?_); (case side1 => exact cU (HR0.out)); (case side2 => exact HC0.out); rintro e w36 ⟨v739, v742, v745, v750, v753, v756, rfl, ho0, ho1, ho2, ho3, ho4, ho5, hb⟩; refine ⟨_, rfl, ?_⟩; have HO740 := aS (Kd.R_lower (Kd.R_mono (ok' := fun _ => True) ho0 (fun _ _ => trivial)) (below_size (wU HB.out))); have HO743 := aS (Kd.R_lower (Kd.R_mono (ok' := fun _ => True) ho1 (fun _ _ => trivial)) (below_size (wU HB.out))); have HO746 := aS (Kd.R_lower (Kd.R_mono (ok' := fun _ => True) ho2 (fun _ _ => trivial)) (below_size (wU HB.out))); have HO751 := aS (Kd.R_lower (Kd.R_mono (ok' := fun _ => True) ho3 (fun _ _ => trivial)) (below_size (wU HB.out))); have HO754 := aS (Kd.R_lower (Kd.R_mono (ok' := fun _ => True) ho4 (fun _ _ => trivial)) (below_size (wU HB.out))); have HO757 := aS (Kd.R_lower (Kd.R_mono (ok' := fun _ => True) ho5 (fun _ _ => trivial)) (below_size (wU HB.out))); replace HB := aS (below_step (wU HB.out) hb); clear hb; (try clear ho0); (try clear ho1); (try clear ho2); (try clear ho3); (try clear ho4); (try clear ho5)) | ((with_reducible refine gate_dst (N := 3) rfl ?_); (try (refine gate_guard (by rfl) ?_; dsimp only)); refine box_event ?hg (N := 3) ?hd (cs := #[.int .i64 0, .bool false, .bool false, .bool false, .bool false, .bool false, .int .i64 0, .string (⟨#[]⟩ : ByteArray), .int .i64 0, .slice none 0 0, .slice none 0 0, .slice none 0 0]) (t := 52) ?hr ?_; (case hd => rfl); (case hg => rfl); (case hr => first | (go_simp; done) | (go_simp; rfl)); intro gb758 hg w37 hbox hb; replace HO740 := rB HO740 hb; replace HO743 := rB HO743 hb; replace HO746 := rB HO746 hb; replace HO751 := rB HO751 hb; replace HO754 := rB HO754 hb; replace HO757 := rB HO757 hb; have BK758 := aS (hbox); have GW758 := gW hg (wU HB.out); have GE758 := gW hg (wU HB.out); replace HB := aS (below_step (wU HB.out) hb); clear hb hbox hg; have hcz38 := cells12f BK758.out; obtain ⟨Ao39, co39, eo39⟩ := Kd.R_slice HO740.out; subst eo39; obtain ⟨Ao40, co40, eo40⟩ := Kd.R_slice HO743.out; subst eo40; obtain ⟨Ao41, co41, eo41⟩ := Kd.R_slice HO746.out; subst eo41; obtain ⟨Ao42, co42, eo42⟩ := Kd.R_slice HO751.out; subst eo42; obtain ⟨Ao43, co43, eo43⟩ := Kd.R_slice HO754.out; subst eo43; obtain ⟨Ao44, co44, eo44⟩ := Kd.R_slice HO757.out; subst eo44) | ((with_reducible refine gate_callee (f := 30) rfl ?_); refine gL (some 32) Tryd.func30 #[.agg #[.int .i64 t729, .bool t730, .bool t731, .bool t732, .bool t733, .bool t734, .int .i64 t735, .string t736, .int .i64 t737, .slice Ao39 t738.length co39, .slice Ao40 t741.length co40, .slice Ao41 t744.length co41], .int .i64 t747, .bool t748, .slice Ao42 t749.length co42, .slice Ao43 t752.length co43, .slice Ao44 t755.length co44] ?_; (with_reducible refine (impl_ReplyTo.calls t729 t730 t731 t732 t733 t734 t735 t736 t737 _ _ t738 _ _ t741 _ _ t744 t747 t748 _ _ t749 _ _ t752 _ _ t755 t759 true t761 t762 t763 t764 t765 t766 t767 t768 t771 t774 _ ?side1 ?side2 ?side3 ?side4 ?side5 ?side6 ?side7 ?side8 ?side9 ?side10 ?side11 ?side12 A5.out).mono ?_); (case side1 => refine (Kd.R_reads' (e := 25) (base := w.heap.size) (ok := fun k_ => True) (n := t738.length) (c := co39) ?_).2.2; exact (by exact (rF1 HO740.out BK758.out))); (case side2 => exact (Kd.R_reads' HO740.out).2.1); (case side3 => refine (Kd.R_reads' (e := 25) (base := w.heap.size) (ok := fun k_ => True) (n := t741.length) (c := co40) ?_).2.2; exact (by exact (rF1 HO743.out BK758.out))); (case side4 => exact (Kd.R_reads' HO743.out).2.1); (case side5 => refine (Kd.R_reads' (e := 25) (base := w.heap.size) (ok := fun k_ => True) (n := t744.length) (c := co41) ?_).2.2; exact (by exact (rF1 HO746.out BK758.out))); (case side6 => exact (Kd.R_reads' HO746.out).2.1); (case side7 => refine (Kd.R_reads' (e := 25) (base := w.heap.size) (ok := fun k_ => True) (n := t749.length) (c := co42) ?_).2.2; exact (by exact (rF1 HO751.out BK758.out))); (case side8 => exact (Kd.R_reads' HO751.out).2.1); (case side9 => refine (Kd.R_reads' (e := 25) (base := w.heap.size) (ok := fun k_ => True) (n := t752.length) (c := co43) ?_).2.2; exact (by exact (rF1 HO754.out BK758.out))); (case side10 => exact (Kd.R_reads' HO754.out).2.1); (case side11 => refine (Kd.R_reads' (e := 25) (base := w.heap.size) (ok := fun k_ => True) (n := t755.length) (c := co44) ?_).2.2; exact (by exact (rF1 HO757.out BK758.out))); (case side12 => exact (Kd.R_reads' HO757.out).2.1); rintro e w45 ⟨v769, v772, v775, rfl, ho0, ho1, ho2, hb⟩; refine ⟨_, rfl, ?_⟩; replace HO740 := aS (Kd.R_below (by exact (rF1 HO740.out BK758.out)) hb); replace HO743 := aS (Kd.R_below (by exact (rF1 HO743.out BK758.out)) hb); replace HO746 := aS (Kd.R_below (by exact (rF1 HO746.out BK758.out)) hb); replace HO751 := aS (Kd.R_below (by exact (rF1 HO751.out BK758.out)) hb); replace HO754 := aS (Kd.R_below (by exact (rF1 HO754.out BK758.out)) hb); replace HO757 := aS (Kd.R_below (by exact (rF1 HO757.out BK758.out)) hb); have HO770 := aS (Kd.R_lower (Kd.R_mono (ok' := fun _ => True) ho0 (fun _ _ => trivial)) (below_size (wS1 HB.out GE758.out))); have HO773 := aS (Kd.R_lower (Kd.R_mono (ok' := fun _ => True) ho1 (fun _ _ => trivial)) (below_size (wS1 HB.out GE758.out))); have HO776 := aS (Kd.R_lower (Kd.R_mono (ok' := fun _ => True) ho2 (fun _ _ => trivial)) (below_size (wS1 HB.out GE758.out))); replace BK758 := aS (blk_below (g := gb758) (o := .cells #[.int .i64 t729, .bool t730, .bool t731, .bool t732, .bool t733, .bool t734, .int .i64 t735, .string t736, .int .i64 t737, .slice Ao39 t738.length co39, .slice Ao40 t741.length co40, .slice Ao41 t744.length co41] 52 (0, 0)) (by exact bO (Pr.p12 (bU BK758.out))) hb); replace HB := aS (below_step (wS1 HB.out GE758.out) hb); clear hb; (try clear ho0); (try clear ho1); (try clear ho2)) | ((with_reducible refine gate_dst (N := 9) rfl ?_); (try (refine gate_guard (by rfl) ?_; dsimp only)); refine box_event ?hg (N := 9) ?hd (cs := #[.int .i64 0, .bool false, .bool false, .bool false, .bool false, .bool false, .int .i64 0, .string (⟨#[]⟩ : ByteArray), .int .i64 0, .slice none 0 0, .slice none 0 0, .slice none 0 0]) (t := 52) ?hr ?_; (case hd => rfl); (case hg => rfl); (case hr => first | (go_simp; done) | (go_simp; rfl)); intro gb777 hg w46 hbox hb; replace HO740 := rB HO740 hb; replace HO743 := rB HO743 hb; replace HO746 := rB HO746 hb; replace HO751 := rB HO751 hb; replace HO754 := rB HO754 hb; replace HO757 := rB HO757 hb; replace HO770 := rB HO770 hb; replace HO773 := rB HO773 hb; replace HO776 := rB HO776 hb; have BK777 := aS (hbox); have GW777 := gW hg (wS1 HB.out GE758.out); have GE777 := gW hg (wS1 HB.out GE758.out); replace HB := aS (below_step (wS1 HB.out GE758.out) hb); have NB758_777 := nB hg BK758; have NB777_758 := nS NB758_777; replace BK758 := bB BK758 hb; clear hb hbox hg; have hnb47 := NB777_758.out; have hnc47 := NB758_777.out; have hcz48 := cells12f BK777.out; obtain ⟨Ao49, co49, eo49⟩ := Kd.R_slice HO770.out; subst eo49; obtain ⟨Ao50, co50, eo50⟩ := Kd.R_slice HO773.out; subst eo50; obtain ⟨Ao51, co51, eo51⟩ := Kd.R_slice HO776.out; subst eo51) | ((with_reducible refine gate_callee (f := 31) rfl ?_); refine gL (some 35) Tryd.func31 #[.slice A0 l0.length c0] ?_; (with_reducible refine (spec_DrawAskMsg.calls k _ _ l0 t778 t779 t780 _ ?side1 ?side2 A6.out).mono ?_); (case side1 => exact Kd.C_below HR0.out (wS2 HB.out GE758.out GE777.out)); (case side2 => exact HC0.out); rintro e w52 ⟨rfl, hb⟩; refine ⟨_, rfl, ?_⟩; replace HO740 := aS (Kd.R_below (by exact (rF1 HO740.out BK777.out)) hb); replace HO743 := aS (Kd.R_below (by exact (rF1 HO743.out BK777.out)) hb); replace HO746 := aS (Kd.R_below (by exact (rF1 HO746.out BK777.out)) hb); replace HO751 := aS (Kd.R_below (by exact (rF1 HO751.out BK777.out)) hb); replace HO754 := aS (Kd.R_below (by exact (rF1 HO754.out BK777.out)) hb); replace HO757 := aS (Kd.R_below (by exact (rF1 HO757.out BK777.out)) hb); replace HO770 := aS (Kd.R_below (by exact (rF1 HO770.out BK777.out)) hb); replace HO773 := aS (Kd.R_below (by exact (rF1 HO773.out BK777.out)) hb); replace HO776 := aS (Kd.R_below (by exact (rF1 HO776.out BK777.out)) hb); replace BK758 := aS (blk_below (g := gb758) (o := .cells #[.int .i64 t729, .bool t730, .bool t731, .bool t732, .bool t733, .bool t734, .int .i64 t735, .string t736, .int .i64 t737, .slice Ao39 t738.length co39, .slice Ao40 t741.length co40, .slice Ao41 t744.length co41] 52 (0, 0)) (by exact bF1 BK758.out NB758_777.out) hb); replace BK777 := aS (blk_below (g := gb777) (o := .cells #[.int .i64 t759, .bool true, .bool t761, .bool t762, .bool t763, .bool t764, .int .i64 t765, .string t766, .int .i64 t767, .slice Ao49 t768.length co49, .slice Ao50 t771.length co50, .slice Ao51 t774.length co51] 52 (0, 0)) (by exact bO (Pr.p12 (bU BK777.out))) hb); replace HB := aS (below_step (wS2 HB.out GE758.out GE777.out) hb); clear hb) | ((with_reducible refine gate_dst (N := 11) rfl ?_); (try (refine gate_guard (by rfl) ?_; dsimp only)); refine box_event ?hg (N := 11) ?hd (cs := #[.string (⟨#[]⟩ : ByteArray), .int .i64 0]) (t := 50) ?hr ?_; (case hd => rfl); (case hg => rfl); (case hr => first | (go_simp; done) | (go_simp; rfl)); intro gb781 hg w53 hbox hb; replace HO740 := rB HO740 hb; replace HO743 := rB HO743 hb; replace HO746 := rB HO746 hb; replace HO751 := rB HO751 hb; replace HO754 := rB HO754 hb; replace HO757 := rB HO757 hb; replace HO770 := rB HO770 hb; replace HO773 := rB HO773 hb; replace HO776 := rB HO776 hb; have BK781 := aS (hbox); have GW781 := gW hg (wS2 HB.out GE758.out GE777.out); have GE781 := gW hg (wS2 HB.out GE758.out GE777.out); replace HB := aS (below_step (wS2 HB.out GE758.out GE777.out) hb); have NB758_781 := nB hg BK758; have NB781_758 := nS NB758_781; replace BK758 := bB BK758 hb; have NB777_781 := nB hg BK777; have NB781_777 := nS NB777_781; replace BK777 := bB BK777 hb; clear hb hbox hg; have hnb54 := NB781_758.out; have hnc54 := NB758_781.out; have hnb55 := NB781_777.out; have hnc55 := NB777_781.out; have hcz56 := cells2f BK781.out) | ((with_reducible refine gate_callee (f := 32) rfl ?_); refine gL (some 40) Tryd.func32 #[.int .i64 t778, .agg #[.string t779, .int .i64 t780]] ?_; (with_reducible refine (impl_AskMsg.calls t778 t779 t780 t782 false t784 t785 t786 t787 t788 t789 t790 t791 t794 t797 _ A7.out).mono ?_); rintro e w57 ⟨v792, v795, v798, rfl, ho0, ho1, ho2, hb⟩; refine ⟨_, rfl, ?_⟩; replace HO740 := aS (Kd.R_below (by exact (rF1 HO740.out BK781.out)) hb); replace HO743 := aS (Kd.R_below (by exact (rF1 HO743.out BK781.out)) hb); replace HO746 := aS (Kd.R_below (by exact (rF1 HO746.out BK781.out)) hb); replace HO751 := aS (Kd.R_below (by exact (rF1 HO751.out BK781.out)) hb); replace HO754 := aS (Kd.R_below (by exact (rF1 HO754.out BK781.out)) hb); replace HO757 := aS (Kd.R_below (by exact (rF1 HO757.out BK781.out)) hb); replace HO770 := aS (Kd.R_below (by exact (rF1 HO770.out BK781.out)) hb); replace HO773 := aS (Kd.R_below (by exact (rF1 HO773.out BK781.out)) hb); replace HO776 := aS (Kd.R_below (by exact (rF1 HO776.out BK781.out)) hb); have HO793 := aS (Kd.R_lower (Kd.R_mono (ok' := fun _ => True) ho0 (fun _ _ => trivial)) (below_size (wS3 HB.out GE758.out GE777.out GE781.out))); have HO796 := aS (Kd.R_lower (Kd.R_mono (ok' := fun _ => True) ho1 (fun _ _ => trivial)) (below_size (wS3 HB.out GE758.out GE777.out GE781.out))); have HO799 := aS (Kd.R_lower (Kd.R_mono (ok' := fun _ => True) ho2 (fun _ _ => trivial)) (below_size (wS3 HB.out GE758.out GE777.out GE781.out))); replace BK758 := aS (blk_below (g := gb758) (o := .cells #[.int .i64 t729, .bool t730, .bool t731, .bool t732, .bool t733, .bool t734, .int .i64 t735, .string t736, .int .i64 t737, .slice Ao39 t738.length co39, .slice Ao40 t741.length co40, .slice Ao41 t744.length co41] 52 (0, 0)) (by (with_reducible repeat (first | refine blk_drewN ?_ _ | refine blk_drew ?_ | refine blk_alloc ?_ _)); refine blk_far ?_ NB758_781.out _; (with_reducible repeat (first | refine blk_drewN ?_ _ | refine blk_drew ?_ | refine blk_alloc ?_ _)); refine blk_far ?_ NB758_781.out _; exact bU BK758.out) hb); replace BK777 := aS (blk_below (g := gb777) (o := .cells #[.int .i64 t759, .bool true, .bool t761, .bool t762, .bool t763, .bool t764, .int .i64 t765, .string t766, .int .i64 t767, .slice Ao49 t768.length co49, .slice Ao50 t771.length co50, .slice Ao51 t774.length co51] 52 (0, 0)) (by (with_reducible repeat (first | refine blk_drewN ?_ _ | refine blk_drew ?_ | refine blk_alloc ?_ _)); refine blk_far ?_ NB777_781.out _; (with_reducible repeat (first | refine blk_drewN ?_ _ | refine blk_drew ?_ | refine blk_alloc ?_ _)); refine blk_far ?_ NB777_781.out _; exact bU BK777.out) hb); replace BK781 := aS (blk_below (g := gb781) (o := .cells #[.string t779, .int .i64 t780] 50 (0, 0)) (by (with_reducible repeat (first | refine blk_drewN ?_ _ | refine blk_drew ?_ | refine blk_alloc ?_ _)); refine blk_put_2 (.string (⟨#[]⟩ : ByteArray)) (.int .i64 0) ?_; exact bU BK781.out) hb); replace HB := aS (below_step (wS3 HB.out GE758.out GE777.out GE781.out) hb); clear hb; (try clear ho0); (try clear ho1); (try clear ho2)) | ((with_reducible refine gate_dst (N := 12) rfl ?_); (try (refine gate_guard (by rfl) ?_; dsimp only)); refine box_event ?hg (N := 12) ?hd (cs := #[.int .i64 0, .bool false, .bool false, .bool false, .bool false, .bool false, .int .i64 0, .string (⟨#[]⟩ : ByteArray), .int .i64 0, .slice none 0 0, .slice none 0 0, .slice none 0 0]) (t := 52) ?hr ?_; (case hd => rfl); (case hg => rfl); (case hr => first | (go_simp; done) | (go_simp; rfl)); intro gb800 hg w58 hbox hb; replace HO740 := rB HO740 hb; replace HO743 := rB HO743 hb; replace HO746 := rB HO746 hb; replace HO751 := rB HO751 hb; replace HO754 := rB HO754 hb; replace HO757 := rB HO757 hb; replace HO770 := rB HO770 hb; replace HO773 := rB HO773 hb; replace HO776 := rB HO776 hb; replace HO793 := rB HO793 hb; replace HO796 := rB HO796 hb; replace HO799 := rB HO799 hb; have BK800 := aS (hbox); have GW800 := gW hg (wS3 HB.out GE758.out GE777.out GE781.out); have GE800 := gW hg (wS3 HB.out GE758.out GE777.out GE781.out); replace HB := aS (below_step (wS3 HB.out GE758.out GE777.out GE781.out) hb); have NB758_800 := nB hg BK758; have NB800_758 := nS NB758_800; replace BK758 := bB BK758 hb; have NB777_800 := nB hg BK777; have NB800_777 := nS NB777_800; replace BK777 := bB BK777 hb; have NB781_800 := nB hg BK781; have NB800_781 := nS NB781_800; replace BK781 := bB BK781 hb; clear hb hbox hg; have hnb59 := NB800_758.out; have hnc59 := NB758_800.out; have hnb60 := NB800_777.out; have hnc60 := NB777_800.out; have hnb61 := NB800_781.out; have hnc61 := NB781_800.out; have hcz62 := cells12f BK800.out; obtain ⟨Ao63, co63, eo63⟩ := Kd.R_slice HO793.out; subst eo63; obtain ⟨Ao64, co64, eo64⟩ := Kd.R_slice HO796.out; subst eo64; obtain ⟨Ao65, co65, eo65⟩ := Kd.R_slice HO799.out; subst eo65) | ((with_reducible refine gate_callee (f := 33) rfl ?_); refine gL (some 43) Tryd.func33 #[.slice A0 l0.length c0] ?_; (with_reducible refine (spec_DrawSameMsg.calls k _ _ l0 t801 t802 t803 t804 t805 t806 t807 t808 t809 t810 t813 t816 t819 t820 t821 t822 t823 t824 t825 t826 t827 t828 t831 t834 _ ?side1 ?side2 A8.out).mono ?_); (case side1 => exact Kd.C_below HR0.out (wS4 HB.out GE758.out GE777.out GE781.out GE800.out)); (case side2 => exact HC0.out); rintro e w66 ⟨v811, v814, v817, v829, v832, v835, rfl, ho0, ho1, ho2, ho3, ho4, ho5, hb⟩; refine ⟨_, rfl, ?_⟩; replace HO740 := aS (Kd.R_below (by exact (rF1 HO740.out BK800.out)) hb); replace HO743 := aS (Kd.R_below (by exact (rF1 HO743.out BK800.out)) hb); replace HO746 := aS (Kd.R_below (by exact (rF1 HO746.out BK800.out)) hb); replace HO751 := aS (Kd.R_below (by exact (rF1 HO751.out BK800.out)) hb); replace HO754 := aS (Kd.R_below (by exact (rF1 HO754.out BK800.out)) hb); replace HO757 := aS (Kd.R_below (by exact (rF1 HO757.out BK800.out)) hb); replace HO770 := aS (Kd.R_below (by exact (rF1 HO770.out BK800.out)) hb); replace HO773 := aS (Kd.R_below (by exact (rF1 HO773.out BK800.out)) hb); replace HO776 := aS (Kd.R_below (by exact (rF1 HO776.out BK800.out)) hb); replace HO793 := aS (Kd.R_below (by exact (rF1 HO793.out BK800.out)) hb); replace HO796 := aS (Kd.R_below (by exact (rF1 HO796.out BK800.out)) hb); replace HO799 := aS (Kd.R_below (by exact (rF1 HO799.out BK800.out)) hb); have HO812 := aS (Kd.V_lower (Kd.V_mono (ok' := fun k_ => k_ ≠ gb758 ∧ k_ ≠ gb777 ∧ k_ ≠ gb781 ∧ k_ ≠ gb800) ho0 (fun k_ hk_ => ⟨(Kd.freshB (g := gb758) (o := .cells #[.int .i64 t729, .bool t730, .bool t731, .bool t732, .bool t733, .bool t734, .int .i64 t735, .string t736, .int .i64 t737, .slice Ao39 t738.length co39, .slice Ao40 t741.length co40, .slice Ao41 t744.length co41] 52 (0, 0)) (by exact bF1 BK758.out NB758_800.out) k_ hk_), (Kd.freshB (g := gb777) (o := .cells #[.int .i64 t759, .bool true, .bool t761, .bool t762, .bool t763, .bool t764, .int .i64 t765, .string t766, .int .i64 t767, .slice Ao49 t768.length co49, .slice Ao50 t771.length co50, .slice Ao51 t774.length co51] 52 (0, 0)) (by exact bF1 BK777.out NB777_800.out) k_ hk_), (Kd.freshB (g := gb781) (o := .cells #[.string t779, .int .i64 t780] 50 (0, 0)) (by exact bF1 BK781.out NB781_800.out) k_ hk_), (Kd.freshB (g := gb800) (o := .cells #[.int .i64 t782, .bool false, .bool t784, .bool t785, .bool t786, .bool t787, .int .i64 t788, .string t789, .int .i64 t790, .slice Ao63 t791.length co63, .slice Ao64 t794.length co64, .slice Ao65 t797.length co65] 52 (0, 0)) (by exact bO (Pr.p12 (bU BK800.out))) k_ hk_)⟩)) (below_size (wS4 HB.out GE758.out GE777.out GE781.out GE800.out))); have HO815 := aS (Kd.V_lower (Kd.V_mono (ok' := fun k_ => k_ ≠ gb758 ∧ k_ ≠ gb777 ∧ k_ ≠ gb781 ∧ k_ ≠ gb800) ho1 (fun k_ hk_ => ⟨(Kd.freshB (g := gb758) (o := .cells #[.int .i64 t729, .bool t730, .bool t731, .bool t732, .bool t733, .bool t734, .int .i64 t735, .string t736, .int .i64 t737, .slice Ao39 t738.length co39, .slice Ao40 t741.length co40, .slice Ao41 t744.length co41] 52 (0, 0)) (by exact bF1 BK758.out NB758_800.out) k_ hk_), (Kd.freshB (g := gb777) (o := .cells #[.int .i64 t759, .bool true, .bool t761, .bool t762, .bool t763, .bool t764, .int .i64 t765, .string t766, .int .i64 t767, .slice Ao49 t768.length co49, .slice Ao50 t771.length co50, .slice Ao51 t774.length co51] 52 (0, 0)) (by exact bF1 BK777.out NB777_800.out) k_ hk_), (Kd.freshB (g := gb781) (o := .cells #[.string t779, .int .i64 t780] 50 (0, 0)) (by exact bF1 BK781.out NB781_800.out) k_ hk_), (Kd.freshB (g := gb800) (o := .cells #[.int .i64 t782, .bool false, .bool t784, .bool t785, .bool t786, .bool t787, .int .i64 t788, .string t789, .int .i64 t790, .slice Ao63 t791.length co63, .slice Ao64 t794.length co64, .slice Ao65 t797.length co65] 52 (0, 0)) (by exact bO (Pr.p12 (bU BK800.out))) k_ hk_)⟩)) (below_size (wS4 HB.out GE758.out GE777.out GE781.out GE800.out))); have HO818 := aS (Kd.V_lower (Kd.V_mono (ok' := fun k_ => k_ ≠ gb758 ∧ k_ ≠ gb777 ∧ k_ ≠ gb781 ∧ k_ ≠ gb800) ho2 (fun k_ hk_ => ⟨(Kd.freshB (g := gb758) (o := .cells #[.int .i64 t729, .bool t730, .bool t731, .bool t732, .bool t733, .bool t734, .int .i64 t735, .string t736, .int .i64 t737, .slice Ao39 t738.length co39, .slice Ao40 t741.length co40, .slice Ao41 t744.length co41] 52 (0, 0)) (by exact bF1 BK758.out NB758_800.out) k_ hk_), (Kd.freshB (g := gb777) (o := .cells #[.int .i64 t759, .bool true, .bool t761, .bool t762, .bool t763, .bool t764, .int .i64 t765, .string t766, .int .i64 t767, .slice Ao49 t768.length co49, .slice Ao50 t771.length co50, .slice Ao51 t774.length co51] 52 (0, 0)) (by exact bF1 BK777.out NB777_800.out) k_ hk_), (Kd.freshB (g := gb781) (o := .cells #[.string t779, .int .i64 t780] 50 (0, 0)) (by exact bF1 BK781.out NB781_800.out) k_ hk_), (Kd.freshB (g := gb800) (o := .cells #[.int .i64 t782, .bool false, .bool t784, .bool t785, .bool t786, .bool t787, .int .i64 t788, .string t789, .int .i64 t790, .slice Ao63 t791.length co63, .slice Ao64 t794.length co64, .slice Ao65 t797.length co65] 52 (0, 0)) (by exact bO (Pr.p12 (bU BK800.out))) k_ hk_)⟩)) (below_size (wS4 HB.out GE758.out GE777.out GE781.out GE800.out))); have HO830 := aS (Kd.V_lower (Kd.V_mono (ok' := fun k_ => k_ ≠ gb758 ∧ k_ ≠ gb777 ∧ k_ ≠ gb781 ∧ k_ ≠ gb800) ho3 (fun k_ hk_ => ⟨(Kd.freshB (g := gb758) (o := .cells #[.int .i64 t729, .bool t730, .bool t731, .bool t732, .bool t733, .bool t734, .int .i64 t735, .string t736, .int .i64 t737, .slice Ao39 t738.length co39, .slice Ao40 t741.length co40, .slice Ao41 t744.length co41] 52 (0, 0)) (by exact bF1 BK758.out NB758_800.out) k_ hk_), (Kd.freshB (g := gb777) (o := .cells #[.int .i64 t759, .bool true, .bool t761, .bool t762, .bool t763, .bool t764, .int .i64 t765, .string t766, .int .i64 t767, .slice Ao49 t768.length co49, .slice Ao50 t771.length co50, .slice Ao51 t774.length co51] 52 (0, 0)) (by exact bF1 BK777.out NB777_800.out) k_ hk_), (Kd.freshB (g := gb781) (o := .cells #[.string t779, .int .i64 t780] 50 (0, 0)) (by exact bF1 BK781.out NB781_800.out) k_ hk_), (Kd.freshB (g := gb800) (o := .cells #[.int .i64 t782, .bool false, .bool t784, .bool t785, .bool t786, .bool t787, .int .i64 t788, .string t789, .int .i64 t790, .slice Ao63 t791.length co63, .slice Ao64 t794.length co64, .slice Ao65 t797.length co65] 52 (0, 0)) (by exact bO (Pr.p12 (bU BK800.out))) k_ hk_)⟩)) (below_size (wS4 HB.out GE758.out GE777.out GE781.out GE800.out))); have HO833 := aS (Kd.V_lower (Kd.V_mono (ok' := fun k_ => k_ ≠ gb758 ∧ k_ ≠ gb777 ∧ k_ ≠ gb781 ∧ k_ ≠ gb800) ho4 (fun k_ hk_ => ⟨(Kd.freshB (g := gb758) (o := .cells #[.int .i64 t729, .bool t730, .bool t731, .bool t732, .bool t733, .bool t734, .int .i64 t735, .string t736, .int .i64 t737, .slice Ao39 t738.length co39, .slice Ao40 t741.length co40, .slice Ao41 t744.length co41] 52 (0, 0)) (by exact bF1 BK758.out NB758_800.out) k_ hk_), (Kd.freshB (g := gb777) (o := .cells #[.int .i64 t759, .bool true, .bool t761, .bool t762, .bool t763, .bool t764, .int .i64 t765, .string t766, .int .i64 t767, .slice Ao49 t768.length co49, .slice Ao50 t771.length co50, .slice Ao51 t774.length co51] 52 (0, 0)) (by exact bF1 BK777.out NB777_800.out) k_ hk_), (Kd.freshB (g := gb781) (o := .cells #[.string t779, .int .i64 t780] 50 (0, 0)) (by exact bF1 BK781.out NB781_800.out) k_ hk_), (Kd.freshB (g := gb800) (o := .cells #[.int .i64 t782, .bool false, .bool t784, .bool t785, .bool t786, .bool t787, .int .i64 t788, .string t789, .int .i64 t790, .slice Ao63 t791.length co63, .slice Ao64 t794.length co64, .slice Ao65 t797.length co65] 52 (0, 0)) (by exact bO (Pr.p12 (bU BK800.out))) k_ hk_)⟩)) (below_size (wS4 HB.out GE758.out GE777.out GE781.out GE800.out))); have HO836 := aS (Kd.V_lower (Kd.V_mono (ok' := fun k_ => k_ ≠ gb758 ∧ k_ ≠ gb777 ∧ k_ ≠ gb781 ∧ k_ ≠ gb800) ho5 (fun k_ hk_ => ⟨(Kd.freshB (g := gb758) (o := .cells #[.int .i64 t729, .bool t730, .bool t731, .bool t732, .bool t733, .bool t734, .int .i64 t735, .string t736, .int .i64 t737, .slice Ao39 t738.length co39, .slice Ao40 t741.length co40, .slice Ao41 t744.length co41] 52 (0, 0)) (by exact bF1 BK758.out NB758_800.out) k_ hk_), (Kd.freshB (g := gb777) (o := .cells #[.int .i64 t759, .bool true, .bool t761, .bool t762, .bool t763, .bool t764, .int .i64 t765, .string t766, .int .i64 t767, .slice Ao49 t768.length co49, .slice Ao50 t771.length co50, .slice Ao51 t774.length co51] 52 (0, 0)) (by exact bF1 BK777.out NB777_800.out) k_ hk_), (Kd.freshB (g := gb781) (o := .cells #[.string t779, .int .i64 t780] 50 (0, 0)) (by exact bF1 BK781.out NB781_800.out) k_ hk_), (Kd.freshB (g := gb800) (o := .cells #[.int .i64 t782, .bool false, .bool t784, .bool t785, .bool t786, .bool t787, .int .i64 t788, .string t789, .int .i64 t790, .slice Ao63 t791.length co63, .slice Ao64 t794.length co64, .slice Ao65 t797.length co65] 52 (0, 0)) (by exact bO (Pr.p12 (bU BK800.out))) k_ hk_)⟩)) (below_size (wS4 HB.out GE758.out GE777.out GE781.out GE800.out))); replace BK758 := aS (blk_below (g := gb758) (o := .cells #[.int .i64 t729, .bool t730, .bool t731, .bool t732, .bool t733, .bool t734, .int .i64 t735, .string t736, .int .i64 t737, .slice Ao39 t738.length co39, .slice Ao40 t741.length co40, .slice Ao41 t744.length co41] 52 (0, 0)) (by exact bF1 BK758.out NB758_800.out) hb); replace BK777 := aS (blk_below (g := gb777) (o := .cells #[.int .i64 t759, .bool true, .bool t761, .bool t762, .bool t763, .bool t764, .int .i64 t765, .string t766, .int .i64 t767, .slice Ao49 t768.length co49, .slice Ao50 t771.length co50, .slice Ao51 t774.length co51] 52 (0, 0)) (by exact bF1 BK777.out NB777_800.out) hb); replace BK781 := aS (blk_below (g := gb781) (o := .cells #[.string t779, .int .i64 t780] 50 (0, 0)) (by exact bF1 BK781.out NB781_800.out) hb); replace BK800 := aS (blk_below (g := gb800) (o := .cells #[.int .i64 t782, .bool false, .bool t784, .bool t785, .bool t786, .bool t787, .int .i64 t788, .string t789, .int .i64 t790, .slice Ao63 t791.length co63, .slice Ao64 t794.length co64, .slice Ao65 t797.length co65] 52 (0, 0)) (by exact bO (Pr.p12 (bU BK800.out))) hb); replace HB := aS (below_step (wS4 HB.out GE758.out GE777.out GE781.out GE800.out) hb); clear hb; (try clear ho0); (try clear ho1); (try clear ho2); (try clear ho3); (try clear ho4); (try clear ho5)) | ((with_reducible refine gate_dst (N := 13) rfl ?_); (try (refine gate_guard (by rfl) ?_; dsimp only)); refine box_event ?hg (N := 13) ?hd (cs := #[.int .i64 0, .bool false, .bool false, .bool false, .bool false, .bool false, .int .i64 0, .string (⟨#[]⟩ : ByteArray), .int .i64 0, .slice none 0 0, .slice none 0 0, .slice none 0 0]) (t := 52) ?hr ?_; (case hd => rfl); (case hg => rfl); (case hr => first | (go_simp; done) | (go_simp; rfl)); intro gb837 hg w67 hbox hb; replace HO740 := rB HO740 hb; replace HO743 := rB HO743 hb; replace HO746 := rB HO746 hb; replace HO751 := rB HO751 hb; replace HO754 := rB HO754 hb; replace HO757 := rB HO757 hb; replace HO770 := rB HO770 hb; replace HO773 := rB HO773 hb; replace HO776 := rB HO776 hb; replace HO793 := rB HO793 hb; replace HO796 := rB HO796 hb; replace HO799 := rB HO799 hb; replace HO812 := aS (Kd.V_below (Kd.V_elderB (by exact vO HO812.out) gb837 (Nat.le_of_eq hg.symm)) hb); replace HO815 := aS (Kd.V_below (Kd.V_elderB (by exact vO HO815.out) gb837 (Nat.le_of_eq hg.symm)) hb); replace HO818 := aS (Kd.V_below (Kd.V_elderB (by exact vO HO818.out) gb837 (Nat.le_of_eq hg.symm)) hb); replace HO830 := aS (Kd.V_below (Kd.V_elderB (by exact vO HO830.out) gb837 (Nat.le_of_eq hg.symm)) hb); replace HO833 := aS (Kd.V_below (Kd.V_elderB (by exact vO HO833.out) gb837 (Nat.le_of_eq hg.symm)) hb); replace HO836 := aS (Kd.V_below (Kd.V_elderB (by exact vO HO836.out) gb837 (Nat.le_of_eq hg.symm)) hb); have BK837 := aS (hbox); have GW837 := gW hg (wS4 HB.out GE758.out GE777.out GE781.out GE800.out); have GE837 := gW hg (wS4 HB.out GE758.out GE777.out GE781.out GE800.out); replace HB := aS (below_step (wS4 HB.out GE758.out GE777.out GE781.out GE800.out) hb); have NB758_837 := nB hg BK758; have NB837_758 := nS NB758_837; replace BK758 := bB BK758 hb; have NB777_837 := nB hg BK777; have NB837_777 := nS NB777_837; replace BK777 := bB BK777 hb; have NB781_837 := nB hg BK781; have NB837_781 := nS NB781_837; replace BK781 := bB BK781 hb; have NB800_837 := nB hg BK800; have NB837_800 := nS NB800_837; replace BK800 := bB BK800 hb; clear hb hbox hg) | ((with_reducible refine gate_dst (N := 14) rfl ?_); (try (refine gate_guard (by rfl) ?_; dsimp only)); refine box_event ?hg (N := 14) ?hd (cs := #[.int .i64 0, .bool false, .bool false, .bool false, .bool false, .bool false, .int .i64 0, .string (⟨#[]⟩ : ByteArray), .int .i64 0, .slice none 0 0, .slice none 0 0, .slice none 0 0]) (t := 52) ?hr ?_; (case hd => rfl); (case hg => rfl); (case hr => first | (go_simp; done) | (go_simp; rfl)); intro gb838 hg w68 hbox hb; replace HO740 := rB HO740 hb; replace HO743 := rB HO743 hb; replace HO746 := rB HO746 hb; replace HO751 := rB HO751 hb; replace HO754 := rB HO754 hb; replace HO757 := rB HO757 hb; replace HO770 := rB HO770 hb; replace HO773 := rB HO773 hb; replace HO776 := rB HO776 hb; replace HO793 := rB HO793 hb; replace HO796 := rB HO796 hb; replace HO799 := rB HO799 hb; replace HO812 := aS (Kd.V_below (Kd.V_elderB (by exact vO HO812.out) gb838 (Nat.le_of_eq hg.symm)) hb); replace HO815 := aS (Kd.V_below (Kd.V_elderB (by exact vO HO815.out) gb838 (Nat.le_of_eq hg.symm)) hb); replace HO818 := aS (Kd.V_below (Kd.V_elderB (by exact vO HO818.out) gb838 (Nat.le_of_eq hg.symm)) hb); replace HO830 := aS (Kd.V_below (Kd.V_elderB (by exact vO HO830.out) gb838 (Nat.le_of_eq hg.symm)) hb); replace HO833 := aS (Kd.V_below (Kd.V_elderB (by exact vO HO833.out) gb838 (Nat.le_of_eq hg.symm)) hb); replace HO836 := aS (Kd.V_below (Kd.V_elderB (by exact vO HO836.out) gb838 (Nat.le_of_eq hg.symm)) hb); have BK838 := aS (hbox); have GW838 := gW hg (wS5 HB.out GE758.out GE777.out GE781.out GE800.out GE837.out); have GE838 := gW hg (wS5 HB.out GE758.out GE777.out GE781.out GE800.out GE837.out); replace HB := aS (below_step (wS5 HB.out GE758.out GE777.out GE781.out GE800.out GE837.out) hb); have NB758_838 := nB hg BK758; have NB838_758 := nS NB758_838; replace BK758 := bB BK758 hb; have NB777_838 := nB hg BK777; have NB838_777 := nS NB777_838; replace BK777 := bB BK777 hb; have NB781_838 := nB hg BK781; have NB838_781 := nS NB781_838; replace BK781 := bB BK781 hb; have NB800_838 := nB hg BK800; have NB838_800 := nS NB800_838; replace BK800 := bB BK800 hb; have NB837_838 := nB hg BK837; have NB838_837 := nS NB837_838; replace BK837 := bB BK837 hb; clear hb hbox hg; have hnb69 := NB837_758.out; have hnc69 := NB758_837.out; have hnb70 := NB837_777.out; have hnc70 := NB777_837.out; have hnb71 := NB837_781.out; have hnc71 := NB781_837.out; have hnb72 := NB837_800.out; have hnc72 := NB800_837.out; have hnb73 := NB837_838.out; have hnc73 := NB838_837.out; have hcz74 := cells12f BK837.out; obtain ⟨Ao75, co75, eo75⟩ := Kd.V_slice HO812.out; subst eo75; obtain ⟨Ao76, co76, eo76⟩ := Kd.V_slice HO815.out; subst eo76; obtain ⟨Ao77, co77, eo77⟩ := Kd.V_slice HO818.out; subst eo77; have hnb78 := NB838_758.out; have hnc78 := NB758_838.out; have hnb79 := NB838_777.out; have hnc79 := NB777_838.out; have hnb80 := NB838_781.out; have hnc80 := NB781_838.out; have hnb81 := NB838_800.out; have hnc81 := NB800_838.out; have hcz82 := cells12f BK838.out; obtain ⟨Ao83, co83, eo83⟩ := Kd.V_slice HO830.out; subst eo83; obtain ⟨Ao84, co84, eo84⟩ := Kd.V_slice HO833.out; subst eo84; obtain ⟨Ao85, co85, eo85⟩ := Kd.V_slice HO836.out; subst eo85))
               generalize hW_ : ((((((((((((((((((((((((w68.setCell ⟨gb837, 0, none⟩ (.int .i64 t801)).setCell ⟨gb837, 1, none⟩ (.bool t802)).setCell ⟨gb837, 2, none⟩ (.bool t803)).setCell ⟨gb837, 3, none⟩ (.bool t804)).setCell ⟨gb837, 4, none⟩ (.bool t805)).setCell ⟨gb837, 5, none⟩ (.bool t806)).setCell ⟨gb837, 6, none⟩ (.int .i64 t807)).setCell ⟨gb837, 7, none⟩ (.string t808)).setCell ⟨gb837, 8, none⟩ (.int .i64 t809)).setCell ⟨gb837, 9, none⟩ (.slice Ao75 t810.length co75)).setCell ⟨gb837, 10, none⟩ (.slice Ao76 t813.length co76)).setCell ⟨gb837, 11, none⟩ (.slice Ao77 t816.length co77)).setCell ⟨gb838, 0, none⟩ (.int .i64 t819)).setCell ⟨gb838, 1, none⟩ (.bool t820)).setCell ⟨gb838, 2, none⟩ (.bool t821)).setCell ⟨gb838, 3, none⟩ (.bool t822)).setCell ⟨gb838, 4, none⟩ (.bool t823)).setCell ⟨gb838, 5, none⟩ (.bool t824)).setCell ⟨gb838, 6, none⟩ (.int .i64 t825)).setCell ⟨gb838, 7, none⟩ (.string t826)).setCell ⟨gb838, 8, none⟩ (.int .i64 t827)).setCell ⟨gb838, 9, none⟩ (.slice Ao83 t828.length co83)).setCell ⟨gb838, 10, none⟩ (.slice Ao84 t831.length co84)).setCell ⟨gb838, 11, none⟩ (.slice Ao85 t834.length co85)) = w86
               replace HO740 : Aside0 (Kd.R k25 25 w86 w.heap.size (fun _ => True) (.slice Ao39 t738.length co39) t738) := hW_ ▸ ⟨by exact Kd.R_mono (rF2 HO740.out BK837.out BK838.out) (fun _ hk => trivial)⟩
               replace HO743 : Aside0 (Kd.R k25 25 w86 w.heap.size (fun _ => True) (.slice Ao40 t741.length co40) t741) := hW_ ▸ ⟨by exact Kd.R_mono (rF2 HO743.out BK837.out BK838.out) (fun _ hk => trivial)⟩
               replace HO746 : Aside0 (Kd.R k25 25 w86 w.heap.size (fun _ => True) (.slice Ao41 t744.length co41) t744) := hW_ ▸ ⟨by exact Kd.R_mono (rF2 HO746.out BK837.out BK838.out) (fun _ hk => trivial)⟩
               replace HO751 : Aside0 (Kd.R k25 25 w86 w.heap.size (fun _ => True) (.slice Ao42 t749.length co42) t749) := hW_ ▸ ⟨by exact Kd.R_mono (rF2 HO751.out BK837.out BK838.out) (fun _ hk => trivial)⟩
               replace HO754 : Aside0 (Kd.R k25 25 w86 w.heap.size (fun _ => True) (.slice Ao43 t752.length co43) t752) := hW_ ▸ ⟨by exact Kd.R_mono (rF2 HO754.out BK837.out BK838.out) (fun _ hk => trivial)⟩
               replace HO757 : Aside0 (Kd.R k25 25 w86 w.heap.size (fun _ => True) (.slice Ao44 t755.length co44) t755) := hW_ ▸ ⟨by exact Kd.R_mono (rF2 HO757.out BK837.out BK838.out) (fun _ hk => trivial)⟩
               replace HO770 : Aside0 (Kd.R k25 25 w86 w.heap.size (fun _ => True) (.slice Ao49 t768.length co49) t768) := hW_ ▸ ⟨by exact Kd.R_mono (rF2 HO770.out BK837.out BK838.out) (fun _ hk => trivial)⟩
               replace HO773 : Aside0 (Kd.R k25 25 w86 w.heap.size (fun _ => True) (.slice Ao50 t771.length co50) t771) := hW_ ▸ ⟨by exact Kd.R_mono (rF2 HO773.out BK837.out BK838.out) (fun _ hk => trivial)⟩
               replace HO776 : Aside0 (Kd.R k25 25 w86 w.heap.size (fun _ => True) (.slice Ao51 t774.length co51) t774) := hW_ ▸ ⟨by exact Kd.R_mono (rF2 HO776.out BK837.out BK838.out) (fun _ hk => trivial)⟩
               replace HO793 : Aside0 (Kd.R k25 25 w86 w.heap.size (fun _ => True) (.slice Ao63 t791.length co63) t791) := hW_ ▸ ⟨by exact Kd.R_mono (rF2 HO793.out BK837.out BK838.out) (fun _ hk => trivial)⟩
               replace HO796 : Aside0 (Kd.R k25 25 w86 w.heap.size (fun _ => True) (.slice Ao64 t794.length co64) t794) := hW_ ▸ ⟨by exact Kd.R_mono (rF2 HO796.out BK837.out BK838.out) (fun _ hk => trivial)⟩
               replace HO799 : Aside0 (Kd.R k25 25 w86 w.heap.size (fun _ => True) (.slice Ao65 t797.length co65) t797) := hW_ ▸ ⟨by exact Kd.R_mono (rF2 HO799.out BK837.out BK838.out) (fun _ hk => trivial)⟩
               replace HO812 : Aside0 (Kd.V k25 25 w86 w.heap.size (fun k_ => k_ ≠ gb758 ∧ k_ ≠ gb777 ∧ k_ ≠ gb781 ∧ k_ ≠ gb800 ∧ k_ ≠ gb837 ∧ k_ ≠ gb838) (.slice Ao75 t810.length co75) t810) := hW_ ▸ ⟨by exact Kd.V_mono (vF2 HO812.out (fun k_ hk => (hk.1.2 : k_ ≠ gb837)) (fun k_ hk => (hk.2 : k_ ≠ gb838))) (fun _ hk => ⟨hk.1.1.1, ⟨hk.1.1.2.1, ⟨hk.1.1.2.2.1, ⟨hk.1.1.2.2.2, ⟨hk.1.2, hk.2⟩⟩⟩⟩⟩)⟩
               replace HO815 : Aside0 (Kd.V k25 25 w86 w.heap.size (fun k_ => k_ ≠ gb758 ∧ k_ ≠ gb777 ∧ k_ ≠ gb781 ∧ k_ ≠ gb800 ∧ k_ ≠ gb837 ∧ k_ ≠ gb838) (.slice Ao76 t813.length co76) t813) := hW_ ▸ ⟨by exact Kd.V_mono (vF2 HO815.out (fun k_ hk => (hk.1.2 : k_ ≠ gb837)) (fun k_ hk => (hk.2 : k_ ≠ gb838))) (fun _ hk => ⟨hk.1.1.1, ⟨hk.1.1.2.1, ⟨hk.1.1.2.2.1, ⟨hk.1.1.2.2.2, ⟨hk.1.2, hk.2⟩⟩⟩⟩⟩)⟩
               replace HO818 : Aside0 (Kd.V k25 25 w86 w.heap.size (fun k_ => k_ ≠ gb758 ∧ k_ ≠ gb777 ∧ k_ ≠ gb781 ∧ k_ ≠ gb800 ∧ k_ ≠ gb837 ∧ k_ ≠ gb838) (.slice Ao77 t816.length co77) t816) := hW_ ▸ ⟨by exact Kd.V_mono (vF2 HO818.out (fun k_ hk => (hk.1.2 : k_ ≠ gb837)) (fun k_ hk => (hk.2 : k_ ≠ gb838))) (fun _ hk => ⟨hk.1.1.1, ⟨hk.1.1.2.1, ⟨hk.1.1.2.2.1, ⟨hk.1.1.2.2.2, ⟨hk.1.2, hk.2⟩⟩⟩⟩⟩)⟩
               replace HO830 : Aside0 (Kd.V k25 25 w86 w.heap.size (fun k_ => k_ ≠ gb758 ∧ k_ ≠ gb777 ∧ k_ ≠ gb781 ∧ k_ ≠ gb800 ∧ k_ ≠ gb837 ∧ k_ ≠ gb838) (.slice Ao83 t828.length co83) t828) := hW_ ▸ ⟨by exact Kd.V_mono (vF2 HO830.out (fun k_ hk => (hk.1.2 : k_ ≠ gb837)) (fun k_ hk => (hk.2 : k_ ≠ gb838))) (fun _ hk => ⟨hk.1.1.1, ⟨hk.1.1.2.1, ⟨hk.1.1.2.2.1, ⟨hk.1.1.2.2.2, ⟨hk.1.2, hk.2⟩⟩⟩⟩⟩)⟩
               replace HO833 : Aside0 (Kd.V k25 25 w86 w.heap.size (fun k_ => k_ ≠ gb758 ∧ k_ ≠ gb777 ∧ k_ ≠ gb781 ∧ k_ ≠ gb800 ∧ k_ ≠ gb837 ∧ k_ ≠ gb838) (.slice Ao84 t831.length co84) t831) := hW_ ▸ ⟨by exact Kd.V_mono (vF2 HO833.out (fun k_ hk => (hk.1.2 : k_ ≠ gb837)) (fun k_ hk => (hk.2 : k_ ≠ gb838))) (fun _ hk => ⟨hk.1.1.1, ⟨hk.1.1.2.1, ⟨hk.1.1.2.2.1, ⟨hk.1.1.2.2.2, ⟨hk.1.2, hk.2⟩⟩⟩⟩⟩)⟩
               replace HO836 : Aside0 (Kd.V k25 25 w86 w.heap.size (fun k_ => k_ ≠ gb758 ∧ k_ ≠ gb777 ∧ k_ ≠ gb781 ∧ k_ ≠ gb800 ∧ k_ ≠ gb837 ∧ k_ ≠ gb838) (.slice Ao85 t834.length co85) t834) := hW_ ▸ ⟨by exact Kd.V_mono (vF2 HO836.out (fun k_ hk => (hk.1.2 : k_ ≠ gb837)) (fun k_ hk => (hk.2 : k_ ≠ gb838))) (fun _ hk => ⟨hk.1.1.1, ⟨hk.1.1.2.1, ⟨hk.1.1.2.2.1, ⟨hk.1.1.2.2.2, ⟨hk.1.2, hk.2⟩⟩⟩⟩⟩)⟩
               replace BK758 : Aside0 (w86.heap[gb758]? = some (.cells #[.int .i64 t729, .bool t730, .bool t731, .bool t732, .bool t733, .bool t734, .int .i64 t735, .string t736, .int .i64 t737, .slice Ao39 t738.length co39, .slice Ao40 t741.length co40, .slice Ao41 t744.length co41] 52 (0, 0))) := hW_ ▸ ⟨by exact bF2 BK758.out NB758_837.out NB758_838.out⟩
               replace BK777 : Aside0 (w86.heap[gb777]? = some (.cells #[.int .i64 t759, .bool true, .bool t761, .bool t762, .bool t763, .bool t764, .int .i64 t765, .string t766, .int .i64 t767, .slice Ao49 t768.length co49, .slice Ao50 t771.length co50, .slice Ao51 t774.length co51] 52 (0, 0))) := hW_ ▸ ⟨by exact bF2 BK777.out NB777_837.out NB777_838.out⟩
               replace BK781 : Aside0 (w86.heap[gb781]? = some (.cells #[.string t779, .int .i64 t780] 50 (0, 0))) := hW_ ▸ ⟨by exact bF2 BK781.out NB781_837.out NB781_838.out⟩
               replace BK800 : Aside0 (w86.heap[gb800]? = some (.cells #[.int .i64 t782, .bool false, .bool t784, .bool t785, .bool t786, .bool t787, .int .i64 t788, .string t789, .int .i64 t790, .slice Ao63 t791.length co63, .slice Ao64 t794.length co64, .slice Ao65 t797.length co65] 52 (0, 0))) := hW_ ▸ ⟨by exact bF2 BK800.out NB800_837.out NB800_838.out⟩
               replace BK837 : Aside0 (w86.heap[gb837]? = some (.cells #[.int .i64 t801, .bool t802, .bool t803, .bool t804, .bool t805, .bool t806, .int .i64 t807, .string t808, .int .i64 t809, .slice Ao75 t810.length co75, .slice Ao76 t813.length co76, .slice Ao77 t816.length co77] 52 (0, 0))) := hW_ ▸ ⟨by (iterate 12 ((with_reducible repeat (first | refine blk_drewN ?_ _ | refine blk_drew ?_ | refine blk_alloc ?_ _)); refine blk_far ?_ NB837_838.out _)); exact bO (Pr.p12 (bU BK837.out))⟩
               replace BK838 : Aside0 (w86.heap[gb838]? = some (.cells #[.int .i64 t819, .bool t820, .bool t821, .bool t822, .bool t823, .bool t824, .int .i64 t825, .string t826, .int .i64 t827, .slice Ao83 t828.length co83, .slice Ao84 t831.length co84, .slice Ao85 t834.length co85] 52 (0, 0))) := hW_ ▸ ⟨by exact bO (Pr.p12 (bF1 BK838.out NB838_837.out))⟩
               replace HB : Aside0 (Below w.heap.size w w86) := hW_ ▸ ⟨by exact wS2 HB.out GE837.out GE838.out⟩
               clear hW_
               replace HO740 := aS (Kd.R_drew HO740.out)
               replace HO743 := aS (Kd.R_drew HO743.out)
               replace HO746 := aS (Kd.R_drew HO746.out)
               replace HO751 := aS (Kd.R_drew HO751.out)
               replace HO754 := aS (Kd.R_drew HO754.out)
               replace HO757 := aS (Kd.R_drew HO757.out)
               replace HO770 := aS (Kd.R_drew HO770.out)
               replace HO773 := aS (Kd.R_drew HO773.out)
               replace HO776 := aS (Kd.R_drew HO776.out)
               replace HO793 := aS (Kd.R_drew HO793.out)
               replace HO796 := aS (Kd.R_drew HO796.out)
               replace HO799 := aS (Kd.R_drew HO799.out)
               replace HO812 := aS (Kd.V_drew HO812.out)
               replace HO815 := aS (Kd.V_drew HO815.out)
               replace HO818 := aS (Kd.V_drew HO818.out)
               replace HO830 := aS (Kd.V_drew HO830.out)
               replace HO833 := aS (Kd.V_drew HO833.out)
               replace HO836 := aS (Kd.V_drew HO836.out)
               replace BK758 := aS (blk_drew BK758.out)
               replace BK777 := aS (blk_drew BK777.out)
               replace BK781 := aS (blk_drew BK781.out)
               replace BK800 := aS (blk_drew BK800.out)
               replace BK837 := aS (blk_drew BK837.out)
               replace BK838 := aS (blk_drew BK838.out)
               replace HB := aS (below_drew1 HB.out)
               refine start_ (n := 48) (S := fun w' => w'.cell? ⟨gb777, 0, none⟩ = some (.int .i64 t759) ∧ w'.cell? ⟨gb777, 1, none⟩ = some (.bool true) ∧ w'.cell? ⟨gb777, 2, none⟩ = some (.bool t761) ∧ w'.cell? ⟨gb777, 3, none⟩ = some (.bool t762) ∧ w'.cell? ⟨gb777, 4, none⟩ = some (.bool t763) ∧ w'.cell? ⟨gb777, 5, none⟩ = some (.bool t764) ∧ w'.cell? ⟨gb777, 6, none⟩ = some (.int .i64 t765) ∧ w'.cell? ⟨gb777, 7, none⟩ = some (.string t766) ∧ w'.cell? ⟨gb777, 8, none⟩ = some (.int .i64 t767) ∧ w'.cell? ⟨gb777, 9, none⟩ = some (.slice Ao49 t768.length co49) ∧ w'.cell? ⟨gb777, 10, none⟩ = some (.slice Ao50 t771.length co50) ∧ w'.cell? ⟨gb777, 11, none⟩ = some (.slice Ao51 t774.length co51) ∧ w'.cell? ⟨gb758, 0, none⟩ = some (.int .i64 t729) ∧ w'.cell? ⟨gb758, 1, none⟩ = some (.bool t730) ∧ w'.cell? ⟨gb758, 2, none⟩ = some (.bool t731) ∧ w'.cell? ⟨gb758, 3, none⟩ = some (.bool t732) ∧ w'.cell? ⟨gb758, 4, none⟩ = some (.bool t733) ∧ w'.cell? ⟨gb758, 5, none⟩ = some (.bool t734) ∧ w'.cell? ⟨gb758, 6, none⟩ = some (.int .i64 t735) ∧ w'.cell? ⟨gb758, 7, none⟩ = some (.string t736) ∧ w'.cell? ⟨gb758, 8, none⟩ = some (.int .i64 t737) ∧ w'.cell? ⟨gb758, 9, none⟩ = some (.slice Ao39 t738.length co39) ∧ w'.cell? ⟨gb758, 10, none⟩ = some (.slice Ao40 t741.length co40) ∧ w'.cell? ⟨gb758, 11, none⟩ = some (.slice Ao41 t744.length co41) ∧ w'.cell? ⟨gb800, 0, none⟩ = some (.int .i64 t782) ∧ w'.cell? ⟨gb800, 1, none⟩ = some (.bool false) ∧ w'.cell? ⟨gb800, 2, none⟩ = some (.bool t784) ∧ w'.cell? ⟨gb800, 3, none⟩ = some (.bool t785) ∧ w'.cell? ⟨gb800, 4, none⟩ = some (.bool t786) ∧ w'.cell? ⟨gb800, 5, none⟩ = some (.bool t787) ∧ w'.cell? ⟨gb800, 6, none⟩ = some (.int .i64 t788) ∧ w'.cell? ⟨gb800, 7, none⟩ = some (.string t789) ∧ w'.cell? ⟨gb800, 8, none⟩ = some (.int .i64 t790) ∧ w'.cell? ⟨gb800, 9, none⟩ = some (.slice Ao63 t791.length co63) ∧ w'.cell? ⟨gb800, 10, none⟩ = some (.slice Ao64 t794.length co64) ∧ w'.cell? ⟨gb800, 11, none⟩ = some (.slice Ao65 t797.length co65) ∧ w'.cell? ⟨gb781, 0, none⟩ = some (.string t779) ∧ w'.cell? ⟨gb781, 1, none⟩ = some (.int .i64 t780) ∧ w'.cell? ⟨gb837, 0, none⟩ = some (.int .i64 t801) ∧ w'.cell? ⟨gb837, 1, none⟩ = some (.bool t802) ∧ w'.cell? ⟨gb837, 2, none⟩ = some (.bool t803) ∧ w'.cell? ⟨gb837, 3, none⟩ = some (.bool t804) ∧ w'.cell? ⟨gb837, 4, none⟩ = some (.bool t805) ∧ w'.cell? ⟨gb837, 5, none⟩ = some (.bool t806) ∧ w'.cell? ⟨gb837, 6, none⟩ = some (.int .i64 t807) ∧ w'.cell? ⟨gb837, 7, none⟩ = some (.string t808) ∧ w'.cell? ⟨gb837, 8, none⟩ = some (.int .i64 t809) ∧ w'.cell? ⟨gb837, 9, none⟩ = some (.slice Ao75 t810.length co75) ∧ w'.cell? ⟨gb837, 10, none⟩ = some (.slice Ao76 t813.length co76) ∧ w'.cell? ⟨gb837, 11, none⟩ = some (.slice Ao77 t816.length co77) ∧ w'.cell? ⟨gb838, 0, none⟩ = some (.int .i64 t819) ∧ w'.cell? ⟨gb838, 1, none⟩ = some (.bool t820) ∧ w'.cell? ⟨gb838, 2, none⟩ = some (.bool t821) ∧ w'.cell? ⟨gb838, 3, none⟩ = some (.bool t822) ∧ w'.cell? ⟨gb838, 4, none⟩ = some (.bool t823) ∧ w'.cell? ⟨gb838, 5, none⟩ = some (.bool t824) ∧ w'.cell? ⟨gb838, 6, none⟩ = some (.int .i64 t825) ∧ w'.cell? ⟨gb838, 7, none⟩ = some (.string t826) ∧ w'.cell? ⟨gb838, 8, none⟩ = some (.int .i64 t827) ∧ w'.cell? ⟨gb838, 9, none⟩ = some (.slice Ao83 t828.length co83) ∧ w'.cell? ⟨gb838, 10, none⟩ = some (.slice Ao84 t831.length co84) ∧ w'.cell? ⟨gb838, 11, none⟩ = some (.slice Ao85 t834.length co85)) (ds := []) #[false, false, false, false, false, false, false, false, false, false, false, false, false, false, false, false, false, false, false, false, false, false, false, false, false, false, false, false, false, false, false, false, false, false, false, false, false, false, false, false, false, false, false, false, false, false, false, false] jK rfl rfl (Pr.b12 BK777.out (Pr.b12 BK758.out (Pr.b12 BK800.out (Pr.b2 BK781.out (Pr.b12 BK837.out (Pr.c12 BK838.out)))))) (fun hHeld => ?_); refine with_tabW laws_FnMsgs.tab8 laws_FnMsgs.bits8 (fun HT_ HW_ => ?_)
               generalize w86.drew = w87 at HO740 HO743 HO746 HO751 HO754 HO757 HO770 HO773 HO776 HO793 HO796 HO799 HO812 HO815 HO818 HO830 HO833 HO836 BK758 BK777 BK781 BK800 BK837 BK838 HB hHeld ⊢
               refine pA HT_ 2 (some 48) #[false, false, true, false, false, false, false, false, false, false, false, false, false, false, false, false, false, false, false, false, false, false, false, false, false, false, false, false, false, false, false, false, false, false, false, false, false, false, false, false, false, false, false, false, false, false, false, false] ?_
               refine pA HT_ 3 (some 49) #[false, false, true, true, false, false, false, false, false, false, false, false, false, false, false, false, false, false, false, false, false, false, false, false, false, false, false, false, false, false, false, false, false, false, false, false, false, false, false, false, false, false, false, false, false, false, false, false] ?_
               refine pA HT_ 4 (some 50) #[false, false, true, true, true, false, false, false, false, false, false, false, false, false, false, false, false, false, false, false, false, false, false, false, false, false, false, false, false, false, false, false, false, false, false, false, false, false, false, false, false, false, false, false, false, false, false, false] ?_
               refine pA HT_ 5 (some 51) #[false, false, true, true, true, true, false, false, false, false, false, false, false, false, false, false, false, false, false, false, false, false, false, false, false, false, false, false, false, false, false, false, false, false, false, false, false, false, false, false, false, false, false, false, false, false, false, false] ?_
               refine pA HT_ 6 (some 52) #[false, false, true, true, true, true, true, false, false, false, false, false, false, false, false, false, false, false, false, false, false, false, false, false, false, false, false, false, false, false, false, false, false, false, false, false, false, false, false, false, false, false, false, false, false, false, false, false] ?_
               refine tA HT_ HW_ hHeld 0 (some 46) #[true, false, true, true, true, true, true, false, false, false, false, false, false, false, false, false, false, false, false, false, false, false, false, false, false, false, false, false, false, false, false, false, false, false, false, false, false, false, false, false, false, false, false, false, false, false, false, false] ?_
               refine tA HT_ HW_ hHeld 1 (some 47) (tf 7 41) ?_
               refine one_ (i := 7) (N := some 53) (tf 8 40) rfl rfl (one_of HT_.out jK) (by decide) (fun K hK => ?_)
               refine goes_ Tryd.func35 jK rfl #[.agg #[.int .i64 t729, .bool t730, .bool t731, .bool t732, .bool t733, .bool t734, .int .i64 t735, .string t736, .int .i64 t737, .slice Ao39 t738.length co39, .slice Ao40 t741.length co40, .slice Ao41 t744.length co41], .int .i64 t747, .bool t748, .slice Ao42 t749.length co42, .slice Ao43 t752.length co43, .slice Ao44 t755.length co44] (by rfl) rfl rfl jA ?_
               with_reducible refine (spec_ReplyTo.calls t729 t730 t731 t732 t733 t734 t735 t736 t737 _ _ t738 _ _ t741 _ _ t744 t747 t748 _ _ t749 _ _ t752 _ _ t755 t839 t840 t841 t842 t843 t844 t845 t846 t847 t848 t851 t854 _ ?side1 ?side2 ?side3 ?side4 ?side5 ?side6 ?side7 ?side8 ?side9 ?side10 ?side11 ?side12 A9.out).mono ?_
               (case side1 => exact cU ((Kd.R_reads' HO740.out).2.2))
               (case side2 => exact (Kd.R_reads' HO740.out).2.1)
               (case side3 => exact cU ((Kd.R_reads' HO743.out).2.2))
               (case side4 => exact (Kd.R_reads' HO743.out).2.1)
               (case side5 => exact cU ((Kd.R_reads' HO746.out).2.2))
               (case side6 => exact (Kd.R_reads' HO746.out).2.1)
               (case side7 => exact cU ((Kd.R_reads' HO751.out).2.2))
               (case side8 => exact (Kd.R_reads' HO751.out).2.1)
               (case side9 => exact cU ((Kd.R_reads' HO754.out).2.2))
               (case side10 => exact (Kd.R_reads' HO754.out).2.1)
               (case side11 => exact cU ((Kd.R_reads' HO757.out).2.2))
               (case side12 => exact (Kd.R_reads' HO757.out).2.1)
               rintro e w88 ⟨v849, v852, v855, rfl, ho0, ho1, ho2, hb⟩
               refine ⟨_, rfl, ?_⟩
               replace HO740 := rB HO740 hb
               replace HO743 := rB HO743 hb
               replace HO746 := rB HO746 hb
               replace HO751 := rB HO751 hb
               replace HO754 := rB HO754 hb
               replace HO757 := rB HO757 hb
               replace HO770 := rB HO770 hb
               replace HO773 := rB HO773 hb
               replace HO776 := rB HO776 hb
               replace HO793 := rB HO793 hb
               replace HO796 := rB HO796 hb
               replace HO799 := rB HO799 hb
               replace HO812 := aS (Kd.V_below (by exact vO HO812.out) hb)
               replace HO815 := aS (Kd.V_below (by exact vO HO815.out) hb)
               replace HO818 := aS (Kd.V_below (by exact vO HO818.out) hb)
               replace HO830 := aS (Kd.V_below (by exact vO HO830.out) hb)
               replace HO833 := aS (Kd.V_below (by exact vO HO833.out) hb)
               replace HO836 := aS (Kd.V_below (by exact vO HO836.out) hb)
               have HO850 := aS (Kd.R_lower (Kd.R_mono (ok' := fun _ => True) ho0 (fun _ _ => trivial)) (below_size (wS6 HB.out GE758.out GE777.out GE781.out GE800.out GE837.out GE838.out)))
               have HO853 := aS (Kd.R_lower (Kd.R_mono (ok' := fun _ => True) ho1 (fun _ _ => trivial)) (below_size (wS6 HB.out GE758.out GE777.out GE781.out GE800.out GE837.out GE838.out)))
               have HO856 := aS (Kd.R_lower (Kd.R_mono (ok' := fun _ => True) ho2 (fun _ _ => trivial)) (below_size (wS6 HB.out GE758.out GE777.out GE781.out GE800.out GE837.out GE838.out)))
               replace BK758 := bB BK758 hb
               replace BK777 := bB BK777 hb
               replace BK781 := bB BK781 hb
               replace BK800 := bB BK800 hb
               replace BK837 := bB BK837 hb
               replace BK838 := bB BK838 hb
               replace HB := aS (below_step (wS6 HB.out GE758.out GE777.out GE781.out GE800.out GE837.out GE838.out) hb)
               (try clear hb)
               (try clear hb2)
               (try clear hk)
               (try clear hi)
               (try clear ho0)
               (try clear ho1)
               (try clear ho2)
               obtain ⟨Ao89, co89, eo89⟩ := Kd.R_slice HO850.out
               (first | subst eo89 | (injection eo89 with f1_ f2_ f3_; have f4_ := f1_.symm; have f5_ := f3_.symm; clear f1_ f2_ f3_; subst f4_; subst f5_))
               obtain ⟨Ao90, co90, eo90⟩ := Kd.R_slice HO853.out
               (first | subst eo90 | (injection eo90 with f1_ f2_ f3_; have f4_ := f1_.symm; have f5_ := f3_.symm; clear f1_ f2_ f3_; subst f4_; subst f5_))
               obtain ⟨Ao91, co91, eo91⟩ := Kd.R_slice HO856.out
               (first | subst eo91 | (injection eo91 with f1_ f2_ f3_; have f4_ := f1_.symm; have f5_ := f3_.symm; clear f1_ f2_ f3_; subst f4_; subst f5_))
               refine hK.out _ _ (Pr.b12 BK777.out (Pr.b12 BK758.out (Pr.b12 BK800.out (Pr.b2 BK781.out (Pr.b12 BK837.out (Pr.c12 BK838.out)))))) (fun hHeld => ?_)
               clear hK K
               refine nA (some 53) ?_
               refine one_ (i := 8) (N := some 54) (tf 9 39) rfl rfl (one_of HT_.out jK) (by decide) (fun K hK => ?_)
               refine goes_ Tryd.func34 jK rfl #[.agg #[.int .i64 t759, .bool true, .bool t761, .bool t762, .bool t763, .bool t764, .int .i64 t765, .string t766, .int .i64 t767, .slice Ao49 t768.length co49, .slice Ao50 t771.length co50, .slice Ao51 t774.length co51], .agg #[.int .i64 t839, .bool t840, .bool t841, .bool t842, .bool t843, .bool t844, .int .i64 t845, .string t846, .int .i64 t847, .slice Ao89 t848.length co89, .slice Ao90 t851.length co90, .slice Ao91 t854.length co91]] (by rfl) rfl rfl jA ?_
               with_reducible refine (laws_sameMsg.calls k t759 true t761 t762 t763 t764 t765 t766 t767 _ _ t768 _ _ t771 _ _ t774 t839 t840 t841 t842 t843 t844 t845 t846 t847 _ _ t848 _ _ t851 _ _ t854 true _ ?side1 ?side2 ?side3 ?side4 ?side5 ?side6 ?side7 ?side8 ?side9 ?side10 ?side11 ?side12 A10.out).mono ?_
               (case side1 => exact cU ((Kd.R_reads' HO770.out).2.2))
               (case side2 => exact (Kd.R_reads' HO770.out).2.1)
               (case side3 => exact cU ((Kd.R_reads' HO773.out).2.2))
               (case side4 => exact (Kd.R_reads' HO773.out).2.1)
               (case side5 => exact cU ((Kd.R_reads' HO776.out).2.2))
               (case side6 => exact (Kd.R_reads' HO776.out).2.1)
               (case side7 => exact cU ((Kd.R_reads' HO850.out).2.2))
               (case side8 => exact (Kd.R_reads' HO850.out).2.1)
               (case side9 => exact cU ((Kd.R_reads' HO853.out).2.2))
               (case side10 => exact (Kd.R_reads' HO853.out).2.1)
               (case side11 => exact cU ((Kd.R_reads' HO856.out).2.2))
               (case side12 => exact (Kd.R_reads' HO856.out).2.1)
               rintro e w92 ⟨rfl, hb⟩
               refine ⟨_, rfl, ?_⟩
               replace HO740 := rB HO740 hb
               replace HO743 := rB HO743 hb
               replace HO746 := rB HO746 hb
               replace HO751 := rB HO751 hb
               replace HO754 := rB HO754 hb
               replace HO757 := rB HO757 hb
               replace HO770 := rB HO770 hb
               replace HO773 := rB HO773 hb
               replace HO776 := rB HO776 hb
               replace HO793 := rB HO793 hb
               replace HO796 := rB HO796 hb
               replace HO799 := rB HO799 hb
               replace HO812 := aS (Kd.V_below (by exact vO HO812.out) hb)
               replace HO815 := aS (Kd.V_below (by exact vO HO815.out) hb)
               replace HO818 := aS (Kd.V_below (by exact vO HO818.out) hb)
               replace HO830 := aS (Kd.V_below (by exact vO HO830.out) hb)
               replace HO833 := aS (Kd.V_below (by exact vO HO833.out) hb)
               replace HO836 := aS (Kd.V_below (by exact vO HO836.out) hb)
               replace HO850 := rB HO850 hb
               replace HO853 := rB HO853 hb
               replace HO856 := rB HO856 hb
               replace BK758 := bB BK758 hb
               replace BK777 := bB BK777 hb
               replace BK781 := bB BK781 hb
               replace BK800 := bB BK800 hb
               replace BK837 := bB BK837 hb
               replace BK838 := bB BK838 hb
               replace HB := aS (below_step (wS6 HB.out GE758.out GE777.out GE781.out GE800.out GE837.out GE838.out) hb)
               (try clear hb)
               (try clear hb2)
               (try clear hk)
               (try clear hi)
               refine hK.out _ _ (Pr.b12 BK777.out (Pr.b12 BK758.out (Pr.b12 BK800.out (Pr.b2 BK781.out (Pr.b12 BK837.out (Pr.c12 BK838.out)))))) (fun hHeld => ?_)
               clear hK K
               refine nA (some 54) ?_
               refine pA HT_ 9 (some 55) (tf 10 38) ?_
               refine pA HT_ 10 (some 56) (tf 11 37) ?_
               refine pA HT_ 12 (some 58) #[true, true, true, true, true, true, true, true, true, true, true, false, true, false, false, false, false, false, false, false, false, false, false, false, false, false, false, false, false, false, false, false, false, false, false, false, false, false, false, false, false, false, false, false, false, false, false, false] ?_
               refine tA HT_ HW_ hHeld 11 (some 57) (tf 13 35) ?_
               refine tA HT_ HW_ hHeld 13 (some 59) (tf 14 34) ?_
               refine one_ (i := 14) (N := some 60) (tf 15 33) rfl rfl (one_of HT_.out jK) (by decide) (fun K hK => ?_)
               refine goes_ Tryd.func36 jK rfl #[.int .i64 t778, .agg #[.string t779, .int .i64 t780]] (by rfl) rfl rfl jA ?_
               with_reducible refine (spec_AskMsg.calls t778 t779 t780 t858 t859 t860 t861 t862 t863 t864 t865 t866 t867 t870 t873 _ A12.out).mono ?_
               rintro e w93 ⟨v868, v871, v874, rfl, ho0, ho1, ho2, hb⟩
               refine ⟨_, rfl, ?_⟩
               replace HO740 := rB HO740 hb
               replace HO743 := rB HO743 hb
               replace HO746 := rB HO746 hb
               replace HO751 := rB HO751 hb
               replace HO754 := rB HO754 hb
               replace HO757 := rB HO757 hb
               replace HO770 := rB HO770 hb
               replace HO773 := rB HO773 hb
               replace HO776 := rB HO776 hb
               replace HO793 := rB HO793 hb
               replace HO796 := rB HO796 hb
               replace HO799 := rB HO799 hb
               replace HO812 := aS (Kd.V_below (by exact vO HO812.out) hb)
               replace HO815 := aS (Kd.V_below (by exact vO HO815.out) hb)
               replace HO818 := aS (Kd.V_below (by exact vO HO818.out) hb)
               replace HO830 := aS (Kd.V_below (by exact vO HO830.out) hb)
               replace HO833 := aS (Kd.V_below (by exact vO HO833.out) hb)
               replace HO836 := aS (Kd.V_below (by exact vO HO836.out) hb)
               replace HO850 := rB HO850 hb
               replace HO853 := rB HO853 hb
               replace HO856 := rB HO856 hb
               have HO869 := aS (Kd.R_lower (Kd.R_mono (ok' := fun _ => True) ho0 (fun _ _ => trivial)) (below_size (wS6 HB.out GE758.out GE777.out GE781.out GE800.out GE837.out GE838.out)))
               have HO872 := aS (Kd.R_lower (Kd.R_mono (ok' := fun _ => True) ho1 (fun _ _ => trivial)) (below_size (wS6 HB.out GE758.out GE777.out GE781.out GE800.out GE837.out GE838.out)))
               have HO875 := aS (Kd.R_lower (Kd.R_mono (ok' := fun _ => True) ho2 (fun _ _ => trivial)) (below_size (wS6 HB.out GE758.out GE777.out GE781.out GE800.out GE837.out GE838.out)))
               replace BK758 := bB BK758 hb
               replace BK777 := bB BK777 hb
               replace BK781 := bB BK781 hb
               replace BK800 := bB BK800 hb
               replace BK837 := bB BK837 hb
               replace BK838 := bB BK838 hb
               replace HB := aS (below_step (wS6 HB.out GE758.out GE777.out GE781.out GE800.out GE837.out GE838.out) hb)
               (try clear hb)
               (try clear hb2)
               (try clear hk)
               (try clear hi)
               (try clear ho0)
               (try clear ho1)
               (try clear ho2)
               obtain ⟨Ao94, co94, eo94⟩ := Kd.R_slice HO869.out
               (first | subst eo94 | (injection eo94 with f1_ f2_ f3_; have f4_ := f1_.symm; have f5_ := f3_.symm; clear f1_ f2_ f3_; subst f4_; subst f5_))
               obtain ⟨Ao95, co95, eo95⟩ := Kd.R_slice HO872.out
               (first | subst eo95 | (injection eo95 with f1_ f2_ f3_; have f4_ := f1_.symm; have f5_ := f3_.symm; clear f1_ f2_ f3_; subst f4_; subst f5_))
               obtain ⟨Ao96, co96, eo96⟩ := Kd.R_slice HO875.out
               (first | subst eo96 | (injection eo96 with f1_ f2_ f3_; have f4_ := f1_.symm; have f5_ := f3_.symm; clear f1_ f2_ f3_; subst f4_; subst f5_))
               refine hK.out _ _ (Pr.b12 BK777.out (Pr.b12 BK758.out (Pr.b12 BK800.out (Pr.b2 BK781.out (Pr.b12 BK837.out (Pr.c12 BK838.out)))))) (fun hHeld => ?_)
               clear hK K
               refine nA (some 60) ?_
               refine one_ (i := 15) (N := some 61) (tf 16 32) rfl rfl (one_of HT_.out jK) (by decide) (fun K hK => ?_)
               refine goes_ Tryd.func34 jK rfl #[.agg #[.int .i64 t782, .bool false, .bool t784, .bool t785, .bool t786, .bool t787, .int .i64 t788, .string t789, .int .i64 t790, .slice Ao63 t791.length co63, .slice Ao64 t794.length co64, .slice Ao65 t797.length co65], .agg #[.int .i64 t858, .bool t859, .bool t860, .bool t861, .bool t862, .bool t863, .int .i64 t864, .string t865, .int .i64 t866, .slice Ao94 t867.length co94, .slice Ao95 t870.length co95, .slice Ao96 t873.length co96]] (by rfl) rfl rfl jA ?_
               with_reducible refine (laws_sameMsg.calls k t782 false t784 t785 t786 t787 t788 t789 t790 _ _ t791 _ _ t794 _ _ t797 t858 t859 t860 t861 t862 t863 t864 t865 t866 _ _ t867 _ _ t870 _ _ t873 true _ ?side1 ?side2 ?side3 ?side4 ?side5 ?side6 ?side7 ?side8 ?side9 ?side10 ?side11 ?side12 A13.out).mono ?_
               (case side1 => exact cU ((Kd.R_reads' HO793.out).2.2))
               (case side2 => exact (Kd.R_reads' HO793.out).2.1)
               (case side3 => exact cU ((Kd.R_reads' HO796.out).2.2))
               (case side4 => exact (Kd.R_reads' HO796.out).2.1)
               (case side5 => exact cU ((Kd.R_reads' HO799.out).2.2))
               (case side6 => exact (Kd.R_reads' HO799.out).2.1)
               (case side7 => exact cU ((Kd.R_reads' HO869.out).2.2))
               (case side8 => exact (Kd.R_reads' HO869.out).2.1)
               (case side9 => exact cU ((Kd.R_reads' HO872.out).2.2))
               (case side10 => exact (Kd.R_reads' HO872.out).2.1)
               (case side11 => exact cU ((Kd.R_reads' HO875.out).2.2))
               (case side12 => exact (Kd.R_reads' HO875.out).2.1)
               rintro e w97 ⟨rfl, hb⟩
               refine ⟨_, rfl, ?_⟩
               replace HO740 := rB HO740 hb
               replace HO743 := rB HO743 hb
               replace HO746 := rB HO746 hb
               replace HO751 := rB HO751 hb
               replace HO754 := rB HO754 hb
               replace HO757 := rB HO757 hb
               replace HO770 := rB HO770 hb
               replace HO773 := rB HO773 hb
               replace HO776 := rB HO776 hb
               replace HO793 := rB HO793 hb
               replace HO796 := rB HO796 hb
               replace HO799 := rB HO799 hb
               replace HO812 := aS (Kd.V_below (by exact vO HO812.out) hb)
               replace HO815 := aS (Kd.V_below (by exact vO HO815.out) hb)
               replace HO818 := aS (Kd.V_below (by exact vO HO818.out) hb)
               replace HO830 := aS (Kd.V_below (by exact vO HO830.out) hb)
               replace HO833 := aS (Kd.V_below (by exact vO HO833.out) hb)
               replace HO836 := aS (Kd.V_below (by exact vO HO836.out) hb)
               replace HO850 := rB HO850 hb
               replace HO853 := rB HO853 hb
               replace HO856 := rB HO856 hb
               replace HO869 := rB HO869 hb
               replace HO872 := rB HO872 hb
               replace HO875 := rB HO875 hb
               replace BK758 := bB BK758 hb
               replace BK777 := bB BK777 hb
               replace BK781 := bB BK781 hb
               replace BK800 := bB BK800 hb
               replace BK837 := bB BK837 hb
               replace BK838 := bB BK838 hb
               replace HB := aS (below_step (wS6 HB.out GE758.out GE777.out GE781.out GE800.out GE837.out GE838.out) hb)
               (try clear hb)
               (try clear hb2)
               (try clear hk)
               (try clear hi)
               refine hK.out _ _ (Pr.b12 BK777.out (Pr.b12 BK758.out (Pr.b12 BK800.out (Pr.b2 BK781.out (Pr.b12 BK837.out (Pr.c12 BK838.out)))))) (fun hHeld => ?_)
               clear hK K
               refine nA (some 61) ?_
               refine pA HT_ 16 (some 62) (tf 17 31) ?_
               refine pA HT_ 17 (some 63) (tf 18 30) ?_
               refine pA HT_ 18 (some 64) (tf 19 29) ?_
               refine tA HT_ HW_ hHeld 19 (some 65) (tf 20 28) ?_
               refine tA HT_ HW_ hHeld 20 (some 66) (tf 21 27) ?_
               refine tA HT_ HW_ hHeld 22 (some 68) #[true, true, true, true, true, true, true, true, true, true, true, true, true, true, true, true, true, true, true, true, true, false, true, false, false, false, false, false, false, false, false, false, false, false, false, false, false, false, false, false, false, false, false, false, false, false, false, false] ?_
               refine tA HT_ HW_ hHeld 23 (some 69) #[true, true, true, true, true, true, true, true, true, true, true, true, true, true, true, true, true, true, true, true, true, false, true, true, false, false, false, false, false, false, false, false, false, false, false, false, false, false, false, false, false, false, false, false, false, false, false, false] ?_
               refine one_ (i := 21) (N := some 67) (tf 24 24) rfl rfl (one_of HT_.out jK) (by decide) (fun K hK => ?_)
               refine goes_ Tryd.func37 jK rfl #[.agg #[.int .i64 t801, .bool t802, .bool t803, .bool t804, .bool t805, .bool t806, .int .i64 t807, .string t808, .int .i64 t809, .slice Ao75 t810.length co75, .slice Ao76 t813.length co76, .slice Ao77 t816.length co77], .agg #[.int .i64 t819, .bool t820, .bool t821, .bool t822, .bool t823, .bool t824, .int .i64 t825, .string t826, .int .i64 t827, .slice Ao83 t828.length co83, .slice Ao84 t831.length co84, .slice Ao85 t834.length co85]] (by rfl) rfl rfl jA ?_
               with_reducible refine (impl_SameMsg.calls k t801 t802 t803 t804 t805 t806 t807 t808 t809 _ _ t810 _ _ t813 _ _ t816 t819 t820 t821 t822 t823 t824 t825 t826 t827 _ _ t828 _ _ t831 _ _ t834 t877 _ ?side1 ?side2 ?side3 ?side4 ?side5 ?side6 ?side7 ?side8 ?side9 ?side10 ?side11 ?side12 A15.out).mono ?_
               (case side1 => exact cU ((Kd.V_reads' HO812.out).2.2))
               (case side2 => exact (Kd.V_reads' HO812.out).2.1)
               (case side3 => exact cU ((Kd.V_reads' HO815.out).2.2))
               (case side4 => exact (Kd.V_reads' HO815.out).2.1)
               (case side5 => exact cU ((Kd.V_reads' HO818.out).2.2))
               (case side6 => exact (Kd.V_reads' HO818.out).2.1)
               (case side7 => exact cU ((Kd.V_reads' HO830.out).2.2))
               (case side8 => exact (Kd.V_reads' HO830.out).2.1)
               (case side9 => exact cU ((Kd.V_reads' HO833.out).2.2))
               (case side10 => exact (Kd.V_reads' HO833.out).2.1)
               (case side11 => exact cU ((Kd.V_reads' HO836.out).2.2))
               (case side12 => exact (Kd.V_reads' HO836.out).2.1)
               rintro e w98 ⟨rfl, hb⟩
               refine ⟨_, rfl, ?_⟩
               replace HO740 := rB HO740 hb
               replace HO743 := rB HO743 hb
               replace HO746 := rB HO746 hb
               replace HO751 := rB HO751 hb
               replace HO754 := rB HO754 hb
               replace HO757 := rB HO757 hb
               replace HO770 := rB HO770 hb
               replace HO773 := rB HO773 hb
               replace HO776 := rB HO776 hb
               replace HO793 := rB HO793 hb
               replace HO796 := rB HO796 hb
               replace HO799 := rB HO799 hb
               replace HO812 := aS (Kd.V_below (by exact vO HO812.out) hb)
               replace HO815 := aS (Kd.V_below (by exact vO HO815.out) hb)
               replace HO818 := aS (Kd.V_below (by exact vO HO818.out) hb)
               replace HO830 := aS (Kd.V_below (by exact vO HO830.out) hb)
               replace HO833 := aS (Kd.V_below (by exact vO HO833.out) hb)
               replace HO836 := aS (Kd.V_below (by exact vO HO836.out) hb)
               replace HO850 := rB HO850 hb
               replace HO853 := rB HO853 hb
               replace HO856 := rB HO856 hb
               replace HO869 := rB HO869 hb
               replace HO872 := rB HO872 hb
               replace HO875 := rB HO875 hb
               replace BK758 := bB BK758 hb
               replace BK777 := bB BK777 hb
               replace BK781 := bB BK781 hb
               replace BK800 := bB BK800 hb
               replace BK837 := bB BK837 hb
               replace BK838 := bB BK838 hb
               replace HB := aS (below_step (wS6 HB.out GE758.out GE777.out GE781.out GE800.out GE837.out GE838.out) hb)
               (try clear hb)
               (try clear hb2)
               (try clear hk)
               (try clear hi)
               refine hK.out _ _ (Pr.b12 BK777.out (Pr.b12 BK758.out (Pr.b12 BK800.out (Pr.b2 BK781.out (Pr.b12 BK837.out (Pr.c12 BK838.out)))))) (fun hHeld => ?_)
               clear hK K
               refine nA (some 67) ?_
               refine one_ (i := 24) (N := some 70) (tf 25 23) rfl rfl (one_of HT_.out jK) (by decide) (fun K hK => ?_)
               refine goes_ Tryd.func34 jK rfl #[.agg #[.int .i64 t801, .bool t802, .bool t803, .bool t804, .bool t805, .bool t806, .int .i64 t807, .string t808, .int .i64 t809, .slice Ao75 t810.length co75, .slice Ao76 t813.length co76, .slice Ao77 t816.length co77], .agg #[.int .i64 t819, .bool t820, .bool t821, .bool t822, .bool t823, .bool t824, .int .i64 t825, .string t826, .int .i64 t827, .slice Ao83 t828.length co83, .slice Ao84 t831.length co84, .slice Ao85 t834.length co85]] (by rfl) rfl rfl jA ?_
               with_reducible refine (laws_sameMsg.calls k t801 t802 t803 t804 t805 t806 t807 t808 t809 _ _ t810 _ _ t813 _ _ t816 t819 t820 t821 t822 t823 t824 t825 t826 t827 _ _ t828 _ _ t831 _ _ t834 t878 _ ?side1 ?side2 ?side3 ?side4 ?side5 ?side6 ?side7 ?side8 ?side9 ?side10 ?side11 ?side12 A16.out).mono ?_
               (case side1 => exact cU ((Kd.V_reads' HO812.out).2.2))
               (case side2 => exact (Kd.V_reads' HO812.out).2.1)
               (case side3 => exact cU ((Kd.V_reads' HO815.out).2.2))
               (case side4 => exact (Kd.V_reads' HO815.out).2.1)
               (case side5 => exact cU ((Kd.V_reads' HO818.out).2.2))
               (case side6 => exact (Kd.V_reads' HO818.out).2.1)
               (case side7 => exact cU ((Kd.V_reads' HO830.out).2.2))
               (case side8 => exact (Kd.V_reads' HO830.out).2.1)
               (case side9 => exact cU ((Kd.V_reads' HO833.out).2.2))
               (case side10 => exact (Kd.V_reads' HO833.out).2.1)
               (case side11 => exact cU ((Kd.V_reads' HO836.out).2.2))
               (case side12 => exact (Kd.V_reads' HO836.out).2.1)
               rintro e w99 ⟨rfl, hb⟩
               refine ⟨_, rfl, ?_⟩
               replace HO740 := rB HO740 hb
               replace HO743 := rB HO743 hb
               replace HO746 := rB HO746 hb
               replace HO751 := rB HO751 hb
               replace HO754 := rB HO754 hb
               replace HO757 := rB HO757 hb
               replace HO770 := rB HO770 hb
               replace HO773 := rB HO773 hb
               replace HO776 := rB HO776 hb
               replace HO793 := rB HO793 hb
               replace HO796 := rB HO796 hb
               replace HO799 := rB HO799 hb
               replace HO812 := aS (Kd.V_below (by exact vO HO812.out) hb)
               replace HO815 := aS (Kd.V_below (by exact vO HO815.out) hb)
               replace HO818 := aS (Kd.V_below (by exact vO HO818.out) hb)
               replace HO830 := aS (Kd.V_below (by exact vO HO830.out) hb)
               replace HO833 := aS (Kd.V_below (by exact vO HO833.out) hb)
               replace HO836 := aS (Kd.V_below (by exact vO HO836.out) hb)
               replace HO850 := rB HO850 hb
               replace HO853 := rB HO853 hb
               replace HO856 := rB HO856 hb
               replace HO869 := rB HO869 hb
               replace HO872 := rB HO872 hb
               replace HO875 := rB HO875 hb
               replace BK758 := bB BK758 hb
               replace BK777 := bB BK777 hb
               replace BK781 := bB BK781 hb
               replace BK800 := bB BK800 hb
               replace BK837 := bB BK837 hb
               replace BK838 := bB BK838 hb
               replace HB := aS (below_step (wS6 HB.out GE758.out GE777.out GE781.out GE800.out GE837.out GE838.out) hb)
               (try clear hb)
               (try clear hb2)
               (try clear hk)
               (try clear hi)
               refine hK.out _ _ (Pr.b12 BK777.out (Pr.b12 BK758.out (Pr.b12 BK800.out (Pr.b2 BK781.out (Pr.b12 BK837.out (Pr.c12 BK838.out)))))) (fun hHeld => ?_)
               clear hK K
               refine nA (some 70) ?_
               refine pA HT_ 25 (some 71) (tf 26 22) ?_
               refine pA HT_ 26 (some 72) (tf 27 21) ?_
               refine pA HT_ 27 (some 73) (tf 28 20) ?_
               refine tA HT_ HW_ hHeld 28 (some 74) (tf 29 19) ?_
               refine tA HT_ HW_ hHeld 30 (some 76) #[true, true, true, true, true, true, true, true, true, true, true, true, true, true, true, true, true, true, true, true, true, true, true, true, true, true, true, true, true, false, true, false, false, false, false, false, false, false, false, false, false, false, false, false, false, false, false, false] ?_
               refine one_ (i := 29) (N := some 75) (tf 31 17) rfl rfl (one_of HT_.out jK) (by decide) (fun K hK => ?_)
               refine goes_ Tryd.func38 jK rfl #[.agg #[.int .i64 t801, .bool t802, .bool t803, .bool t804, .bool t805, .bool t806, .int .i64 t807, .string t808, .int .i64 t809, .slice Ao75 t810.length co75, .slice Ao76 t813.length co76, .slice Ao77 t816.length co77]] (by rfl) rfl rfl jA ?_
               with_reducible refine (impl_MsgOk.calls k t801 t802 t803 t804 t805 t806 t807 t808 t809 _ _ t810 _ _ t813 _ _ t816 t879 _ ?side1 ?side2 ?side3 ?side4 ?side5 ?side6 A18.out).mono ?_
               (case side1 => exact cU ((Kd.V_reads' HO812.out).2.2))
               (case side2 => exact (Kd.V_reads' HO812.out).2.1)
               (case side3 => exact cU ((Kd.V_reads' HO815.out).2.2))
               (case side4 => exact (Kd.V_reads' HO815.out).2.1)
               (case side5 => exact cU ((Kd.V_reads' HO818.out).2.2))
               (case side6 => exact (Kd.V_reads' HO818.out).2.1)
               rintro e w100 ⟨rfl, hb⟩
               refine ⟨_, rfl, ?_⟩
               replace HO740 := rB HO740 hb
               replace HO743 := rB HO743 hb
               replace HO746 := rB HO746 hb
               replace HO751 := rB HO751 hb
               replace HO754 := rB HO754 hb
               replace HO757 := rB HO757 hb
               replace HO770 := rB HO770 hb
               replace HO773 := rB HO773 hb
               replace HO776 := rB HO776 hb
               replace HO793 := rB HO793 hb
               replace HO796 := rB HO796 hb
               replace HO799 := rB HO799 hb
               replace HO812 := aS (Kd.V_below (by exact vO HO812.out) hb)
               replace HO815 := aS (Kd.V_below (by exact vO HO815.out) hb)
               replace HO818 := aS (Kd.V_below (by exact vO HO818.out) hb)
               replace HO830 := aS (Kd.V_below (by exact vO HO830.out) hb)
               replace HO833 := aS (Kd.V_below (by exact vO HO833.out) hb)
               replace HO836 := aS (Kd.V_below (by exact vO HO836.out) hb)
               replace HO850 := rB HO850 hb
               replace HO853 := rB HO853 hb
               replace HO856 := rB HO856 hb
               replace HO869 := rB HO869 hb
               replace HO872 := rB HO872 hb
               replace HO875 := rB HO875 hb
               replace BK758 := bB BK758 hb
               replace BK777 := bB BK777 hb
               replace BK781 := bB BK781 hb
               replace BK800 := bB BK800 hb
               replace BK837 := bB BK837 hb
               replace BK838 := bB BK838 hb
               replace HB := aS (below_step (wS6 HB.out GE758.out GE777.out GE781.out GE800.out GE837.out GE838.out) hb)
               (try clear hb)
               (try clear hb2)
               (try clear hk)
               (try clear hi)
               refine hK.out _ _ (Pr.b12 BK777.out (Pr.b12 BK758.out (Pr.b12 BK800.out (Pr.b2 BK781.out (Pr.b12 BK837.out (Pr.c12 BK838.out)))))) (fun hHeld => ?_)
               clear hK K
               refine nA (some 75) ?_
               refine one_ (i := 31) (N := some 77) (tf 32 16) rfl rfl (one_of HT_.out jK) (by decide) (fun K hK => ?_)
               refine goes_ Tryd.func39 jK rfl #[.agg #[.int .i64 t801, .bool t802, .bool t803, .bool t804, .bool t805, .bool t806, .int .i64 t807, .string t808, .int .i64 t809, .slice Ao75 t810.length co75, .slice Ao76 t813.length co76, .slice Ao77 t816.length co77]] (by rfl) rfl rfl jA ?_
               with_reducible refine (spec_MsgOk.calls k t801 t802 t803 t804 t805 t806 t807 t808 t809 _ _ t810 _ _ t813 _ _ t816 t880 _ ?side1 ?side2 ?side3 ?side4 ?side5 ?side6 A19.out).mono ?_
               (case side1 => exact cU ((Kd.V_reads' HO812.out).2.2))
               (case side2 => exact (Kd.V_reads' HO812.out).2.1)
               (case side3 => exact cU ((Kd.V_reads' HO815.out).2.2))
               (case side4 => exact (Kd.V_reads' HO815.out).2.1)
               (case side5 => exact cU ((Kd.V_reads' HO818.out).2.2))
               (case side6 => exact (Kd.V_reads' HO818.out).2.1)
               rintro e w101 ⟨rfl, hb⟩
               refine ⟨_, rfl, ?_⟩
               replace HO740 := rB HO740 hb
               replace HO743 := rB HO743 hb
               replace HO746 := rB HO746 hb
               replace HO751 := rB HO751 hb
               replace HO754 := rB HO754 hb
               replace HO757 := rB HO757 hb
               replace HO770 := rB HO770 hb
               replace HO773 := rB HO773 hb
               replace HO776 := rB HO776 hb
               replace HO793 := rB HO793 hb
               replace HO796 := rB HO796 hb
               replace HO799 := rB HO799 hb
               replace HO812 := aS (Kd.V_below (by exact vO HO812.out) hb)
               replace HO815 := aS (Kd.V_below (by exact vO HO815.out) hb)
               replace HO818 := aS (Kd.V_below (by exact vO HO818.out) hb)
               replace HO830 := aS (Kd.V_below (by exact vO HO830.out) hb)
               replace HO833 := aS (Kd.V_below (by exact vO HO833.out) hb)
               replace HO836 := aS (Kd.V_below (by exact vO HO836.out) hb)
               replace HO850 := rB HO850 hb
               replace HO853 := rB HO853 hb
               replace HO856 := rB HO856 hb
               replace HO869 := rB HO869 hb
               replace HO872 := rB HO872 hb
               replace HO875 := rB HO875 hb
               replace BK758 := bB BK758 hb
               replace BK777 := bB BK777 hb
               replace BK781 := bB BK781 hb
               replace BK800 := bB BK800 hb
               replace BK837 := bB BK837 hb
               replace BK838 := bB BK838 hb
               replace HB := aS (below_step (wS6 HB.out GE758.out GE777.out GE781.out GE800.out GE837.out GE838.out) hb)
               (try clear hb)
               (try clear hb2)
               (try clear hk)
               (try clear hi)
               refine hK.out _ _ (Pr.b12 BK777.out (Pr.b12 BK758.out (Pr.b12 BK800.out (Pr.b2 BK781.out (Pr.b12 BK837.out (Pr.c12 BK838.out)))))) (fun hHeld => ?_)
               clear hK K
               refine nA (some 77) ?_
               refine pA HT_ 32 (some 78) (tf 33 15) ?_
               refine pA HT_ 33 (some 79) (tf 34 14) ?_
               refine pA HT_ 34 (some 80) (tf 35 13) ?_
               refine tA HT_ HW_ hHeld 35 (some 81) (tf 36 12) ?_
               refine tA HT_ HW_ hHeld 37 (some 83) #[true, true, true, true, true, true, true, true, true, true, true, true, true, true, true, true, true, true, true, true, true, true, true, true, true, true, true, true, true, true, true, true, true, true, true, true, false, true, false, false, false, false, false, false, false, false, false, false] ?_
               refine one_ (i := 36) (N := some 82) (tf 38 10) rfl rfl (one_of HT_.out jK) (by decide) (fun K hK => ?_)
               refine goes_ Tryd.func40 jK rfl #[.agg #[.int .i64 t801, .bool t802, .bool t803, .bool t804, .bool t805, .bool t806, .int .i64 t807, .string t808, .int .i64 t809, .slice Ao75 t810.length co75, .slice Ao76 t813.length co76, .slice Ao77 t816.length co77]] (by rfl) rfl rfl jA ?_
               with_reducible refine (impl_MsgText.calls k t801 t802 t803 t804 t805 t806 t807 t808 t809 (fun k_ => (k_ ≠ gb758 ∧ (k_ ≠ gb777 ∧ (k_ ≠ gb781 ∧ (k_ ≠ gb800 ∧ (k_ ≠ gb837 ∧ k_ ≠ gb838)))))) _ _ t810 (fun k_ => (k_ ≠ gb758 ∧ (k_ ≠ gb777 ∧ (k_ ≠ gb781 ∧ (k_ ≠ gb800 ∧ (k_ ≠ gb837 ∧ k_ ≠ gb838)))))) _ _ t813 (fun k_ => (k_ ≠ gb758 ∧ (k_ ≠ gb777 ∧ (k_ ≠ gb781 ∧ (k_ ≠ gb800 ∧ (k_ ≠ gb837 ∧ k_ ≠ gb838)))))) _ _ t816 t881 _ ?side1 ?side2 ?side3 A21.out).mono ?_
               (case side1 => exact HO812.out)
               (case side2 => exact HO815.out)
               (case side3 => exact HO818.out)
               rintro e w102 ⟨rfl, hb⟩
               refine ⟨_, rfl, ?_⟩
               replace HO740 := rB HO740 hb
               replace HO743 := rB HO743 hb
               replace HO746 := rB HO746 hb
               replace HO751 := rB HO751 hb
               replace HO754 := rB HO754 hb
               replace HO757 := rB HO757 hb
               replace HO770 := rB HO770 hb
               replace HO773 := rB HO773 hb
               replace HO776 := rB HO776 hb
               replace HO793 := rB HO793 hb
               replace HO796 := rB HO796 hb
               replace HO799 := rB HO799 hb
               replace HO812 := aS (Kd.V_below (by exact vO HO812.out) hb)
               replace HO815 := aS (Kd.V_below (by exact vO HO815.out) hb)
               replace HO818 := aS (Kd.V_below (by exact vO HO818.out) hb)
               replace HO830 := aS (Kd.V_below (by exact vO HO830.out) hb)
               replace HO833 := aS (Kd.V_below (by exact vO HO833.out) hb)
               replace HO836 := aS (Kd.V_below (by exact vO HO836.out) hb)
               replace HO850 := rB HO850 hb
               replace HO853 := rB HO853 hb
               replace HO856 := rB HO856 hb
               replace HO869 := rB HO869 hb
               replace HO872 := rB HO872 hb
               replace HO875 := rB HO875 hb
               replace BK758 := bB BK758 hb
               replace BK777 := bB BK777 hb
               replace BK781 := bB BK781 hb
               replace BK800 := bB BK800 hb
               replace BK837 := bB BK837 hb
               replace BK838 := bB BK838 hb
               replace HB := aS (below_step (wS6 HB.out GE758.out GE777.out GE781.out GE800.out GE837.out GE838.out) hb)
               (try clear hb)
               (try clear hb2)
               (try clear hk)
               (try clear hi)
               refine hK.out _ _ (Pr.b12 BK777.out (Pr.b12 BK758.out (Pr.b12 BK800.out (Pr.b2 BK781.out (Pr.b12 BK837.out (Pr.c12 BK838.out)))))) (fun hHeld => ?_)
               clear hK K
               refine nA (some 82) ?_
               refine one_ (i := 38) (N := some 84) (tf 39 9) rfl rfl (one_of HT_.out jK) (by decide) (fun K hK => ?_)
               refine goes_ Tryd.func41 jK rfl #[.agg #[.int .i64 t801, .bool t802, .bool t803, .bool t804, .bool t805, .bool t806, .int .i64 t807, .string t808, .int .i64 t809, .slice Ao75 t810.length co75, .slice Ao76 t813.length co76, .slice Ao77 t816.length co77]] (by rfl) rfl rfl jA ?_
               with_reducible refine (spec_MsgText.calls k t801 t802 t803 t804 t805 t806 t807 t808 t809 _ _ t810 _ _ t813 _ _ t816 t882 _ ?side1 ?side2 ?side3 ?side4 ?side5 ?side6 A22.out).mono ?_
               (case side1 => exact cU ((Kd.V_reads' HO812.out).2.2))
               (case side2 => exact (Kd.V_reads' HO812.out).2.1)
               (case side3 => exact cU ((Kd.V_reads' HO815.out).2.2))
               (case side4 => exact (Kd.V_reads' HO815.out).2.1)
               (case side5 => exact cU ((Kd.V_reads' HO818.out).2.2))
               (case side6 => exact (Kd.V_reads' HO818.out).2.1)
               rintro e w103 ⟨rfl, hb⟩
               refine ⟨_, rfl, ?_⟩
               replace HO740 := rB HO740 hb
               replace HO743 := rB HO743 hb
               replace HO746 := rB HO746 hb
               replace HO751 := rB HO751 hb
               replace HO754 := rB HO754 hb
               replace HO757 := rB HO757 hb
               replace HO770 := rB HO770 hb
               replace HO773 := rB HO773 hb
               replace HO776 := rB HO776 hb
               replace HO793 := rB HO793 hb
               replace HO796 := rB HO796 hb
               replace HO799 := rB HO799 hb
               replace HO812 := aS (Kd.V_below (by exact vO HO812.out) hb)
               replace HO815 := aS (Kd.V_below (by exact vO HO815.out) hb)
               replace HO818 := aS (Kd.V_below (by exact vO HO818.out) hb)
               replace HO830 := aS (Kd.V_below (by exact vO HO830.out) hb)
               replace HO833 := aS (Kd.V_below (by exact vO HO833.out) hb)
               replace HO836 := aS (Kd.V_below (by exact vO HO836.out) hb)
               replace HO850 := rB HO850 hb
               replace HO853 := rB HO853 hb
               replace HO856 := rB HO856 hb
               replace HO869 := rB HO869 hb
               replace HO872 := rB HO872 hb
               replace HO875 := rB HO875 hb
               replace BK758 := bB BK758 hb
               replace BK777 := bB BK777 hb
               replace BK781 := bB BK781 hb
               replace BK800 := bB BK800 hb
               replace BK837 := bB BK837 hb
               replace BK838 := bB BK838 hb
               replace HB := aS (below_step (wS6 HB.out GE758.out GE777.out GE781.out GE800.out GE837.out GE838.out) hb)
               (try clear hb)
               (try clear hb2)
               (try clear hk)
               (try clear hi)
               refine hK.out _ _ (Pr.b12 BK777.out (Pr.b12 BK758.out (Pr.b12 BK800.out (Pr.b2 BK781.out (Pr.b12 BK837.out (Pr.c12 BK838.out)))))) (fun hHeld => ?_)
               clear hK K
               refine nA (some 84) ?_
               refine pA HT_ 39 (some 85) (tf 40 8) ?_
               refine pA HT_ 40 (some 86) (tf 41 7) ?_
               refine pA HT_ 41 (some 87) (tf 42 6) ?_
               refine tA HT_ HW_ hHeld 42 (some 88) (tf 43 5) ?_
               refine tA HT_ HW_ hHeld 44 (some 90) #[true, true, true, true, true, true, true, true, true, true, true, true, true, true, true, true, true, true, true, true, true, true, true, true, true, true, true, true, true, true, true, true, true, true, true, true, true, true, true, true, true, true, true, false, true, false, false, false] ?_
               refine one_ (i := 43) (N := some 89) (tf 45 3) rfl rfl (one_of HT_.out jK) (by decide) (fun K hK => ?_)
               refine goes_ Tryd.func42 jK rfl #[.agg #[.int .i64 t801, .bool t802, .bool t803, .bool t804, .bool t805, .bool t806, .int .i64 t807, .string t808, .int .i64 t809, .slice Ao75 t810.length co75, .slice Ao76 t813.length co76, .slice Ao77 t816.length co77]] (by rfl) rfl rfl jA ?_
               with_reducible refine (impl_CountsOf.calls t801 t802 t803 t804 t805 t806 t807 t808 t809 _ _ t810 _ _ t813 _ _ t816 t883 _ ?side1 ?side2 ?side3 ?side4 ?side5 ?side6 A24.out).mono ?_
               (case side1 => exact cU ((Kd.V_reads' HO812.out).2.2))
               (case side2 => exact (Kd.V_reads' HO812.out).2.1)
               (case side3 => exact cU ((Kd.V_reads' HO815.out).2.2))
               (case side4 => exact (Kd.V_reads' HO815.out).2.1)
               (case side5 => exact cU ((Kd.V_reads' HO818.out).2.2))
               (case side6 => exact (Kd.V_reads' HO818.out).2.1)
               rintro e w104 ⟨rfl, hb⟩
               refine ⟨_, rfl, ?_⟩
               replace HO740 := rB HO740 hb
               replace HO743 := rB HO743 hb
               replace HO746 := rB HO746 hb
               replace HO751 := rB HO751 hb
               replace HO754 := rB HO754 hb
               replace HO757 := rB HO757 hb
               replace HO770 := rB HO770 hb
               replace HO773 := rB HO773 hb
               replace HO776 := rB HO776 hb
               replace HO793 := rB HO793 hb
               replace HO796 := rB HO796 hb
               replace HO799 := rB HO799 hb
               replace HO812 := aS (Kd.V_below (by exact vO HO812.out) hb)
               replace HO815 := aS (Kd.V_below (by exact vO HO815.out) hb)
               replace HO818 := aS (Kd.V_below (by exact vO HO818.out) hb)
               replace HO830 := aS (Kd.V_below (by exact vO HO830.out) hb)
               replace HO833 := aS (Kd.V_below (by exact vO HO833.out) hb)
               replace HO836 := aS (Kd.V_below (by exact vO HO836.out) hb)
               replace HO850 := rB HO850 hb
               replace HO853 := rB HO853 hb
               replace HO856 := rB HO856 hb
               replace HO869 := rB HO869 hb
               replace HO872 := rB HO872 hb
               replace HO875 := rB HO875 hb
               replace BK758 := bB BK758 hb
               replace BK777 := bB BK777 hb
               replace BK781 := bB BK781 hb
               replace BK800 := bB BK800 hb
               replace BK837 := bB BK837 hb
               replace BK838 := bB BK838 hb
               replace HB := aS (below_step (wS6 HB.out GE758.out GE777.out GE781.out GE800.out GE837.out GE838.out) hb)
               (try clear hb)
               (try clear hb2)
               (try clear hk)
               (try clear hi)
               refine hK.out _ _ (Pr.b12 BK777.out (Pr.b12 BK758.out (Pr.b12 BK800.out (Pr.b2 BK781.out (Pr.b12 BK837.out (Pr.c12 BK838.out)))))) (fun hHeld => ?_)
               clear hK K
               refine nA (some 89) ?_
               refine one_ (i := 45) (N := some 91) (tf 46 2) rfl rfl (one_of HT_.out jK) (by decide) (fun K hK => ?_)
               refine goes_ Tryd.func43 jK rfl #[.agg #[.int .i64 t801, .bool t802, .bool t803, .bool t804, .bool t805, .bool t806, .int .i64 t807, .string t808, .int .i64 t809, .slice Ao75 t810.length co75, .slice Ao76 t813.length co76, .slice Ao77 t816.length co77]] (by rfl) rfl rfl jA ?_
               with_reducible refine (spec_CountsOf.calls t801 t802 t803 t804 t805 t806 t807 t808 t809 _ _ t810 _ _ t813 _ _ t816 t884 _ ?side1 ?side2 ?side3 ?side4 ?side5 ?side6 A25.out).mono ?_
               (case side1 => exact cU ((Kd.V_reads' HO812.out).2.2))
               (case side2 => exact (Kd.V_reads' HO812.out).2.1)
               (case side3 => exact cU ((Kd.V_reads' HO815.out).2.2))
               (case side4 => exact (Kd.V_reads' HO815.out).2.1)
               (case side5 => exact cU ((Kd.V_reads' HO818.out).2.2))
               (case side6 => exact (Kd.V_reads' HO818.out).2.1)
               rintro e w105 ⟨rfl, hb⟩
               refine ⟨_, rfl, ?_⟩
               replace HO740 := rB HO740 hb
               replace HO743 := rB HO743 hb
               replace HO746 := rB HO746 hb
               replace HO751 := rB HO751 hb
               replace HO754 := rB HO754 hb
               replace HO757 := rB HO757 hb
               replace HO770 := rB HO770 hb
               replace HO773 := rB HO773 hb
               replace HO776 := rB HO776 hb
               replace HO793 := rB HO793 hb
               replace HO796 := rB HO796 hb
               replace HO799 := rB HO799 hb
               replace HO812 := aS (Kd.V_below (by exact vO HO812.out) hb)
               replace HO815 := aS (Kd.V_below (by exact vO HO815.out) hb)
               replace HO818 := aS (Kd.V_below (by exact vO HO818.out) hb)
               replace HO830 := aS (Kd.V_below (by exact vO HO830.out) hb)
               replace HO833 := aS (Kd.V_below (by exact vO HO833.out) hb)
               replace HO836 := aS (Kd.V_below (by exact vO HO836.out) hb)
               replace HO850 := rB HO850 hb
               replace HO853 := rB HO853 hb
               replace HO856 := rB HO856 hb
               replace HO869 := rB HO869 hb
               replace HO872 := rB HO872 hb
               replace HO875 := rB HO875 hb
               replace BK758 := bB BK758 hb
               replace BK777 := bB BK777 hb
               replace BK781 := bB BK781 hb
               replace BK800 := bB BK800 hb
               replace BK837 := bB BK837 hb
               replace BK838 := bB BK838 hb
               replace HB := aS (below_step (wS6 HB.out GE758.out GE777.out GE781.out GE800.out GE837.out GE838.out) hb)
               (try clear hb)
               (try clear hb2)
               (try clear hk)
               (try clear hi)
               refine hK.out _ _ (Pr.b12 BK777.out (Pr.b12 BK758.out (Pr.b12 BK800.out (Pr.b2 BK781.out (Pr.b12 BK837.out (Pr.c12 BK838.out)))))) (fun hHeld => ?_)
               clear hK K
               refine nA (some 91) ?_
               refine pA HT_ 46 (some 92) (tf 47 1) ?_
               refine pA HT_ 47 (some 93) (tf 48 0) ?_
               refine done_ (done_of HT_.out jK) ?_
               have hcz106 := cells12f BK777.out
               have hcz107 := cells12f BK758.out
               try go_wp2_with (first | (go_at_call 42; (with_reducible refine (impl_CountsOf.calls t759 true t761 t762 t763 t764 t765 t766 t767 _ _ t768 _ _ t771 _ _ t774 t885 _ ?side1 ?side2 ?side3 ?side4 ?side5 ?side6 A31.out).mono ?_); (case side1 => exact cU ((Kd.R_reads' HO770.out).2.2)); (case side2 => exact (Kd.R_reads' HO770.out).2.1); (case side3 => exact cU ((Kd.R_reads' HO773.out).2.2)); (case side4 => exact (Kd.R_reads' HO773.out).2.1); (case side5 => exact cU ((Kd.R_reads' HO776.out).2.2)); (case side6 => exact (Kd.R_reads' HO776.out).2.1); rintro e w108 ⟨rfl, hb⟩; replace HO751 := rB HO751 hb; replace HO754 := rB HO754 hb; replace HO757 := rB HO757 hb; replace HO770 := rB HO770 hb; replace HO773 := rB HO773 hb; replace HO776 := rB HO776 hb; replace HO793 := rB HO793 hb; replace HO796 := rB HO796 hb; replace HO799 := rB HO799 hb; replace BK758 := bB BK758 hb; replace BK777 := bB BK777 hb; replace BK781 := bB BK781 hb; replace BK800 := bB BK800 hb; replace BK837 := bB BK837 hb; replace BK838 := bB BK838 hb; replace HB := aS (below_step (wS6 HB.out GE758.out GE777.out GE781.out GE800.out GE837.out GE838.out) hb); clear hb; have hcz109 := cells12f BK800.out; have hcz110 := cells2f BK781.out) | (go_at_call 42; (with_reducible refine (impl_CountsOf.calls t782 false t784 t785 t786 t787 t788 t789 t790 _ _ t791 _ _ t794 _ _ t797 t886 _ ?side1 ?side2 ?side3 ?side4 ?side5 ?side6 A35.out).mono ?_); (case side1 => exact cU ((Kd.R_reads' HO793.out).2.2)); (case side2 => exact (Kd.R_reads' HO793.out).2.1); (case side3 => exact cU ((Kd.R_reads' HO796.out).2.2)); (case side4 => exact (Kd.R_reads' HO796.out).2.1); (case side5 => exact cU ((Kd.R_reads' HO799.out).2.2)); (case side6 => exact (Kd.R_reads' HO799.out).2.1); rintro e w111 ⟨rfl, hb⟩; replace HO793 := rB HO793 hb; replace HO796 := rB HO796 hb; replace HO799 := rB HO799 hb; replace BK758 := bB BK758 hb; replace BK777 := bB BK777 hb; replace BK781 := bB BK781 hb; replace BK800 := bB BK800 hb; replace BK837 := bB BK837 hb; replace BK838 := bB BK838 hb; replace HB := aS (below_step (wS6 HB.out GE758.out GE777.out GE781.out GE800.out GE837.out GE838.out) hb); clear hb))
               go_ret
               exact ⟨by first | rfl | (simp [errW_none, errW_some] <;> rfl) | (simp [*, errW_none, errW_some] <;> rfl) | (simp [X.bne_nil, X.beq_nil]; done) | (exfalso; simp_all; done) | ((have ai_ : ∀ p : Prop, Aside0 p ↔ p := fun p => ⟨fun h => h.out, fun h => ⟨h⟩⟩); simp_all [ai_]; done), by exact wS6 HB.out GE758.out GE777.out GE781.out GE800.out GE837.out GE838.out⟩
              ·rw [if_neg c34] at H
               have c34b0 : (t789.toList == t779.toList && (t790 == t780)) = false := by simpa using c34
               (try (have c34b1 : decide (t789.toList = t779.toList && (t790 == t780)) = false := by simpa using c34))
               (try (have c34b2 : (t789.toList == t779.toList && (t790 == t780)) = false := by simpa using c34))
               (try (have c34b3 : ¬ (t789.toList = t779.toList && (t790 == t780)) := by simpa using c34))
               clear c34
               exact absurd (H.trans (congrArg some hrt_)) (by simp)
            ·rw [if_neg c32] at H
             have c32b0 := beq_eq_false_iff_ne.mpr c32
             have c32b1 := bne_iff_ne.mpr c32
             exact absurd (H.trans (congrArg some hrt_)) (by simp)
           ·rw [if_neg c30] at H
            have c30b0 : (t763 == t733) = false := by simpa using c30
            (try (have c30b1 : decide (t763 = t733) = false := by simpa using c30))
            (try (have c30b2 : (t763 == t733) = false := by simpa using c30))
            (try (have c30b3 : ¬ (t763 = t733) := by simpa using c30))
            clear c30
            exact absurd (H.trans (congrArg some hrt_)) (by simp)
          ·rw [if_neg c29] at H
           have c29b0 : (t766.toList == t736.toList && (t767 == t737)) = false := by simpa using c29
           (try (have c29b1 : decide (t766.toList = t736.toList && (t767 == t737)) = false := by simpa using c29))
           (try (have c29b2 : (t766.toList == t736.toList && (t767 == t737)) = false := by simpa using c29))
           (try (have c29b3 : ¬ (t766.toList = t736.toList && (t767 == t737)) := by simpa using c29))
           clear c29
           exact absurd (H.trans (congrArg some hrt_)) (by simp)
         ·rw [if_neg c28] at H
          have c28b0 := beq_eq_false_iff_ne.mpr c28
          have c28b1 := bne_iff_ne.mpr c28
          exact absurd (H.trans (congrArg some hrt_)) (by simp)
        ·replace c27 := Bool.eq_false_iff.mpr c27
         subst c27
         rw [if_neg Bool.false_ne_true] at H
         exact absurd (H.trans (congrArg some hrt_)) (by simp)
       ·rw [if_neg c26] at H
        have c26b0 := beq_eq_false_iff_ne.mpr c26
        have c26b1 := bne_iff_ne.mpr c26
        exact absurd (H.trans (congrArg some hrt_)) (by simp)
      ·rw [if_neg c23] at H
       have c23b0 := beq_eq_false_iff_ne.mpr c23
       have c23b1 := bne_iff_ne.mpr c23
       exact absurd (H.trans (congrArg some hrt_)) (by simp)
   ·replace c14 := Bool.eq_false_iff.mpr c14
    subst c14
    rw [if_neg Bool.false_ne_true] at H
    exact absurd (H.trans (congrArg some hrt_)) (by simp)
  ·replace c11 := Bool.eq_false_iff.mpr c11
   subst c11
   rw [if_neg Bool.false_ne_true] at H
   exact absurd (H.trans (congrArg some hrt_)) (by simp)

/-- The one pure statement of laws_FnMsgs. -/
def laws_FnMsgs.Pure : Prop := ∀ (l0 : List Int), (l0.length ≤ maxLen ∧ l0.length * 1 ≤ 140737488351232 ∧ ∀ y_ ∈ l0, (Lit.int .u8 y_).wf = true) → ∃ k, laws_FnMsgs.f k l0 = some true

end Go.Proofs.YtdigilidomimdaaDoor.Pr
