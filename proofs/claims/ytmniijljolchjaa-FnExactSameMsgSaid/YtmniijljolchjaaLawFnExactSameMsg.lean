-- Written for this claim by a program of this session (wip/tool/pr.py, over the kit's printer).
import Derived.Test.YtmniijljolchjaaRows
import Derived.Test.YtmniijljolchjaaPrx9
import Derived.Test.YtmniijljolchjaaPureFnExactSameMsg
import Derived.WalkKit
import Derived.ProofKit
import Derived.OpenShut
import Derived.ShutString
import Derived.ChangeOld
import Derived.Below
import Derived.SizedLaws
import Derived.Test.YtmniijljolchjaaWSized
namespace Go.Proofs.Ytmniijljolchjaa.fnExactSameMsg
open Go.ChangeShapes Go.WideShapes Go.ChangeAt Go.RowKit Go.Proofs.YtmniijljolchjaaW.PrintWords
open Go.ChangeMaps (open_string shut_string)
set_option linter.unusedVariables false
theorem own : ownKnob Try.prog.godebug = none := by kernel_rfl
theorem laidOut : laidOutB Try.prog = true := by kernel_rfl
set_option maxRecDepth 100000 in
theorem lifted (os : Os) (started : os.Started) (H : Type) (enc : TypeId × Value → H) :
    ReturnsInHanded {} Try.checked os 11 .any (Rows.fnExactSameMsgSpec.pre6 enc Try.prog Try.f11 Rows.fnExactSameMsgRow.domain false) (Rows.fnExactSameMsgSpec.post enc Try.prog Try.f11 false true false false) := by
  refine returnsInHanded_of_change_sized (C := Try.checked) own started (by kernel_rfl) Try.func11
    (ChangeSpec.witness6 (enc := enc) (C := Try.checked) false ⟨#[], #[.agg #[.int .i64 0, .bool false, .bool false, .bool false, .bool false, .bool false, .int .i64 0, .string ByteArray.empty, .int .i64 0, .slice none 0 0, .slice none 0 0, .slice none 0 0], .agg #[.int .i64 0, .bool false, .bool false, .bool false, .bool false, .bool false, .int .i64 0, .string ByteArray.empty, .int .i64 0, .slice none 0 0, .slice none 0 0, .slice none 0 0]], []⟩ 8 (by kernel_rfl) (by kernel_rfl) (by kernel_rfl) (by kernel_rfl)) ?_
  intro W base args ds gs before hval0 hW hcnd hsz0 _
  have hsz : (DataW.weightsEach Try.prog (Try.f11.params.toList ++ Rows.fnExactSameMsgSpec.plain.varTypes Try.prog) (ds ++ gs)).all (· ≤ reachBytes) = true := hsz0
  have hval : ∀ (j : Nat) t v, Try.f11.params[j]? = some t → args[j]? = some v → Value.okWide Try.prog W .any base t v := hval0
  have hW' := hW
  obtain ⟨p, q, hA0, hV, rfl, hfz, hnd⟩ := hW
  have hA : DataW.TrodAll enc Try.prog W 0 (fun _ => true) true Try.f11.params.toList args.toList ds p := hA0
  rw [Try.params11] at hA hval hsz
  obtain ⟨v0, vs0, d0, ds0, p0, q0, hargs, rfl, rfl, h0, r0⟩ := trodAll_cons hA
  obtain ⟨v1, vs1, d1, ds1, p1, q1, rfl, rfl, rfl, h1, r1⟩ := trodAll_cons r0
  obtain ⟨rfl, rfl, rfl⟩ := trodAll_nil r1
  obtain rfl : args = #[v0, v1] := by cases args; simp_all
  obtain ⟨rfl, rfl⟩ := trodVars_none hV
  have k0 := h0
  have lt0 : ∀ x ∈ p0, x.block < W.heap.size := by obtain ⟨m, hm⟩ := k0; exact DataW.trod_lt m _ _ _ hm
  obtain ⟨cs0, rfl, _⟩ := okWide_struct Try.underlying56 (hval 0 56 v0 rfl rfl)
  obtain ⟨y0, K0, g0⟩ := O.opens_arg Pr.op56 h0 (O.weightsEach_at hsz 0 56 d0 rfl rfl)
  have e0 := Pr.k56_open K0
  obtain ⟨A0_9, c0_9, A0_10, c0_10, A0_11, c0_11, e0, hc0_9, hr0_9, hc0_10, hr0_10, hc0_11, hr0_11⟩ := e0
  obtain ⟨cs0⟩ := cs0
  have e0 : cs0 = _ := e0
  subst e0
  have k1 := h1
  have lt1 : ∀ x ∈ p1, x.block < W.heap.size := by obtain ⟨m, hm⟩ := k1; exact DataW.trod_lt m _ _ _ hm
  obtain ⟨cs1, rfl, _⟩ := okWide_struct Try.underlying56 (hval 1 56 v1 rfl rfl)
  obtain ⟨y1, K1, g1⟩ := O.opens_arg Pr.op56 h1 (O.weightsEach_at hsz 1 56 d1 rfl rfl)
  have e1 := Pr.k56_open K1
  obtain ⟨A1_9, c1_9, A1_10, c1_10, A1_11, c1_11, e1, hc1_9, hr1_9, hc1_10, hr1_10, hc1_11, hr1_11⟩ := e1
  obtain ⟨cs1⟩ := cs1
  have e1 : cs1 = _ := e1
  subst e1
  clear hA0 hval0 hsz0 hsz
  obtain ⟨k_, hk_⟩ := Pure.FnExactSameMsg y0.f0 y0.f1 y0.f2 y0.f3 y0.f4 y0.f5 y0.f6 y0.f7.f0 y0.f7.f1 y0.f8 y0.f9 y0.f10 y1.f0 y1.f1 y1.f2 y1.f3 y1.f4 y1.f5 y1.f6 y1.f7.f0 y1.f7.f1 y1.f8 y1.f9 y1.f10 g0 g1
  refine (Pr.laws_FnExactSameMsg.calls k_ y0.f0 y0.f1 y0.f2 y0.f3 y0.f4 y0.f5 y0.f6 y0.f7.f0 y0.f7.f1 _ _ y0.f8 _ _ y0.f9 _ _ y0.f10 y1.f0 y1.f1 y1.f2 y1.f3 y1.f4 y1.f5 y1.f6 y1.f7.f0 y1.f7.f1 _ _ y1.f8 _ _ y1.f9 _ _ y1.f10 true W hr0_9 hc0_9 hr0_10 hc0_10 hr0_11 hc0_11 hr1_9 hc1_9 hr1_10 hc1_10 hr1_11 hc1_11 rfl hk_).mono fun e W' ⟨he, bel0⟩ => ?_
  have bel := bel0
  subst he
  exact ⟨_, rfl, _, _, _, [], _, [], hW', trodAll_mk1 (shut_bool Try.underlying4 _), (trodAll_cons_mk (Below.trod laidOut (by kernel_rfl) (of_decide_eq_true (by kernel_rfl)) k0 bel lt0) (trodAll_cons_mk (Below.trod laidOut (by kernel_rfl) (of_decide_eq_true (by kernel_rfl)) k1 bel lt1) trodAll_mk0)), rfl, bel.frame _, fun h => by cases h⟩
theorem over : Rows.fnExactSameMsgRow.holds Try.pinned (OpenSpec.ofChange Rows.fnExactSameMsgSpec) :=
  OpenClaim.holds_of_wide 11 Try.f11 rfl rfl rfl rfl rfl rfl rfl ⟨rfl, rfl, rfl, rfl, rfl⟩ rfl rfl rfl rfl rfl (by kernel_rfl) Try.func11 (by kernel_rfl)
    (of_decide_eq_true (by kernel_rfl)) (by unfold Func.isWrapper; first | (rw [if_pos (by decide +kernel)]; kernel_rfl) | (rw [if_neg (by decide +kernel)]; exact ⟨rfl, rfl⟩))
    (fun os started H enc _ => lifted os started H enc)
theorem proved : Rows.FnExactSameMsgSaid := over
#print axioms proved
end Go.Proofs.Ytmniijljolchjaa.fnExactSameMsg
namespace Go.Proofs.Ytmniijljolchjaa
/-- The row, under a short name, for the claim. -/
theorem fnExactSameMsg_holds : Rows.FnExactSameMsgSaid := fnExactSameMsg.proved
end Go.Proofs.Ytmniijljolchjaa
