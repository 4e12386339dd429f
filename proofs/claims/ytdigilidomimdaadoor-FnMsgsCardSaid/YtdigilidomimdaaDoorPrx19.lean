-- Written for this claim by a program of this session (wip/tool/pr.py, over the kit's printer).
-- half
import Derived.Test.YtdigilidomimdaaDoorPrx0
import Derived.Test.YtdigilidomimdaaDoorPrx12
import Derived.Test.YtdigilidomimdaaDoorPrx16
import Derived.Test.YtdigilidomimdaaDoorPrx18
namespace Go.Proofs.YtdigilidomimdaaDoor.Pr
open Go.RowKit Go.Proofs.YtdigilidomimdaaDoorW.PrintWords Go.Proofs.YtdigilidomimdaaDoorW.PrintLast Go.Proofs.YtdigilidomimdaaDoorW.PrintMore
attribute [local go_sem] max2_int min2_int max_two min_two max_three min_three max_four min_four   -- for this text's walks alone
set_option linter.unusedVariables false
set_option linter.unusedSimpArgs false

/-! ### spec_MsgText: function 41 -/
mutual
def spec_MsgText.j0 : Nat → ByteArray → Int → Bool → Bool → Bool → Bool → Bool → Int → ByteArray → Int → List (S25) → List (S25) → List (S25) → Option (ByteArray)
 | 0, _, _, _, _, _, _, _, _, _, _, _, _, _ => none
 | k + 1, x3, x715000, x715001, x715002, x715003, x715004, x715005, x715006, x715007, x715008, x715009, x715010, x715011 => (spec_NumText.f k x715000).bind fun t716 => (if x3.size + t716.size ≤ 9223372036854775807 then (if (x3 ++ t716).size + 1 ≤ 9223372036854775807 then ((spec_NumText.f k x715006).bind fun t717 => (if ((x3 ++ t716) ++ (⟨#[32]⟩ : ByteArray)).size + t717.size ≤ 9223372036854775807 then (if (((x3 ++ t716) ++ (⟨#[32]⟩ : ByteArray)) ++ t717).size + 1 ≤ 9223372036854775807 then ((spec_l5Dot.f x715007).bind fun t718 => (if ((((x3 ++ t716) ++ (⟨#[32]⟩ : ByteArray)) ++ t717) ++ (⟨#[32]⟩ : ByteArray)).size + t718.size ≤ 9223372036854775807 then (if (((((x3 ++ t716) ++ (⟨#[32]⟩ : ByteArray)) ++ t717) ++ (⟨#[32]⟩ : ByteArray)) ++ t718).size + 1 ≤ 9223372036854775807 then ((spec_TypeText.f x715008).bind fun t719 => (if ((((((x3 ++ t716) ++ (⟨#[32]⟩ : ByteArray)) ++ t717) ++ (⟨#[32]⟩ : ByteArray)) ++ t718) ++ (⟨#[32]⟩ : ByteArray)).size + t719.size ≤ 9223372036854775807 then (if x715002 = true then (if (((((((x3 ++ t716) ++ (⟨#[32]⟩ : ByteArray)) ++ t717) ++ (⟨#[32]⟩ : ByteArray)) ++ t718) ++ (⟨#[32]⟩ : ByteArray)) ++ t719).size + 5 ≤ 9223372036854775807 then (spec_MsgText.j1 k ((((((((x3 ++ t716) ++ (⟨#[32]⟩ : ByteArray)) ++ t717) ++ (⟨#[32]⟩ : ByteArray)) ++ t718) ++ (⟨#[32]⟩ : ByteArray)) ++ t719) ++ (⟨#[32, 97, 117, 116, 104]⟩ : ByteArray)) x715000 x715001 x715002 x715003 x715004 x715005 x715006 x715007 x715008 x715009 x715010 x715011) else (none)) else (spec_MsgText.j1 k (((((((x3 ++ t716) ++ (⟨#[32]⟩ : ByteArray)) ++ t717) ++ (⟨#[32]⟩ : ByteArray)) ++ t718) ++ (⟨#[32]⟩ : ByteArray)) ++ t719) x715000 x715001 x715002 x715003 x715004 x715005 x715006 x715007 x715008 x715009 x715010 x715011)) else (none))) else (none)) else (none))) else (none)) else (none))) else (none)) else (none))
def spec_MsgText.j1 : Nat → ByteArray → Int → Bool → Bool → Bool → Bool → Bool → Int → ByteArray → Int → List (S25) → List (S25) → List (S25) → Option (ByteArray)
 | 0, _, _, _, _, _, _, _, _, _, _, _, _, _ => none
 | k + 1, x3, x715000, x715001, x715002, x715003, x715004, x715005, x715006, x715007, x715008, x715009, x715010, x715011 => if x715003 = true then (if x3.size + 4 ≤ 9223372036854775807 then ((spec_l7Texts.f k x715009).bind fun t720 => (if (x3 ++ (⟨#[32, 99, 117, 116]⟩ : ByteArray)).size + t720.size ≤ 9223372036854775807 then ((spec_l7Texts.f k x715010).bind fun t721 => (if ((x3 ++ (⟨#[32, 99, 117, 116]⟩ : ByteArray)) ++ t720).size + t721.size ≤ 9223372036854775807 then ((spec_l7Texts.f k x715011).bind fun t722 => (if (((x3 ++ (⟨#[32, 99, 117, 116]⟩ : ByteArray)) ++ t720) ++ t721).size + t722.size ≤ 9223372036854775807 then (some ((((x3 ++ (⟨#[32, 99, 117, 116]⟩ : ByteArray)) ++ t720) ++ t721) ++ t722)) else (none))) else (none))) else (none))) else (none)) else ((spec_l7Texts.f k x715009).bind fun t723 => (if x3.size + t723.size ≤ 9223372036854775807 then ((spec_l7Texts.f k x715010).bind fun t724 => (if (x3 ++ t723).size + t724.size ≤ 9223372036854775807 then ((spec_l7Texts.f k x715011).bind fun t725 => (if ((x3 ++ t723) ++ t724).size + t725.size ≤ 9223372036854775807 then (some (((x3 ++ t723) ++ t724) ++ t725)) else (none))) else (none))) else (none)))
end
def spec_MsgText.f (k : Nat) (a0_0 : Int) (a0_1 : Bool) (a0_2 : Bool) (a0_3 : Bool) (a0_4 : Bool) (a0_5 : Bool) (a0_6 : Int) (a0_7 : ByteArray) (a0_8 : Int) (l0_9 : List (S25)) (l0_10 : List (S25)) (l0_11 : List (S25)) : Option (ByteArray) := (spec_MsgOk.f k a0_0 a0_1 a0_2 a0_3 a0_4 a0_5 a0_6 a0_7 a0_8 l0_9 l0_10 l0_11).bind fun t715 => (if t715 = true then (if a0_1 = true then (spec_MsgText.j0 k (⟨#[114, 101, 112, 108, 121, 32]⟩ : ByteArray) a0_0 a0_1 a0_2 a0_3 a0_4 a0_5 a0_6 a0_7 a0_8 l0_9 l0_10 l0_11) else (spec_MsgText.j0 k (⟨#[97, 115, 107, 32]⟩ : ByteArray) a0_0 a0_1 a0_2 a0_3 a0_4 a0_5 a0_6 a0_7 a0_8 l0_9 l0_10 l0_11)) else (some (⟨#[]⟩ : ByteArray)))
theorem spec_MsgText.mono_l : ∀ k, (∀ y0 y1 y2 y3 y4 y5 y6 y7 y8 y9 y10 y11 y12, LeO (spec_MsgText.j0 k y0 y1 y2 y3 y4 y5 y6 y7 y8 y9 y10 y11 y12) (spec_MsgText.j0 (k + 1) y0 y1 y2 y3 y4 y5 y6 y7 y8 y9 y10 y11 y12)) ∧ (∀ y0 y1 y2 y3 y4 y5 y6 y7 y8 y9 y10 y11 y12, LeO (spec_MsgText.j1 k y0 y1 y2 y3 y4 y5 y6 y7 y8 y9 y10 y11 y12) (spec_MsgText.j1 (k + 1) y0 y1 y2 y3 y4 y5 y6 y7 y8 y9 y10 y11 y12))
 | 0 => ⟨fun _ _ _ _ _ _ _ _ _ _ _ _ _ r h => by simp [spec_MsgText.j0] at h, fun _ _ _ _ _ _ _ _ _ _ _ _ _ r h => by simp [spec_MsgText.j1] at h⟩
 | k + 1 => by
  obtain ⟨ih0, ih1⟩ := spec_MsgText.mono_l k
  refine ⟨?_, ?_⟩
  ·intro y0 y1 y2 y3 y4 y5 y6 y7 y8 y9 y10 y11 y12
   unfold spec_MsgText.j0
   repeat' first
   | (with_reducible first | exact ih0 _ _ _ _ _ _ _ _ _ _ _ _ _ | exact ih1 _ _ _ _ _ _ _ _ _ _ _ _ _ | exact spec_MsgOk.mono _ _ _ _ _ _ _ _ _ _ _ _ _ | exact spec_NumText.mono _ _ | exact spec_l7Texts.mono _ _ | exact LeO.refl _ | exact LeO.none _ | refine LeO.ite ?_ ?_ | refine LeO.bind ?_ (fun _ => ?_))
   | refine LeO.ite ?_ ?_
   | refine LeO.bind ?_ (fun _ => ?_)
  ·intro y0 y1 y2 y3 y4 y5 y6 y7 y8 y9 y10 y11 y12
   unfold spec_MsgText.j1
   repeat' first
   | (with_reducible first | exact ih0 _ _ _ _ _ _ _ _ _ _ _ _ _ | exact ih1 _ _ _ _ _ _ _ _ _ _ _ _ _ | exact spec_MsgOk.mono _ _ _ _ _ _ _ _ _ _ _ _ _ | exact spec_NumText.mono _ _ | exact spec_l7Texts.mono _ _ | exact LeO.refl _ | exact LeO.none _ | refine LeO.ite ?_ ?_ | refine LeO.bind ?_ (fun _ => ?_))
   | refine LeO.ite ?_ ?_
   | refine LeO.bind ?_ (fun _ => ?_)
theorem spec_MsgText.mono : ∀ a0 a1 a2 a3 a4 a5 a6 a7 a8 a9 a10 a11 k, LeO (spec_MsgText.f k a0 a1 a2 a3 a4 a5 a6 a7 a8 a9 a10 a11) (spec_MsgText.f (k + 1) a0 a1 a2 a3 a4 a5 a6 a7 a8 a9 a10 a11) := by
 intro a0 a1 a2 a3 a4 a5 a6 a7 a8 a9 a10 a11 k
 obtain ⟨ih0, ih1⟩ := spec_MsgText.mono_l k
 unfold spec_MsgText.f
 repeat' first
   | (with_reducible first | exact ih0 _ _ _ _ _ _ _ _ _ _ _ _ _ | exact ih1 _ _ _ _ _ _ _ _ _ _ _ _ _ | exact spec_MsgOk.mono _ _ _ _ _ _ _ _ _ _ _ _ _ | exact spec_NumText.mono _ _ | exact spec_l7Texts.mono _ _ | exact LeO.refl _ | exact LeO.none _ | refine LeO.ite ?_ ?_ | refine LeO.bind ?_ (fun _ => ?_))
   | refine LeO.ite ?_ ?_
   | refine LeO.bind ?_ (fun _ => ?_)
def spec_MsgText.T6 : Bool × List (List Nat × List Nat) := (true, [([], []), ([], []), ([1], [1]), ([2], [2]), ([0, 3], [0, 3]), ([4], [4]), ([], []), ([6], [6]), ([7, 3], [7]), ([5, 8], [5, 8]), ([9], [9]), ([], []), ([11], [11]), ([12], [12]), ([13, 8], [13]), ([10, 14], [10, 14]), ([15], [15]), ([], []), ([17], [17]), ([18], [18]), ([19, 14], [19]), ([16, 20], [16, 20]), ([21, 20, 0, 1, 2, 3, 4, 5, 6, 7, 8, 9, 10, 11, 12, 13, 14, 15, 16, 17, 18, 19, 20, 21], [0, 21])])
def spec_MsgText.B6 : List Nat := [0, 0, 2, 6, 15, 31, 0, 64, 206, 511, 1023, 0, 2048, 6144, 14798, 32767, 65535, 0, 131072, 393216, 948686, 2097151, 4194303]
theorem spec_MsgText.tab6 : rtab .any (opsOf Tryd.f41 6) = spec_MsgText.T6 := by kernel_rfl
theorem spec_MsgText.bits6 : waitsOk spec_MsgText.T6.2 spec_MsgText.B6 = true := by kernel_rfl
def spec_MsgText.T11 : Bool × List (List Nat × List Nat) := (true, [([], []), ([], []), ([1], [1]), ([2], [2]), ([0, 3], [0, 3]), ([], []), ([5], [5]), ([6, 3], [6]), ([4, 7], [4, 7]), ([], []), ([9], [9]), ([10, 7], [10]), ([8, 11], [8, 11]), ([12, 11, 0, 1, 2, 3, 4, 5, 6, 7, 8, 9, 10, 11, 12], [12])])
def spec_MsgText.B11 : List Nat := [0, 0, 2, 6, 15, 0, 32, 110, 255, 0, 512, 1774, 4095, 8191]
theorem spec_MsgText.tab11 : rtab .any (opsOf Tryd.f41 11) = spec_MsgText.T11 := by kernel_rfl
theorem spec_MsgText.bits11 : waitsOk spec_MsgText.T11.2 spec_MsgText.B11 = true := by kernel_rfl
set_option maxHeartbeats 8000000 in
set_option maxRecDepth 100000 in
theorem spec_MsgText.calls (k : Nat) (a0_0 : Int) (a0_1 : Bool) (a0_2 : Bool) (a0_3 : Bool) (a0_4 : Bool) (a0_5 : Bool) (a0_6 : Int) (a0_7 : ByteArray) (a0_8 : Int) (A0_9 : Option Addr) (c0_9 : Nat) (l0_9 : List (S25)) (A0_10 : Option Addr) (c0_10 : Nat) (l0_10 : List (S25)) (A0_11 : Option Addr) (c0_11 : Nat) (l0_11 : List (S25)) (r : ByteArray) (w : World) (hr0_9 : Kd.C k25 w A0_9 l0_9.length l0_9) (hc0_9 : l0_9.length ≤ c0_9) (hr0_10 : Kd.C k25 w A0_10 l0_10.length l0_10) (hc0_10 : l0_10.length ≤ c0_10) (hr0_11 : Kd.C k25 w A0_11 l0_11.length l0_11) (hc0_11 : l0_11.length ≤ c0_11) (h : spec_MsgText.f k a0_0 a0_1 a0_2 a0_3 a0_4 a0_5 a0_6 a0_7 a0_8 l0_9 l0_10 l0_11 = some r) :
  Calls Tryd.prog 41 #[.agg #[.int .i64 a0_0, .bool a0_1, .bool a0_2, .bool a0_3, .bool a0_4, .bool a0_5, .int .i64 a0_6, .string a0_7, .int .i64 a0_8, .slice A0_9 l0_9.length c0_9, .slice A0_10 l0_10.length c0_10, .slice A0_11 l0_11.length c0_11]] w fun e w' => e = .returned (.string r) ∧ Below w.heap.size w w' := by
 have hu52 := Tryd.underlying52
 have HR0_9 := aS hr0_9
 have HC0_9 := aS hc0_9
 clear hr0_9 hc0_9
 have HR0_10 := aS hr0_10
 have HC0_10 := aS hc0_10
 clear hr0_10 hc0_10
 have HR0_11 := aS hr0_11
 have HC0_11 := aS hc0_11
 clear hr0_11 hc0_11
 have HB := aS (Below.refl w.heap.size w)
 have H := h
 unfold spec_MsgText.f at H
 clear h
 obtain ⟨t715, A2, H⟩ := bM H
 try dsimp only at H
 by_cases c3 : t715 = true
 ·subst c3
  rw [if_pos rfl] at H
  have HC4 := aS H
  clear H
  go_enter Tryd.func41, Tryd.ntmps41
  go_upto_if 8 with (first | ((with_reducible refine gate_dst (N := 1) rfl ?_); refine xB 1 #[.int .i64 a0_0, .bool a0_1, .bool a0_2, .bool a0_3, .bool a0_4, .bool a0_5, .int .i64 a0_6, .string a0_7, .int .i64 a0_8, .slice A0_9 l0_9.length c0_9, .slice A0_10 l0_10.length c0_10, .slice A0_11 l0_11.length c0_11] 52 ?_; intro gb714 hg w5 hbox hb; have BK714 := aS (hbox); have GW714 := gW hg (wU HB.out); have GE714 := gW hg (wU HB.out); replace HB := aS (below_step (wU HB.out) hb); clear hb hbox hg; have hcz6 := cells12f BK714.out) | ((with_reducible refine gate_callee (f := 39) rfl ?_); refine gL (some 5) Tryd.func39 #[.agg #[.int .i64 a0_0, .bool a0_1, .bool a0_2, .bool a0_3, .bool a0_4, .bool a0_5, .int .i64 a0_6, .string a0_7, .int .i64 a0_8, .slice A0_9 l0_9.length c0_9, .slice A0_10 l0_10.length c0_10, .slice A0_11 l0_11.length c0_11]] ?_; (with_reducible refine (spec_MsgOk.calls k a0_0 a0_1 a0_2 a0_3 a0_4 a0_5 a0_6 a0_7 a0_8 _ _ l0_9 _ _ l0_10 _ _ l0_11 true _ ?side1 ?side2 ?side3 ?side4 ?side5 ?side6 A2.out).mono ?_); (case side1 => exact cU ((Kd.C_below HR0_9.out HB.out))); (case side2 => exact HC0_9.out); (case side3 => exact cU ((Kd.C_below HR0_10.out HB.out))); (case side4 => exact HC0_10.out); (case side5 => exact cU ((Kd.C_below HR0_11.out HB.out))); (case side6 => exact HC0_11.out); rintro e w7 ⟨rfl, hb⟩; refine ⟨_, rfl, ?_⟩; replace BK714 := bB BK714 hb; replace HB := aS (below_step (wS1 HB.out GE714.out) hb); clear hb; have hcz8 := cells12f BK714.out))
  (try simp only [Act.put, List.setIfInBounds_toArray, List.set_cons_zero, List.set_cons_succ])
  go_cut [3] (fun v3 wc => ∃ (kq : Nat) (x3_3 : ByteArray), v3 = .string x3_3 ∧ Aside0 (spec_MsgText.j0 kq x3_3 a0_0 a0_1 a0_2 a0_3 a0_4 a0_5 a0_6 a0_7 a0_8 l0_9 l0_10 l0_11 = some r) ∧ Aside0 (kq ≤ k) ∧ Aside0 (wc.heap[gb714]? = some (.cells #[.int .i64 a0_0, .bool a0_1, .bool a0_2, .bool a0_3, .bool a0_4, .bool a0_5, .int .i64 a0_6, .string a0_7, .int .i64 a0_8, (.slice A0_9 l0_9.length c0_9), (.slice A0_10 l0_10.length c0_10), (.slice A0_11 l0_11.length c0_11)] 52 (0, 0))) ∧ Aside0 (Below w.heap.size w wc))
  case first =>
   have H := HC4.out
   clear HC4
   by_cases c9 : a0_1 = true
   ·subst c9
    rw [if_pos rfl] at H
    have H' := aS H
    clear H
    go_wp2
    go_meet
    case rel => exact ⟨_, ((⟨#[114, 101, 112, 108, 121, 32]⟩ : ByteArray)), jB, H', ⟨by first | omega | exact Nat.le_refl _⟩, ⟨by exact bU BK714.out⟩, ⟨by exact wS1 HB.out GE714.out⟩⟩
   ·replace c9 := Bool.eq_false_iff.mpr c9
    subst c9
    rw [if_neg Bool.false_ne_true] at H
    have H' := aS H
    clear H
    go_wp2
    go_meet
    case rel => exact ⟨_, ((⟨#[97, 115, 107, 32]⟩ : ByteArray)), jB, H', ⟨by first | omega | exact Nat.le_refl _⟩, ⟨by exact bU BK714.out⟩, ⟨by exact wS1 HB.out GE714.out⟩⟩
  case rest =>
   clear HC4
   try clear p2
   try clear c3
   try clear c4
   try clear c9
   try clear hcz6
   try clear hcz8
   obtain ⟨kq, x3_3, rfl, HA, HJ3, BK714, HB⟩ := hcut
   cases kq with
   | zero => exact absurd HA.out (by simp [spec_MsgText.j0])
   | succ kj3 =>
    have H := HA.out
    clear HA
    simp only [spec_MsgText.j0] at H
    obtain ⟨t716, A10, H⟩ := bM H
    try dsimp only at H
    by_cases c11 : x3_3.size + t716.size ≤ 9223372036854775807
    ·rw [if_pos c11] at H
     have c11b0 := eq_true c11
     have c11b1 := decide_eq_true c11
     try have c11b2 : (9223372036854775807 < x3_3.size + t716.size) = False := eq_false (Nat.not_lt.2 c11)
     by_cases c12 : (x3_3 ++ t716).size + 1 ≤ 9223372036854775807
     ·rw [if_pos c12] at H
      have c12b0 := eq_true c12
      have c12b1 := decide_eq_true c12
      try have c12b2 : (9223372036854775807 < (x3_3 ++ t716).size + 1) = False := eq_false (Nat.not_lt.2 c12)
      try have c12b8 : (9223372036854775807 < x3_3.size + t716.size + 1) = False := by have q_ := c12b2; simp only [ByteArray.size_append] at q_; exact q_
      obtain ⟨t717, A13, H⟩ := bM H
      try dsimp only at H
      by_cases c14 : ((x3_3 ++ t716) ++ (⟨#[32]⟩ : ByteArray)).size + t717.size ≤ 9223372036854775807
      ·rw [if_pos c14] at H
       have c14b0 := eq_true c14
       have c14b1 := decide_eq_true c14
       try have c14b2 : (9223372036854775807 < ((x3_3 ++ t716) ++ (⟨#[32]⟩ : ByteArray)).size + t717.size) = False := eq_false (Nat.not_lt.2 c14)
       try have c14b8 : (9223372036854775807 < x3_3.size + t716.size + 1 + t717.size) = False := by have q_ := c14b2; simp only [ByteArray.size_append] at q_; exact q_
       by_cases c15 : (((x3_3 ++ t716) ++ (⟨#[32]⟩ : ByteArray)) ++ t717).size + 1 ≤ 9223372036854775807
       ·rw [if_pos c15] at H
        have c15b0 := eq_true c15
        have c15b1 := decide_eq_true c15
        try have c15b2 : (9223372036854775807 < (((x3_3 ++ t716) ++ (⟨#[32]⟩ : ByteArray)) ++ t717).size + 1) = False := eq_false (Nat.not_lt.2 c15)
        try have c15b8 : (9223372036854775807 < x3_3.size + t716.size + 1 + t717.size + 1) = False := by have q_ := c15b2; simp only [ByteArray.size_append] at q_; exact q_
        obtain ⟨t718, A16, H⟩ := bM H
        try dsimp only at H
        by_cases c17 : ((((x3_3 ++ t716) ++ (⟨#[32]⟩ : ByteArray)) ++ t717) ++ (⟨#[32]⟩ : ByteArray)).size + t718.size ≤ 9223372036854775807
        ·rw [if_pos c17] at H
         have c17b0 := eq_true c17
         have c17b1 := decide_eq_true c17
         try have c17b2 : (9223372036854775807 < ((((x3_3 ++ t716) ++ (⟨#[32]⟩ : ByteArray)) ++ t717) ++ (⟨#[32]⟩ : ByteArray)).size + t718.size) = False := eq_false (Nat.not_lt.2 c17)
         try have c17b8 : (9223372036854775807 < x3_3.size + t716.size + 1 + t717.size + 1 + t718.size) = False := by have q_ := c17b2; simp only [ByteArray.size_append] at q_; exact q_
         by_cases c18 : (((((x3_3 ++ t716) ++ (⟨#[32]⟩ : ByteArray)) ++ t717) ++ (⟨#[32]⟩ : ByteArray)) ++ t718).size + 1 ≤ 9223372036854775807
         ·rw [if_pos c18] at H
          have c18b0 := eq_true c18
          have c18b1 := decide_eq_true c18
          try have c18b2 : (9223372036854775807 < (((((x3_3 ++ t716) ++ (⟨#[32]⟩ : ByteArray)) ++ t717) ++ (⟨#[32]⟩ : ByteArray)) ++ t718).size + 1) = False := eq_false (Nat.not_lt.2 c18)
          try have c18b8 : (9223372036854775807 < x3_3.size + t716.size + 1 + t717.size + 1 + t718.size + 1) = False := by have q_ := c18b2; simp only [ByteArray.size_append] at q_; exact q_
          obtain ⟨t719, A19, H⟩ := bM H
          try dsimp only at H
          by_cases c20 : ((((((x3_3 ++ t716) ++ (⟨#[32]⟩ : ByteArray)) ++ t717) ++ (⟨#[32]⟩ : ByteArray)) ++ t718) ++ (⟨#[32]⟩ : ByteArray)).size + t719.size ≤ 9223372036854775807
          ·rw [if_pos c20] at H
           have c20b0 := eq_true c20
           have c20b1 := decide_eq_true c20
           try have c20b2 : (9223372036854775807 < ((((((x3_3 ++ t716) ++ (⟨#[32]⟩ : ByteArray)) ++ t717) ++ (⟨#[32]⟩ : ByteArray)) ++ t718) ++ (⟨#[32]⟩ : ByteArray)).size + t719.size) = False := eq_false (Nat.not_lt.2 c20)
           try have c20b8 : (9223372036854775807 < x3_3.size + t716.size + 1 + t717.size + 1 + t718.size + 1 + t719.size) = False := by have q_ := c20b2; simp only [ByteArray.size_append] at q_; exact q_
           have HC21 := aS H
           clear H
           try go_wp2
           replace BK714 := aS (blk_drew BK714.out)
           replace HB := aS (below_drew1 HB.out)
           refine start_ (n := 23) (S := fun w' => w'.cell? ⟨gb714, 0, none⟩ = some (.int .i64 a0_0) ∧ w'.cell? ⟨gb714, 1, none⟩ = some (.bool a0_1) ∧ w'.cell? ⟨gb714, 2, none⟩ = some (.bool a0_2) ∧ w'.cell? ⟨gb714, 3, none⟩ = some (.bool a0_3) ∧ w'.cell? ⟨gb714, 4, none⟩ = some (.bool a0_4) ∧ w'.cell? ⟨gb714, 5, none⟩ = some (.bool a0_5) ∧ w'.cell? ⟨gb714, 6, none⟩ = some (.int .i64 a0_6) ∧ w'.cell? ⟨gb714, 7, none⟩ = some (.string a0_7) ∧ w'.cell? ⟨gb714, 8, none⟩ = some (.int .i64 a0_8) ∧ w'.cell? ⟨gb714, 9, none⟩ = some (.slice A0_9 l0_9.length c0_9) ∧ w'.cell? ⟨gb714, 10, none⟩ = some (.slice A0_10 l0_10.length c0_10) ∧ w'.cell? ⟨gb714, 11, none⟩ = some (.slice A0_11 l0_11.length c0_11)) (ds := []) #[false, false, false, false, false, false, false, false, false, false, false, false, false, false, false, false, false, false, false, false, false, false, false] jK rfl rfl (Pr.c12 BK714.out) (fun hHeld => ?_); refine with_tabW spec_MsgText.tab6 spec_MsgText.bits6 (fun HT_ HW_ => ?_)
           generalize wc.drew = w22 at BK714 HB hHeld ⊢
           refine pA HT_ 0 (some 9) (tf 1 22) ?_
           refine pA HT_ 1 (some 10) (tf 2 21) ?_
           refine pA HT_ 6 (some 15) #[true, true, false, false, false, false, true, false, false, false, false, false, false, false, false, false, false, false, false, false, false, false, false] ?_
           refine pA HT_ 11 (some 20) #[true, true, false, false, false, false, true, false, false, false, false, true, false, false, false, false, false, false, false, false, false, false, false] ?_
           refine pA HT_ 12 (some 21) #[true, true, false, false, false, false, true, false, false, false, false, true, true, false, false, false, false, false, false, false, false, false, false] ?_
           refine pA HT_ 17 (some 26) #[true, true, false, false, false, false, true, false, false, false, false, true, true, false, false, false, false, true, false, false, false, false, false] ?_
           refine pA HT_ 18 (some 27) #[true, true, false, false, false, false, true, false, false, false, false, true, true, false, false, false, false, true, true, false, false, false, false] ?_
           refine tA HT_ HW_ hHeld 2 (some 11) #[true, true, true, false, false, false, true, false, false, false, false, true, true, false, false, false, false, true, true, false, false, false, false] ?_
           refine tA HT_ HW_ hHeld 7 (some 16) #[true, true, true, false, false, false, true, true, false, false, false, true, true, false, false, false, false, true, true, false, false, false, false] ?_
           refine tA HT_ HW_ hHeld 13 (some 22) #[true, true, true, false, false, false, true, true, false, false, false, true, true, true, false, false, false, true, true, false, false, false, false] ?_
           refine tA HT_ HW_ hHeld 19 (some 28) #[true, true, true, false, false, false, true, true, false, false, false, true, true, true, false, false, false, true, true, true, false, false, false] ?_
           refine one_ (i := 3) (N := some 12) #[true, true, true, true, false, false, true, true, false, false, false, true, true, true, false, false, false, true, true, true, false, false, false] rfl rfl (one_of HT_.out jK) (by decide) (fun K hK => ?_)
           refine goes_ Tryd.func101 jK rfl #[.int .i64 a0_0] (by rfl) rfl rfl jA ?_
           with_reducible refine (spec_NumText.calls kj3 a0_0 t716 _ A10.out).mono ?_
           rintro e w23 ⟨rfl, hb⟩
           refine ⟨_, rfl, ?_⟩
           replace BK714 := bB BK714 hb
           replace HB := aS (below_step (wS1 HB.out GE714.out) hb)
           (try clear hb)
           (try clear hb2)
           (try clear hk)
           (try clear hi)
           refine hK.out _ _ (Pr.c12 BK714.out) (fun hHeld => ?_)
           clear hK K
           refine nA (some 12) ?_
           refine pA HT_ 4 (some 13) #[true, true, true, true, true, false, true, true, false, false, false, true, true, true, false, false, false, true, true, true, false, false, false] ?_
           refine pA HT_ 5 (some 14) #[true, true, true, true, true, true, true, true, false, false, false, true, true, true, false, false, false, true, true, true, false, false, false] ?_
           refine one_ (i := 8) (N := some 17) #[true, true, true, true, true, true, true, true, true, false, false, true, true, true, false, false, false, true, true, true, false, false, false] rfl rfl (one_of HT_.out jK) (by decide) (fun K hK => ?_)
           refine goes_ Tryd.func101 jK rfl #[.int .i64 a0_6] (by rfl) rfl rfl jA ?_
           with_reducible refine (spec_NumText.calls kj3 a0_6 t717 _ A13.out).mono ?_
           rintro e w24 ⟨rfl, hb⟩
           refine ⟨_, rfl, ?_⟩
           replace BK714 := bB BK714 hb
           replace HB := aS (below_step (wS1 HB.out GE714.out) hb)
           (try clear hb)
           (try clear hb2)
           (try clear hk)
           (try clear hi)
           refine hK.out _ _ (Pr.c12 BK714.out) (fun hHeld => ?_)
           clear hK K
           refine nA (some 17) ?_
           refine pA HT_ 9 (some 18) #[true, true, true, true, true, true, true, true, true, true, false, true, true, true, false, false, false, true, true, true, false, false, false] ?_
           refine pA HT_ 10 (some 19) #[true, true, true, true, true, true, true, true, true, true, true, true, true, true, false, false, false, true, true, true, false, false, false] ?_
           refine one_ (i := 14) (N := some 23) #[true, true, true, true, true, true, true, true, true, true, true, true, true, true, true, false, false, true, true, true, false, false, false] rfl rfl (one_of HT_.out jK) (by decide) (fun K hK => ?_)
           refine goes_ Tryd.func102 jK rfl #[.string a0_7] (by rfl) rfl rfl jA ?_
           with_reducible refine (spec_l5Dot.calls a0_7 t718 _ A16.out).mono ?_
           rintro e w' ⟨rfl, ⟨nd, rfl⟩⟩
           refine ⟨_, rfl, ?_⟩
           refine hK.out _ _ (Pr.c12 BK714.out) (fun hHeld => ?_)
           clear hK K
           refine nA (some 23) ?_
           refine pA HT_ 15 (some 24) #[true, true, true, true, true, true, true, true, true, true, true, true, true, true, true, true, false, true, true, true, false, false, false] ?_
           refine pA HT_ 16 (some 25) (tf 20 3) ?_
           refine one_ (i := 20) (N := some 29) (tf 21 2) rfl rfl (one_of HT_.out jK) (by decide) (fun K hK => ?_)
           refine goes_ Tryd.func103 jK rfl #[.int .i64 a0_8] (by rfl) rfl rfl jA ?_
           with_reducible refine (spec_TypeText.calls a0_8 t719 _ A19.out).mono ?_
           rintro e w' ⟨rfl, ⟨nd, rfl⟩⟩
           refine ⟨_, rfl, ?_⟩
           refine hK.out _ _ (Pr.c12 BK714.out) (fun hHeld => ?_)
           clear hK K
           refine nA (some 29) ?_
           refine pA HT_ 21 (some 30) (tf 22 1) ?_
           refine pA HT_ 22 (some 3) (tf 23 0) ?_
           refine done_ (done_of HT_.out jK) ?_
           have hcz25 := cells12f BK714.out
           go_upto_if 32 with (fail)
           go_cut [3] (fun v3 wc => ∃ (kq : Nat) (x3_20 : ByteArray), v3 = .string x3_20 ∧ Aside0 (spec_MsgText.j1 kq x3_20 a0_0 a0_1 a0_2 a0_3 a0_4 a0_5 a0_6 a0_7 a0_8 l0_9 l0_10 l0_11 = some r) ∧ Aside0 (kq ≤ kj3) ∧ Aside0 (wc.heap[gb714]? = some (.cells #[.int .i64 a0_0, .bool a0_1, .bool a0_2, .bool a0_3, .bool a0_4, .bool a0_5, .int .i64 a0_6, .string a0_7, .int .i64 a0_8, (.slice A0_9 l0_9.length c0_9), (.slice A0_10 l0_10.length c0_10), (.slice A0_11 l0_11.length c0_11)] 52 (0, 0))) ∧ Aside0 (Below w.heap.size w wc))
           case first =>
            have H := HC21.out
            clear HC21
            by_cases c26 : a0_2 = true
            ·subst c26
             rw [if_pos rfl] at H
             by_cases c27 : (((((((x3_3 ++ t716) ++ (⟨#[32]⟩ : ByteArray)) ++ t717) ++ (⟨#[32]⟩ : ByteArray)) ++ t718) ++ (⟨#[32]⟩ : ByteArray)) ++ t719).size + 5 ≤ 9223372036854775807
             ·rw [if_pos c27] at H
              have c27b0 := eq_true c27
              have c27b1 := decide_eq_true c27
              try have c27b2 : (9223372036854775807 < (((((((x3_3 ++ t716) ++ (⟨#[32]⟩ : ByteArray)) ++ t717) ++ (⟨#[32]⟩ : ByteArray)) ++ t718) ++ (⟨#[32]⟩ : ByteArray)) ++ t719).size + 5) = False := eq_false (Nat.not_lt.2 c27)
              try have c27b8 : (9223372036854775807 < x3_3.size + t716.size + 1 + t717.size + 1 + t718.size + 1 + t719.size + 5) = False := by have q_ := c27b2; simp only [ByteArray.size_append] at q_; exact q_
              have H' := aS H
              clear H
              go_wp2
              go_meet
              case rel => exact ⟨_, ((((((((x3_3 ++ t716) ++ (⟨#[32]⟩ : ByteArray)) ++ t717) ++ (⟨#[32]⟩ : ByteArray)) ++ t718) ++ (⟨#[32]⟩ : ByteArray)) ++ t719) ++ (⟨#[32, 97, 117, 116, 104]⟩ : ByteArray)), jB, H', ⟨by have := HJ3.out; first | omega | exact Nat.le_refl _⟩, ⟨by exact bU BK714.out⟩, ⟨by exact wS1 HB.out GE714.out⟩⟩
             ·rw [if_neg c27] at H
              exact absurd H (by simp)
            ·replace c26 := Bool.eq_false_iff.mpr c26
             subst c26
             rw [if_neg Bool.false_ne_true] at H
             have H' := aS H
             clear H
             go_wp2
             go_meet
             case rel => exact ⟨_, (((((((x3_3 ++ t716) ++ (⟨#[32]⟩ : ByteArray)) ++ t717) ++ (⟨#[32]⟩ : ByteArray)) ++ t718) ++ (⟨#[32]⟩ : ByteArray)) ++ t719), jB, H', ⟨by have := HJ3.out; first | omega | exact Nat.le_refl _⟩, ⟨by exact bU BK714.out⟩, ⟨by exact wS1 HB.out GE714.out⟩⟩
           case rest =>
            clear HC21
            try clear c1
            try clear c2
            try clear p2
            try clear c3
            try clear c4
            try clear c9
            try clear c10
            try clear c11
            try clear c11b0
            try clear c11b1
            try clear c11b2
            try clear c12
            try clear c12b0
            try clear c12b1
            try clear c12b2
            try clear c14
            try clear c14b0
            try clear c14b1
            try clear c14b2
            try clear c15
            try clear c15b0
            try clear c15b1
            try clear c15b2
            try clear c17
            try clear c17b0
            try clear c17b1
            try clear c17b2
            try clear c18
            try clear c18b0
            try clear c18b1
            try clear c18b2
            try clear c20
            try clear c20b0
            try clear c20b1
            try clear c20b2
            try clear c26
            try clear c27
            try clear c27b0
            try clear c27b1
            try clear c27b2
            try clear hcz25
            try clear hcz6
            try clear hcz8
            try clear p2
            obtain ⟨kq, x3_20, rfl, HA, HJ20, BK714, HB⟩ := hcut
            cases kq with
            | zero => exact absurd HA.out (by simp [spec_MsgText.j1])
            | succ kj20 =>
             have H := HA.out
             clear HA
             simp only [spec_MsgText.j1] at H
             by_cases c28 : a0_3 = true
             ·subst c28
              rw [if_pos rfl] at H
              by_cases c29 : x3_20.size + 4 ≤ 9223372036854775807
              ·rw [if_pos c29] at H
               have c29b0 := eq_true c29
               have c29b1 := decide_eq_true c29
               try have c29b2 : (9223372036854775807 < x3_20.size + 4) = False := eq_false (Nat.not_lt.2 c29)
               obtain ⟨t720, A30, H⟩ := bM H
               try dsimp only at H
               by_cases c31 : (x3_20 ++ (⟨#[32, 99, 117, 116]⟩ : ByteArray)).size + t720.size ≤ 9223372036854775807
               ·rw [if_pos c31] at H
                have c31b0 := eq_true c31
                have c31b1 := decide_eq_true c31
                try have c31b2 : (9223372036854775807 < (x3_20 ++ (⟨#[32, 99, 117, 116]⟩ : ByteArray)).size + t720.size) = False := eq_false (Nat.not_lt.2 c31)
                try have c31b8 : (9223372036854775807 < x3_20.size + 4 + t720.size) = False := by have q_ := c31b2; simp only [ByteArray.size_append] at q_; exact q_
                obtain ⟨t721, A32, H⟩ := bM H
                try dsimp only at H
                by_cases c33 : ((x3_20 ++ (⟨#[32, 99, 117, 116]⟩ : ByteArray)) ++ t720).size + t721.size ≤ 9223372036854775807
                ·rw [if_pos c33] at H
                 have c33b0 := eq_true c33
                 have c33b1 := decide_eq_true c33
                 try have c33b2 : (9223372036854775807 < ((x3_20 ++ (⟨#[32, 99, 117, 116]⟩ : ByteArray)) ++ t720).size + t721.size) = False := eq_false (Nat.not_lt.2 c33)
                 try have c33b8 : (9223372036854775807 < x3_20.size + 4 + t720.size + t721.size) = False := by have q_ := c33b2; simp only [ByteArray.size_append] at q_; exact q_
                 obtain ⟨t722, A34, H⟩ := bM H
                 try dsimp only at H
                 by_cases c35 : (((x3_20 ++ (⟨#[32, 99, 117, 116]⟩ : ByteArray)) ++ t720) ++ t721).size + t722.size ≤ 9223372036854775807
                 ·rw [if_pos c35] at H
                  have c35b0 := eq_true c35
                  have c35b1 := decide_eq_true c35
                  try have c35b2 : (9223372036854775807 < (((x3_20 ++ (⟨#[32, 99, 117, 116]⟩ : ByteArray)) ++ t720) ++ t721).size + t722.size) = False := eq_false (Nat.not_lt.2 c35)
                  try have c35b8 : (9223372036854775807 < x3_20.size + 4 + t720.size + t721.size + t722.size) = False := by have q_ := c35b2; simp only [ByteArray.size_append] at q_; exact q_
                  obtain rfl := Option.some.inj H
                  have hcz36 := cells12f BK714.out
                  try go_wp2
                  replace BK714 := aS (blk_drew BK714.out)
                  replace HB := aS (below_drew1 HB.out)
                  refine start_ (n := 14) (S := fun w' => w'.cell? ⟨gb714, 0, none⟩ = some (.int .i64 a0_0) ∧ w'.cell? ⟨gb714, 1, none⟩ = some (.bool a0_1) ∧ w'.cell? ⟨gb714, 2, none⟩ = some (.bool a0_2) ∧ w'.cell? ⟨gb714, 3, none⟩ = some (.bool true) ∧ w'.cell? ⟨gb714, 4, none⟩ = some (.bool a0_4) ∧ w'.cell? ⟨gb714, 5, none⟩ = some (.bool a0_5) ∧ w'.cell? ⟨gb714, 6, none⟩ = some (.int .i64 a0_6) ∧ w'.cell? ⟨gb714, 7, none⟩ = some (.string a0_7) ∧ w'.cell? ⟨gb714, 8, none⟩ = some (.int .i64 a0_8) ∧ w'.cell? ⟨gb714, 9, none⟩ = some (.slice A0_9 l0_9.length c0_9) ∧ w'.cell? ⟨gb714, 10, none⟩ = some (.slice A0_10 l0_10.length c0_10) ∧ w'.cell? ⟨gb714, 11, none⟩ = some (.slice A0_11 l0_11.length c0_11)) (ds := []) #[false, false, false, false, false, false, false, false, false, false, false, false, false, false] jK rfl rfl (Pr.c12 BK714.out) (fun hHeld => ?_); refine with_tabW spec_MsgText.tab11 spec_MsgText.bits11 (fun HT_ HW_ => ?_)
                  generalize wc.drew = w37 at BK714 HB hHeld ⊢
                  refine pA HT_ 0 (some 39) (tf 1 13) ?_
                  refine pA HT_ 1 (some 40) (tf 2 12) ?_
                  refine pA HT_ 5 (some 44) #[true, true, false, false, false, true, false, false, false, false, false, false, false, false] ?_
                  refine pA HT_ 9 (some 48) #[true, true, false, false, false, true, false, false, false, true, false, false, false, false] ?_
                  refine tA HT_ HW_ hHeld 2 (some 41) #[true, true, true, false, false, true, false, false, false, true, false, false, false, false] ?_
                  refine tA HT_ HW_ hHeld 6 (some 45) #[true, true, true, false, false, true, true, false, false, true, false, false, false, false] ?_
                  refine tA HT_ HW_ hHeld 10 (some 49) #[true, true, true, false, false, true, true, false, false, true, true, false, false, false] ?_
                  refine one_ (i := 3) (N := some 42) #[true, true, true, true, false, true, true, false, false, true, true, false, false, false] rfl rfl (one_of HT_.out jK) (by decide) (fun K hK => ?_)
                  refine goes_ Tryd.func104 jK rfl #[.slice A0_9 l0_9.length c0_9] (by rfl) rfl rfl jA ?_
                  with_reducible refine (spec_l7Texts.calls kj20 _ _ l0_9 t720 _ ?side1 ?side2 A30.out).mono ?_
                  (case side1 => exact cU ((Kd.C_below HR0_9.out HB.out)))
                  (case side2 => exact HC0_9.out)
                  rintro e w38 ⟨rfl, hb⟩
                  refine ⟨_, rfl, ?_⟩
                  replace BK714 := bB BK714 hb
                  replace HB := aS (below_step (wS1 HB.out GE714.out) hb)
                  (try clear hb)
                  (try clear hb2)
                  (try clear hk)
                  (try clear hi)
                  refine hK.out _ _ (Pr.c12 BK714.out) (fun hHeld => ?_)
                  clear hK K
                  refine nA (some 42) ?_
                  refine pA HT_ 4 (some 43) #[true, true, true, true, true, true, true, false, false, true, true, false, false, false] ?_
                  refine one_ (i := 7) (N := some 46) #[true, true, true, true, true, true, true, true, false, true, true, false, false, false] rfl rfl (one_of HT_.out jK) (by decide) (fun K hK => ?_)
                  refine goes_ Tryd.func104 jK rfl #[.slice A0_10 l0_10.length c0_10] (by rfl) rfl rfl jA ?_
                  with_reducible refine (spec_l7Texts.calls kj20 _ _ l0_10 t721 _ ?side1 ?side2 A32.out).mono ?_
                  (case side1 => exact cU ((Kd.C_below HR0_10.out HB.out)))
                  (case side2 => exact HC0_10.out)
                  rintro e w39 ⟨rfl, hb⟩
                  refine ⟨_, rfl, ?_⟩
                  replace BK714 := bB BK714 hb
                  replace HB := aS (below_step (wS1 HB.out GE714.out) hb)
                  (try clear hb)
                  (try clear hb2)
                  (try clear hk)
                  (try clear hi)
                  refine hK.out _ _ (Pr.c12 BK714.out) (fun hHeld => ?_)
                  clear hK K
                  refine nA (some 46) ?_
                  refine pA HT_ 8 (some 47) (tf 11 3) ?_
                  refine one_ (i := 11) (N := some 50) (tf 12 2) rfl rfl (one_of HT_.out jK) (by decide) (fun K hK => ?_)
                  refine goes_ Tryd.func104 jK rfl #[.slice A0_11 l0_11.length c0_11] (by rfl) rfl rfl jA ?_
                  with_reducible refine (spec_l7Texts.calls kj20 _ _ l0_11 t722 _ ?side1 ?side2 A34.out).mono ?_
                  (case side1 => exact cU ((Kd.C_below HR0_11.out HB.out)))
                  (case side2 => exact HC0_11.out)
                  rintro e w40 ⟨rfl, hb⟩
                  refine ⟨_, rfl, ?_⟩
                  replace BK714 := bB BK714 hb
                  replace HB := aS (below_step (wS1 HB.out GE714.out) hb)
                  (try clear hb)
                  (try clear hb2)
                  (try clear hk)
                  (try clear hi)
                  refine hK.out _ _ (Pr.c12 BK714.out) (fun hHeld => ?_)
                  clear hK K
                  refine nA (some 50) ?_
                  refine pA HT_ 12 (some 51) (tf 13 1) ?_
                  refine pA HT_ 13 (some 2) (tf 14 0) ?_
                  refine done_ (done_of HT_.out jK) ?_
                  try go_wp2
                  go_ret
                  exact ⟨jE, by exact wS1 HB.out GE714.out⟩
                 ·rw [if_neg c35] at H
                  exact absurd H (by simp)
                ·rw [if_neg c33] at H
                 exact absurd H (by simp)
               ·rw [if_neg c31] at H
                exact absurd H (by simp)
              ·rw [if_neg c29] at H
               exact absurd H (by simp)
             ·replace c28 := Bool.eq_false_iff.mpr c28
              subst c28
              rw [if_neg Bool.false_ne_true] at H
              obtain ⟨t723, A41, H⟩ := bM H
              try dsimp only at H
              by_cases c42 : x3_20.size + t723.size ≤ 9223372036854775807
              ·rw [if_pos c42] at H
               have c42b0 := eq_true c42
               have c42b1 := decide_eq_true c42
               try have c42b2 : (9223372036854775807 < x3_20.size + t723.size) = False := eq_false (Nat.not_lt.2 c42)
               obtain ⟨t724, A43, H⟩ := bM H
               try dsimp only at H
               by_cases c44 : (x3_20 ++ t723).size + t724.size ≤ 9223372036854775807
               ·rw [if_pos c44] at H
                have c44b0 := eq_true c44
                have c44b1 := decide_eq_true c44
                try have c44b2 : (9223372036854775807 < (x3_20 ++ t723).size + t724.size) = False := eq_false (Nat.not_lt.2 c44)
                try have c44b8 : (9223372036854775807 < x3_20.size + t723.size + t724.size) = False := by have q_ := c44b2; simp only [ByteArray.size_append] at q_; exact q_
                obtain ⟨t725, A45, H⟩ := bM H
                try dsimp only at H
                by_cases c46 : ((x3_20 ++ t723) ++ t724).size + t725.size ≤ 9223372036854775807
                ·rw [if_pos c46] at H
                 have c46b0 := eq_true c46
                 have c46b1 := decide_eq_true c46
                 try have c46b2 : (9223372036854775807 < ((x3_20 ++ t723) ++ t724).size + t725.size) = False := eq_false (Nat.not_lt.2 c46)
                 try have c46b8 : (9223372036854775807 < x3_20.size + t723.size + t724.size + t725.size) = False := by have q_ := c46b2; simp only [ByteArray.size_append] at q_; exact q_
                 obtain rfl := Option.some.inj H
                 have hcz47 := cells12f BK714.out
                 try go_wp2
                 replace BK714 := aS (blk_drew BK714.out)
                 replace HB := aS (below_drew1 HB.out)
                 refine start_ (n := 14) (S := fun w' => w'.cell? ⟨gb714, 0, none⟩ = some (.int .i64 a0_0) ∧ w'.cell? ⟨gb714, 1, none⟩ = some (.bool a0_1) ∧ w'.cell? ⟨gb714, 2, none⟩ = some (.bool a0_2) ∧ w'.cell? ⟨gb714, 3, none⟩ = some (.bool false) ∧ w'.cell? ⟨gb714, 4, none⟩ = some (.bool a0_4) ∧ w'.cell? ⟨gb714, 5, none⟩ = some (.bool a0_5) ∧ w'.cell? ⟨gb714, 6, none⟩ = some (.int .i64 a0_6) ∧ w'.cell? ⟨gb714, 7, none⟩ = some (.string a0_7) ∧ w'.cell? ⟨gb714, 8, none⟩ = some (.int .i64 a0_8) ∧ w'.cell? ⟨gb714, 9, none⟩ = some (.slice A0_9 l0_9.length c0_9) ∧ w'.cell? ⟨gb714, 10, none⟩ = some (.slice A0_10 l0_10.length c0_10) ∧ w'.cell? ⟨gb714, 11, none⟩ = some (.slice A0_11 l0_11.length c0_11)) (ds := []) #[false, false, false, false, false, false, false, false, false, false, false, false, false, false] jK rfl rfl (Pr.c12 BK714.out) (fun hHeld => ?_); refine with_tabW spec_MsgText.tab11 spec_MsgText.bits11 (fun HT_ HW_ => ?_)
                 generalize wc.drew = w48 at BK714 HB hHeld ⊢
                 refine pA HT_ 0 (some 39) (tf 1 13) ?_
                 refine pA HT_ 1 (some 40) (tf 2 12) ?_
                 refine pA HT_ 5 (some 44) #[true, true, false, false, false, true, false, false, false, false, false, false, false, false] ?_
                 refine pA HT_ 9 (some 48) #[true, true, false, false, false, true, false, false, false, true, false, false, false, false] ?_
                 refine tA HT_ HW_ hHeld 2 (some 41) #[true, true, true, false, false, true, false, false, false, true, false, false, false, false] ?_
                 refine tA HT_ HW_ hHeld 6 (some 45) #[true, true, true, false, false, true, true, false, false, true, false, false, false, false] ?_
                 refine tA HT_ HW_ hHeld 10 (some 49) #[true, true, true, false, false, true, true, false, false, true, true, false, false, false] ?_
                 refine one_ (i := 3) (N := some 42) #[true, true, true, true, false, true, true, false, false, true, true, false, false, false] rfl rfl (one_of HT_.out jK) (by decide) (fun K hK => ?_)
                 refine goes_ Tryd.func104 jK rfl #[.slice A0_9 l0_9.length c0_9] (by rfl) rfl rfl jA ?_
                 with_reducible refine (spec_l7Texts.calls kj20 _ _ l0_9 t723 _ ?side1 ?side2 A41.out).mono ?_
                 (case side1 => exact cU ((Kd.C_below HR0_9.out HB.out)))
                 (case side2 => exact HC0_9.out)
                 rintro e w49 ⟨rfl, hb⟩
                 refine ⟨_, rfl, ?_⟩
                 replace BK714 := bB BK714 hb
                 replace HB := aS (below_step (wS1 HB.out GE714.out) hb)
                 (try clear hb)
                 (try clear hb2)
                 (try clear hk)
                 (try clear hi)
                 refine hK.out _ _ (Pr.c12 BK714.out) (fun hHeld => ?_)
                 clear hK K
                 refine nA (some 42) ?_
                 refine pA HT_ 4 (some 43) #[true, true, true, true, true, true, true, false, false, true, true, false, false, false] ?_
                 refine one_ (i := 7) (N := some 46) #[true, true, true, true, true, true, true, true, false, true, true, false, false, false] rfl rfl (one_of HT_.out jK) (by decide) (fun K hK => ?_)
                 refine goes_ Tryd.func104 jK rfl #[.slice A0_10 l0_10.length c0_10] (by rfl) rfl rfl jA ?_
                 with_reducible refine (spec_l7Texts.calls kj20 _ _ l0_10 t724 _ ?side1 ?side2 A43.out).mono ?_
                 (case side1 => exact cU ((Kd.C_below HR0_10.out HB.out)))
                 (case side2 => exact HC0_10.out)
                 rintro e w50 ⟨rfl, hb⟩
                 refine ⟨_, rfl, ?_⟩
                 replace BK714 := bB BK714 hb
                 replace HB := aS (below_step (wS1 HB.out GE714.out) hb)
                 (try clear hb)
                 (try clear hb2)
                 (try clear hk)
                 (try clear hi)
                 refine hK.out _ _ (Pr.c12 BK714.out) (fun hHeld => ?_)
                 clear hK K
                 refine nA (some 46) ?_
                 refine pA HT_ 8 (some 47) (tf 11 3) ?_
                 refine one_ (i := 11) (N := some 50) (tf 12 2) rfl rfl (one_of HT_.out jK) (by decide) (fun K hK => ?_)
                 refine goes_ Tryd.func104 jK rfl #[.slice A0_11 l0_11.length c0_11] (by rfl) rfl rfl jA ?_
                 with_reducible refine (spec_l7Texts.calls kj20 _ _ l0_11 t725 _ ?side1 ?side2 A45.out).mono ?_
                 (case side1 => exact cU ((Kd.C_below HR0_11.out HB.out)))
                 (case side2 => exact HC0_11.out)
                 rintro e w51 ⟨rfl, hb⟩
                 refine ⟨_, rfl, ?_⟩
                 replace BK714 := bB BK714 hb
                 replace HB := aS (below_step (wS1 HB.out GE714.out) hb)
                 (try clear hb)
                 (try clear hb2)
                 (try clear hk)
                 (try clear hi)
                 refine hK.out _ _ (Pr.c12 BK714.out) (fun hHeld => ?_)
                 clear hK K
                 refine nA (some 50) ?_
                 refine pA HT_ 12 (some 51) (tf 13 1) ?_
                 refine pA HT_ 13 (some 2) (tf 14 0) ?_
                 refine done_ (done_of HT_.out jK) ?_
                 try go_wp2
                 go_ret
                 exact ⟨jE, by exact wS1 HB.out GE714.out⟩
                ·rw [if_neg c46] at H
                 exact absurd H (by simp)
               ·rw [if_neg c44] at H
                exact absurd H (by simp)
              ·rw [if_neg c42] at H
               exact absurd H (by simp)
          ·rw [if_neg c20] at H
           exact absurd H (by simp)
         ·rw [if_neg c18] at H
          exact absurd H (by simp)
        ·rw [if_neg c17] at H
         exact absurd H (by simp)
       ·rw [if_neg c15] at H
        exact absurd H (by simp)
      ·rw [if_neg c14] at H
       exact absurd H (by simp)
     ·rw [if_neg c12] at H
      exact absurd H (by simp)
    ·rw [if_neg c11] at H
     exact absurd H (by simp)
 ·replace c3 := Bool.eq_false_iff.mpr c3
  subst c3
  rw [if_neg Bool.false_ne_true] at H
  obtain rfl := Option.some.inj H
  go_enter Tryd.func41, Tryd.ntmps41
  go_wp2_with (first | ((with_reducible refine gate_dst (N := 1) rfl ?_); refine xB 1 #[.int .i64 a0_0, .bool a0_1, .bool a0_2, .bool a0_3, .bool a0_4, .bool a0_5, .int .i64 a0_6, .string a0_7, .int .i64 a0_8, .slice A0_9 l0_9.length c0_9, .slice A0_10 l0_10.length c0_10, .slice A0_11 l0_11.length c0_11] 52 ?_; intro gb714 hg w52 hbox hb; have BK714 := aS (hbox); have GW714 := gW hg (wU HB.out); have GE714 := gW hg (wU HB.out); replace HB := aS (below_step (wU HB.out) hb); clear hb hbox hg; have hcz53 := cells12f BK714.out) | ((with_reducible refine gate_callee (f := 39) rfl ?_); refine gL (some 5) Tryd.func39 #[.agg #[.int .i64 a0_0, .bool a0_1, .bool a0_2, .bool a0_3, .bool a0_4, .bool a0_5, .int .i64 a0_6, .string a0_7, .int .i64 a0_8, .slice A0_9 l0_9.length c0_9, .slice A0_10 l0_10.length c0_10, .slice A0_11 l0_11.length c0_11]] ?_; (with_reducible refine (spec_MsgOk.calls k a0_0 a0_1 a0_2 a0_3 a0_4 a0_5 a0_6 a0_7 a0_8 _ _ l0_9 _ _ l0_10 _ _ l0_11 false _ ?side1 ?side2 ?side3 ?side4 ?side5 ?side6 A2.out).mono ?_); (case side1 => exact cU ((Kd.C_below HR0_9.out HB.out))); (case side2 => exact HC0_9.out); (case side3 => exact cU ((Kd.C_below HR0_10.out HB.out))); (case side4 => exact HC0_10.out); (case side5 => exact cU ((Kd.C_below HR0_11.out HB.out))); (case side6 => exact HC0_11.out); rintro e w54 ⟨rfl, hb⟩; refine ⟨_, rfl, ?_⟩; replace BK714 := bB BK714 hb; replace HB := aS (below_step (wS1 HB.out GE714.out) hb); clear hb))
  go_ret
  exact ⟨jE, by exact wS1 HB.out GE714.out⟩

end Go.Proofs.YtdigilidomimdaaDoor.Pr
