-- Written for this claim by a program of this session (wip/tool/pr.py, over the kit's printer).
-- half
import Derived.Test.YtdigilidomimdaaDoorPrx0
import Derived.Test.YtdigilidomimdaaDoorPrx3
import Derived.Test.YtdigilidomimdaaDoorPrx6
import Derived.Test.YtdigilidomimdaaDoorPrx13
namespace Go.Proofs.YtdigilidomimdaaDoor.Pr
open Go.RowKit Go.Proofs.YtdigilidomimdaaDoorW.PrintWords Go.Proofs.YtdigilidomimdaaDoorW.PrintLast Go.Proofs.YtdigilidomimdaaDoorW.PrintMore
attribute [local go_sem] max2_int min2_int max_two min_two max_three min_three max_four min_four   -- for this text's walks alone
set_option linter.unusedVariables false
set_option linter.unusedSimpArgs false

/-! ### impl_GetData: function 17 -/
mutual
def impl_GetData.j2 : Nat → List Int → Int → Int → Int → Option (ByteArray × Int × Int × Int × ByteArray × ByteArray × Int)
 | 0, _, _, _, _ => none
 | k + 1, x0, x1, x2, x3 => if x3 = 1 then ((impl_Get4.f k x0 x1).bind fun bt727 => (impl_GetData.j5 k x1 x2 (wrap64 (x1 + 4)) bt727.2 (⟨#[]⟩ : ByteArray) x3 0 bt727.1 (⟨#[]⟩ : ByteArray) (⟨#[]⟩ : ByteArray))) else (if x3 = 16 then (if x2 = 0 then (some ((⟨#[]⟩ : ByteArray), 0, 0, 0, (⟨#[]⟩ : ByteArray), (⟨#[]⟩ : ByteArray), 2)) else (impl_GetData.j3 k x0 x1 x2 x1 true (⟨#[]⟩ : ByteArray) x3 0 0 (⟨#[]⟩ : ByteArray) (⟨#[]⟩ : ByteArray))) else ((impl_GetName.f k x0 x1).bind fun bt735 => (if bt735.2.2 = 0 then (impl_GetData.j4 k x0 x1 x2 x3 true bt735.1 bt735.2.1 (⟨#[]⟩ : ByteArray) x3 0 0 (⟨#[]⟩ : ByteArray) (⟨#[]⟩ : ByteArray)) else (some ((⟨#[]⟩ : ByteArray), 0, 0, 0, (⟨#[]⟩ : ByteArray), (⟨#[]⟩ : ByteArray), bt735.2.2)))))
def impl_GetData.j5 : Nat → Int → Int → Int → Bool → ByteArray → Int → Int → Int → ByteArray → ByteArray → Option (ByteArray × Int × Int × Int × ByteArray × ByteArray × Int)
 | 0, _, _, _, _, _, _, _, _, _, _ => none
 | k + 1, x1, x2, x11, x12, x727000, x727001, x727002, x727003, x727004, x727005 => if x12 = true then (if x11 = (wrap64 (x1 + x2)) then (some (x727000, x727001, x727002, x727003, x727004, x727005, 0)) else (some ((⟨#[]⟩ : ByteArray), 0, 0, 0, (⟨#[]⟩ : ByteArray), (⟨#[]⟩ : ByteArray), 2))) else (some ((⟨#[]⟩ : ByteArray), 0, 0, 0, (⟨#[]⟩ : ByteArray), (⟨#[]⟩ : ByteArray), 2))
def impl_GetData.j3 : Nat → List Int → Int → Int → Int → Bool → ByteArray → Int → Int → Int → ByteArray → ByteArray → Option (ByteArray × Int × Int × Int × ByteArray × ByteArray × Int)
 | 0, _, _, _, _, _, _, _, _, _, _, _ => none
 | k + 1, x0, x1, x2, x11, x12, x727000, x727001, x727002, x727003, x727004, x727005 => if 0 ≤ x1 then (if x1 < (x0.length : Int) then (if (wrap64 (x11 + (wrap64 (1 + (wrap64 (rd x0 x1)))))) = (wrap64 (x1 + x2)) then (if 0 ≤ (wrap64 (x1 + 1)) then (if (wrap64 (x1 + 1)) ≤ (wrap64 (x11 + (wrap64 (1 + (wrap64 (rd x0 x1)))))) then (if (wrap64 (x11 + (wrap64 (1 + (wrap64 (rd x0 x1)))))) ≤ (x0.length : Int) then ((some ((x0.take ((wrap64 (x11 + (wrap64 (1 + (wrap64 (rd x0 x1)))))) : Int).toNat).drop ((wrap64 (x1 + 1)) : Int).toNat : List Int)).bind fun y730 => ((impl_isText.f k (strOfNums y730)).bind fun t734 => (impl_GetData.j5 k x1 x2 (wrap64 (x11 + (wrap64 (1 + (wrap64 (rd x0 x1)))))) t734 x727000 x727001 x727002 x727003 x727004 (strOfNums y730)))) else (none)) else (none)) else (none)) else (impl_GetData.j5 k x1 x2 (wrap64 (x11 + (wrap64 (1 + (wrap64 (rd x0 x1)))))) x12 x727000 x727001 x727002 x727003 x727004 x727005)) else (none)) else (none)
def impl_GetData.j4 : Nat → List Int → Int → Int → Int → Bool → ByteArray → Int → ByteArray → Int → Int → Int → ByteArray → ByteArray → Option (ByteArray × Int × Int × Int × ByteArray × ByteArray × Int)
 | 0, _, _, _, _, _, _, _, _, _, _, _, _, _ => none
 | k + 1, x0, x1, x2, x3, x12, x13, x14, x727000, x727001, x727002, x727003, x727004, x727005 => if x3 = 6 then ((impl_Get4.f k x0 x14).bind fun bt738 => (impl_GetData.j5 k x1 x2 (wrap64 (x14 + 4)) bt738.2 x727000 x727001 x727002 bt738.1 x13 x727005)) else (impl_GetData.j5 k x1 x2 x14 x12 x727000 x727001 x727002 x727003 x13 x727005)
def impl_GetData.j0 : Nat → List Int → Int → Int → Int → Bool → Option (ByteArray × Int × Int × Int × ByteArray × ByteArray × Int)
 | 0, _, _, _, _, _ => none
 | k + 1, x0, x1, x2, x3, x16 => if x16 = true then (some ((⟨#[]⟩ : ByteArray), 0, 0, 0, (⟨#[]⟩ : ByteArray), (⟨#[]⟩ : ByteArray), 2)) else (if x1 < 0 then (impl_GetData.j1 k x0 x1 x2 x3 true) else (impl_GetData.j1 k x0 x1 x2 x3 (decide (x1 > (wrap64 ((x0.length : Int) - x2))))))
def impl_GetData.j1 : Nat → List Int → Int → Int → Int → Bool → Option (ByteArray × Int × Int × Int × ByteArray × ByteArray × Int)
 | 0, _, _, _, _, _ => none
 | k + 1, x0, x1, x2, x3, x24 => if x24 = true then (some ((⟨#[]⟩ : ByteArray), 0, 0, 0, (⟨#[]⟩ : ByteArray), (⟨#[]⟩ : ByteArray), 1)) else ((impl_TypeOk.f x3).bind fun t725 => (if t725 = true then (impl_GetData.j2 k x0 x1 x2 x3) else (some ((⟨#[]⟩ : ByteArray), 0, 0, 0, (⟨#[]⟩ : ByteArray), (⟨#[]⟩ : ByteArray), 2))))
end
def impl_GetData.f (k : Nat) (l0 : List Int) (a1 : Int) (a2 : Int) (a3 : Int) : Option (ByteArray × Int × Int × Int × ByteArray × ByteArray × Int) := if a2 < 0 then (impl_GetData.j0 k l0 a1 a2 a3 true) else (impl_GetData.j0 k l0 a1 a2 a3 (decide (a2 > 255)))
theorem impl_GetData.mono_l : ∀ k, (∀ y0 y1 y2 y3, LeO (impl_GetData.j2 k y0 y1 y2 y3) (impl_GetData.j2 (k + 1) y0 y1 y2 y3)) ∧ (∀ y0 y1 y2 y3 y4 y5 y6 y7 y8 y9, LeO (impl_GetData.j5 k y0 y1 y2 y3 y4 y5 y6 y7 y8 y9) (impl_GetData.j5 (k + 1) y0 y1 y2 y3 y4 y5 y6 y7 y8 y9)) ∧ (∀ y0 y1 y2 y3 y4 y5 y6 y7 y8 y9 y10, LeO (impl_GetData.j3 k y0 y1 y2 y3 y4 y5 y6 y7 y8 y9 y10) (impl_GetData.j3 (k + 1) y0 y1 y2 y3 y4 y5 y6 y7 y8 y9 y10)) ∧ (∀ y0 y1 y2 y3 y4 y5 y6 y7 y8 y9 y10 y11 y12, LeO (impl_GetData.j4 k y0 y1 y2 y3 y4 y5 y6 y7 y8 y9 y10 y11 y12) (impl_GetData.j4 (k + 1) y0 y1 y2 y3 y4 y5 y6 y7 y8 y9 y10 y11 y12)) ∧ (∀ y0 y1 y2 y3 y4, LeO (impl_GetData.j0 k y0 y1 y2 y3 y4) (impl_GetData.j0 (k + 1) y0 y1 y2 y3 y4)) ∧ (∀ y0 y1 y2 y3 y4, LeO (impl_GetData.j1 k y0 y1 y2 y3 y4) (impl_GetData.j1 (k + 1) y0 y1 y2 y3 y4))
 | 0 => ⟨fun _ _ _ _ r h => by simp [impl_GetData.j2] at h, fun _ _ _ _ _ _ _ _ _ _ r h => by simp [impl_GetData.j5] at h, fun _ _ _ _ _ _ _ _ _ _ _ r h => by simp [impl_GetData.j3] at h, fun _ _ _ _ _ _ _ _ _ _ _ _ _ r h => by simp [impl_GetData.j4] at h, fun _ _ _ _ _ r h => by simp [impl_GetData.j0] at h, fun _ _ _ _ _ r h => by simp [impl_GetData.j1] at h⟩
 | k + 1 => by
  obtain ⟨ih0, ih1, ih2, ih3, ih4, ih5⟩ := impl_GetData.mono_l k
  refine ⟨?_, ?_, ?_, ?_, ?_, ?_⟩
  ·intro y0 y1 y2 y3
   unfold impl_GetData.j2
   repeat' first
   | (with_reducible first | exact ih0 _ _ _ _ | exact ih1 _ _ _ _ _ _ _ _ _ _ | exact ih2 _ _ _ _ _ _ _ _ _ _ _ | exact ih3 _ _ _ _ _ _ _ _ _ _ _ _ _ | exact ih4 _ _ _ _ _ | exact ih5 _ _ _ _ _ | exact impl_Get4.mono _ _ _ | exact impl_GetName.mono _ _ _ | exact impl_isText.mono _ _ | exact LeO.refl _ | exact LeO.none _ | refine LeO.ite ?_ ?_ | refine LeO.bind ?_ (fun _ => ?_))
   | exact ih0 _ _ _ _
   | exact ih1 _ _ _ _ _ _ _ _ _ _
   | exact ih2 _ _ _ _ _ _ _ _ _ _ _
   | exact ih3 _ _ _ _ _ _ _ _ _ _ _ _ _
   | exact ih4 _ _ _ _ _
   | exact ih5 _ _ _ _ _
   | exact impl_Get4.mono _ _ _
   | exact impl_GetName.mono _ _ _
   | exact impl_isText.mono _ _
   | exact LeO.none _
   | refine LeO.ite ?_ ?_
   | refine LeO.bind ?_ (fun _ => ?_)
  ·intro y0 y1 y2 y3 y4 y5 y6 y7 y8 y9
   unfold impl_GetData.j5
   repeat' first
   | (with_reducible first | exact ih0 _ _ _ _ | exact ih1 _ _ _ _ _ _ _ _ _ _ | exact ih2 _ _ _ _ _ _ _ _ _ _ _ | exact ih3 _ _ _ _ _ _ _ _ _ _ _ _ _ | exact ih4 _ _ _ _ _ | exact ih5 _ _ _ _ _ | exact impl_Get4.mono _ _ _ | exact impl_GetName.mono _ _ _ | exact impl_isText.mono _ _ | exact LeO.refl _ | exact LeO.none _ | refine LeO.ite ?_ ?_ | refine LeO.bind ?_ (fun _ => ?_))
   | exact ih0 _ _ _ _
   | exact ih1 _ _ _ _ _ _ _ _ _ _
   | exact ih2 _ _ _ _ _ _ _ _ _ _ _
   | exact ih3 _ _ _ _ _ _ _ _ _ _ _ _ _
   | exact ih4 _ _ _ _ _
   | exact ih5 _ _ _ _ _
   | exact impl_Get4.mono _ _ _
   | exact impl_GetName.mono _ _ _
   | exact impl_isText.mono _ _
   | exact LeO.none _
   | refine LeO.ite ?_ ?_
   | refine LeO.bind ?_ (fun _ => ?_)
  ·intro y0 y1 y2 y3 y4 y5 y6 y7 y8 y9 y10
   unfold impl_GetData.j3
   repeat' first
   | (with_reducible first | exact ih0 _ _ _ _ | exact ih1 _ _ _ _ _ _ _ _ _ _ | exact ih2 _ _ _ _ _ _ _ _ _ _ _ | exact ih3 _ _ _ _ _ _ _ _ _ _ _ _ _ | exact ih4 _ _ _ _ _ | exact ih5 _ _ _ _ _ | exact impl_Get4.mono _ _ _ | exact impl_GetName.mono _ _ _ | exact impl_isText.mono _ _ | exact LeO.refl _ | exact LeO.none _ | refine LeO.ite ?_ ?_ | refine LeO.bind ?_ (fun _ => ?_))
   | exact ih0 _ _ _ _
   | exact ih1 _ _ _ _ _ _ _ _ _ _
   | exact ih2 _ _ _ _ _ _ _ _ _ _ _
   | exact ih3 _ _ _ _ _ _ _ _ _ _ _ _ _
   | exact ih4 _ _ _ _ _
   | exact ih5 _ _ _ _ _
   | exact impl_Get4.mono _ _ _
   | exact impl_GetName.mono _ _ _
   | exact impl_isText.mono _ _
   | exact LeO.none _
   | refine LeO.ite ?_ ?_
   | refine LeO.bind ?_ (fun _ => ?_)
  ·intro y0 y1 y2 y3 y4 y5 y6 y7 y8 y9 y10 y11 y12
   unfold impl_GetData.j4
   repeat' first
   | (with_reducible first | exact ih0 _ _ _ _ | exact ih1 _ _ _ _ _ _ _ _ _ _ | exact ih2 _ _ _ _ _ _ _ _ _ _ _ | exact ih3 _ _ _ _ _ _ _ _ _ _ _ _ _ | exact ih4 _ _ _ _ _ | exact ih5 _ _ _ _ _ | exact impl_Get4.mono _ _ _ | exact impl_GetName.mono _ _ _ | exact impl_isText.mono _ _ | exact LeO.refl _ | exact LeO.none _ | refine LeO.ite ?_ ?_ | refine LeO.bind ?_ (fun _ => ?_))
   | exact ih0 _ _ _ _
   | exact ih1 _ _ _ _ _ _ _ _ _ _
   | exact ih2 _ _ _ _ _ _ _ _ _ _ _
   | exact ih3 _ _ _ _ _ _ _ _ _ _ _ _ _
   | exact ih4 _ _ _ _ _
   | exact ih5 _ _ _ _ _
   | exact impl_Get4.mono _ _ _
   | exact impl_GetName.mono _ _ _
   | exact impl_isText.mono _ _
   | exact LeO.none _
   | refine LeO.ite ?_ ?_
   | refine LeO.bind ?_ (fun _ => ?_)
  ·intro y0 y1 y2 y3 y4
   unfold impl_GetData.j0
   repeat' first
   | (with_reducible first | exact ih0 _ _ _ _ | exact ih1 _ _ _ _ _ _ _ _ _ _ | exact ih2 _ _ _ _ _ _ _ _ _ _ _ | exact ih3 _ _ _ _ _ _ _ _ _ _ _ _ _ | exact ih4 _ _ _ _ _ | exact ih5 _ _ _ _ _ | exact impl_Get4.mono _ _ _ | exact impl_GetName.mono _ _ _ | exact impl_isText.mono _ _ | exact LeO.refl _ | exact LeO.none _ | refine LeO.ite ?_ ?_ | refine LeO.bind ?_ (fun _ => ?_))
   | exact ih0 _ _ _ _
   | exact ih1 _ _ _ _ _ _ _ _ _ _
   | exact ih2 _ _ _ _ _ _ _ _ _ _ _
   | exact ih3 _ _ _ _ _ _ _ _ _ _ _ _ _
   | exact ih4 _ _ _ _ _
   | exact ih5 _ _ _ _ _
   | exact impl_Get4.mono _ _ _
   | exact impl_GetName.mono _ _ _
   | exact impl_isText.mono _ _
   | exact LeO.none _
   | refine LeO.ite ?_ ?_
   | refine LeO.bind ?_ (fun _ => ?_)
  ·intro y0 y1 y2 y3 y4
   unfold impl_GetData.j1
   repeat' first
   | (with_reducible first | exact ih0 _ _ _ _ | exact ih1 _ _ _ _ _ _ _ _ _ _ | exact ih2 _ _ _ _ _ _ _ _ _ _ _ | exact ih3 _ _ _ _ _ _ _ _ _ _ _ _ _ | exact ih4 _ _ _ _ _ | exact ih5 _ _ _ _ _ | exact impl_Get4.mono _ _ _ | exact impl_GetName.mono _ _ _ | exact impl_isText.mono _ _ | exact LeO.refl _ | exact LeO.none _ | refine LeO.ite ?_ ?_ | refine LeO.bind ?_ (fun _ => ?_))
   | exact ih0 _ _ _ _
   | exact ih1 _ _ _ _ _ _ _ _ _ _
   | exact ih2 _ _ _ _ _ _ _ _ _ _ _
   | exact ih3 _ _ _ _ _ _ _ _ _ _ _ _ _
   | exact ih4 _ _ _ _ _
   | exact ih5 _ _ _ _ _
   | exact impl_Get4.mono _ _ _
   | exact impl_GetName.mono _ _ _
   | exact impl_isText.mono _ _
   | exact LeO.none _
   | refine LeO.ite ?_ ?_
   | refine LeO.bind ?_ (fun _ => ?_)
theorem impl_GetData.mono : ∀ a0 a1 a2 a3 k, LeO (impl_GetData.f k a0 a1 a2 a3) (impl_GetData.f (k + 1) a0 a1 a2 a3) := by
 intro a0 a1 a2 a3 k
 obtain ⟨ih0, ih1, ih2, ih3, ih4, ih5⟩ := impl_GetData.mono_l k
 unfold impl_GetData.f
 repeat' first
   | (with_reducible first | exact ih0 _ _ _ _ | exact ih1 _ _ _ _ _ _ _ _ _ _ | exact ih2 _ _ _ _ _ _ _ _ _ _ _ | exact ih3 _ _ _ _ _ _ _ _ _ _ _ _ _ | exact ih4 _ _ _ _ _ | exact ih5 _ _ _ _ _ | exact impl_Get4.mono _ _ _ | exact impl_GetName.mono _ _ _ | exact impl_isText.mono _ _ | exact LeO.refl _ | exact LeO.none _ | refine LeO.ite ?_ ?_ | refine LeO.bind ?_ (fun _ => ?_))
   | exact ih0 _ _ _ _
   | exact ih1 _ _ _ _ _ _ _ _ _ _
   | exact ih2 _ _ _ _ _ _ _ _ _ _ _
   | exact ih3 _ _ _ _ _ _ _ _ _ _ _ _ _
   | exact ih4 _ _ _ _ _
   | exact ih5 _ _ _ _ _
   | exact impl_Get4.mono _ _ _
   | exact impl_GetName.mono _ _ _
   | exact impl_isText.mono _ _
   | exact LeO.none _
   | refine LeO.ite ?_ ?_
   | refine LeO.bind ?_ (fun _ => ?_)
set_option maxHeartbeats 8000000 in
set_option maxRecDepth 100000 in
theorem impl_GetData.calls (k : Nat) (A0 : Option Addr) (c0 : Nat) (l0 : List Int) (a1 : Int) (a2 : Int) (a3 : Int) (r1 : ByteArray) (r2 : Int) (r3 : Int) (r4 : Int) (r5 : ByteArray) (r6 : ByteArray) (r7 : Int) (w : World) (hr0 : Kd.C (Kd.int .u8) w A0 l0.length l0) (hc0 : l0.length ≤ c0) (h : impl_GetData.f k l0 a1 a2 a3 = some (r1, r2, r3, r4, r5, r6, r7)) :
  Calls Tryd.prog 17 #[.slice A0 l0.length c0, .int .i64 a1, .int .i64 a2, .int .i64 a3] w fun e w' => e = .returned (.tuple #[.agg #[.string r1, .int .i64 r2, .int .i64 r3, .int .i64 r4, .string r5, .string r6], .int .i64 r7]) ∧ Below w.heap.size w w' := by
 have hu25 := Tryd.underlying25
 have HR0 := aS hr0
 have HC0 := aS hc0
 clear hr0 hc0
 have HB := aS (Below.refl w.heap.size w)
 have H : (if a2 < 0 then (impl_GetData.j0 k l0 a1 a2 a3 true) else (impl_GetData.j0 k l0 a1 a2 a3 (decide (a2 > 255)))) = some (r1, r2, r3, r4, r5, r6, r7) := h
 clear h
 have HC5 := aS H
 clear H
 go_enter Tryd.func17, Tryd.ntmps17
 go_upto_block 0 with (first | ((with_reducible refine gate_dst (N := 8) rfl ?_); (try (refine gate_guard (by rfl) ?_; dsimp only)); refine box_event ?hg (N := 8) ?hd (cs := #[.string (⟨#[]⟩ : ByteArray), .int .i64 0, .int .i64 0, .int .i64 0, .string (⟨#[]⟩ : ByteArray), .string (⟨#[]⟩ : ByteArray)]) (t := 25) ?hr ?_; (case hd => rfl); (case hg => rfl); (case hr => first | (go_simp; done) | (go_simp; rfl)); intro gb724 hg w6 hbox hb; have BK724 := aS (hbox); have GW724 := aS ((by rw [hg]; exact (below_size (wU HB.out)) : w.heap.size ≤ gb724)); have GE724 := aS ((by rw [hg]; exact (below_size (wU HB.out)) : w.heap.size ≤ gb724)); replace HB := aS (below_step (wU HB.out) hb); clear hb hbox hg))
 (try simp only [Act.put, List.setIfInBounds_toArray, List.set_cons_zero, List.set_cons_succ])
 go_cut [] (fun wc => ∃ (kq : Nat) (x725000_4 : ByteArray) (x725001_4 : Int) (x725002_4 : Int) (x725003_4 : Int) (x725004_4 : ByteArray) (x725005_4 : ByteArray), Aside0 (impl_GetData.j2 kq l0 a1 a2 a3 = some (r1, r2, r3, r4, r5, r6, r7)) ∧ Aside0 (kq ≤ k) ∧ Aside0 (wc.heap[gb724]? = some (.cells #[.string x725000_4, .int .i64 x725001_4, .int .i64 x725002_4, .int .i64 x725003_4, .string x725004_4, .string x725005_4] 25 (0, 0))) ∧ Aside0 (Below w.heap.size w wc))
 case first =>
  have H := HC5.out
  clear HC5
  have HC7 := aS H
  clear H
  go_upto_region 1 with (fail)
  go_cut [16] (fun v16 wc => ∃ (kq : Nat) (x16_6 : Bool), v16 = .bool x16_6 ∧ Aside0 (impl_GetData.j0 kq l0 a1 a2 a3 x16_6 = some (r1, r2, r3, r4, r5, r6, r7)) ∧ Aside0 (kq ≤ k) ∧ Aside0 (wc.heap[gb724]? = some (.cells #[.string (⟨#[]⟩ : ByteArray), .int .i64 0, .int .i64 0, .int .i64 0, .string (⟨#[]⟩ : ByteArray), .string (⟨#[]⟩ : ByteArray)] 25 (0, 0))) ∧ Aside0 (Below w.heap.size w wc))
  case first =>
   have H := HC7.out
   clear HC7
   by_cases c8 : a2 < 0
   ·rw [if_pos c8] at H
    have c8b0 := decide_eq_true c8
    clear c8
    (first | rw [c8b0] | (simp only [i64_w, i32_w]; rw [c8b0]) | skip)
    have H' := aS H
    clear H
    go_wp2
    go_meet
    case rel => exact ⟨_, (true), jB, H', ⟨by first | omega | exact Nat.le_refl _⟩, ⟨by exact bU BK724.out⟩, ⟨by exact wS1 HB.out GE724.out⟩⟩
   ·rw [if_neg c8] at H
    have c8b0 := decide_eq_false c8
    clear c8
    (first | rw [c8b0] | (simp only [i64_w, i32_w]; rw [c8b0]) | skip)
    have H' := aS H
    clear H
    go_wp2
    go_meet
    case rel => exact ⟨_, (decide (a2 > 255)), jB, H', ⟨by first | omega | exact Nat.le_refl _⟩, ⟨by exact bU BK724.out⟩, ⟨by exact wS1 HB.out GE724.out⟩⟩
  case rest =>
   clear HC7
   try clear c1
   try clear p2
   try clear c8
   try clear c8b0
   obtain ⟨kq, x16_6, rfl, HA, HJ6, BK724, HB⟩ := hcut
   cases kq with
   | zero => exact absurd HA.out (by simp [impl_GetData.j0])
   | succ kj6 =>
    have H := HA.out
    clear HA
    simp only [impl_GetData.j0] at H
    by_cases c9 : x16_6 = true
    ·subst c9
     rw [if_pos rfl] at H
     simp only [Option.some.injEq, Prod.mk.injEq] at H
     obtain ⟨rfl, rfl, rfl, rfl, rfl, rfl, rfl⟩ := H
     have hcz10 := cells6f BK724.out
     go_wp2
     refine bodyPost_ret (results_ct rfl _ _ gb724 25 #[.string (⟨#[]⟩ : ByteArray), .int .i64 0, .int .i64 0, .int .i64 0, .string (⟨#[]⟩ : ByteArray), .string (⟨#[]⟩ : ByteArray)] (0, 0) _ rfl (by (with_reducible repeat (first | refine blk_drewN ?_ _ | refine blk_drew ?_ | refine blk_alloc ?_ _)); refine blk_put_6 (.string (⟨#[]⟩ : ByteArray)) (.int .i64 0) (.int .i64 0) (.int .i64 0) (.string (⟨#[]⟩ : ByteArray)) (.string (⟨#[]⟩ : ByteArray)) ?_; exact bU BK724.out) Tryd.underlying25 rfl jK) rfl ?_
     exact ⟨jE, by exact wS1 HB.out GE724.out⟩
    ·replace c9 := Bool.eq_false_iff.mpr c9
     subst c9
     rw [if_neg Bool.false_ne_true] at H
     have HC11 := aS H
     clear H
     go_upto_region 3 with (fail)
     go_cut [24] (fun v24 wc => ∃ (kq : Nat) (x24_10 : Bool), v24 = .bool x24_10 ∧ Aside0 (impl_GetData.j1 kq l0 a1 a2 a3 x24_10 = some (r1, r2, r3, r4, r5, r6, r7)) ∧ Aside0 (kq ≤ kj6) ∧ Aside0 (wc.heap[gb724]? = some (.cells #[.string (⟨#[]⟩ : ByteArray), .int .i64 0, .int .i64 0, .int .i64 0, .string (⟨#[]⟩ : ByteArray), .string (⟨#[]⟩ : ByteArray)] 25 (0, 0))) ∧ Aside0 (Below w.heap.size w wc))
     case first =>
      have H := HC11.out
      clear HC11
      by_cases c12 : a1 < 0
      ·rw [if_pos c12] at H
       have c12b0 := decide_eq_true c12
       clear c12
       (first | rw [c12b0] | (simp only [i64_w, i32_w]; rw [c12b0]) | skip)
       have H' := aS H
       clear H
       go_wp2
       go_meet
       case rel => exact ⟨_, (true), jB, H', ⟨by have := HJ6.out; first | omega | exact Nat.le_refl _⟩, ⟨by exact bU BK724.out⟩, ⟨by exact wS1 HB.out GE724.out⟩⟩
      ·rw [if_neg c12] at H
       have c12b0 := decide_eq_false c12
       clear c12
       (first | rw [c12b0] | (simp only [i64_w, i32_w]; rw [c12b0]) | skip)
       have H' := aS H
       clear H
       go_wp2
       go_meet
       case rel => exact ⟨_, (decide (a1 > (wrap64 ((l0.length : Int) - a2)))), jB, H', ⟨by have := HJ6.out; first | omega | exact Nat.le_refl _⟩, ⟨by exact bU BK724.out⟩, ⟨by exact wS1 HB.out GE724.out⟩⟩
     case rest =>
      clear HC11
      try clear c1
      try clear p2
      try clear p6
      try clear c8
      try clear c8b0
      try clear c9
      try clear c12
      try clear c12b0
      try clear hcz10
      try clear p2
      obtain ⟨kq, x24_10, rfl, HA, HJ10, BK724, HB⟩ := hcut
      cases kq with
      | zero => exact absurd HA.out (by simp [impl_GetData.j1])
      | succ kj10 =>
       have H := HA.out
       clear HA
       simp only [impl_GetData.j1] at H
       by_cases c13 : x24_10 = true
       ·subst c13
        rw [if_pos rfl] at H
        simp only [Option.some.injEq, Prod.mk.injEq] at H
        obtain ⟨rfl, rfl, rfl, rfl, rfl, rfl, rfl⟩ := H
        have hcz14 := cells6f BK724.out
        go_wp2
        refine bodyPost_ret (results_ct rfl _ _ gb724 25 #[.string (⟨#[]⟩ : ByteArray), .int .i64 0, .int .i64 0, .int .i64 0, .string (⟨#[]⟩ : ByteArray), .string (⟨#[]⟩ : ByteArray)] (0, 0) _ rfl (by (with_reducible repeat (first | refine blk_drewN ?_ _ | refine blk_drew ?_ | refine blk_alloc ?_ _)); refine blk_put_6 (.string (⟨#[]⟩ : ByteArray)) (.int .i64 0) (.int .i64 0) (.int .i64 0) (.string (⟨#[]⟩ : ByteArray)) (.string (⟨#[]⟩ : ByteArray)) ?_; exact bU BK724.out) Tryd.underlying25 rfl jK) rfl ?_
        exact ⟨jE, by exact wS1 HB.out GE724.out⟩
       ·replace c13 := Bool.eq_false_iff.mpr c13
        subst c13
        rw [if_neg Bool.false_ne_true] at H
        obtain ⟨t725, A15, H⟩ := bM H
        try dsimp only at H
        by_cases c16 : t725 = true
        ·subst c16
         rw [if_pos rfl] at H
         have H' := aS H
         clear H
         go_wp2_with (first | ((with_reducible refine gate_callee (f := 74) rfl ?_); refine goesL_ (some 38) rfl rfl Tryd.func74 jK rfl #[.int .i64 a3] rfl jA ?_; (with_reducible refine (impl_TypeOk.calls a3 true _ A15.out).mono ?_); rintro e w' ⟨rfl, ⟨nd, rfl⟩⟩; refine ⟨_, rfl, ?_⟩) | ((with_reducible show Oper.upon _ { dst := _, op := .load 25 _, type := 25, pos := _, after := _, guard := _ } _ _ _ _); simp (maxDischargeDepth := 20) [go_sem, *]))
         go_meet
         case rel => exact ⟨_, ((⟨#[]⟩ : ByteArray)), (0), (0), (0), ((⟨#[]⟩ : ByteArray)), ((⟨#[]⟩ : ByteArray)), H', ⟨by have := HJ6.out; have := HJ10.out; first | omega | exact Nat.le_refl _⟩, ⟨by exact bU BK724.out⟩, ⟨by exact wS1 HB.out GE724.out⟩⟩
        ·replace c16 := Bool.eq_false_iff.mpr c16
         subst c16
         rw [if_neg Bool.false_ne_true] at H
         simp only [Option.some.injEq, Prod.mk.injEq] at H
         obtain ⟨rfl, rfl, rfl, rfl, rfl, rfl, rfl⟩ := H
         go_wp2_with (first | ((with_reducible refine gate_callee (f := 74) rfl ?_); refine goesL_ (some 38) rfl rfl Tryd.func74 jK rfl #[.int .i64 a3] rfl jA ?_; (with_reducible refine (impl_TypeOk.calls a3 false _ A15.out).mono ?_); rintro e w' ⟨rfl, ⟨nd, rfl⟩⟩; refine ⟨_, rfl, ?_⟩; (try (rw [drewN_self wc]; generalize hq_ : World.drewN wc _ = wc; have n0_ : Aside0 (wc.heap[gb724]? = some (.cells #[.string (⟨#[]⟩ : ByteArray), .int .i64 0, .int .i64 0, .int .i64 0, .string (⟨#[]⟩ : ByteArray), .string (⟨#[]⟩ : ByteArray)] 25 (0, 0))) := ⟨by rw [← hq_]; exact (bU BK724.out)⟩; have n1_ : Aside0 (Below w.heap.size w wc) := ⟨by rw [← hq_]; exact (wS1 HB.out GE724.out)⟩; clear BK724 HB hq_; revert n0_ n1_; intro BK724 HB)); have hcz17 := cells6f BK724.out) | ((with_reducible show Oper.upon _ { dst := _, op := .load 25 _, type := 25, pos := _, after := _, guard := _ } _ _ _ _); simp (maxDischargeDepth := 20) [go_sem, *]))
         refine bodyPost_ret (results_ct rfl _ _ gb724 25 #[.string (⟨#[]⟩ : ByteArray), .int .i64 0, .int .i64 0, .int .i64 0, .string (⟨#[]⟩ : ByteArray), .string (⟨#[]⟩ : ByteArray)] (0, 0) _ rfl (by (with_reducible repeat (first | refine blk_drewN ?_ _ | refine blk_drew ?_ | refine blk_alloc ?_ _)); refine blk_put_6 (.string (⟨#[]⟩ : ByteArray)) (.int .i64 0) (.int .i64 0) (.int .i64 0) (.string (⟨#[]⟩ : ByteArray)) (.string (⟨#[]⟩ : ByteArray)) ?_; exact bU BK724.out) Tryd.underlying25 rfl jK) rfl ?_
         exact ⟨jE, by exact wS1 HB.out GE724.out⟩
 case rest =>
  clear HC5
  try clear c1
  try clear p2
  try clear p6
  try clear c7
  try clear c8
  try clear c8b0
  try clear c9
  try clear c12
  try clear c12b0
  try clear c13
  try clear c16
  try clear c17
  try clear hcz10
  try clear hcz14
  try clear hcz17
  try clear p2
  try clear p6
  obtain ⟨kq, x725000_4, x725001_4, x725002_4, x725003_4, x725004_4, x725005_4, HA, HJ4, BK724, HB⟩ := hcut
  cases kq with
  | zero => exact absurd HA.out (by simp [impl_GetData.j2])
  | succ kj4 =>
   have H := HA.out
   clear HA
   simp only [impl_GetData.j2] at H
   have HC18 := aS H
   clear H
   go_upto_block 1 with (first | ((with_reducible refine gate_dst (N := 10) rfl ?_); (try (refine gate_guard (by rfl) ?_; dsimp only)); refine box_event ?hg (N := 10) ?hd (cs := #[.string (⟨#[]⟩ : ByteArray), .int .i64 0, .int .i64 0, .int .i64 0, .string (⟨#[]⟩ : ByteArray), .string (⟨#[]⟩ : ByteArray)]) (t := 25) ?hr ?_; (case hd => rfl); (case hg => rfl); (case hr => first | (go_simp; done) | (go_simp; rfl)); intro gb726 hg w19 hbox hb; have BK726 := aS (hbox); have GW726 := aS ((by rw [hg]; exact (below_size (wS1 HB.out GE724.out)) : w.heap.size ≤ gb726)); have GE726 := aS ((by rw [hg]; exact (below_size (wS1 HB.out GE724.out)) : w.heap.size ≤ gb726)); replace HB := aS (below_step (wS1 HB.out GE724.out) hb); have NB724_726 := aS ((by rw [hg]; exact Nat.ne_of_lt (blk_lt (bU BK724.out)) : gb724 ≠ gb726)); have NB726_724 := aS ((by rw [hg]; exact Nat.ne_of_gt (blk_lt (bU BK724.out)) : gb726 ≠ gb724)); replace BK724 := aS (blk_below (bU BK724.out) hb); clear hb hbox hg; have hnb20 := NB726_724.out; have hnc20 := NB724_726.out; have hcz21 := cells6f BK726.out))
   (try simp only [Act.put, List.setIfInBounds_toArray, List.set_cons_zero, List.set_cons_succ])
   go_cut [11, 12] (fun v11 v12 wc => ∃ (kq : Nat) (x11_17 : Int) (x12_17 : Bool) (x725000_17 : ByteArray) (x725001_17 : Int) (x725002_17 : Int) (x725003_17 : Int) (x725004_17 : ByteArray) (x725005_17 : ByteArray) (x727003_17 : Int) (x727004_17 : ByteArray) (x727005_17 : ByteArray), v11 = .int .i64 x11_17 ∧ v12 = .bool x12_17 ∧ Aside0 (impl_GetData.j5 kq a1 a2 x11_17 x12_17 (⟨#[]⟩ : ByteArray) a3 0 x727003_17 x727004_17 x727005_17 = some (r1, r2, r3, r4, r5, r6, r7)) ∧ Aside0 (kq ≤ kj4) ∧ Aside0 (wc.heap[gb724]? = some (.cells #[.string x725000_17, .int .i64 x725001_17, .int .i64 x725002_17, .int .i64 x725003_17, .string x725004_17, .string x725005_17] 25 (0, 0))) ∧ Aside0 (wc.heap[gb726]? = some (.cells #[.string (⟨#[]⟩ : ByteArray), .int .i64 a3, .int .i64 0, .int .i64 x727003_17, .string x727004_17, .string x727005_17] 25 (0, 0))) ∧ Aside0 (Below w.heap.size w wc))
   case first =>
    have H := HC18.out
    clear HC18
    by_cases c22 : a3 = 1
    ·rw [if_pos c22] at H
     have c22b0 := beq_iff_eq.mpr c22
     have c22b1 := bne_eq_false_iff_eq.mpr c22
     clear c22
     (first | rw [c22b0] | (simp only [i64_w, i32_w]; rw [c22b0]) | skip)
     obtain ⟨⟨t727, t728⟩, A23, H⟩ := bM H
     try dsimp only at H
     have H' := aS H
     clear H
     go_wp2_with (first | ((with_reducible refine gate_callee (f := 73) rfl ?_); refine goesL_ (some 75) rfl rfl Tryd.func73 jK rfl #[.slice A0 l0.length c0, .int .i64 a1] rfl jA ?_; (with_reducible refine (impl_Get4.calls kj4 _ _ l0 a1 t727 t728 _ ?side1 ?side2 A23.out).mono ?_); (case side1 => exact Kd.C_below HR0.out (wS2 HB.out GE724.out GE726.out)); (case side2 => exact HC0.out); rintro e w' ⟨rfl, ⟨nd, rfl⟩⟩; refine ⟨_, rfl, ?_⟩; have hnb24 := NB726_724.out; have hnc24 := NB724_726.out; have hcz25 := cells6f BK726.out) | ((with_reducible show Oper.upon _ { dst := _, op := .load 25 _, type := 25, pos := _, after := _, guard := _ } _ _ _ _); simp (maxDischargeDepth := 20) [go_sem, *]))
     go_meet
     case rel => exact ⟨_, (wrap64 (a1 + 4)), (t728), (x725000_4), (x725001_4), (x725002_4), (x725003_4), (x725004_4), (x725005_4), (t727), ((⟨#[]⟩ : ByteArray)), ((⟨#[]⟩ : ByteArray)), jB, jB, H', ⟨by have := HJ4.out; first | omega | exact Nat.le_refl _⟩, ⟨by (iterate 7 ((with_reducible repeat (first | refine blk_drewN ?_ _ | refine blk_drew ?_ | refine blk_alloc ?_ _)); refine blk_far ?_ NB724_726.out _)); exact bU BK724.out⟩, ⟨by (with_reducible repeat (first | refine blk_drewN ?_ _ | refine blk_drew ?_ | refine blk_alloc ?_ _)); refine blk_put (cs := #[.string (⟨#[]⟩ : ByteArray), .int .i64 a3, .int .i64 0, .int .i64 0, .string (⟨#[]⟩ : ByteArray), .string (⟨#[]⟩ : ByteArray)]) ?_ 3 _ rfl; (with_reducible repeat (first | refine blk_drewN ?_ _ | refine blk_drew ?_ | refine blk_alloc ?_ _)); refine blk_put_6 (.string (⟨#[]⟩ : ByteArray)) (.int .i64 0) (.int .i64 0) (.int .i64 0) (.string (⟨#[]⟩ : ByteArray)) (.string (⟨#[]⟩ : ByteArray)) ?_; exact bU BK726.out⟩, ⟨by exact wS2 HB.out GE724.out GE726.out⟩⟩
    ·rw [if_neg c22] at H
     have c22b0 := beq_eq_false_iff_ne.mpr c22
     have c22b1 := bne_iff_ne.mpr c22
     (first | rw [c22b0] | (simp only [i64_w, i32_w]; rw [c22b0]) | skip)
     by_cases c26 : a3 = 16
     ·rw [if_pos c26] at H
      have c26b0 := beq_iff_eq.mpr c26
      have c26b1 := bne_eq_false_iff_eq.mpr c26
      clear c26
      have HC27 := aS H
      clear H
      go_upto_if 84 with (fail)
      go_cut [] (fun wc => ∃ (kq : Nat) (x725000_26 : ByteArray) (x725001_26 : Int) (x725002_26 : Int) (x725003_26 : Int) (x725004_26 : ByteArray) (x725005_26 : ByteArray), Aside0 (impl_GetData.j3 kq l0 a1 a2 a1 true (⟨#[]⟩ : ByteArray) a3 0 0 (⟨#[]⟩ : ByteArray) (⟨#[]⟩ : ByteArray) = some (r1, r2, r3, r4, r5, r6, r7)) ∧ Aside0 (kq ≤ kj4) ∧ Aside0 (wc.heap[gb724]? = some (.cells #[.string x725000_26, .int .i64 x725001_26, .int .i64 x725002_26, .int .i64 x725003_26, .string x725004_26, .string x725005_26] 25 (0, 0))) ∧ Aside0 (wc.heap[gb726]? = some (.cells #[.string (⟨#[]⟩ : ByteArray), .int .i64 a3, .int .i64 0, .int .i64 0, .string (⟨#[]⟩ : ByteArray), .string (⟨#[]⟩ : ByteArray)] 25 (0, 0))) ∧ Aside0 (Below w.heap.size w wc))
      case first =>
       have H := HC27.out
       clear HC27
       by_cases c28 : a2 = 0
       ·rw [if_pos c28] at H
        have c28b0 := beq_iff_eq.mpr c28
        have c28b1 := bne_eq_false_iff_eq.mpr c28
        clear c28
        (first | rw [c28b0] | (simp only [i64_w, i32_w]; rw [c28b0]) | skip)
        simp only [Option.some.injEq, Prod.mk.injEq] at H
        obtain ⟨rfl, rfl, rfl, rfl, rfl, rfl, rfl⟩ := H
        have hnb29 := NB724_726.out
        have hnc29 := NB726_724.out
        have hcz30 := cells6f BK724.out
        go_wp2
        refine bodyPost_ret (results_ct rfl _ _ gb724 25 #[.string (⟨#[]⟩ : ByteArray), .int .i64 0, .int .i64 0, .int .i64 0, .string (⟨#[]⟩ : ByteArray), .string (⟨#[]⟩ : ByteArray)] (0, 0) _ rfl (by (with_reducible repeat (first | refine blk_drewN ?_ _ | refine blk_drew ?_ | refine blk_alloc ?_ _)); refine blk_put_6 (.string x725000_4) (.int .i64 x725001_4) (.int .i64 x725002_4) (.int .i64 x725003_4) (.string x725004_4) (.string x725005_4) ?_; (iterate 6 ((with_reducible repeat (first | refine blk_drewN ?_ _ | refine blk_drew ?_ | refine blk_alloc ?_ _)); refine blk_far ?_ NB724_726.out _)); exact bU BK724.out) Tryd.underlying25 rfl jK) rfl ?_
        exact ⟨jE, by exact wS2 HB.out GE724.out GE726.out⟩
       ·rw [if_neg c28] at H
        have c28b0 := beq_eq_false_iff_ne.mpr c28
        have c28b1 := bne_iff_ne.mpr c28
        (first | rw [c28b0] | (simp only [i64_w, i32_w]; rw [c28b0]) | skip)
        have H' := aS H
        clear H
        go_wp2
        go_meet
        case rel => exact ⟨_, (x725000_4), (x725001_4), (x725002_4), (x725003_4), (x725004_4), (x725005_4), H', ⟨by have := HJ4.out; first | omega | exact Nat.le_refl _⟩, ⟨by (iterate 6 ((with_reducible repeat (first | refine blk_drewN ?_ _ | refine blk_drew ?_ | refine blk_alloc ?_ _)); refine blk_far ?_ NB724_726.out _)); exact bU BK724.out⟩, ⟨by (with_reducible repeat (first | refine blk_drewN ?_ _ | refine blk_drew ?_ | refine blk_alloc ?_ _)); refine blk_put_6 (.string (⟨#[]⟩ : ByteArray)) (.int .i64 0) (.int .i64 0) (.int .i64 0) (.string (⟨#[]⟩ : ByteArray)) (.string (⟨#[]⟩ : ByteArray)) ?_; exact bU BK726.out⟩, ⟨by exact wS2 HB.out GE724.out GE726.out⟩⟩
      case rest =>
       clear HC27
       try clear c1
       try clear c2
       try clear p2
       try clear p6
       try clear c7
       try clear c8
       try clear c8b0
       try clear c9
       try clear c12
       try clear c12b0
       try clear c13
       try clear c16
       try clear c17
       try clear c20
       try clear c22
       try clear c22b0
       try clear c22b1
       try clear c24
       try clear c26
       try clear c26b0
       try clear c26b1
       try clear c28
       try clear c28b0
       try clear c28b1
       try clear c29
       try clear hcz10
       try clear hcz14
       try clear hcz17
       try clear hcz21
       try clear hcz25
       try clear hcz30
       try clear p2
       try clear p6
       obtain ⟨kq, x725000_26, x725001_26, x725002_26, x725003_26, x725004_26, x725005_26, HA, HJ26, BK724, BK726, HB⟩ := hcut
       cases kq with
       | zero => exact absurd HA.out (by simp [impl_GetData.j3])
       | succ kj26 =>
        have H := HA.out
        clear HA
        simp only [impl_GetData.j3] at H
        by_cases c31 : 0 ≤ a1
        ·rw [if_pos c31] at H
         have c31b0 := decide_eq_true c31
         clear c31
         by_cases c32 : a1 < (l0.length : Int)
         ·rw [if_pos c32] at H
          have c32b0 := decide_eq_true c32
          clear c32
          by_cases c33 : (wrap64 (a1 + (wrap64 (1 + (wrap64 (rd l0 a1)))))) = (wrap64 (a1 + a2))
          ·rw [if_pos c33] at H
           have c33b0 := beq_iff_eq.mpr c33
           have c33b1 := bne_eq_false_iff_eq.mpr c33
           clear c33
           obtain ⟨ji34, hji34⟩ : ∃ j_ : Int, (wrap64 (a1 + 1)) = j_ := ⟨_, rfl⟩
           replace H : (if 0 ≤ (ji34) then (if (ji34) ≤ (wrap64 (a1 + (wrap64 (1 + (wrap64 (rd l0 a1)))))) then (if (wrap64 (a1 + (wrap64 (1 + (wrap64 (rd l0 a1)))))) ≤ (l0.length : Int) then ((some ((l0.take ((wrap64 (a1 + (wrap64 (1 + (wrap64 (rd l0 a1)))))) : Int).toNat).drop ((ji34) : Int).toNat : List Int)).bind fun y730 => ((impl_isText.f kj26 (strOfNums y730)).bind fun t734 => (impl_GetData.j5 kj26 a1 a2 (wrap64 (a1 + (wrap64 (1 + (wrap64 (rd l0 a1)))))) t734 (⟨#[]⟩ : ByteArray) a3 0 0 (⟨#[]⟩ : ByteArray) (strOfNums y730)))) else (none)) else (none)) else (none)) = some (r1, r2, r3, r4, r5, r6, r7) := by first | (rw [hji34] at H; exact H) | (simp only [hji34] at H ⊢; exact H)
           have hji34w : (IntKind.i64.wrap (a1 + 1)) = ji34 := (i64_w _).trans hji34
           by_cases c35 : 0 ≤ (ji34)
           ·rw [if_pos c35] at H
            have c35b0 := eq_true c35
            have c35b1 := decide_eq_true c35
            clear c35
            by_cases c36 : (ji34) ≤ (wrap64 (a1 + (wrap64 (1 + (wrap64 (rd l0 a1))))))
            ·rw [if_pos c36] at H
             have c36b0 := eq_true c36
             have c36b1 := decide_eq_true c36
             by_cases c37 : (wrap64 (a1 + (wrap64 (1 + (wrap64 (rd l0 a1)))))) ≤ (l0.length : Int)
             ·rw [if_pos c37] at H
              have c37b0 := eq_true c37
              have c37b1 := decide_eq_true c37
              obtain ⟨y730, hy_⟩ : ∃ y_ : List Int, y_ = ((l0.take ((wrap64 (a1 + (wrap64 (1 + (wrap64 (rd l0 a1)))))) : Int).toNat).drop ((ji34) : Int).toNat) := ⟨_, rfl⟩
              replace H : ((impl_isText.f kj26 (strOfNums y730)).bind fun t734 => (impl_GetData.j5 kj26 a1 a2 (wrap64 (a1 + (wrap64 (1 + (wrap64 (rd l0 a1)))))) t734 (⟨#[]⟩ : ByteArray) a3 0 0 (⟨#[]⟩ : ByteArray) (strOfNums y730))) = some (r1, r2, r3, r4, r5, r6, r7) := jD
              have Ny730 := aS hy_
              clear hy_
              obtain ⟨t734, A38, H⟩ := bM H
              try dsimp only at H
              have H' := aS H
              clear H
              have p729 : 0 ≤ (a1 : Int) := of_decide_eq_true jC
              have q729 : a1 < (l0.length : Int) := of_decide_eq_true jC
              obtain ⟨ad729, e729, hx729_0⟩ := Kd.at_int HR0.out a1 p729 q729
              cases e729
              try replace hx729_0 := (HB.out.cell (World.block_lt_of_cell? w _ hx729_0)).trans hx729_0
              replace p729 := eq_true p729
              replace q729 := eq_true q729
              have q39 : ((wrap64 (a1 + (wrap64 (1 + (wrap64 (rd l0 a1)))))) : Int) ≤ ((l0.length : Int) : Int) := of_decide_eq_true jC
              obtain ⟨i039, hi039, _, hsz39, _⟩ := info_parts info5
              have hroom39 : l0.length ≤ c0 := HC0.out
              have hC39 : Kd.C (Kd.int .u8) _ (some ad729) l0.length l0 := HR0.out
              have ql39 : ((ji34) : Int) ≤ ((wrap64 (a1 + (wrap64 (1 + (wrap64 (rd l0 a1)))))) : Int) := of_decide_eq_true jC
              have q039 : (0 : Int) ≤ ((ji34) : Int) := of_decide_eq_true jC
              have hcut39 := cut_mid (P := Tryd.prog) 22 5 .i64 .i64 Tryd.underlying22 hi039 1 hsz39 (some ad729) l0.length c0 (ji34) (wrap64 (a1 + (wrap64 (1 + (wrap64 (rd l0 a1)))))) q039 ql39 q39 hroom39
              have hr39 := Kd.C_mid (lo := ((ji34) : Int).toNat) (hi := ((wrap64 (a1 + (wrap64 (1 + (wrap64 (rd l0 a1)))))) : Int).toNat) (c := c0) hC39 (by omega) (by omega) hroom39
              obtain ⟨A39, hA39⟩ : ∃ A1, A1 = (if c0 = ((ji34) : Int).toNat then (some ad729) else ((some ad729) : Option Addr).map (·.add (((ji34) : Int).toNat * 1))) := ⟨_, rfl⟩
              obtain ⟨c39, hc39⟩ : ∃ c1, c1 = c0 - ((ji34) : Int).toNat := ⟨_, rfl⟩
              have hy39 : y730.length = ((wrap64 (a1 + (wrap64 (1 + (wrap64 (rd l0 a1)))))) : Int).toNat - ((ji34) : Int).toNat := (by rw [Ny730.out, List.length_drop, List.length_take] <;> omega)
              rw [show ((l0).take ((wrap64 (a1 + (wrap64 (1 + (wrap64 (rd l0 a1)))))) : Int).toNat).drop ((ji34) : Int).toNat = y730 from Ny730.out.symm] at hr39
              replace hr39 : Kd.C (Kd.int .u8) _ A39 y730.length y730 := (by rw [hA39]; exact hr39)
              rw [← hy39, ← hA39, ← hc39] at hcut39
              have HR733 := aS hr39
              have HC733 := aS (show y730.length ≤ c39 from by rw [hy39, hc39]; exact Nat.sub_le_sub_right (Nat.le_trans (by omega) hroom39) _)
              clear hr39 hC39 hroom39 hi039 hsz39 hc39
              have KY39 := aS hy39
              have KA39 := aS hA39
              clear hy39 hA39
              replace q39 := eq_true q39
              have hcv40 := Kd.C_string (P := Tryd.prog) (A := A39) (c := c39) Tryd.underlying22 Tryd.underlying5 Tryd.underlying9 (Kd.C_below HR733.out HB.out)
              have hnb41 := NB726_724.out
              have hnc41 := NB724_726.out
              have hcz42 := cells6f BK726.out
              go_wp2_with (first | ((with_reducible refine gate_callee (f := 70) rfl ?_); refine goesL_ (some 108) rfl rfl Tryd.func70 jK rfl #[.string (strOfNums y730)] rfl jA ?_; (with_reducible refine (impl_isText.calls kj26 (strOfNums y730) t734 _ A38.out).mono ?_); rintro e w' ⟨rfl, ⟨nd, rfl⟩⟩; refine ⟨_, rfl, ?_⟩) | ((with_reducible show Oper.upon _ { dst := _, op := .load 25 _, type := 25, pos := _, after := _, guard := _ } _ _ _ _); simp (maxDischargeDepth := 20) [go_sem, *]))
              go_meet
              case rel => exact ⟨_, (wrap64 (a1 + (wrap64 (1 + (wrap64 (rd l0 a1)))))), (t734), (x725000_26), (x725001_26), (x725002_26), (x725003_26), (x725004_26), (x725005_26), (0), ((⟨#[]⟩ : ByteArray)), (strOfNums y730), jB, jB, H', ⟨by have := HJ4.out; have := HJ26.out; first | omega | exact Nat.le_refl _⟩, ⟨by (with_reducible repeat (first | refine blk_drewN ?_ _ | refine blk_drew ?_ | refine blk_alloc ?_ _)); refine blk_far ?_ NB724_726.out _; exact bU BK724.out⟩, ⟨by (with_reducible repeat (first | refine blk_drewN ?_ _ | refine blk_drew ?_ | refine blk_alloc ?_ _)); refine blk_put (cs := #[.string (⟨#[]⟩ : ByteArray), .int .i64 a3, .int .i64 0, .int .i64 0, .string (⟨#[]⟩ : ByteArray), .string (⟨#[]⟩ : ByteArray)]) ?_ 5 _ rfl; exact bU BK726.out⟩, ⟨by exact wS2 HB.out GE724.out GE726.out⟩⟩
             ·rw [if_neg c37] at H
              exact absurd H (by simp)
            ·rw [if_neg c36] at H
             exact absurd H (by simp)
           ·rw [if_neg c35] at H
            exact absurd H (by simp)
          ·rw [if_neg c33] at H
           have c33b0 := beq_eq_false_iff_ne.mpr c33
           have c33b1 := bne_iff_ne.mpr c33
           have H' := aS H
           clear H
           have p729 : 0 ≤ (a1 : Int) := of_decide_eq_true jC
           have q729 : a1 < (l0.length : Int) := of_decide_eq_true jC
           obtain ⟨ad729, e729, hx729_0⟩ := Kd.at_int HR0.out a1 p729 q729
           cases e729
           try replace hx729_0 := (HB.out.cell (World.block_lt_of_cell? w _ hx729_0)).trans hx729_0
           replace p729 := eq_true p729
           replace q729 := eq_true q729
           go_wp2
           go_meet
           case rel => exact ⟨_, (wrap64 (a1 + (wrap64 (1 + (wrap64 (rd l0 a1)))))), (true), (x725000_26), (x725001_26), (x725002_26), (x725003_26), (x725004_26), (x725005_26), (0), ((⟨#[]⟩ : ByteArray)), ((⟨#[]⟩ : ByteArray)), jB, jB, H', ⟨by have := HJ4.out; have := HJ26.out; first | omega | exact Nat.le_refl _⟩, ⟨by exact bU BK724.out⟩, ⟨by exact bU BK726.out⟩, ⟨by exact wS2 HB.out GE724.out GE726.out⟩⟩
         ·rw [if_neg c32] at H
          exact absurd H (by simp)
        ·rw [if_neg c31] at H
         exact absurd H (by simp)
     ·rw [if_neg c26] at H
      have c26b0 := beq_eq_false_iff_ne.mpr c26
      have c26b1 := bne_iff_ne.mpr c26
      obtain ⟨⟨t735, t736, t737⟩, A43, H⟩ := bM H
      try dsimp only at H
      have HC44 := aS H
      clear H
      go_upto_if 53 with (first | ((with_reducible refine gate_callee (f := 71) rfl ?_); refine goesL_ (some 48) rfl rfl Tryd.func71 jK rfl #[.slice A0 l0.length c0, .int .i64 a1] rfl jA ?_; (with_reducible refine (impl_GetName.calls kj4 _ _ l0 a1 t735 t736 t737 _ ?side1 ?side2 A43.out).mono ?_); (case side1 => exact Kd.C_below HR0.out (wS2 HB.out GE724.out GE726.out)); (case side2 => exact HC0.out); rintro e w45 ⟨rfl, hb⟩; refine ⟨_, rfl, ?_⟩; replace BK724 := aS (blk_below (g := gb724) (o := .cells #[.string x725000_4, .int .i64 x725001_4, .int .i64 x725002_4, .int .i64 x725003_4, .string x725004_4, .string x725005_4] 25 (0, 0)) (by (iterate 6 ((with_reducible repeat (first | refine blk_drewN ?_ _ | refine blk_drew ?_ | refine blk_alloc ?_ _)); refine blk_far ?_ NB724_726.out _)); exact bU BK724.out) hb); replace BK726 := aS (blk_below (g := gb726) (o := .cells #[.string (⟨#[]⟩ : ByteArray), .int .i64 a3, .int .i64 0, .int .i64 0, .string (⟨#[]⟩ : ByteArray), .string (⟨#[]⟩ : ByteArray)] 25 (0, 0)) (by (with_reducible repeat (first | refine blk_drewN ?_ _ | refine blk_drew ?_ | refine blk_alloc ?_ _)); refine blk_put_6 (.string (⟨#[]⟩ : ByteArray)) (.int .i64 0) (.int .i64 0) (.int .i64 0) (.string (⟨#[]⟩ : ByteArray)) (.string (⟨#[]⟩ : ByteArray)) ?_; exact bU BK726.out) hb); replace HB := aS (below_step (wS2 HB.out GE724.out GE726.out) hb); clear hb))
      (try simp only [Act.put, List.setIfInBounds_toArray, List.set_cons_zero, List.set_cons_succ])
      go_cut [] (fun wc => ∃ (kq : Nat) (x725000_43 : ByteArray) (x725001_43 : Int) (x725002_43 : Int) (x725003_43 : Int) (x725004_43 : ByteArray) (x725005_43 : ByteArray), Aside0 (impl_GetData.j4 kq l0 a1 a2 a3 true t735 t736 (⟨#[]⟩ : ByteArray) a3 0 0 (⟨#[]⟩ : ByteArray) (⟨#[]⟩ : ByteArray) = some (r1, r2, r3, r4, r5, r6, r7)) ∧ Aside0 (kq ≤ kj4) ∧ Aside0 (wc.heap[gb724]? = some (.cells #[.string x725000_43, .int .i64 x725001_43, .int .i64 x725002_43, .int .i64 x725003_43, .string x725004_43, .string x725005_43] 25 (0, 0))) ∧ Aside0 (wc.heap[gb726]? = some (.cells #[.string (⟨#[]⟩ : ByteArray), .int .i64 a3, .int .i64 0, .int .i64 0, .string (⟨#[]⟩ : ByteArray), .string (⟨#[]⟩ : ByteArray)] 25 (0, 0))) ∧ Aside0 (Below w.heap.size w wc))
      case first =>
       have H := HC44.out
       clear HC44
       by_cases c46 : t737 = 0
       ·rw [if_pos c46] at H
        have c46b0 := beq_iff_eq.mpr c46
        have c46b1 := bne_eq_false_iff_eq.mpr c46
        clear c46
        (first | rw [c46b0] | (simp only [i64_w, i32_w]; rw [c46b0]) | skip)
        have H' := aS H
        clear H
        go_wp2
        go_meet
        case rel => exact ⟨_, (x725000_4), (x725001_4), (x725002_4), (x725003_4), (x725004_4), (x725005_4), H', ⟨by have := HJ4.out; first | omega | exact Nat.le_refl _⟩, ⟨by exact bU BK724.out⟩, ⟨by exact bU BK726.out⟩, ⟨by exact wS2 HB.out GE724.out GE726.out⟩⟩
       ·rw [if_neg c46] at H
        have c46b0 := beq_eq_false_iff_ne.mpr c46
        have c46b1 := bne_iff_ne.mpr c46
        (first | rw [c46b0] | (simp only [i64_w, i32_w]; rw [c46b0]) | skip)
        simp only [Option.some.injEq, Prod.mk.injEq] at H
        obtain ⟨rfl, rfl, rfl, rfl, rfl, rfl, rfl⟩ := H
        have hnb47 := NB724_726.out
        have hnc47 := NB726_724.out
        have hcz48 := cells6f BK724.out
        go_wp2
        refine bodyPost_ret (results_ct rfl _ _ gb724 25 #[.string (⟨#[]⟩ : ByteArray), .int .i64 0, .int .i64 0, .int .i64 0, .string (⟨#[]⟩ : ByteArray), .string (⟨#[]⟩ : ByteArray)] (0, 0) _ rfl (by (with_reducible repeat (first | refine blk_drewN ?_ _ | refine blk_drew ?_ | refine blk_alloc ?_ _)); refine blk_put_6 (.string x725000_4) (.int .i64 x725001_4) (.int .i64 x725002_4) (.int .i64 x725003_4) (.string x725004_4) (.string x725005_4) ?_; exact bU BK724.out) Tryd.underlying25 rfl jK) rfl ?_
        exact ⟨jE, by exact wS2 HB.out GE724.out GE726.out⟩
      case rest =>
       clear HC44
       try clear c1
       try clear c2
       try clear p2
       try clear c3
       try clear q3
       try clear c4
       try clear hcv4
       try clear p6
       try clear c7
       try clear p7
       try clear q7
       try clear hx7
       try clear c8
       try clear c8b0
       try clear c9
       try clear c12
       try clear c12b0
       try clear c13
       try clear c16
       try clear c17
       try clear c20
       try clear c22
       try clear c22b0
       try clear c22b1
       try clear c24
       try clear c26
       try clear c26b0
       try clear c26b1
       try clear c28
       try clear c28b0
       try clear c28b1
       try clear c29
       try clear c31
       try clear c31b0
       try clear c32
       try clear c32b0
       try clear c33
       try clear c33b0
       try clear c33b1
       try clear c35
       try clear c35b0
       try clear c35b1
       try clear c36
       try clear c36b0
       try clear c36b1
       try clear c37
       try clear c37b0
       try clear c37b1
       try clear c39
       try clear q39
       try clear hcv40
       try clear c41
       try clear c46
       try clear c46b0
       try clear c46b1
       try clear c47
       try clear hcz10
       try clear hcz14
       try clear hcz17
       try clear hcz21
       try clear hcz25
       try clear hcz30
       try clear hcz42
       try clear hcz48
       try clear hx729_0
       try clear p2
       try clear p6
       try clear p729
       try clear q039
       try clear q39
       try clear q729
       obtain ⟨kq, x725000_43, x725001_43, x725002_43, x725003_43, x725004_43, x725005_43, HA, HJ43, BK724, BK726, HB⟩ := hcut
       cases kq with
       | zero => exact absurd HA.out (by simp [impl_GetData.j4])
       | succ kj43 =>
        have H := HA.out
        clear HA
        simp only [impl_GetData.j4] at H
        by_cases c49 : a3 = 6
        ·rw [if_pos c49] at H
         have c49b0 := beq_iff_eq.mpr c49
         have c49b1 := bne_eq_false_iff_eq.mpr c49
         clear c49
         obtain ⟨⟨t738, t739⟩, A50, H⟩ := bM H
         try dsimp only at H
         have H' := aS H
         clear H
         have hnb51 := NB726_724.out
         have hnc51 := NB724_726.out
         have hcz52 := cells6f BK726.out
         go_wp2_with (first | ((with_reducible refine gate_callee (f := 73) rfl ?_); refine goesL_ (some 64) rfl rfl Tryd.func73 jK rfl #[.slice A0 l0.length c0, .int .i64 t736] rfl jA ?_; (with_reducible refine (impl_Get4.calls kj43 _ _ l0 t736 t738 t739 _ ?side1 ?side2 A50.out).mono ?_); (case side1 => exact Kd.C_below HR0.out (wS2 HB.out GE724.out GE726.out)); (case side2 => exact HC0.out); rintro e w' ⟨rfl, ⟨nd, rfl⟩⟩; refine ⟨_, rfl, ?_⟩) | ((with_reducible show Oper.upon _ { dst := _, op := .load 25 _, type := 25, pos := _, after := _, guard := _ } _ _ _ _); simp (maxDischargeDepth := 20) [go_sem, *]))
         go_meet
         case rel => exact ⟨_, (wrap64 (t736 + 4)), (t739), (x725000_43), (x725001_43), (x725002_43), (x725003_43), (x725004_43), (x725005_43), (t738), (t735), ((⟨#[]⟩ : ByteArray)), jB, jB, H', ⟨by have := HJ4.out; have := HJ43.out; first | omega | exact Nat.le_refl _⟩, ⟨by (with_reducible repeat (first | refine blk_drewN ?_ _ | refine blk_drew ?_ | refine blk_alloc ?_ _)); refine blk_far ?_ NB724_726.out _; (with_reducible repeat (first | refine blk_drewN ?_ _ | refine blk_drew ?_ | refine blk_alloc ?_ _)); refine blk_far ?_ NB724_726.out _; exact bU BK724.out⟩, ⟨by (with_reducible repeat (first | refine blk_drewN ?_ _ | refine blk_drew ?_ | refine blk_alloc ?_ _)); refine blk_put (cs := #[.string (⟨#[]⟩ : ByteArray), .int .i64 a3, .int .i64 0, .int .i64 0, .string t735, .string (⟨#[]⟩ : ByteArray)]) ?_ 3 _ rfl; (with_reducible repeat (first | refine blk_drewN ?_ _ | refine blk_drew ?_ | refine blk_alloc ?_ _)); refine blk_put (cs := #[.string (⟨#[]⟩ : ByteArray), .int .i64 a3, .int .i64 0, .int .i64 0, .string (⟨#[]⟩ : ByteArray), .string (⟨#[]⟩ : ByteArray)]) ?_ 4 _ rfl; exact bU BK726.out⟩, ⟨by exact wS2 HB.out GE724.out GE726.out⟩⟩
        ·rw [if_neg c49] at H
         have c49b0 := beq_eq_false_iff_ne.mpr c49
         have c49b1 := bne_iff_ne.mpr c49
         have H' := aS H
         clear H
         have hnb53 := NB726_724.out
         have hnc53 := NB724_726.out
         have hcz54 := cells6f BK726.out
         go_wp2
         go_meet
         case rel => exact ⟨_, (t736), (true), (x725000_43), (x725001_43), (x725002_43), (x725003_43), (x725004_43), (x725005_43), (0), (t735), ((⟨#[]⟩ : ByteArray)), jB, jB, H', ⟨by have := HJ4.out; have := HJ43.out; first | omega | exact Nat.le_refl _⟩, ⟨by (with_reducible repeat (first | refine blk_drewN ?_ _ | refine blk_drew ?_ | refine blk_alloc ?_ _)); refine blk_far ?_ NB724_726.out _; exact bU BK724.out⟩, ⟨by (with_reducible repeat (first | refine blk_drewN ?_ _ | refine blk_drew ?_ | refine blk_alloc ?_ _)); refine blk_put (cs := #[.string (⟨#[]⟩ : ByteArray), .int .i64 a3, .int .i64 0, .int .i64 0, .string (⟨#[]⟩ : ByteArray), .string (⟨#[]⟩ : ByteArray)]) ?_ 4 _ rfl; exact bU BK726.out⟩, ⟨by exact wS2 HB.out GE724.out GE726.out⟩⟩
   case rest =>
    clear HC18
    try clear c1
    try clear c2
    try clear p2
    try clear c3
    try clear q3
    try clear c4
    try clear hcv4
    try clear c5
    try clear p6
    try clear c7
    try clear p7
    try clear q7
    try clear hx7
    try clear c8
    try clear c8b0
    try clear c9
    try clear c12
    try clear c12b0
    try clear c13
    try clear c16
    try clear c17
    try clear c20
    try clear c22
    try clear c22b0
    try clear c22b1
    try clear c24
    try clear c26
    try clear c26b0
    try clear c26b1
    try clear c28
    try clear c28b0
    try clear c28b1
    try clear c29
    try clear c31
    try clear c31b0
    try clear c32
    try clear c32b0
    try clear c33
    try clear c33b0
    try clear c33b1
    try clear c35
    try clear c35b0
    try clear c35b1
    try clear c36
    try clear c36b0
    try clear c36b1
    try clear c37
    try clear c37b0
    try clear c37b1
    try clear c39
    try clear q39
    try clear hcv40
    try clear c41
    try clear c46
    try clear c46b0
    try clear c46b1
    try clear c47
    try clear c49
    try clear c49b0
    try clear c49b1
    try clear c51
    try clear c53
    try clear hcz10
    try clear hcz14
    try clear hcz17
    try clear hcz21
    try clear hcz25
    try clear hcz30
    try clear hcz42
    try clear hcz48
    try clear hcz52
    try clear hcz54
    try clear hx729_0
    try clear p2
    try clear p6
    try clear p7
    try clear p729
    try clear q039
    try clear q3
    try clear q39
    try clear q7
    try clear q729
    obtain ⟨kq, x11_17, x12_17, x725000_17, x725001_17, x725002_17, x725003_17, x725004_17, x725005_17, x727003_17, x727004_17, x727005_17, rfl, rfl, HA, HJ17, BK724, BK726, HB⟩ := hcut
    cases kq with
    | zero => exact absurd HA.out (by simp [impl_GetData.j5])
    | succ kj17 =>
     have H := HA.out
     clear HA
     simp only [impl_GetData.j5] at H
     by_cases c55 : x12_17 = true
     ·subst c55
      rw [if_pos rfl] at H
      by_cases c56 : x11_17 = (wrap64 (a1 + a2))
      ·rw [if_pos c56] at H
       have c56b0 := beq_iff_eq.mpr c56
       have c56b1 := bne_eq_false_iff_eq.mpr c56
       clear c56
       simp only [Option.some.injEq, Prod.mk.injEq] at H
       obtain ⟨rfl, rfl, rfl, rfl, rfl, rfl, rfl⟩ := H
       have hnb57 := NB726_724.out
       have hnc57 := NB724_726.out
       have hcz58 := cells6f BK726.out
       have hcz59 := cells6f BK724.out
       go_wp2
       refine bodyPost_ret (results_ct rfl _ _ gb724 25 #[.string (⟨#[]⟩ : ByteArray), .int .i64 a3, .int .i64 0, .int .i64 x727003_17, .string x727004_17, .string x727005_17] (0, 0) _ rfl (by (with_reducible repeat (first | refine blk_drewN ?_ _ | refine blk_drew ?_ | refine blk_alloc ?_ _)); refine blk_put_6 (.string x725000_17) (.int .i64 x725001_17) (.int .i64 x725002_17) (.int .i64 x725003_17) (.string x725004_17) (.string x725005_17) ?_; exact bU BK724.out) Tryd.underlying25 rfl jK) rfl ?_
       exact ⟨jE, by exact wS2 HB.out GE724.out GE726.out⟩
      ·rw [if_neg c56] at H
       have c56b0 := beq_eq_false_iff_ne.mpr c56
       have c56b1 := bne_iff_ne.mpr c56
       simp only [Option.some.injEq, Prod.mk.injEq] at H
       obtain ⟨rfl, rfl, rfl, rfl, rfl, rfl, rfl⟩ := H
       have hnb60 := NB724_726.out
       have hnc60 := NB726_724.out
       have hcz61 := cells6f BK724.out
       go_wp2
       refine bodyPost_ret (results_ct rfl _ _ gb724 25 #[.string (⟨#[]⟩ : ByteArray), .int .i64 0, .int .i64 0, .int .i64 0, .string (⟨#[]⟩ : ByteArray), .string (⟨#[]⟩ : ByteArray)] (0, 0) _ rfl (by (with_reducible repeat (first | refine blk_drewN ?_ _ | refine blk_drew ?_ | refine blk_alloc ?_ _)); refine blk_put_6 (.string x725000_17) (.int .i64 x725001_17) (.int .i64 x725002_17) (.int .i64 x725003_17) (.string x725004_17) (.string x725005_17) ?_; exact bU BK724.out) Tryd.underlying25 rfl jK) rfl ?_
       exact ⟨jE, by exact wS2 HB.out GE724.out GE726.out⟩
     ·replace c55 := Bool.eq_false_iff.mpr c55
      subst c55
      rw [if_neg Bool.false_ne_true] at H
      simp only [Option.some.injEq, Prod.mk.injEq] at H
      obtain ⟨rfl, rfl, rfl, rfl, rfl, rfl, rfl⟩ := H
      have hnb62 := NB724_726.out
      have hnc62 := NB726_724.out
      have hcz63 := cells6f BK724.out
      go_wp2
      refine bodyPost_ret (results_ct rfl _ _ gb724 25 #[.string (⟨#[]⟩ : ByteArray), .int .i64 0, .int .i64 0, .int .i64 0, .string (⟨#[]⟩ : ByteArray), .string (⟨#[]⟩ : ByteArray)] (0, 0) _ rfl (by (with_reducible repeat (first | refine blk_drewN ?_ _ | refine blk_drew ?_ | refine blk_alloc ?_ _)); refine blk_put_6 (.string x725000_17) (.int .i64 x725001_17) (.int .i64 x725002_17) (.int .i64 x725003_17) (.string x725004_17) (.string x725005_17) ?_; exact bU BK724.out) Tryd.underlying25 rfl jK) rfl ?_
      exact ⟨jE, by exact wS2 HB.out GE724.out GE726.out⟩

/-! ### impl_Get2: function 72 -/
def impl_Get2.f (k : Nat) (l0 : List Int) (a1 : Int) : Option (Int × Bool) := (impl_getBytes.f k l0 a1 2 65535).bind fun bt740 => (some (bt740.1, bt740.2))
theorem impl_Get2.mono : ∀ a0 a1 k, LeO (impl_Get2.f k a0 a1) (impl_Get2.f (k + 1) a0 a1) := by
 intro a0 a1 k
 unfold impl_Get2.f
 repeat' first
   | (with_reducible first | exact impl_getBytes.mono _ _ _ _ _ | exact LeO.refl _ | exact LeO.none _ | refine LeO.ite ?_ ?_ | refine LeO.bind ?_ (fun _ => ?_))
   | exact impl_getBytes.mono _ _ _ _ _
   | exact LeO.none _
   | refine LeO.ite ?_ ?_
   | refine LeO.bind ?_ (fun _ => ?_)
set_option maxHeartbeats 8000000 in
set_option maxRecDepth 100000 in
theorem impl_Get2.calls (k : Nat) (A0 : Option Addr) (c0 : Nat) (l0 : List Int) (a1 : Int) (r1 : Int) (r2 : Bool) (w : World) (hr0 : Kd.C (Kd.int .u8) w A0 l0.length l0) (hc0 : l0.length ≤ c0) (h : impl_Get2.f k l0 a1 = some (r1, r2)) :
  Calls Tryd.prog 72 #[.slice A0 l0.length c0, .int .i64 a1] w fun e w' => e = .returned (.tuple #[.int .i64 r1, .bool r2]) ∧ Drawn0 w w' := by
 have HR0 := aS hr0
 have HC0 := aS hc0
 clear hr0 hc0
 have H : ((impl_getBytes.f k l0 a1 2 65535).bind fun bt740 => (some (bt740.1, bt740.2))) = some (r1, r2) := h
 clear h
 obtain ⟨⟨t740, t741⟩, A3, H⟩ := bM H
 try dsimp only at H
 simp only [Option.some.injEq, Prod.mk.injEq] at H
 obtain ⟨rfl, rfl⟩ := H
 go_enter Tryd.func72, Tryd.ntmps72
 go_wp2_with (first | ((with_reducible refine gate_callee (f := 128) rfl ?_); refine goesL_ (some 8) rfl rfl Tryd.func128 jK rfl #[.slice A0 l0.length c0, .int .i64 a1, .int .i64 2, .int .i64 65535] rfl jA ?_; (with_reducible refine (impl_getBytes.calls k _ _ l0 a1 2 65535 t740 t741 _ ?side1 ?side2 A3.out).mono ?_); (case side1 => exact cU (HR0.out)); (case side2 => exact HC0.out); rintro e w' ⟨rfl, ⟨nd, rfl⟩⟩; refine ⟨_, rfl, ?_⟩))
 go_ret2
 exact ⟨by first | rfl | (simp; done) | (simp [*]; done) | (simp [X.bne_nil, X.beq_nil]; done) | (simp [*, X.bne_nil, X.beq_nil]; done) | (simp [X.bne_nil, X.beq_nil]; done), by repeat (first | exact Drawn0.refl _ | apply Drawn0.step)⟩

end Go.Proofs.YtdigilidomimdaaDoor.Pr
