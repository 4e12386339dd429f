-- Written for this claim by a program of this session (wip/tool/pr.py, over the kit's printer).
-- half
import Derived.Test.YtdigilidomimdaaDoorSw10
import Derived.Test.YtdigilidomimdaaDoorPrx0
import Derived.Test.YtdigilidomimdaaDoorPrx6
import Derived.Test.YtdigilidomimdaaDoorPrx7
import Derived.Test.YtdigilidomimdaaDoorPrx8
import Derived.Test.YtdigilidomimdaaDoorPrx10
namespace Go.Proofs.YtdigilidomimdaaDoor.Pr
open Go.RowKit Go.Proofs.YtdigilidomimdaaDoorW.PrintWords Go.Proofs.YtdigilidomimdaaDoorW.PrintLast Go.Proofs.YtdigilidomimdaaDoorW.PrintMore
attribute [local go_sem] max2_int min2_int max_two min_two max_three min_three max_four min_four   -- for this text's walks alone
set_option linter.unusedVariables false
set_option linter.unusedSimpArgs false

/-! ### slices_SortStableFunc_impl_Record: function 106 -/
/-- r is l, sorted by what the comparison hands back at the members of l. -/
def slices_SortStableFunc_impl_Record.g (l r : List S25) (cf : S25 → S25 → Int) : Prop :=
 Go.Sort.SWO (Go.Proofs.ltOf cf) ∧ (∀ x y, Go.Proofs.ltOf cf x y = false → Go.Proofs.ltOf cf y x = false → x = y) ∧ (∃ k0, ∀ k, k0 ≤ k → ∀ x, x ∈ l → ∀ y, y ∈ l → impl_byRecord.f k x.f0 x.f1 x.f2 x.f3 x.f4 x.f5 y.f0 y.f1 y.f2 y.f3 y.f4 y.f5 = some (cf x y)) ∧ l.length < 1152921504606846976 ∧ r = l.mergeSort (fun x y => !Go.Proofs.ltOf cf y x)
open Classical in
noncomputable def slices_SortStableFunc_impl_Record.f (_k : Nat) (l0 : List (S25)) : Option ((List (S25))) := if h : ∃ (r : List S25) (cf : S25 → S25 → Int), slices_SortStableFunc_impl_Record.g l0 r cf then some h.choose else none
theorem slices_SortStableFunc_impl_Record.told {k : Nat} {l r : List S25} (h : slices_SortStableFunc_impl_Record.f k l = some r) : ∃ cf, slices_SortStableFunc_impl_Record.g l r cf := by
 unfold slices_SortStableFunc_impl_Record.f at h
 by_cases q : ∃ (r : List S25) (cf : S25 → S25 → Int), slices_SortStableFunc_impl_Record.g l r cf
 ·rw [dif_pos q] at h
  have e := Option.some.inj h
  rw [← e]
  exact q.choose_spec
 ·rw [dif_neg q] at h
  cases h
theorem slices_SortStableFunc_impl_Record.some_ {l r : List S25} {cf : S25 → S25 → Int} (h : slices_SortStableFunc_impl_Record.g l r cf) : ∃ r', (∀ k, slices_SortStableFunc_impl_Record.f k l = some r') ∧ ∃ cf', slices_SortStableFunc_impl_Record.g l r' cf' := by
 have q : ∃ (r : List S25) (cf : S25 → S25 → Int), slices_SortStableFunc_impl_Record.g l r cf := ⟨r, cf, h⟩
 refine ⟨q.choose, fun k => ?_, q.choose_spec⟩
 unfold slices_SortStableFunc_impl_Record.f
 rw [dif_pos q]
theorem slices_SortStableFunc_impl_Record.mono : ∀ a0 k, LeO (slices_SortStableFunc_impl_Record.f k a0) (slices_SortStableFunc_impl_Record.f (k + 1) a0) := fun _ _ => LeO.refl _
def slices_SortStableFunc_impl_Record.enc (x : S25) : List Value := [.string x.f0, .int .i64 x.f1, .int .i64 x.f2, .int .i64 x.f3, .string x.f4, .string x.f5]
instance : Inhabited S25 := ⟨z25⟩
set_option maxHeartbeats 8000000 in
set_option maxRecDepth 100000 in
theorem slices_SortStableFunc_impl_Record.calls (k : Nat) (P0_ : Nat → Prop) (u9000_ : Value) (l0 : List (S25)) (r : List (S25)) (w0 w : World) (hB : Below w0.heap.size w0 w) (ho0 : Kd.R k25 25 w w0.heap.size P0_ u9000_ l0) (h : slices_SortStableFunc_impl_Record.f k l0 = some r) :
  Calls Tryd.prog 106 #[u9000_, .func (.func 107) #[] #[]] w fun e w' => e = .returned (.tuple #[]) ∧ Kd.R k25 25 w' w0.heap.size (fun k_ => (P0_ k_ ∨ w.heap.size ≤ k_)) u9000_ r ∧ Below w0.heap.size w0 w' ∧ Kept w w' (fun k_ => P0_ k_) := by
 obtain ⟨cf, hS, anti, ⟨kc, hcf⟩, hsz, rfl⟩ := slices_SortStableFunc_impl_Record.told h
 have eg : ∀ args w, (callFunc 107 args).run Tryd.prog w = .ok (.enter 107 args) w := enters_of Tryd.func107 (by kernel_rfl) rfl
 have hcmp : Go.Proofs.YtdigilidomimdaaDoor.Sw.CmpB Tryd.prog 107 #[] slices_SortStableFunc_impl_Record.enc (fun x => x ∈ l0) cf := fun W x y hx hy =>
  impl_byRecord.calls kc x.f0 x.f1 x.f2 x.f3 x.f4 x.f5 y.f0 y.f1 y.f2 y.f3 y.f4 y.f5 (cf x y) W (hcf kc (Nat.le_refl _) x hx y hy)
 have c := Go.Proofs.YtdigilidomimdaaDoor.Sw.R_sort Go.Proofs.YtdigilidomimdaaDoor.Sw.bareT Tryd.func106 k25 slices_SortStableFunc_impl_Record.enc rfl (fun w base okb x cs => ⟨fun h => k25_openM h, fun h => by rw [h]; exact k25_mkM w base okb x⟩) (fun _ => rfl) (fun x v hv => by simp only [slices_SortStableFunc_impl_Record.enc, List.mem_cons, List.not_mem_nil, or_false] at hv; rcases hv with rfl | rfl | rfl | rfl | rfl | rfl <;> rfl) (by decide) 107 #[] (fun x => x ∈ l0) cf eg hcmp hS anti 25 w0.heap.size u9000_ l0 w (Kd.R_mono ho0 (fun _ _ => trivial)) (fun _ hx => hx) hsz hB.size
 refine c.mono fun e w' ⟨he, hr, hb, hs, hk⟩ => ⟨he, Kd.R_reok rfl hr (fun k_ e_ => .inl (ho0.1 k_ e_)), ⟨hb.os.trans hB.os, hb.tape.trans hB.tape, hb.output.trans hB.output, Nat.le_trans hB.size hs, fun i hi => (hb.block i hi).trans (hB.block i hi)⟩, hs, fun i hi hn => hk i hi (fun e_ => hn (ho0.1 i e_))⟩

/-! ### impl_SortRecords: function 48 -/
noncomputable def impl_SortRecords.f (k : Nat) (l0 : List (S25)) : Option ((List (S25))) := (slices_Clone_impl_Record.f l0).bind fun t431 => ((slices_SortStableFunc_impl_Record.f k t431).bind fun t434 => (some t434))
theorem impl_SortRecords.mono : ∀ a0 k, LeO (impl_SortRecords.f k a0) (impl_SortRecords.f (k + 1) a0) := by
 intro a0 k
 unfold impl_SortRecords.f
 repeat' first
   | (with_reducible first | exact slices_SortStableFunc_impl_Record.mono _ _ | exact LeO.refl _ | exact LeO.none _ | refine LeO.ite ?_ ?_ | refine LeO.bind ?_ (fun _ => ?_))
   | refine LeO.ite ?_ ?_
   | refine LeO.bind ?_ (fun _ => ?_)
set_option maxHeartbeats 8000000 in
set_option maxRecDepth 100000 in
theorem impl_SortRecords.calls (k : Nat) (A0 : Option Addr) (c0 : Nat) (l0 : List (S25)) (r : List (S25)) (w : World) (hr0 : Kd.C k25 w A0 l0.length l0) (hc0 : l0.length ≤ c0) (h : impl_SortRecords.f k l0 = some r) :
  Calls Tryd.prog 48 #[.slice A0 l0.length c0] w fun e w' => ∃ v0_ : Value, e = .returned (v0_) ∧ Kd.R k25 25 w' w.heap.size (fun _ => True) v0_ r ∧ Below w.heap.size w w' := by
 have HR0 := aS hr0
 have HC0 := aS hc0
 clear hr0 hc0
 have HB := aS (Below.refl w.heap.size w)
 have H : ((slices_Clone_impl_Record.f l0).bind fun t431 => ((slices_SortStableFunc_impl_Record.f k t431).bind fun t434 => (some t434))) = some r := h
 clear h
 obtain ⟨t431, A2, H⟩ := bM H
 try dsimp only at H
 obtain ⟨t434, A3, H⟩ := bM H
 try dsimp only at H
 obtain rfl := Option.some.inj H
 go_enter Tryd.func48, Tryd.ntmps48
 go_wp2_with (first | ((with_reducible refine gate_callee (f := 105) rfl ?_); refine gL (some 5) Tryd.func105 #[.slice A0 l0.length c0] ?_; (with_reducible refine (slices_Clone_impl_Record.calls _ _ l0 t431 _ ?side1 ?side2 A2.out).mono ?_); (case side1 => exact cU (HR0.out)); (case side2 => exact HC0.out); rintro e w4 ⟨v432, rfl, ho0, hb⟩; refine ⟨_, rfl, ?_⟩; have HO433 := aS (Kd.R_lower ho0 (below_size (wU HB.out))); replace HB := aS (below_step (wU HB.out) hb); clear hb; (try clear ho0); obtain ⟨Ao5, co5, eo5⟩ := Kd.R_slice HO433.out; subst eo5) | ((with_reducible refine gate_callee (f := 106) rfl ?_); refine gL (some 7) Tryd.func106 #[.slice Ao5 t431.length co5, .func (.func 107) #[] #[]] ?_; (with_reducible refine (slices_SortStableFunc_impl_Record.calls k (fun k_ => some k_ = (.slice Ao5 t431.length co5 : Value).ownBlock) (.slice Ao5 t431.length co5) t431  t434 w _ ?side1 ?side2 A3.out).mono ?_); (case side1 => exact wU HB.out); (case side2 => exact Kd.R_tight rfl HO433.out); rintro e w6 ⟨rfl, hy0, hb, hkp⟩; refine ⟨_, rfl, ?_⟩; replace HO433 := aS (Kd.R_reok rfl hy0 (fun k_ e_ => HO433.out.1 k_ e_)); replace HB := aS (hb); (try clear hb); (try clear hkp); (try clear hy0)))
 go_ret
 exact ⟨_, jE, by exact rU HO433.out, by exact wU HB.out⟩

/-! ### impl_LessRecord: function 49 -/
def impl_LessRecord.f (k : Nat) (a0_0 : ByteArray) (a0_1 : Int) (a0_2 : Int) (a0_3 : Int) (a0_4 : ByteArray) (a0_5 : ByteArray) (a1_0 : ByteArray) (a1_1 : Int) (a1_2 : Int) (a1_3 : Int) (a1_4 : ByteArray) (a1_5 : ByteArray) : Option (Bool) := (impl_byRecord.f k a0_0 a0_1 a0_2 a0_3 a0_4 a0_5 a1_0 a1_1 a1_2 a1_3 a1_4 a1_5).bind fun t437 => (some (decide (t437 < 0)))
theorem impl_LessRecord.mono : ∀ a0 a1 a2 a3 a4 a5 a6 a7 a8 a9 a10 a11 k, LeO (impl_LessRecord.f k a0 a1 a2 a3 a4 a5 a6 a7 a8 a9 a10 a11) (impl_LessRecord.f (k + 1) a0 a1 a2 a3 a4 a5 a6 a7 a8 a9 a10 a11) := by
 intro a0 a1 a2 a3 a4 a5 a6 a7 a8 a9 a10 a11 k
 unfold impl_LessRecord.f
 repeat' first
   | (with_reducible first | exact impl_byRecord.mono _ _ _ _ _ _ _ _ _ _ _ _ _ | exact LeO.refl _ | exact LeO.none _ | refine LeO.ite ?_ ?_ | refine LeO.bind ?_ (fun _ => ?_))
   | refine LeO.ite ?_ ?_
   | refine LeO.bind ?_ (fun _ => ?_)
set_option maxHeartbeats 8000000 in
set_option maxRecDepth 100000 in
theorem impl_LessRecord.calls (k : Nat) (a0_0 : ByteArray) (a0_1 : Int) (a0_2 : Int) (a0_3 : Int) (a0_4 : ByteArray) (a0_5 : ByteArray) (a1_0 : ByteArray) (a1_1 : Int) (a1_2 : Int) (a1_3 : Int) (a1_4 : ByteArray) (a1_5 : ByteArray) (r : Bool) (w : World) (h : impl_LessRecord.f k a0_0 a0_1 a0_2 a0_3 a0_4 a0_5 a1_0 a1_1 a1_2 a1_3 a1_4 a1_5 = some r) :
  Calls Tryd.prog 49 #[.agg #[.string a0_0, .int .i64 a0_1, .int .i64 a0_2, .int .i64 a0_3, .string a0_4, .string a0_5], .agg #[.string a1_0, .int .i64 a1_1, .int .i64 a1_2, .int .i64 a1_3, .string a1_4, .string a1_5]] w fun e w' => e = .returned (.bool r) ∧ Below w.heap.size w w' := by
 have hu25 := Tryd.underlying25
 have HB := aS (Below.refl w.heap.size w)
 have H : ((impl_byRecord.f k a0_0 a0_1 a0_2 a0_3 a0_4 a0_5 a1_0 a1_1 a1_2 a1_3 a1_4 a1_5).bind fun t437 => (some (decide (t437 < 0)))) = some r := h
 clear h
 obtain ⟨t437, A3, H⟩ := bM H
 try dsimp only at H
 obtain rfl := Option.some.inj H
 go_enter Tryd.func49, Tryd.ntmps49
 go_wp2_with (first | ((with_reducible refine gate_dst (N := 2) rfl ?_); refine xB 2 #[.string a0_0, .int .i64 a0_1, .int .i64 a0_2, .int .i64 a0_3, .string a0_4, .string a0_5] 25 ?_; intro gb435 hg w4 hbox hb; have BK435 := aS (hbox); have GW435 := gW hg (wU HB.out); have GE435 := gW hg (wU HB.out); replace HB := aS (below_step (wU HB.out) hb); clear hb hbox hg) | ((with_reducible refine gate_dst (N := 3) rfl ?_); refine xB 3 #[.string a1_0, .int .i64 a1_1, .int .i64 a1_2, .int .i64 a1_3, .string a1_4, .string a1_5] 25 ?_; intro gb436 hg w5 hbox hb; have BK436 := aS (hbox); have GW436 := gW hg (wS1 HB.out GE435.out); have GE436 := gW hg (wS1 HB.out GE435.out); replace HB := aS (below_step (wS1 HB.out GE435.out) hb); have NB435_436 := nB hg BK435; have NB436_435 := nS NB435_436; replace BK435 := bB BK435 hb; clear hb hbox hg; have hnb6 := NB435_436.out; have hnc6 := NB436_435.out; have hcz7 := cells6f BK435.out; have hcz8 := cells6f BK436.out) | (go_at_call 107; (with_reducible refine (impl_byRecord.calls k a0_0 a0_1 a0_2 a0_3 a0_4 a0_5 a1_0 a1_1 a1_2 a1_3 a1_4 a1_5 t437 _ A3.out).mono ?_); rintro e w9 ⟨rfl, hb⟩; replace BK435 := bB BK435 hb; replace BK436 := bB BK436 hb; replace HB := aS (below_step (wS2 HB.out GE435.out GE436.out) hb); clear hb))
 go_ret
 exact ⟨jE, by exact wS2 HB.out GE435.out GE436.out⟩

/-! ### spec_Labels: function 121 -/
mutual
def spec_Labels.l0 : Nat → ByteArray → List ByteArray → Int → Int → Option (List ByteArray)
 | 0, _, _, _, _ => none
 | k + 1, x0, x3, x4, x5 => if x5 ≤ (x0.size : Int) then (spec_Labels.j1 k x0 x3 x4 x5 (x0.toList != ([] : List UInt8))) else (spec_Labels.j1 k x0 x3 x4 x5 false)
def spec_Labels.j1 : Nat → ByteArray → List ByteArray → Int → Int → Bool → Option (List ByteArray)
 | 0, _, _, _, _, _ => none
 | k + 1, x0, x3, x4, x5, x14 => if x14 = true then (if x5 = (x0.size : Int) then (if 0 ≤ x4 then (if x4 ≤ x5 then (if x5 ≤ (x0.size : Int) then (if x3.length < 8796093022208 then (spec_Labels.l0 k x0 (x3 ++ [x0.extract (x4 : Int).toNat (x5 : Int).toNat]) (wrap64 (x5 + 1)) (wrap64 (x5 + 1))) else (none)) else (none)) else (none)) else (none)) else (if 0 ≤ x5 then (if x5 < (x0.size : Int) then (if (bt x0 x5) = 46 then (if 0 ≤ x4 then (if x4 ≤ x5 then (if x5 ≤ (x0.size : Int) then (if x3.length < 8796093022208 then (spec_Labels.l0 k x0 (x3 ++ [x0.extract (x4 : Int).toNat (x5 : Int).toNat]) (wrap64 (x5 + 1)) (wrap64 (x5 + 1))) else (none)) else (none)) else (none)) else (none)) else (spec_Labels.l0 k x0 x3 x4 (wrap64 (x5 + 1)))) else (none)) else (none))) else (some x3)
end
def spec_Labels.f (k : Nat) (a0 : ByteArray) : Option (List ByteArray) := spec_Labels.l0 k a0 (([] : List ByteArray)) 0 0
theorem spec_Labels.mono_l : ∀ k, (∀ y0 y1 y2 y3, LeO (spec_Labels.l0 k y0 y1 y2 y3) (spec_Labels.l0 (k + 1) y0 y1 y2 y3)) ∧ (∀ y0 y1 y2 y3 y4, LeO (spec_Labels.j1 k y0 y1 y2 y3 y4) (spec_Labels.j1 (k + 1) y0 y1 y2 y3 y4))
 | 0 => ⟨fun _ _ _ _ r h => by simp [spec_Labels.l0] at h, fun _ _ _ _ _ r h => by simp [spec_Labels.j1] at h⟩
 | k + 1 => by
  obtain ⟨ih0, ih1⟩ := spec_Labels.mono_l k
  refine ⟨?_, ?_⟩
  ·intro y0 y1 y2 y3
   unfold spec_Labels.l0
   repeat' first
   | (with_reducible first | exact ih0 _ _ _ _ | exact ih1 _ _ _ _ _ | exact LeO.refl _ | exact LeO.none _ | refine LeO.ite ?_ ?_ | refine LeO.bind ?_ (fun _ => ?_))
   | refine LeO.ite ?_ ?_
   | refine LeO.bind ?_ (fun _ => ?_)
  ·intro y0 y1 y2 y3 y4
   unfold spec_Labels.j1
   repeat' first
   | (with_reducible first | exact ih0 _ _ _ _ | exact ih1 _ _ _ _ _ | exact LeO.refl _ | exact LeO.none _ | refine LeO.ite ?_ ?_ | refine LeO.bind ?_ (fun _ => ?_))
   | refine LeO.ite ?_ ?_
   | refine LeO.bind ?_ (fun _ => ?_)
theorem spec_Labels.mono : ∀ a0 k, LeO (spec_Labels.f k a0) (spec_Labels.f (k + 1) a0) := by
 intro a0 k
 obtain ⟨ih0, ih1⟩ := spec_Labels.mono_l k
 unfold spec_Labels.f
 repeat' first
   | (with_reducible first | exact ih0 _ _ _ _ | exact ih1 _ _ _ _ _ | exact LeO.refl _ | exact LeO.none _ | refine LeO.ite ?_ ?_ | refine LeO.bind ?_ (fun _ => ?_))
   | refine LeO.ite ?_ ?_
   | refine LeO.bind ?_ (fun _ => ?_)
set_option maxHeartbeats 8000000 in
set_option maxRecDepth 100000 in
theorem spec_Labels.calls (k : Nat) (a0 : ByteArray) (r : List ByteArray) (w : World) (h : spec_Labels.f k a0 = some r) :
  Calls Tryd.prog 121 #[.string a0] w fun e w' => ∃ v0_ : Value, e = .returned (v0_) ∧ Kd.R Kd.string 9 w' w.heap.size (fun _ => True) v0_ r ∧ Below w.heap.size w w' := by
 have HB := aS (Below.refl w.heap.size w)
 have H : (spec_Labels.l0 k a0 (([] : List ByteArray)) 0 0) = some r := h
 clear h
 obtain ⟨y438, hy_⟩ : ∃ y_ : List ByteArray, y_ = (([] : List ByteArray)) := ⟨_, rfl⟩
 replace H : (spec_Labels.l0 k a0 y438 0 0) = some r := jD
 have Ny438 := aS hy_
 clear hy_
 have H' := aS H
 clear H
 go_enter Tryd.func121, Tryd.ntmps121
 go_wp2_with (first | ((with_reducible refine gate_dst (N := 6) rfl ?_); refine Kd.R_lit Kd.string _ 9 ?hg (N := 6) ?hd (xs := ([] : List ByteArray)) (inner := []) (ok := fun _ => True) (okp := fun _ => True) ?hr ?hp (fun _ hk => hk) trivial (Below.refl _ _) (Nat.le_refl _) (by simp) ?_; (case hd => rfl); (case hg => rfl); (case hr => first | (go_simp; done) | (go_simp; rfl)); (case hp => exact (Reps.none _ _)); intro v439 w2 ho3 hb hg_ hnew_; clear hg_ hnew_; (first | rw [← Ny438.out] at ho3 | (simp only [Int.reduceToNat] at ho3; rw [← Ny438.out] at ho3)); have HO440 := aS (Kd.R_lower ho3 (below_size (wU HB.out))); replace HB := aS (below_step (wU HB.out) hb); clear hb ho3))
 go_loopg [3, 4, 5] k (fun kq v3 v4 v5 w' => ∃ (x3_1 : List ByteArray) (x4_1 : Int) (x5_1 : Int), v4 = .int .i64 x4_1 ∧ v5 = .int .i64 x5_1 ∧ Aside0 (spec_Labels.l0 kq a0 x3_1 x4_1 x5_1 = some r) ∧ Aside0 (kq ≤ k) ∧ Aside0 (Kd.R Kd.string 9 w' w.heap.size (fun _ => True) v3 x3_1) ∧ Aside0 (Below w.heap.size w w'))
 case atStart => exact ⟨(y438), (0), (0), jB, jB, H', ⟨Nat.le_refl _⟩, ⟨by exact rU HO440.out⟩, ⟨by exact wU HB.out⟩⟩
 case round =>
  clear H'
  try clear c1
  try clear p2
  obtain ⟨x3_1, x4_1, x5_1, rfl, rfl, HA, HK1, HO_3, HB⟩ := hrel
  cases gk with
  | zero => exact absurd HA.out (by simp [spec_Labels.l0])
  | succ k1 =>
   have H := HA.out
   clear HA
   simp only [spec_Labels.l0] at H
   have HC4 := aS H
   clear H
   go_upto_region 4 with (fail)
   go_cut [14] (fun v14 wc => ∃ (kq : Nat) (x14_3 : Bool), v14 = .bool x14_3 ∧ Aside0 (spec_Labels.j1 kq a0 x3_1 x4_1 x5_1 x14_3 = some r) ∧ Aside0 (kq ≤ k1) ∧ Aside0 (Kd.R Kd.string 9 wc w.heap.size (fun _ => True) u3 x3_1) ∧ Aside0 (Below w.heap.size w wc))
   case first =>
    have H := HC4.out
    clear HC4
    by_cases c5 : x5_1 ≤ (a0.size : Int)
    ·rw [if_pos c5] at H
     have c5b0 := decide_eq_true c5
     clear c5
     (first | rw [c5b0] | (simp only [i64_w, i32_w]; rw [c5b0]) | skip)
     have H' := aS H
     clear H
     go_wp2
     go_meet
     case rel => exact ⟨_, ((a0.toList != ([] : List UInt8))), jB, H', ⟨by have := HK1.out; first | omega | exact Nat.le_refl _⟩, ⟨by exact rU HO_3.out⟩, ⟨by exact wU HB.out⟩⟩
    ·rw [if_neg c5] at H
     have c5b0 := decide_eq_false c5
     clear c5
     (first | rw [c5b0] | (simp only [i64_w, i32_w]; rw [c5b0]) | skip)
     have H' := aS H
     clear H
     go_wp2
     go_meet
     case rel => exact ⟨_, (false), jB, H', ⟨by have := HK1.out; first | omega | exact Nat.le_refl _⟩, ⟨by exact rU HO_3.out⟩, ⟨by exact wU HB.out⟩⟩
   case rest =>
    clear HC4
    try clear c1
    try clear p2
    try clear c5
    try clear c5b0
    try clear p2
    obtain ⟨kq, x14_3, rfl, HA, HJ3, HO_3, HB⟩ := hcut
    cases kq with
    | zero => exact absurd HA.out (by simp [spec_Labels.j1])
    | succ kj3 =>
     have H := HA.out
     clear HA
     simp only [spec_Labels.j1] at H
     by_cases c6 : x14_3 = true
     ·subst c6
      rw [if_pos rfl] at H
      by_cases c7 : x5_1 = (a0.size : Int)
      ·rw [if_pos c7] at H
       have c7b0 := beq_iff_eq.mpr c7
       have c7b1 := bne_eq_false_iff_eq.mpr c7
       clear c7
       by_cases c8 : 0 ≤ x4_1
       ·rw [if_pos c8] at H
        have c8b0 := eq_true c8
        have c8b1 := decide_eq_true c8
        clear c8
        by_cases c9 : x4_1 ≤ x5_1
        ·rw [if_pos c9] at H
         have c9b0 := eq_true c9
         have c9b1 := decide_eq_true c9
         clear c9
         by_cases c10 : x5_1 ≤ (a0.size : Int)
         ·rw [if_pos c10] at H
          have c10b0 := eq_true c10
          have c10b1 := decide_eq_true c10
          clear c10
          by_cases c11 : x3_1.length < 8796093022208
          ·rw [if_pos c11] at H
           have LMc11 := aS c11
           clear c11
           obtain ⟨y441, hy_⟩ : ∃ y_ : List ByteArray, y_ = (x3_1 ++ [a0.extract (x4_1 : Int).toNat (x5_1 : Int).toNat]) := ⟨_, rfl⟩
           replace H : (spec_Labels.l0 kj3 a0 y441 (wrap64 (x5_1 + 1)) (wrap64 (x5_1 + 1))) = some r := jD
           have Ny441 := aS hy_
           clear hy_
           have H' := aS H
           clear H
           go_wp2_with (first | ((with_reducible refine gate_builtin (b := .append) (xs := #[.tmp 27, .tmp 32]) rfl ?_); at_builtin; refine Kd.R_append Kd.string (w0 := w) w.heap.size rfl (.tmp 27) (.tmp 32) 108 9 (.string ⟨#[]⟩) 16 rfl Tryd.underlying108 info9 rfl (by decide) (by omega) u3 x3_1 (a0.extract (x4_1 : Int).toNat (x5_1 : Int).toNat) [.string (a0.extract (x4_1 : Int).toNat (x5_1 : Int).toNat)] (fun _ => True) (fun _ => False) rfl rfl ?aP (fun _ hk => hk.elim) ?aF ?aO ?aB ?aS ?aL ?_; (case aP => exact rfl); (case aB => exact (wU HB.out)); (case aF => exact (fun _ _ => trivial)); (case aO => exact (rU HO_3.out)); (case aS => exact (below_size (wU HB.out))); (case aL => have := LMc11.out; omega); intro v442 w12 ho hb hg hat; rw [← Ny441.out] at ho; replace HB := aS (hb); have HO443 := aS (ho); clear HO_3; clear ho hb hg hat))
           go_roundg kj3
           case measure => have := HK1.out; have := HJ3.out; omega
           case rel => exact ⟨(y441), (wrap64 (x5_1 + 1)), (wrap64 (x5_1 + 1)), jB, jB, H', ⟨by have := HK1.out; have := HJ3.out; omega⟩, ⟨by exact rU HO443.out⟩, ⟨by exact wU HB.out⟩⟩
          ·rw [if_neg c11] at H
           exact absurd H (by simp)
         ·rw [if_neg c10] at H
          exact absurd H (by simp)
        ·rw [if_neg c9] at H
         exact absurd H (by simp)
       ·rw [if_neg c8] at H
        exact absurd H (by simp)
      ·rw [if_neg c7] at H
       have c7b0 := beq_eq_false_iff_ne.mpr c7
       have c7b1 := bne_iff_ne.mpr c7
       by_cases c13 : 0 ≤ x5_1
       ·rw [if_pos c13] at H
        have c13b0 := decide_eq_true c13
        clear c13
        by_cases c14 : x5_1 < (a0.size : Int)
        ·rw [if_pos c14] at H
         have c14b0 := decide_eq_true c14
         clear c14
         by_cases c16 : (bt a0 x5_1) = 46
         ·rw [if_pos c16] at H
          have c16b0 := beq_iff_eq.mpr c16
          have c16b1 := bne_eq_false_iff_eq.mpr c16
          clear c16
          by_cases c17 : 0 ≤ x4_1
          ·rw [if_pos c17] at H
           have c17b0 := eq_true c17
           have c17b1 := decide_eq_true c17
           clear c17
           by_cases c18 : x4_1 ≤ x5_1
           ·rw [if_pos c18] at H
            have c18b0 := eq_true c18
            have c18b1 := decide_eq_true c18
            clear c18
            by_cases c19 : x5_1 ≤ (a0.size : Int)
            ·rw [if_pos c19] at H
             have c19b0 := eq_true c19
             have c19b1 := decide_eq_true c19
             clear c19
             by_cases c20 : x3_1.length < 8796093022208
             ·rw [if_pos c20] at H
              have LMc20 := aS c20
              clear c20
              obtain ⟨y444, hy_⟩ : ∃ y_ : List ByteArray, y_ = (x3_1 ++ [a0.extract (x4_1 : Int).toNat (x5_1 : Int).toNat]) := ⟨_, rfl⟩
              replace H : (spec_Labels.l0 kj3 a0 y444 (wrap64 (x5_1 + 1)) (wrap64 (x5_1 + 1))) = some r := jD
              have Ny444 := aS hy_
              clear hy_
              have H' := aS H
              clear H
              have p15 : 0 ≤ (x5_1 : Int) := of_decide_eq_true jC
              have q15 : x5_1 < (a0.size : Int) := of_decide_eq_true jC
              have hx15 := bt_at a0 x5_1
              replace p15 := eq_true p15
              replace q15 := eq_true q15
              go_wp2_with (first | ((with_reducible refine gate_builtin (b := .append) (xs := #[.tmp 27, .tmp 32]) rfl ?_); at_builtin; refine Kd.R_append Kd.string (w0 := w) w.heap.size rfl (.tmp 27) (.tmp 32) 108 9 (.string ⟨#[]⟩) 16 rfl Tryd.underlying108 info9 rfl (by decide) (by omega) u3 x3_1 (a0.extract (x4_1 : Int).toNat (x5_1 : Int).toNat) [.string (a0.extract (x4_1 : Int).toNat (x5_1 : Int).toNat)] (fun _ => True) (fun _ => False) rfl rfl ?aP (fun _ hk => hk.elim) ?aF ?aO ?aB ?aS ?aL ?_; (case aP => exact rfl); (case aB => exact (wU HB.out)); (case aF => exact (fun _ _ => trivial)); (case aO => exact (rU HO_3.out)); (case aS => exact (below_size (wU HB.out))); (case aL => have := LMc20.out; omega); intro v445 w21 ho hb hg hat; rw [← Ny444.out] at ho; replace HB := aS (hb); have HO446 := aS (ho); clear HO_3; clear ho hb hg hat))
              go_roundg kj3
              case measure => have := HK1.out; have := HJ3.out; omega
              case rel => exact ⟨(y444), (wrap64 (x5_1 + 1)), (wrap64 (x5_1 + 1)), jB, jB, H', ⟨by have := HK1.out; have := HJ3.out; omega⟩, ⟨by exact rU HO446.out⟩, ⟨by exact wU HB.out⟩⟩
             ·rw [if_neg c20] at H
              exact absurd H (by simp)
            ·rw [if_neg c19] at H
             exact absurd H (by simp)
           ·rw [if_neg c18] at H
            exact absurd H (by simp)
          ·rw [if_neg c17] at H
           exact absurd H (by simp)
         ·rw [if_neg c16] at H
          have c16b0 := beq_eq_false_iff_ne.mpr c16
          have c16b1 := bne_iff_ne.mpr c16
          have H' := aS H
          clear H
          have p15 : 0 ≤ (x5_1 : Int) := of_decide_eq_true jC
          have q15 : x5_1 < (a0.size : Int) := of_decide_eq_true jC
          have hx15 := bt_at a0 x5_1
          replace p15 := eq_true p15
          replace q15 := eq_true q15
          go_wp2
          go_roundg kj3
          case measure => have := HK1.out; have := HJ3.out; omega
          case rel => exact ⟨(x3_1), (x4_1), (wrap64 (x5_1 + 1)), jB, jB, H', ⟨by have := HK1.out; have := HJ3.out; omega⟩, ⟨by exact rU HO_3.out⟩, ⟨by exact wU HB.out⟩⟩
        ·rw [if_neg c14] at H
         exact absurd H (by simp)
       ·rw [if_neg c13] at H
        exact absurd H (by simp)
     ·replace c6 := Bool.eq_false_iff.mpr c6
      subst c6
      rw [if_neg Bool.false_ne_true] at H
      obtain rfl := Option.some.inj H
      go_wp2
      go_ret
      exact ⟨_, jE, by exact rU HO_3.out, by exact wU HB.out⟩

/-! ### spec_LessName: function 108 -/
mutual
def spec_LessName.l0 : Nat → List ByteArray → List ByteArray → Int → Option (Bool)
 | 0, _, _, _ => none
 | k + 1, x5, x6, x7 => if x7 ≤ (x5.length : Int) then (spec_LessName.j1 k x5 x6 x7 (decide (x7 ≤ (x6.length : Int)))) else (spec_LessName.j1 k x5 x6 x7 false)
def spec_LessName.j1 : Nat → List ByteArray → List ByteArray → Int → Bool → Option (Bool)
 | 0, _, _, _, _ => none
 | k + 1, x5, x6, x7, x23 => if x23 = true then (if 0 ≤ (wrap64 ((x5.length : Int) - x7)) then (if (wrap64 ((x5.length : Int) - x7)) < (x5.length : Int) then (if 0 ≤ (wrap64 ((x6.length : Int) - x7)) then (if (wrap64 ((x6.length : Int) - x7)) < (x6.length : Int) then (if (rdOf ByteArray.empty x5 (wrap64 ((x5.length : Int) - x7))).toList = (rdOf ByteArray.empty x6 (wrap64 ((x6.length : Int) - x7))).toList then (spec_LessName.l0 k x5 x6 (wrap64 (x7 + 1))) else (some (Op.bytesLess ((rdOf ByteArray.empty x5 (wrap64 ((x5.length : Int) - x7))).toList) ((rdOf ByteArray.empty x6 (wrap64 ((x6.length : Int) - x7))).toList)))) else (none)) else (none)) else (none)) else (none)) else (some (decide ((x5.length : Int) < (x6.length : Int))))
end
def spec_LessName.f (k : Nat) (a0 : ByteArray) (a1 : ByteArray) : Option (Bool) := (spec_Labels.f k a0).bind fun t447 => ((spec_Labels.f k a1).bind fun t450 => (spec_LessName.l0 k t447 t450 1))
theorem spec_LessName.mono_l : ∀ k, (∀ y0 y1 y2, LeO (spec_LessName.l0 k y0 y1 y2) (spec_LessName.l0 (k + 1) y0 y1 y2)) ∧ (∀ y0 y1 y2 y3, LeO (spec_LessName.j1 k y0 y1 y2 y3) (spec_LessName.j1 (k + 1) y0 y1 y2 y3))
 | 0 => ⟨fun _ _ _ r h => by simp [spec_LessName.l0] at h, fun _ _ _ _ r h => by simp [spec_LessName.j1] at h⟩
 | k + 1 => by
  obtain ⟨ih0, ih1⟩ := spec_LessName.mono_l k
  refine ⟨?_, ?_⟩
  ·intro y0 y1 y2
   unfold spec_LessName.l0
   repeat' first
   | (with_reducible first | exact ih0 _ _ _ | exact ih1 _ _ _ _ | exact spec_Labels.mono _ _ | exact LeO.refl _ | exact LeO.none _ | refine LeO.ite ?_ ?_ | refine LeO.bind ?_ (fun _ => ?_))
   | refine LeO.ite ?_ ?_
   | refine LeO.bind ?_ (fun _ => ?_)
  ·intro y0 y1 y2 y3
   unfold spec_LessName.j1
   repeat' first
   | (with_reducible first | exact ih0 _ _ _ | exact ih1 _ _ _ _ | exact spec_Labels.mono _ _ | exact LeO.refl _ | exact LeO.none _ | refine LeO.ite ?_ ?_ | refine LeO.bind ?_ (fun _ => ?_))
   | refine LeO.ite ?_ ?_
   | refine LeO.bind ?_ (fun _ => ?_)
theorem spec_LessName.mono : ∀ a0 a1 k, LeO (spec_LessName.f k a0 a1) (spec_LessName.f (k + 1) a0 a1) := by
 intro a0 a1 k
 obtain ⟨ih0, ih1⟩ := spec_LessName.mono_l k
 unfold spec_LessName.f
 repeat' first
   | (with_reducible first | exact ih0 _ _ _ | exact ih1 _ _ _ _ | exact spec_Labels.mono _ _ | exact LeO.refl _ | exact LeO.none _ | refine LeO.ite ?_ ?_ | refine LeO.bind ?_ (fun _ => ?_))
   | refine LeO.ite ?_ ?_
   | refine LeO.bind ?_ (fun _ => ?_)
set_option maxHeartbeats 8000000 in
set_option maxRecDepth 100000 in
theorem spec_LessName.calls (k : Nat) (a0 : ByteArray) (a1 : ByteArray) (r : Bool) (w : World) (h : spec_LessName.f k a0 a1 = some r) :
  Calls Tryd.prog 108 #[.string a0, .string a1] w fun e w' => e = .returned (.bool r) ∧ Below w.heap.size w w' := by
 have HB := aS (Below.refl w.heap.size w)
 have H : ((spec_Labels.f k a0).bind fun t447 => ((spec_Labels.f k a1).bind fun t450 => (spec_LessName.l0 k t447 t450 1))) = some r := h
 clear h
 obtain ⟨t447, A3, H⟩ := bM H
 try dsimp only at H
 obtain ⟨t450, A4, H⟩ := bM H
 try dsimp only at H
 have H' := aS H
 clear H
 go_enter Tryd.func108, Tryd.ntmps108
 go_wp2_with (first | ((with_reducible refine gate_callee (f := 121) rfl ?_); refine gL (some 11) Tryd.func121 #[.string a0] ?_; (with_reducible refine (spec_Labels.calls k a0 t447 _ A3.out).mono ?_); rintro e w5 ⟨v448, rfl, ho0, hb⟩; refine ⟨_, rfl, ?_⟩; have HO449 := aS (Kd.R_lower ho0 (below_size (wU HB.out))); replace HB := aS (below_step (wU HB.out) hb); clear hb; (try clear ho0)) | ((with_reducible refine gate_callee (f := 121) rfl ?_); refine gL (some 13) Tryd.func121 #[.string a1] ?_; (with_reducible refine (spec_Labels.calls k a1 t450 _ A4.out).mono ?_); rintro e w6 ⟨v451, rfl, ho0, hb⟩; refine ⟨_, rfl, ?_⟩; have HO452 := aS (Kd.R_lower (Kd.R_new' ho0 (Kd.R_lt (rU HO449.out))) (below_size (wU HB.out))); replace HO449 := aS (Kd.R_elder' (rU HO449.out) (Kd.R_base ho0) hb); replace HB := aS (below_step (wU HB.out) hb); clear hb; (try clear ho0)))
 go_loopg [7] k (fun kq v7 w' => ∃ (x7_1 : Int), v7 = .int .i64 x7_1 ∧ Aside0 (spec_LessName.l0 kq t447 t450 x7_1 = some r) ∧ Aside0 (kq ≤ k) ∧ Aside0 (Kd.R Kd.string 9 w' w.heap.size (fun k_ => some k_ ≠ (v451 : Value).ownBlock) v448 t447) ∧ Aside0 (Kd.R Kd.string 9 w' w.heap.size (fun k_ => some k_ ≠ (v448 : Value).ownBlock) v451 t450) ∧ Aside0 (Below w.heap.size w w'))
 case atStart => exact ⟨(1), jB, H', ⟨Nat.le_refl _⟩, ⟨by (with_reducible repeat (first | apply Kd.R_alloc | apply Kd.R_drewN | apply Kd.R_drew)); exact Kd.R_mono HO449.out (fun _ hk => hk.2)⟩, ⟨by (with_reducible repeat (first | apply Kd.R_alloc | apply Kd.R_drewN | apply Kd.R_drew)); exact Kd.R_mono HO452.out (fun _ hk => hk.2)⟩, ⟨by exact wU HB.out⟩⟩
 case round =>
  clear H'
  try clear c1
  try clear p2
  obtain ⟨x7_1, rfl, HA, HK1, HO_5, HO_6, HB⟩ := hrel
  cases gk with
  | zero => exact absurd HA.out (by simp [spec_LessName.l0])
  | succ k1 =>
   have H := HA.out
   clear HA
   simp only [spec_LessName.l0] at H
   have HC7 := aS H
   clear H
   go_upto_region 4 with (fail)
   go_cut [23] (fun v23 wc => ∃ (kq : Nat) (x23_6 : Bool), v23 = .bool x23_6 ∧ Aside0 (spec_LessName.j1 kq t447 t450 x7_1 x23_6 = some r) ∧ Aside0 (kq ≤ k1) ∧ Aside0 (Kd.R Kd.string 9 wc w.heap.size (fun k_ => some k_ ≠ (v451 : Value).ownBlock) v448 t447) ∧ Aside0 (Kd.R Kd.string 9 wc w.heap.size (fun k_ => some k_ ≠ (v448 : Value).ownBlock) v451 t450) ∧ Aside0 (Below w.heap.size w wc))
   case first =>
    have H := HC7.out
    clear HC7
    by_cases c8 : x7_1 ≤ (t447.length : Int)
    ·rw [if_pos c8] at H
     have c8b0 := decide_eq_true c8
     clear c8
     (first | rw [c8b0] | (simp only [i64_w, i32_w]; rw [c8b0]) | skip)
     have H' := aS H
     clear H
     obtain ⟨Ao9, co9, eo9⟩ := Kd.R_slice HO_5.out
     subst eo9
     obtain ⟨Ao10, co10, eo10⟩ := Kd.R_slice HO_6.out
     subst eo10
     go_wp2
     go_meet
     case rel => exact ⟨_, (decide (x7_1 ≤ (t450.length : Int))), jB, H', ⟨by have := HK1.out; first | omega | exact Nat.le_refl _⟩, ⟨by exact rU HO_5.out⟩, ⟨by exact rU HO_6.out⟩, ⟨by exact wU HB.out⟩⟩
    ·rw [if_neg c8] at H
     have c8b0 := decide_eq_false c8
     clear c8
     (first | rw [c8b0] | (simp only [i64_w, i32_w]; rw [c8b0]) | skip)
     have H' := aS H
     clear H
     obtain ⟨Ao11, co11, eo11⟩ := Kd.R_slice HO_5.out
     subst eo11
     go_wp2
     go_meet
     case rel => exact ⟨_, (false), jB, H', ⟨by have := HK1.out; first | omega | exact Nat.le_refl _⟩, ⟨by exact rU HO_5.out⟩, ⟨by exact rU HO_6.out⟩, ⟨by exact wU HB.out⟩⟩
   case rest =>
    clear HC7
    try clear c1
    try clear p2
    try clear c8
    try clear c8b0
    try clear c10
    try clear p2
    obtain ⟨kq, x23_6, rfl, HA, HJ6, HO_5, HO_6, HB⟩ := hcut
    cases kq with
    | zero => exact absurd HA.out (by simp [spec_LessName.j1])
    | succ kj6 =>
     have H := HA.out
     clear HA
     simp only [spec_LessName.j1] at H
     by_cases c12 : x23_6 = true
     ·subst c12
      rw [if_pos rfl] at H
      obtain ⟨ji13, hji13⟩ : ∃ j_ : Int, (wrap64 ((t447.length : Int) - x7_1)) = j_ := ⟨_, rfl⟩
      replace H : (if 0 ≤ (ji13) then (if (ji13) < (t447.length : Int) then (if 0 ≤ (wrap64 ((t450.length : Int) - x7_1)) then (if (wrap64 ((t450.length : Int) - x7_1)) < (t450.length : Int) then (if (rdOf ByteArray.empty t447 (ji13)).toList = (rdOf ByteArray.empty t450 (wrap64 ((t450.length : Int) - x7_1))).toList then (spec_LessName.l0 kj6 t447 t450 (wrap64 (x7_1 + 1))) else (some (Op.bytesLess ((rdOf ByteArray.empty t447 (ji13)).toList) ((rdOf ByteArray.empty t450 (wrap64 ((t450.length : Int) - x7_1))).toList)))) else (none)) else (none)) else (none)) else (none)) = some r := by first | (rw [hji13] at H; exact H) | (simp only [hji13] at H ⊢; exact H)
      have hji13w : (IntKind.i64.wrap ((t447.length : Int) - x7_1)) = ji13 := (i64_w _).trans hji13
      by_cases c14 : 0 ≤ (ji13)
      ·rw [if_pos c14] at H
       have c14b0 := decide_eq_true c14
       clear c14
       by_cases c15 : (ji13) < (t447.length : Int)
       ·rw [if_pos c15] at H
        have c15b0 := decide_eq_true c15
        clear c15
        obtain ⟨ji16, hji16⟩ : ∃ j_ : Int, (wrap64 ((t450.length : Int) - x7_1)) = j_ := ⟨_, rfl⟩
        replace H : (if 0 ≤ (ji16) then (if (ji16) < (t450.length : Int) then (if (rdOf ByteArray.empty t447 (ji13)).toList = (rdOf ByteArray.empty t450 (ji16)).toList then (spec_LessName.l0 kj6 t447 t450 (wrap64 (x7_1 + 1))) else (some (Op.bytesLess ((rdOf ByteArray.empty t447 (ji13)).toList) ((rdOf ByteArray.empty t450 (ji16)).toList)))) else (none)) else (none)) = some r := by first | (rw [hji16] at H; exact H) | (simp only [hji16] at H ⊢; exact H)
        have hji16w : (IntKind.i64.wrap ((t450.length : Int) - x7_1)) = ji16 := (i64_w _).trans hji16
        by_cases c17 : 0 ≤ (ji16)
        ·rw [if_pos c17] at H
         have c17b0 := decide_eq_true c17
         clear c17
         by_cases c18 : (ji16) < (t450.length : Int)
         ·rw [if_pos c18] at H
          have c18b0 := decide_eq_true c18
          clear c18
          by_cases c19 : (rdOf ByteArray.empty t447 (ji13)).toList = (rdOf ByteArray.empty t450 (ji16)).toList
          ·rw [if_pos c19] at H
           have c19b0 := beq_iff_eq.mpr c19
           have c19b1 := bne_eq_false_iff_eq.mpr c19
           clear c19
           have H' := aS H
           clear H
           obtain ⟨Ao20, co20, eo20⟩ := Kd.R_slice HO_5.out
           subst eo20
           have p453 : 0 ≤ ((ji13) : Int) := of_decide_eq_true jC
           have q453 : (ji13) < (t447.length : Int) := of_decide_eq_true jC
           obtain ⟨ad453, e453, hx453_0⟩ := Kd.at_string (Kd.R_reads' HO_5.out).2.2 (ji13) p453 q453
           cases e453
           replace p453 := eq_true p453
           replace q453 := eq_true q453
           obtain ⟨Ao21, co21, eo21⟩ := Kd.R_slice HO_6.out
           subst eo21
           have p454 : 0 ≤ ((ji16) : Int) := of_decide_eq_true jC
           have q454 : (ji16) < (t450.length : Int) := of_decide_eq_true jC
           obtain ⟨ad454, e454, hx454_0⟩ := Kd.at_string (Kd.R_reads' HO_6.out).2.2 (ji16) p454 q454
           cases e454
           replace p454 := eq_true p454
           replace q454 := eq_true q454
           go_wp2
           go_roundg kj6
           case measure => have := HK1.out; have := HJ6.out; omega
           case rel => exact ⟨(wrap64 (x7_1 + 1)), jB, H', ⟨by have := HK1.out; have := HJ6.out; omega⟩, ⟨by exact rU HO_5.out⟩, ⟨by exact rU HO_6.out⟩, ⟨by exact wU HB.out⟩⟩
          ·rw [if_neg c19] at H
           have c19b0 := beq_eq_false_iff_ne.mpr c19
           have c19b1 := bne_iff_ne.mpr c19
           obtain rfl := Option.some.inj H
           obtain ⟨Ao22, co22, eo22⟩ := Kd.R_slice HO_5.out
           subst eo22
           have p453 : 0 ≤ ((ji13) : Int) := of_decide_eq_true jC
           have q453 : (ji13) < (t447.length : Int) := of_decide_eq_true jC
           obtain ⟨ad453, e453, hx453_0⟩ := Kd.at_string (Kd.R_reads' HO_5.out).2.2 (ji13) p453 q453
           cases e453
           replace p453 := eq_true p453
           replace q453 := eq_true q453
           obtain ⟨Ao23, co23, eo23⟩ := Kd.R_slice HO_6.out
           subst eo23
           have p454 : 0 ≤ ((ji16) : Int) := of_decide_eq_true jC
           have q454 : (ji16) < (t450.length : Int) := of_decide_eq_true jC
           obtain ⟨ad454, e454, hx454_0⟩ := Kd.at_string (Kd.R_reads' HO_6.out).2.2 (ji16) p454 q454
           cases e454
           replace p454 := eq_true p454
           replace q454 := eq_true q454
           go_wp2
           go_ret
           exact ⟨by first | rfl | (simp [errW_none, errW_some] <;> rfl) | (simp only [← hji13, ← hji16]; first | rfl | (simp [errW_none, errW_some] <;> rfl)) | (simp [*, errW_none, errW_some] <;> rfl), by exact wU HB.out⟩
         ·rw [if_neg c18] at H
          exact absurd H (by simp)
        ·rw [if_neg c17] at H
         exact absurd H (by simp)
       ·rw [if_neg c15] at H
        exact absurd H (by simp)
      ·rw [if_neg c14] at H
       exact absurd H (by simp)
     ·replace c12 := Bool.eq_false_iff.mpr c12
      subst c12
      rw [if_neg Bool.false_ne_true] at H
      obtain rfl := Option.some.inj H
      obtain ⟨Ao24, co24, eo24⟩ := Kd.R_slice HO_5.out
      subst eo24
      obtain ⟨Ao25, co25, eo25⟩ := Kd.R_slice HO_6.out
      subst eo25
      go_wp2
      go_ret
      exact ⟨jE, by exact wU HB.out⟩

end Go.Proofs.YtdigilidomimdaaDoor.Pr
