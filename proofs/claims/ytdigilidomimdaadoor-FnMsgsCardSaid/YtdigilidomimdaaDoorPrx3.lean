-- Written for this claim by a program of this session (wip/tool/pr.py, over the kit's printer).
-- half
import Derived.Test.YtdigilidomimdaaDoorPrx0
namespace Go.Proofs.YtdigilidomimdaaDoor.Pr
open Go.RowKit Go.Proofs.YtdigilidomimdaaDoorW.PrintWords Go.Proofs.YtdigilidomimdaaDoorW.PrintLast Go.Proofs.YtdigilidomimdaaDoorW.PrintMore
attribute [local go_sem] max2_int min2_int max_two min_two max_three min_three max_four min_four   -- for this text's walks alone
set_option linter.unusedVariables false
set_option linter.unusedSimpArgs false

/-! ### laws_big: function 8 -/
def laws_big.f (l0 : List Int) : Option (Bool) := some (decide ((l0.length : Int) > 1048576))
set_option maxHeartbeats 8000000 in
set_option maxRecDepth 100000 in
theorem laws_big.calls (A0 : Option Addr) (c0 : Nat) (l0 : List Int) (r : Bool) (w : World) (hr0 : Kd.C (Kd.int .u8) w A0 l0.length l0) (hc0 : l0.length ≤ c0) (h : laws_big.f l0 = some r) :
  Calls Tryd.prog 8 #[.slice A0 l0.length c0] w fun e w' => e = .returned (.bool r) ∧ Drawn0 w w' := by
 have HR0 := aS hr0
 have HC0 := aS hc0
 clear hr0 hc0
 have H := h
 unfold laws_big.f at H
 clear h
 obtain rfl := Option.some.inj H
 go_enter Tryd.func8, Tryd.ntmps8
 go_wp2
 go_ret
 exact ⟨by first | rfl | (simp; done) | (simp [*]; done) | (simp [X.bne_nil, X.beq_nil]; done) | (simp [*, X.bne_nil, X.beq_nil]; done) | (simp [X.bne_nil, X.beq_nil]; done), by repeat (first | exact Drawn0.refl _ | apply Drawn0.step)⟩

/-- A state of type 111 at block g of W; what its slices lead to came in by w0. -/
def IsS111 (w0 W : World) (g : Nat) (f0 : List Int) (f1 : Int) (f2 : Int) : Prop := ∃ A0 c0, W.heap[g]? = some (.cells #[.slice A0 f0.length c0, .int .i64 f1, .int .i64 f2] 111 (0, 0)) ∧ w0.heap.size ≤ g ∧ Kd.C (Kd.int .u8) w0 A0 f0.length f0
theorem IsS111.grown {w0 W : World} {g : Nat} {f0 : List Int} {f1 : Int} {f2 : Int} {W1 : World} {row : Option Nat} (h : IsS111 w0 W g f0 f1 f2) (hw : W.grownBy W1 row) (hne : some g ≠ row) : IsS111 w0 W1 g f0 f1 f2 := by
 obtain ⟨A0, c0, hb, hg, hr0⟩ := h
 exact ⟨A0, c0, blk_grown hb hw hne, hg, hr0⟩
theorem IsS111.own_neN {w0 W : World} {g : Nat} {f0 : List Int} {f1 : Int} {f2 : Int} {α : Type} {d : Kd α} {e : Nat} {base : Nat} {ok : Nat → Prop} {v : Value} {xs : List α} (h : IsS111 w0 W g f0 f1 f2) (ho : Kd.N d e W base ok v xs) (ht : e ≠ 111) : some g ≠ v.ownBlock := by
 obtain ⟨A0, c0, hb, hg, hr0⟩ := h
 exact Kd.N_ne ho hb ht
theorem IsS111.fresh {w0 W : World} {g : Nat} {f0 : List Int} {f1 : Int} {f2 : Int} (h : IsS111 w0 W g f0 f1 f2) : ∀ k, W.heap.size ≤ k → k ≠ g := by
 obtain ⟨A0, c0, hb, hg, hr0⟩ := h
 exact Kd.freshB hb
theorem IsS111.kept {w0 W : World} {g : Nat} {f0 : List Int} {f1 : Int} {f2 : Int} {W1 : World} {S : Nat → Prop} (h : IsS111 w0 W g f0 f1 f2) (hk : Kept W W1 S) (hne : ¬ S g) : IsS111 w0 W1 g f0 f1 f2 := by
 obtain ⟨A0, c0, hb, hg, hr0⟩ := h
 exact ⟨A0, c0, blk_kept hb hk hne, hg, hr0⟩
theorem IsS111.below {w0 W : World} {g : Nat} {f0 : List Int} {f1 : Int} {f2 : Int} {W1 : World} (h : IsS111 w0 W g f0 f1 f2) (hw : Below W.heap.size W W1) : IsS111 w0 W1 g f0 f1 f2 := h.grown (grown_of_below hw none) (by simp)
theorem IsS111.alloc {w0 W : World} {g : Nat} {f0 : List Int} {f1 : Int} {f2 : Int} (h : IsS111 w0 W g f0 f1 f2) (o : Obj) : IsS111 w0 (W.alloc o) g f0 f1 f2 := h.below (below_alloc (Below.refl _ _) o)
theorem IsS111.drewN {w0 W : World} {g : Nat} {f0 : List Int} {f1 : Int} {f2 : Int} (h : IsS111 w0 W g f0 f1 f2) (m : Nat) : IsS111 w0 (W.drewN m) g f0 f1 f2 := h
theorem IsS111.drew {w0 W : World} {g : Nat} {f0 : List Int} {f1 : Int} {f2 : Int} (h : IsS111 w0 W g f0 f1 f2) : IsS111 w0 W.drew g f0 f1 f2 := h
theorem IsS111.at_ {w0 W : World} {g : Nat} {f0 : List Int} {f1 : Int} {f2 : Int} {w' : World} {m : Nat} (hq : W.drewN m = w') (h : IsS111 w0 W g f0 f1 f2) : IsS111 w0 w' g f0 f1 f2 := by subst hq; exact IsS111.drewN h m
theorem IsS111.apart {w0 W : World} {g : Nat} {f0 : List Int} {f1 : Int} {f2 : Int} {α : Type} {d : Kd α} {e : Nat} {base : Nat} {ok : Nat → Prop} {v : Value} {xs : List α} (h : IsS111 w0 W g f0 f1 f2) (ho : d.R e W base ok v xs) (ht : ∀ q, q ∈ e :: d.E → q ≠ 111) : d.R e W base (fun k => ok k ∧ k ≠ g) v xs := by
 obtain ⟨A0, c0, hb, hg, hr0⟩ := h
 exact Kd.R_types ho hb ht
theorem IsS111.own_ne {w0 W : World} {g : Nat} {f0 : List Int} {f1 : Int} {f2 : Int} {α : Type} {d : Kd α} {e : Nat} {base : Nat} {ok : Nat → Prop} {v : Value} {xs : List α} (h : IsS111 w0 W g f0 f1 f2) (ho : d.R e W base ok v xs) (ht : e ≠ 111) : some g ≠ v.ownBlock := by
 obtain ⟨A0, c0, hb, hg, hr0⟩ := h
 exact Kd.R_ne ho hb ht
theorem IsS111.apartQ {w0 W : World} {g : Nat} {f0 : List Int} {f1 : Int} {f2 : Int} {α : Type} {d : Kd α} {e : Nat} {base : Nat} {ok : Nat → Prop} {v : Value} {xs : List α} (h : IsS111 w0 W g f0 f1 f2) (ho : d.Q e W base ok v xs) (ht : ∀ q, q ∈ e :: d.E → q ≠ 111) : d.Q e W base (fun k => ok k ∧ k ≠ g) v xs := by
 obtain ⟨A0, c0, hb, hg, hr0⟩ := h
 exact Kd.Q_types ho hb ht
theorem IsS111.own_neQ {w0 W : World} {g : Nat} {f0 : List Int} {f1 : Int} {f2 : Int} {α : Type} {d : Kd α} {e : Nat} {base : Nat} {ok : Nat → Prop} {v : Value} {xs : List α} (h : IsS111 w0 W g f0 f1 f2) (ho : d.Q e W base ok v xs) (ht : e ≠ 111) : some g ≠ v.ownBlock := by
 obtain ⟨A0, c0, hb, hg, hr0⟩ := h
 exact Kd.Q_ne ho hb ht
theorem IsS111.apartS {w0 W : World} {g : Nat} {f0 : List Int} {f1 : Int} {f2 : Int} {α : Type} {d : Kd α} {e : Nat} {base : Nat} {ok : Nat → Prop} {v : Value} {xs : List α} (h : IsS111 w0 W g f0 f1 f2) (ho : d.S e W base ok v xs) (ht : ∀ q, q ∈ e :: d.E → q ≠ 111) : d.S e W base (fun k => ok k ∧ k ≠ g) v xs := by
 obtain ⟨A0, c0, hb, hg, hr0⟩ := h
 exact Kd.S_types ho hb ht
theorem IsS111.own_neS {w0 W : World} {g : Nat} {f0 : List Int} {f1 : Int} {f2 : Int} {α : Type} {d : Kd α} {e : Nat} {base : Nat} {ok : Nat → Prop} {v : Value} {xs : List α} (h : IsS111 w0 W g f0 f1 f2) (ho : d.S e W base ok v xs) (ht : e ≠ 111) : some g ≠ v.ownBlock := by
 obtain ⟨A0, c0, hb, hg, hr0⟩ := h
 exact Kd.S_ne ho hb ht
theorem IsS111.lt {w0 W : World} {g : Nat} {f0 : List Int} {f1 : Int} {f2 : Int} (h : IsS111 w0 W g f0 f1 f2) : g < W.heap.size := by
 obtain ⟨A0, c0, hb, hg, hr0⟩ := h
 exact blk_lt hb
theorem IsS111.ge {w0 W : World} {g : Nat} {f0 : List Int} {f1 : Int} {f2 : Int} (h : IsS111 w0 W g f0 f1 f2) : w0.heap.size ≤ g := by
 obtain ⟨A0, c0, hb, hg, hr0⟩ := h
 exact hg
theorem IsS111.ne_blk {w0 W : World} {g : Nat} {f0 : List Int} {f1 : Int} {f2 : Int} {a : Nat} {cs : Array Value} {t : TypeId} {fr : Nat × Nat} (h : IsS111 w0 W g f0 f1 f2) (hb2 : W.heap[a]? = some (.cells cs t fr)) (ht : t ≠ 111) : g ≠ a := by
 obtain ⟨A0, c0, hb, hg, hr0⟩ := h
 rintro rfl
 rw [hb] at hb2
 injection hb2 with hb2
 injection hb2 with _ ht2
 exact ht ht2.symm
theorem IsS111.far {w0 W : World} {g : Nat} {f0 : List Int} {f1 : Int} {f2 : Int} {p : Addr} (h : IsS111 w0 W g f0 f1 f2) (hne : g ≠ p.block) (u : Value) : IsS111 w0 (W.setCell p u) g f0 f1 f2 := by
 obtain ⟨A0, c0, hb, hg, hr0⟩ := h
 exact ⟨A0, c0, blk_far hb hne u, hg, hr0⟩
theorem IsS111.iS0 {w0 a W : World} {g : Nat} {f0 : List Int} {f1 : Int} {f2 : Int} (h : IsS111 w0 a g f0 f1 f2)  [b : SS [] a W] : IsS111 w0 W g f0 f1 f2 := b.go (fun W => IsS111 w0 W g f0 f1 f2) (fun _ o h => IsS111.alloc h o) (fun _ n h => IsS111.drewN h n) (fun _ h => IsS111.drew h) (fun _ g _ _ hg h => by simp at hg) h
theorem IsS111.iS1 {w0 a W : World} {g : Nat} {f0 : List Int} {f1 : Int} {f2 : Int} {g0 : Nat} (h : IsS111 w0 a g f0 f1 f2) (h0 : g ≠ g0) [b : SS [g0] a W] : IsS111 w0 W g f0 f1 f2 := b.go (fun W => IsS111 w0 W g f0 f1 f2) (fun _ o h => IsS111.alloc h o) (fun _ n h => IsS111.drewN h n) (fun _ h => IsS111.drew h) (fun _ g _ _ hg h => by simp only [List.mem_cons, List.not_mem_nil, or_false] at hg; rcases hg with rfl; all_goals exact IsS111.far h (by assumption) _) h
theorem IsS111.iS2 {w0 a W : World} {g : Nat} {f0 : List Int} {f1 : Int} {f2 : Int} {g0 g1 : Nat} (h : IsS111 w0 a g f0 f1 f2) (h0 : g ≠ g0) (h1 : g ≠ g1) [b : SS [g0, g1] a W] : IsS111 w0 W g f0 f1 f2 := b.go (fun W => IsS111 w0 W g f0 f1 f2) (fun _ o h => IsS111.alloc h o) (fun _ n h => IsS111.drewN h n) (fun _ h => IsS111.drew h) (fun _ g _ _ hg h => by simp only [List.mem_cons, List.not_mem_nil, or_false] at hg; rcases hg with rfl | rfl; all_goals exact IsS111.far h (by assumption) _) h
theorem IsS111.iS3 {w0 a W : World} {g : Nat} {f0 : List Int} {f1 : Int} {f2 : Int} {g0 g1 g2 : Nat} (h : IsS111 w0 a g f0 f1 f2) (h0 : g ≠ g0) (h1 : g ≠ g1) (h2 : g ≠ g2) [b : SS [g0, g1, g2] a W] : IsS111 w0 W g f0 f1 f2 := b.go (fun W => IsS111 w0 W g f0 f1 f2) (fun _ o h => IsS111.alloc h o) (fun _ n h => IsS111.drewN h n) (fun _ h => IsS111.drew h) (fun _ g _ _ hg h => by simp only [List.mem_cons, List.not_mem_nil, or_false] at hg; rcases hg with rfl | rfl | rfl; all_goals exact IsS111.far h (by assumption) _) h
theorem IsS111.iS4 {w0 a W : World} {g : Nat} {f0 : List Int} {f1 : Int} {f2 : Int} {g0 g1 g2 g3 : Nat} (h : IsS111 w0 a g f0 f1 f2) (h0 : g ≠ g0) (h1 : g ≠ g1) (h2 : g ≠ g2) (h3 : g ≠ g3) [b : SS [g0, g1, g2, g3] a W] : IsS111 w0 W g f0 f1 f2 := b.go (fun W => IsS111 w0 W g f0 f1 f2) (fun _ o h => IsS111.alloc h o) (fun _ n h => IsS111.drewN h n) (fun _ h => IsS111.drew h) (fun _ g _ _ hg h => by simp only [List.mem_cons, List.not_mem_nil, or_false] at hg; rcases hg with rfl | rfl | rfl | rfl; all_goals exact IsS111.far h (by assumption) _) h
theorem IsS111.iS5 {w0 a W : World} {g : Nat} {f0 : List Int} {f1 : Int} {f2 : Int} {g0 g1 g2 g3 g4 : Nat} (h : IsS111 w0 a g f0 f1 f2) (h0 : g ≠ g0) (h1 : g ≠ g1) (h2 : g ≠ g2) (h3 : g ≠ g3) (h4 : g ≠ g4) [b : SS [g0, g1, g2, g3, g4] a W] : IsS111 w0 W g f0 f1 f2 := b.go (fun W => IsS111 w0 W g f0 f1 f2) (fun _ o h => IsS111.alloc h o) (fun _ n h => IsS111.drewN h n) (fun _ h => IsS111.drew h) (fun _ g _ _ hg h => by simp only [List.mem_cons, List.not_mem_nil, or_false] at hg; rcases hg with rfl | rfl | rfl | rfl | rfl; all_goals exact IsS111.far h (by assumption) _) h
theorem IsS111.iS6 {w0 a W : World} {g : Nat} {f0 : List Int} {f1 : Int} {f2 : Int} {g0 g1 g2 g3 g4 g5 : Nat} (h : IsS111 w0 a g f0 f1 f2) (h0 : g ≠ g0) (h1 : g ≠ g1) (h2 : g ≠ g2) (h3 : g ≠ g3) (h4 : g ≠ g4) (h5 : g ≠ g5) [b : SS [g0, g1, g2, g3, g4, g5] a W] : IsS111 w0 W g f0 f1 f2 := b.go (fun W => IsS111 w0 W g f0 f1 f2) (fun _ o h => IsS111.alloc h o) (fun _ n h => IsS111.drewN h n) (fun _ h => IsS111.drew h) (fun _ g _ _ hg h => by simp only [List.mem_cons, List.not_mem_nil, or_false] at hg; rcases hg with rfl | rfl | rfl | rfl | rfl | rfl; all_goals exact IsS111.far h (by assumption) _) h
theorem IsS111.iS7 {w0 a W : World} {g : Nat} {f0 : List Int} {f1 : Int} {f2 : Int} {g0 g1 g2 g3 g4 g5 g6 : Nat} (h : IsS111 w0 a g f0 f1 f2) (h0 : g ≠ g0) (h1 : g ≠ g1) (h2 : g ≠ g2) (h3 : g ≠ g3) (h4 : g ≠ g4) (h5 : g ≠ g5) (h6 : g ≠ g6) [b : SS [g0, g1, g2, g3, g4, g5, g6] a W] : IsS111 w0 W g f0 f1 f2 := b.go (fun W => IsS111 w0 W g f0 f1 f2) (fun _ o h => IsS111.alloc h o) (fun _ n h => IsS111.drewN h n) (fun _ h => IsS111.drew h) (fun _ g _ _ hg h => by simp only [List.mem_cons, List.not_mem_nil, or_false] at hg; rcases hg with rfl | rfl | rfl | rfl | rfl | rfl | rfl; all_goals exact IsS111.far h (by assumption) _) h
theorem IsS111.iS8 {w0 a W : World} {g : Nat} {f0 : List Int} {f1 : Int} {f2 : Int} {g0 g1 g2 g3 g4 g5 g6 g7 : Nat} (h : IsS111 w0 a g f0 f1 f2) (h0 : g ≠ g0) (h1 : g ≠ g1) (h2 : g ≠ g2) (h3 : g ≠ g3) (h4 : g ≠ g4) (h5 : g ≠ g5) (h6 : g ≠ g6) (h7 : g ≠ g7) [b : SS [g0, g1, g2, g3, g4, g5, g6, g7] a W] : IsS111 w0 W g f0 f1 f2 := b.go (fun W => IsS111 w0 W g f0 f1 f2) (fun _ o h => IsS111.alloc h o) (fun _ n h => IsS111.drewN h n) (fun _ h => IsS111.drew h) (fun _ g _ _ hg h => by simp only [List.mem_cons, List.not_mem_nil, or_false] at hg; rcases hg with rfl | rfl | rfl | rfl | rfl | rfl | rfl | rfl; all_goals exact IsS111.far h (by assumption) _) h
theorem cellS111_0 {W : World} {g : Nat} {A0 : Option Addr} {c0 : Nat} {f0 : List Int} {f1 : Int} {f2 : Int} (h : W.heap[g]? = some (.cells #[.slice A0 f0.length c0, .int .i64 f1, .int .i64 f2] 111 (0, 0))) : W.cell? ⟨g, 0, none⟩ = some (.slice A0 f0.length c0) := (blk_cell h 0).trans rfl
theorem cellS111_1 {W : World} {g : Nat} {A0 : Option Addr} {c0 : Nat} {f0 : List Int} {f1 : Int} {f2 : Int} (h : W.heap[g]? = some (.cells #[.slice A0 f0.length c0, .int .i64 f1, .int .i64 f2] 111 (0, 0))) : W.cell? ⟨g, 1, none⟩ = some (.int .i64 f1) := (blk_cell h 1).trans rfl
theorem IsS111.set_1 {w0 W : World} {g : Nat} {f0 : List Int} {f1 : Int} {f2 : Int} (h : IsS111 w0 W g f0 f1 f2) (x : Int) : IsS111 w0 (W.setCell ⟨g, 1, none⟩ (.int .i64 x)) g f0 x f2 := by
 obtain ⟨A0, c0, hb, hg, hr0⟩ := h
 exact ⟨A0, c0, by simpa using blk_set hb 1 (.int .i64 x), hg, hr0⟩
theorem cellS111_2 {W : World} {g : Nat} {A0 : Option Addr} {c0 : Nat} {f0 : List Int} {f1 : Int} {f2 : Int} (h : W.heap[g]? = some (.cells #[.slice A0 f0.length c0, .int .i64 f1, .int .i64 f2] 111 (0, 0))) : W.cell? ⟨g, 2, none⟩ = some (.int .i64 f2) := (blk_cell h 2).trans rfl
theorem IsS111.set_2 {w0 W : World} {g : Nat} {f0 : List Int} {f1 : Int} {f2 : Int} (h : IsS111 w0 W g f0 f1 f2) (x : Int) : IsS111 w0 (W.setCell ⟨g, 2, none⟩ (.int .i64 x)) g f0 f1 x := by
 obtain ⟨A0, c0, hb, hg, hr0⟩ := h
 exact ⟨A0, c0, by simpa using blk_set hb 2 (.int .i64 x), hg, hr0⟩
theorem IsS111.new (w0 W : World) (A0 : Option Addr) (c0 : Nat) (f0 : List Int) (f1 : Int) (f2 : Int) (hB : Below w0.heap.size w0 W) (hr0 : Kd.C (Kd.int .u8) w0 A0 f0.length f0) : IsS111 w0 (W.alloc (.cells #[.slice A0 f0.length c0, .int .i64 f1, .int .i64 f2] 111)) W.heap.size f0 f1 f2 := ⟨A0, c0, by simpa using heap_alloc_new W _, hB.size, hr0⟩

/-! ### spec_l1New: function 56 -/
def spec_l1New.l0 : Nat → List Int → Int → Int → Option (List Int × Int × Int)
 | 0, _, _, _ => none
 | k + 1, x0, x3, x4 => if x4 < (x0.length : Int) then (if x4 < 4000 then (if 0 ≤ x4 then (spec_l1New.l0 k x0 (Go.bits .and .i64 (wrap64 ((wrap64 ((wrap64 (x3 * 137)) + (wrap64 (rd x0 x4)))) + 11)) 1073741823) (wrap64 (x4 + 1))) else (none)) else (some (x0, 0, x3))) else (some (x0, 0, x3))
def spec_l1New.f (k : Nat) (l0 : List Int) : Option (List Int × Int × Int) := spec_l1New.l0 k l0 (wrap64 (160909 + (l0.length : Int))) 0
theorem spec_l1New.mono_l : ∀ k, (∀ y0 y1 y2, LeO (spec_l1New.l0 k y0 y1 y2) (spec_l1New.l0 (k + 1) y0 y1 y2))
 | 0 => fun _ _ _ r h => by simp [spec_l1New.l0] at h
 | k + 1 => by
  have ih0 := spec_l1New.mono_l k
  ·intro y0 y1 y2
   unfold spec_l1New.l0
   repeat' first
   | (with_reducible first | exact ih0 _ _ _ | exact LeO.refl _ | exact LeO.none _ | refine LeO.ite ?_ ?_ | refine LeO.bind ?_ (fun _ => ?_))
   | refine LeO.ite ?_ ?_
   | refine LeO.bind ?_ (fun _ => ?_)
theorem spec_l1New.mono : ∀ a0 k, LeO (spec_l1New.f k a0) (spec_l1New.f (k + 1) a0) := by
 intro a0 k
 have ih0 := spec_l1New.mono_l k
 unfold spec_l1New.f
 repeat' first
   | (with_reducible first | exact ih0 _ _ _ | exact LeO.refl _ | exact LeO.none _ | refine LeO.ite ?_ ?_ | refine LeO.bind ?_ (fun _ => ?_))
   | refine LeO.ite ?_ ?_
   | refine LeO.bind ?_ (fun _ => ?_)
set_option maxHeartbeats 8000000 in
set_option maxRecDepth 100000 in
theorem spec_l1New.calls (k : Nat) (A0 : Option Addr) (c0 : Nat) (l0 : List Int) (r1 : List Int) (r2 : Int) (r3 : Int) (w0 w : World) (hB : Below w0.heap.size w0 w) (hr0 : Kd.C (Kd.int .u8) w0 A0 l0.length l0) (hc0 : l0.length ≤ c0) (h : spec_l1New.f k l0 = some (r1, r2, r3)) :
  Calls Tryd.prog 56 #[.slice A0 l0.length c0] w fun e w' => ∃ g_ : Nat, e = .returned (.pointer (some ⟨g_, 0, none⟩)) ∧ IsS111 w0 w' g_ r1 r2 r3 ∧ Below w0.heap.size w0 w' ∧ Below w.heap.size w w' := by
 have hu111 := Tryd.underlying111
 have HR0 := aS hr0
 have HC0 := aS hc0
 clear hr0 hc0
 have HBW := aS (Below.refl w.heap.size w)
 have HW0 := aS hB.size
 have HB := aS hB
 clear hB
 have H := h
 unfold spec_l1New.f at H
 clear h
 have H' := aS H
 clear H
 go_enter Tryd.func56, Tryd.ntmps56
 go_wp2
 go_loopg [3, 4] k (fun kq v3 v4 w' => ∃ (x3_1 : Int) (x4_1 : Int), v3 = .int .i64 x3_1 ∧ v4 = .int .i64 x4_1 ∧ Aside0 (spec_l1New.l0 kq l0 x3_1 x4_1 = some (r1, r2, r3)) ∧ Aside0 (kq ≤ k) ∧ Aside0 (Below w0.heap.size w0 w') ∧ Aside0 (Below w.heap.size w w'))
 case atStart => exact ⟨(wrap64 (160909 + (l0.length : Int))), (0), jB, jB, H', ⟨Nat.le_refl _⟩, ⟨by exact wU HB.out⟩, ⟨by repeat (first | (with_reducible first | exact HBW.out | apply below_alloc | apply pw_below_drewN | apply below_drew1) | exact HBW.out)⟩⟩
 case round =>
  clear H'
  obtain ⟨x3_1, x4_1, rfl, rfl, HA, HK1, HB, HBW⟩ := hrel
  cases gk with
  | zero => exact absurd HA.out (by simp [spec_l1New.l0])
  | succ k1 =>
   have H := HA.out
   clear HA
   simp only [spec_l1New.l0] at H
   by_cases c2 : x4_1 < (l0.length : Int)
   ·rw [if_pos c2] at H
    have c2b0 := decide_eq_true c2
    clear c2
    by_cases c3 : x4_1 < 4000
    ·rw [if_pos c3] at H
     have c3b0 := decide_eq_true c3
     clear c3
     by_cases c4 : 0 ≤ x4_1
     ·rw [if_pos c4] at H
      have c4b0 := decide_eq_true c4
      clear c4
      obtain ⟨ji5, hji5⟩ : ∃ j_ : Int, (Go.bits .and .i64 (wrap64 ((wrap64 ((wrap64 (x3_1 * 137)) + (wrap64 (rd l0 x4_1)))) + 11)) 1073741823) = j_ := ⟨_, rfl⟩
      replace H : (spec_l1New.l0 k1 l0 ji5 (wrap64 (x4_1 + 1))) = some (r1, r2, r3) := by first | (rw [hji5] at H; exact H) | (simp only [hji5] at H ⊢; exact H)
      have H' := aS H
      clear H
      have p101 : 0 ≤ (x4_1 : Int) := of_decide_eq_true jC
      have q101 : x4_1 < (l0.length : Int) := of_decide_eq_true jC
      obtain ⟨ad101, e101, hx101_0⟩ := Kd.at_int HR0.out x4_1 p101 q101
      cases e101
      replace hx101_0 := pw_cell_below HB.out hx101_0
      replace p101 := eq_true p101
      replace q101 := eq_true q101
      go_wp2
      go_roundg k1
      case measure => have := HK1.out; omega
      case rel => exact ⟨(ji5), (wrap64 (x4_1 + 1)), (by first | rfl | (simp; done) | (simp only [← hji5] <;> (first | rfl | simp)) | (simp [*]; done)), jB, H', ⟨by have := HK1.out; omega⟩, ⟨by exact wU HB.out⟩, ⟨by repeat (first | (with_reducible first | exact HBW.out | apply below_alloc | apply pw_below_drewN | apply below_drew1) | exact HBW.out)⟩⟩
     ·rw [if_neg c4] at H
      exact absurd H (by simp)
    ·rw [if_neg c3] at H
     have c3b0 := decide_eq_false c3
     clear c3
     simp only [Option.some.injEq, Prod.mk.injEq] at H
     obtain ⟨rfl, rfl, rfl⟩ := H
     go_wp2_with (first | ((with_reducible refine gate_dst (N := 31) rfl ?_); refine xB 31 #[.slice A0 l0.length c0, .int .i64 0, .int .i64 x3_1] 111 ?_; intro gb102 hg w6 hbox hb; replace HB := aS (below_step (wU HB.out) hb); have BK102 := aS (hbox); have GW102 := aS ((by rw [hg]; exact (below_size (by repeat (first | (with_reducible first | exact HBW.out | apply below_alloc | apply pw_below_drewN | apply below_drew1) | exact HBW.out))) : w.heap.size ≤ gb102)); have GE102 := aS ((Nat.le_trans HW0.out (by rw [hg]; exact (below_size (by repeat (first | (with_reducible first | exact HBW.out | apply below_alloc | apply pw_below_drewN | apply below_drew1) | exact HBW.out))) : w.heap.size ≤ gb102) : w0.heap.size ≤ gb102)); replace HBW := aS (below_step HBW.out hb); clear hb hbox hg))
     go_ret
     exact ⟨_, rfl, (show IsS111 w0 _ gb102 l0 0 x3_1 from ⟨_, _, by (with_reducible repeat (first | refine blk_drewN ?_ _ | refine blk_drew ?_ | refine blk_alloc ?_ _)); exact BK102.out, GE102.out, HR0.out⟩), by exact wS1 HB.out GE102.out, by exact wS1 HBW.out GW102.out⟩
   ·rw [if_neg c2] at H
    have c2b0 := decide_eq_false c2
    clear c2
    simp only [Option.some.injEq, Prod.mk.injEq] at H
    obtain ⟨rfl, rfl, rfl⟩ := H
    go_wp2_with (first | ((with_reducible refine gate_dst (N := 31) rfl ?_); refine xB 31 #[.slice A0 l0.length c0, .int .i64 0, .int .i64 x3_1] 111 ?_; intro gb103 hg w7 hbox hb; replace HB := aS (below_step (wU HB.out) hb); have BK103 := aS (hbox); have GW103 := aS ((by rw [hg]; exact (below_size (by repeat (first | (with_reducible first | exact HBW.out | apply below_alloc | apply pw_below_drewN | apply below_drew1) | exact HBW.out))) : w.heap.size ≤ gb103)); have GE103 := aS ((Nat.le_trans HW0.out (by rw [hg]; exact (below_size (by repeat (first | (with_reducible first | exact HBW.out | apply below_alloc | apply pw_below_drewN | apply below_drew1) | exact HBW.out))) : w.heap.size ≤ gb103) : w0.heap.size ≤ gb103)); replace HBW := aS (below_step HBW.out hb); clear hb hbox hg))
    go_ret
    exact ⟨_, rfl, (show IsS111 w0 _ gb103 l0 0 x3_1 from ⟨_, _, by (with_reducible repeat (first | refine blk_drewN ?_ _ | refine blk_drew ?_ | refine blk_alloc ?_ _)); exact BK103.out, GE103.out, HR0.out⟩), by exact wS1 HB.out GE103.out, by exact wS1 HBW.out GW103.out⟩

/-! ### spec_l1Byte: function 129 -/
def spec_l1Byte.f (s0_0 : List Int) (s0_1 : Int) (s0_2 : Int) : Option (Int × Int × Int) := if s0_1 < (s0_0.length : Int) then (if 0 ≤ s0_1 then (some (Go.bits .and .i64 (wrap64 ((Go.bits .and .i64 (Go.bits .xor .i64 ((wrap64 ((wrap64 (s0_2 * 6364136223846793005)) + 1442695040888963407)) / 8589934592) ((wrap64 ((wrap64 (s0_2 * 6364136223846793005)) + 1442695040888963407)) / 140737488355328)) 255) + (wrap64 (rd s0_0 s0_1)))) 255, wrap64 (s0_1 + 1), wrap64 ((wrap64 (s0_2 * 6364136223846793005)) + 1442695040888963407))) else (none)) else (some (Go.bits .and .i64 (Go.bits .xor .i64 ((wrap64 ((wrap64 (s0_2 * 6364136223846793005)) + 1442695040888963407)) / 8589934592) ((wrap64 ((wrap64 (s0_2 * 6364136223846793005)) + 1442695040888963407)) / 140737488355328)) 255, s0_1, wrap64 ((wrap64 (s0_2 * 6364136223846793005)) + 1442695040888963407)))
set_option maxHeartbeats 8000000 in
set_option maxRecDepth 100000 in
theorem spec_l1Byte.calls (g : Nat) (s0_0 : List Int) (s0_1 : Int) (s0_2 : Int) (r1 : Int) (r2 : Int) (r3 : Int) (w0 w : World) (hI : IsS111 w0 w g s0_0 s0_1 s0_2) (hB : Below w0.heap.size w0 w) (h : spec_l1Byte.f s0_0 s0_1 s0_2 = some (r1, r2, r3)) :
  Calls Tryd.prog 129 #[.pointer (some ⟨g, 0, none⟩)] w fun e w' => e = .returned (.int .i64 r1) ∧ IsS111 w0 w' g s0_0 r2 r3 ∧ Below w0.heap.size w0 w' ∧ KeepBut w w' g none := by
 have HI0 := aS hI
 have HK := aS (KeepBut.refl w g none)
 have HL := aS hB.size
 clear hI
 have HW0 := aS hB.size
 have HB := aS hB
 clear hB
 have H := h
 unfold spec_l1Byte.f at H
 clear h
 obtain ⟨ji2, hji2⟩ : ∃ j_ : Int, (Go.bits .xor .i64 ((wrap64 ((wrap64 (s0_2 * 6364136223846793005)) + 1442695040888963407)) / 8589934592) ((wrap64 ((wrap64 (s0_2 * 6364136223846793005)) + 1442695040888963407)) / 140737488355328)) = j_ := ⟨_, rfl⟩
 replace H : (if s0_1 < (s0_0.length : Int) then (if 0 ≤ s0_1 then (some (Go.bits .and .i64 (wrap64 ((Go.bits .and .i64 (ji2) 255) + (wrap64 (rd s0_0 s0_1)))) 255, wrap64 (s0_1 + 1), wrap64 ((wrap64 (s0_2 * 6364136223846793005)) + 1442695040888963407))) else (none)) else (some (Go.bits .and .i64 (ji2) 255, s0_1, wrap64 ((wrap64 (s0_2 * 6364136223846793005)) + 1442695040888963407)))) = some (r1, r2, r3) := by first | (rw [hji2] at H; exact H) | (simp only [hji2] at H ⊢; exact H)
 obtain ⟨ji3, hji3⟩ : ∃ j_ : Int, (Go.bits .and .i64 (ji2) 255) = j_ := ⟨_, rfl⟩
 replace H : (if s0_1 < (s0_0.length : Int) then (if 0 ≤ s0_1 then (some (Go.bits .and .i64 (wrap64 ((ji3) + (wrap64 (rd s0_0 s0_1)))) 255, wrap64 (s0_1 + 1), wrap64 ((wrap64 (s0_2 * 6364136223846793005)) + 1442695040888963407))) else (none)) else (some (ji3, s0_1, wrap64 ((wrap64 (s0_2 * 6364136223846793005)) + 1442695040888963407)))) = some (r1, r2, r3) := by first | (rw [hji3] at H; exact H) | (simp only [hji3] at H ⊢; exact H)
 by_cases c4 : s0_1 < (s0_0.length : Int)
 ·rw [if_pos c4] at H
  have c4b0 := decide_eq_true c4
  clear c4
  by_cases c5 : 0 ≤ s0_1
  ·rw [if_pos c5] at H
   have c5b0 := decide_eq_true c5
   clear c5
   obtain ⟨ji6, hji6⟩ : ∃ j_ : Int, (Go.bits .and .i64 (wrap64 ((ji3) + (wrap64 (rd s0_0 s0_1)))) 255) = j_ := ⟨_, rfl⟩
   replace H : (some (ji6, wrap64 (s0_1 + 1), wrap64 ((wrap64 (s0_2 * 6364136223846793005)) + 1442695040888963407))) = some (r1, r2, r3) := by first | (rw [hji6] at H; exact H) | (simp only [hji6] at H ⊢; exact H)
   simp only [Option.some.injEq, Prod.mk.injEq] at H
   obtain ⟨rfl, rfl, rfl⟩ := H
   obtain ⟨ASz7_0, cSz7_0, HGz7, hgz7, HSz7_0⟩ := HI0.out
   have hcz7_0 := cellS111_0 HGz7
   have hcz7_1 := cellS111_1 HGz7
   have hcz7_2 := cellS111_2 HGz7
   have hfz7_1 := blk_frozen HGz7 1
   have hfz7_2 := blk_frozen HGz7 2
   clear HGz7 hgz7
   have p104 : 0 ≤ (s0_1 : Int) := of_decide_eq_true jC
   have q104 : s0_1 < (s0_0.length : Int) := of_decide_eq_true jC
   obtain ⟨ad104, e104, hx104_0⟩ := Kd.at_int HSz7_0 s0_1 p104 q104
   cases e104
   have hn104_0 : ad104.block ≠ g := Nat.ne_of_lt (Nat.lt_of_lt_of_le (by have := World.block_lt_of_cell? _ _ hx104_0; first | rwa [add_block] at this | exact this) (IsS111.ge HI0.out))
   replace hx104_0 := pw_cell_below HB.out hx104_0
   replace hx104_0 := (cell_far (p := ⟨g, 2, none⟩) (by first | (rw [add_block]; exact hn104_0) | (show (Addr.add _ _).block ≠ _; rw [add_block]; exact hn104_0) | exact hn104_0) (.int .i64 (wrap64 ((wrap64 (s0_2 * 6364136223846793005)) + 1442695040888963407)))).trans hx104_0
   (try have hy104_0 := fun (n_ : Nat) => (show (((w.drewN n_).setCell ⟨g, 2, none⟩ (.int .i64 (wrap64 ((wrap64 (s0_2 * 6364136223846793005)) + 1442695040888963407))))).cell? _ = some _ from hx104_0))
   clear hn104_0
   replace p104 := eq_true p104
   replace q104 := eq_true q104
   go_enter Tryd.func129, Tryd.ntmps129
   go_wp2
   repeat (go_quiet (fail); try go_wp2)
   go_ret
   exact ⟨by first | rfl | (simp [errW_none, errW_some] <;> rfl) | (simp only [← hji2, ← hji3, ← hji6]; first | rfl | (simp [errW_none, errW_some] <;> rfl)) | (simp [*, errW_none, errW_some] <;> rfl), by repeat (first | (with_reducible first | exact HI0.out | apply IsS111.alloc | apply IsS111.drewN | apply IsS111.drew | apply IsS111.set_1 | apply IsS111.set_2) | exact HI0.out), by exact wS1 HB.out (IsS111.ge HI0.out), by exact kS0 HK.out⟩
  ·rw [if_neg c5] at H
   exact absurd H (by simp)
 ·rw [if_neg c4] at H
  have c4b0 := decide_eq_false c4
  clear c4
  simp only [Option.some.injEq, Prod.mk.injEq] at H
  obtain ⟨rfl, rfl, rfl⟩ := H
  obtain ⟨ASz8_0, cSz8_0, HGz8, hgz8, HSz8_0⟩ := HI0.out
  have hcz8_0 := cellS111_0 HGz8
  have hcz8_1 := cellS111_1 HGz8
  have hcz8_2 := cellS111_2 HGz8
  have hfz8_1 := blk_frozen HGz8 1
  have hfz8_2 := blk_frozen HGz8 2
  clear HGz8 hgz8
  go_enter Tryd.func129, Tryd.ntmps129
  go_wp2
  repeat (go_quiet (fail); try go_wp2)
  go_ret
  exact ⟨by first | rfl | (simp [errW_none, errW_some] <;> rfl) | (simp only [← hji2, ← hji3]; first | rfl | (simp [errW_none, errW_some] <;> rfl)) | (simp [*, errW_none, errW_some] <;> rfl), by repeat (first | (with_reducible first | exact HI0.out | apply IsS111.alloc | apply IsS111.drewN | apply IsS111.drew | apply IsS111.set_1 | apply IsS111.set_2) | exact HI0.out), by exact wS1 HB.out (IsS111.ge HI0.out), by exact kS0 HK.out⟩

/-! ### spec_l1Below: function 78 -/
def spec_l1Below.f (s0_0 : List Int) (s0_1 : Int) (s0_2 : Int) (a1 : Int) : Option (Int × Int × Int) := if a1 ≤ 0 then (some (0, s0_1, s0_2)) else (if a1 ≤ 256 then ((spec_l1Byte.f s0_0 s0_1 s0_2).bind fun bt105 => (if a1 = 0 then (none) else (some (Int.tmod bt105.1 a1, bt105.2.1, bt105.2.2)))) else ((spec_l1Byte.f s0_0 s0_1 s0_2).bind fun bt108 => ((spec_l1Byte.f s0_0 bt108.2.1 bt108.2.2).bind fun bt111 => ((spec_l1Byte.f s0_0 bt111.2.1 bt111.2.2).bind fun bt114 => (if a1 = 0 then (none) else (some (Int.tmod (wrap64 ((wrap64 ((wrap64 (bt108.1 * 65536)) + (wrap64 (bt111.1 * 256)))) + bt114.1)) a1, bt114.2.1, bt114.2.2)))))))
set_option maxHeartbeats 8000000 in
set_option maxRecDepth 100000 in
theorem spec_l1Below.calls (g : Nat) (s0_0 : List Int) (s0_1 : Int) (s0_2 : Int) (a1 : Int) (r1 : Int) (r2 : Int) (r3 : Int) (w0 w : World) (hI : IsS111 w0 w g s0_0 s0_1 s0_2) (hB : Below w0.heap.size w0 w) (h : spec_l1Below.f s0_0 s0_1 s0_2 a1 = some (r1, r2, r3)) :
  Calls Tryd.prog 78 #[.pointer (some ⟨g, 0, none⟩), .int .i64 a1] w fun e w' => e = .returned (.int .i64 r1) ∧ IsS111 w0 w' g s0_0 r2 r3 ∧ Below w0.heap.size w0 w' ∧ KeepBut w w' g none := by
 have HI0 := aS hI
 have HK := aS (KeepBut.refl w g none)
 have HL := aS hB.size
 clear hI
 have HW0 := aS hB.size
 have HB := aS hB
 clear hB
 have H := h
 unfold spec_l1Below.f at H
 clear h
 by_cases c3 : a1 ≤ 0
 ·rw [if_pos c3] at H
  have c3b0 := decide_eq_true c3
  clear c3
  simp only [Option.some.injEq, Prod.mk.injEq] at H
  obtain ⟨rfl, rfl, rfl⟩ := H
  go_enter Tryd.func78, Tryd.ntmps78
  go_wp2
  go_ret
  exact ⟨jE, by exact IsS111.iS0 HI0.out, by exact wS1 HB.out (IsS111.ge HI0.out), by exact kS0 HK.out⟩
 ·rw [if_neg c3] at H
  have c3b0 := decide_eq_false c3
  clear c3
  by_cases c4 : a1 ≤ 256
  ·rw [if_pos c4] at H
   have c4b0 := decide_eq_true c4
   clear c4
   obtain ⟨⟨t105, t106, t107⟩, A5, H⟩ := bM H
   try dsimp only at H
   by_cases c6 : a1 = 0
   ·rw [if_pos c6] at H
    exact absurd H (by simp)
   ·rw [if_neg c6] at H
    have c6b0 := beq_eq_false_iff_ne.mpr c6
    have c6b1 := bne_iff_ne.mpr c6
    simp only [Option.some.injEq, Prod.mk.injEq] at H
    obtain ⟨rfl, rfl, rfl⟩ := H
    go_enter Tryd.func78, Tryd.ntmps78
    go_wp2_with (first | ((with_reducible refine gate_callee (f := 129) rfl ?_); refine gL (some 13) Tryd.func129 #[.pointer (some ⟨g, 0, none⟩)] ?_; (with_reducible refine (spec_l1Byte.calls g s0_0 s0_1 s0_2 t105 t106 t107 w0 _ ?side1 ?side2 A5.out).mono ?_); (case side1 => exact IsS111.iS0 HI0.out); (case side2 => exact wS1 HB.out (IsS111.ge HI0.out)); rintro e w7 ⟨rfl, hi, hb, hk⟩; refine ⟨_, rfl, ?_⟩; replace HK := aS (KeepBut.trans (kS0 HK.out) hk (.inl rfl)); replace HB := aS (hb); replace HI0 := aS (hi); clear hi hb hk))
    go_ret
    exact ⟨jE, by exact IsS111.iS0 HI0.out, by exact wS1 HB.out (IsS111.ge HI0.out), by exact kS0 HK.out⟩
  ·rw [if_neg c4] at H
   have c4b0 := decide_eq_false c4
   clear c4
   obtain ⟨⟨t108, t109, t110⟩, A8, H⟩ := bM H
   try dsimp only at H
   obtain ⟨⟨t111, t112, t113⟩, A9, H⟩ := bM H
   try dsimp only at H
   obtain ⟨⟨t114, t115, t116⟩, A10, H⟩ := bM H
   try dsimp only at H
   by_cases c11 : a1 = 0
   ·rw [if_pos c11] at H
    exact absurd H (by simp)
   ·rw [if_neg c11] at H
    have c11b0 := beq_eq_false_iff_ne.mpr c11
    have c11b1 := bne_iff_ne.mpr c11
    simp only [Option.some.injEq, Prod.mk.injEq] at H
    obtain ⟨rfl, rfl, rfl⟩ := H
    go_enter Tryd.func78, Tryd.ntmps78
    go_wp2_with (first | ((with_reducible refine gate_callee (f := 129) rfl ?_); refine gL (some 17) Tryd.func129 #[.pointer (some ⟨g, 0, none⟩)] ?_; (with_reducible refine (spec_l1Byte.calls g s0_0 s0_1 s0_2 t108 t109 t110 w0 _ ?side1 ?side2 A8.out).mono ?_); (case side1 => exact IsS111.iS0 HI0.out); (case side2 => exact wS1 HB.out (IsS111.ge HI0.out)); rintro e w12 ⟨rfl, hi, hb, hk⟩; refine ⟨_, rfl, ?_⟩; replace HK := aS (KeepBut.trans (kS0 HK.out) hk (.inl rfl)); replace HB := aS (hb); replace HI0 := aS (hi); clear hi hb hk) | ((with_reducible refine gate_callee (f := 129) rfl ?_); refine gL (some 19) Tryd.func129 #[.pointer (some ⟨g, 0, none⟩)] ?_; (with_reducible refine (spec_l1Byte.calls g s0_0 t109 t110 t111 t112 t113 w0 _ ?side1 ?side2 A9.out).mono ?_); (case side1 => exact IsS111.iS0 HI0.out); (case side2 => exact wS1 HB.out (IsS111.ge HI0.out)); rintro e w13 ⟨rfl, hi, hb, hk⟩; refine ⟨_, rfl, ?_⟩; replace HK := aS (KeepBut.trans (kS0 HK.out) hk (.inl rfl)); replace HB := aS (hb); replace HI0 := aS (hi); clear hi hb hk) | ((with_reducible refine gate_callee (f := 129) rfl ?_); refine gL (some 21) Tryd.func129 #[.pointer (some ⟨g, 0, none⟩)] ?_; (with_reducible refine (spec_l1Byte.calls g s0_0 t112 t113 t114 t115 t116 w0 _ ?side1 ?side2 A10.out).mono ?_); (case side1 => exact IsS111.iS0 HI0.out); (case side2 => exact wS1 HB.out (IsS111.ge HI0.out)); rintro e w14 ⟨rfl, hi, hb, hk⟩; refine ⟨_, rfl, ?_⟩; replace HK := aS (KeepBut.trans (kS0 HK.out) hk (.inl rfl)); replace HB := aS (hb); replace HI0 := aS (hi); clear hi hb hk))
    go_ret
    exact ⟨jE, by exact IsS111.iS0 HI0.out, by exact wS1 HB.out (IsS111.ge HI0.out), by exact kS0 HK.out⟩

/-! ### spec_l1Int: function 81 -/
def spec_l1Int.f (s0_0 : List Int) (s0_1 : Int) (s0_2 : Int) (l1 : List Int) : Option (Int × Int × Int) := (spec_l1Below.f s0_0 s0_1 s0_2 (l1.length : Int)).bind fun bt117 => (if 0 ≤ bt117.1 then (if bt117.1 < (l1.length : Int) then (some (rd l1 bt117.1, bt117.2.1, bt117.2.2)) else (none)) else (none))
set_option maxHeartbeats 8000000 in
set_option maxRecDepth 100000 in
theorem spec_l1Int.calls (g : Nat) (s0_0 : List Int) (s0_1 : Int) (s0_2 : Int) (A1 : Option Addr) (c1 : Nat) (l1 : List Int) (r1 : Int) (r2 : Int) (r3 : Int) (w0 w : World) (hI : IsS111 w0 w g s0_0 s0_1 s0_2) (hB : Below w0.heap.size w0 w) (hr1 : Kd.C (Kd.int .i64) w A1 l1.length l1) (hc1 : l1.length ≤ c1) (hf1 : ∀ ad, A1 = some ad → 0 < l1.length → ad.block ≠ g) (h : spec_l1Int.f s0_0 s0_1 s0_2 l1 = some (r1, r2, r3)) :
  Calls Tryd.prog 81 #[.pointer (some ⟨g, 0, none⟩), .slice A1 l1.length c1] w fun e w' => e = .returned (.int .i64 r1) ∧ IsS111 w0 w' g s0_0 r2 r3 ∧ Below w0.heap.size w0 w' ∧ KeepBut w w' g none := by
 have HR1 := aS hr1
 have HC1 := aS hc1
 clear hr1 hc1
 have HI0 := aS hI
 have HK := aS (KeepBut.refl w g none)
 have HL := aS hB.size
 clear hI
 have HW0 := aS hB.size
 have HB := aS hB
 clear hB
 have H := h
 unfold spec_l1Int.f at H
 clear h
 obtain ⟨⟨t117, t118, t119⟩, A3, H⟩ := bM H
 try dsimp only at H
 by_cases c4 : 0 ≤ t117
 ·rw [if_pos c4] at H
  have c4b0 := decide_eq_true c4
  clear c4
  by_cases c5 : t117 < (l1.length : Int)
  ·rw [if_pos c5] at H
   have c5b0 := decide_eq_true c5
   clear c5
   simp only [Option.some.injEq, Prod.mk.injEq] at H
   obtain ⟨rfl, rfl, rfl⟩ := H
   go_enter Tryd.func81, Tryd.ntmps81
   go_wp2_with (first | ((with_reducible refine gate_callee (f := 78) rfl ?_); refine gL (some 9) Tryd.func78 #[.pointer (some ⟨g, 0, none⟩), .int .i64 (l1.length : Int)] ?_; (with_reducible refine (spec_l1Below.calls g s0_0 s0_1 s0_2 (l1.length : Int) t117 t118 t119 w0 _ ?side1 ?side2 A3.out).mono ?_); (case side1 => exact IsS111.iS0 HI0.out); (case side2 => exact wS1 HB.out (IsS111.ge HI0.out)); rintro e w6 ⟨rfl, hi, hb, hk⟩; refine ⟨_, rfl, ?_⟩; replace HK := aS (KeepBut.trans (kS0 HK.out) hk (.inl rfl)); replace HB := aS (hb); replace HI0 := aS (hi); clear hi hb hk; have p120 : 0 ≤ (t117 : Int) := of_decide_eq_true jC; have q120 : t117 < (l1.length : Int) := of_decide_eq_true jC; obtain ⟨ad120, e120, hx120_0⟩ := Kd.at_int HR1.out t117 p120 q120; cases e120; replace hx120_0 := keep_cell HK.out hx120_0 (by first | (rw [add_block]; exact hf1 _ rfl (by omega)) | exact hf1 _ rfl (by omega) | exact hf1 ad120 rfl (by omega)); replace p120 := eq_true p120; replace q120 := eq_true q120))
   go_ret
   exact ⟨jE, by exact IsS111.iS0 HI0.out, by exact wS1 HB.out (IsS111.ge HI0.out), by exact kS0 HK.out⟩
  ·rw [if_neg c5] at H
   exact absurd H (by simp)
 ·rw [if_neg c4] at H
  exact absurd H (by simp)

/-! ### spec_l1Str: function 113 -/
def spec_l1Str.f (s0_0 : List Int) (s0_1 : Int) (s0_2 : Int) (l1 : List ByteArray) : Option (ByteArray × Int × Int) := (spec_l1Below.f s0_0 s0_1 s0_2 (l1.length : Int)).bind fun bt121 => (if 0 ≤ bt121.1 then (if bt121.1 < (l1.length : Int) then (some (rdOf ByteArray.empty l1 bt121.1, bt121.2.1, bt121.2.2)) else (none)) else (none))
set_option maxHeartbeats 8000000 in
set_option maxRecDepth 100000 in
theorem spec_l1Str.calls (g : Nat) (s0_0 : List Int) (s0_1 : Int) (s0_2 : Int) (A1 : Option Addr) (c1 : Nat) (l1 : List ByteArray) (r1 : ByteArray) (r2 : Int) (r3 : Int) (w0 w : World) (hI : IsS111 w0 w g s0_0 s0_1 s0_2) (hB : Below w0.heap.size w0 w) (hr1 : Kd.C Kd.string w A1 l1.length l1) (hc1 : l1.length ≤ c1) (hf1 : ∀ ad, A1 = some ad → 0 < l1.length → ad.block ≠ g) (h : spec_l1Str.f s0_0 s0_1 s0_2 l1 = some (r1, r2, r3)) :
  Calls Tryd.prog 113 #[.pointer (some ⟨g, 0, none⟩), .slice A1 l1.length c1] w fun e w' => e = .returned (.string r1) ∧ IsS111 w0 w' g s0_0 r2 r3 ∧ Below w0.heap.size w0 w' ∧ KeepBut w w' g none := by
 have HR1 := aS hr1
 have HC1 := aS hc1
 clear hr1 hc1
 have HI0 := aS hI
 have HK := aS (KeepBut.refl w g none)
 have HL := aS hB.size
 clear hI
 have HW0 := aS hB.size
 have HB := aS hB
 clear hB
 have H := h
 unfold spec_l1Str.f at H
 clear h
 obtain ⟨⟨t121, t122, t123⟩, A3, H⟩ := bM H
 try dsimp only at H
 by_cases c4 : 0 ≤ t121
 ·rw [if_pos c4] at H
  have c4b0 := decide_eq_true c4
  clear c4
  by_cases c5 : t121 < (l1.length : Int)
  ·rw [if_pos c5] at H
   have c5b0 := decide_eq_true c5
   clear c5
   simp only [Option.some.injEq, Prod.mk.injEq] at H
   obtain ⟨rfl, rfl, rfl⟩ := H
   go_enter Tryd.func113, Tryd.ntmps113
   go_wp2_with (first | ((with_reducible refine gate_callee (f := 78) rfl ?_); refine gL (some 9) Tryd.func78 #[.pointer (some ⟨g, 0, none⟩), .int .i64 (l1.length : Int)] ?_; (with_reducible refine (spec_l1Below.calls g s0_0 s0_1 s0_2 (l1.length : Int) t121 t122 t123 w0 _ ?side1 ?side2 A3.out).mono ?_); (case side1 => exact IsS111.iS0 HI0.out); (case side2 => exact wS1 HB.out (IsS111.ge HI0.out)); rintro e w6 ⟨rfl, hi, hb, hk⟩; refine ⟨_, rfl, ?_⟩; replace HK := aS (KeepBut.trans (kS0 HK.out) hk (.inl rfl)); replace HB := aS (hb); replace HI0 := aS (hi); clear hi hb hk; have p124 : 0 ≤ (t121 : Int) := of_decide_eq_true jC; have q124 : t121 < (l1.length : Int) := of_decide_eq_true jC; obtain ⟨ad124, e124, hx124_0⟩ := Kd.at_string HR1.out t121 p124 q124; cases e124; replace hx124_0 := keep_cell HK.out hx124_0 (by first | (rw [add_block]; exact hf1 _ rfl (by omega)) | exact hf1 _ rfl (by omega) | exact hf1 ad124 rfl (by omega)); replace p124 := eq_true p124; replace q124 := eq_true q124))
   go_ret
   exact ⟨jE, by exact IsS111.iS0 HI0.out, by exact wS1 HB.out (IsS111.ge HI0.out), by exact kS0 HK.out⟩
  ·rw [if_neg c5] at H
   exact absurd H (by simp)
 ·rw [if_neg c4] at H
  exact absurd H (by simp)

/-! ### spec_l3Name: function 85 -/
def spec_l3Name.f (s0_0 : List Int) (s0_1 : Int) (s0_2 : Int) : Option (ByteArray × Int × Int) := (spec_l1Str.f s0_0 s0_1 s0_2 (([(⟨#[]⟩ : ByteArray), (⟨#[99, 111, 109]⟩ : ByteArray), (⟨#[101, 120, 46, 99, 111, 109]⟩ : ByteArray), (⟨#[119, 119, 119, 46, 101, 120, 46, 99, 111, 109]⟩ : ByteArray), (⟨#[110, 115, 46, 101, 120, 46, 99, 111, 109]⟩ : ByteArray), (⟨#[111, 114, 103]⟩ : ByteArray), (⟨#[97, 46, 111, 114, 103]⟩ : ByteArray), (⟨#[98, 46, 97, 46, 111, 114, 103]⟩ : ByteArray), (⟨#[110, 115, 49, 46, 111, 114, 103]⟩ : ByteArray), (⟨#[120, 46, 121, 46, 122, 46, 101, 120, 46, 99, 111, 109]⟩ : ByteArray)] : List ByteArray))).bind fun bt128 => (some (bt128.1, bt128.2.1, bt128.2.2))
set_option maxHeartbeats 8000000 in
set_option maxRecDepth 100000 in
theorem spec_l3Name.calls (g : Nat) (s0_0 : List Int) (s0_1 : Int) (s0_2 : Int) (r1 : ByteArray) (r2 : Int) (r3 : Int) (w0 w : World) (hI : IsS111 w0 w g s0_0 s0_1 s0_2) (hB : Below w0.heap.size w0 w) (h : spec_l3Name.f s0_0 s0_1 s0_2 = some (r1, r2, r3)) :
  Calls Tryd.prog 85 #[.pointer (some ⟨g, 0, none⟩)] w fun e w' => e = .returned (.string r1) ∧ IsS111 w0 w' g s0_0 r2 r3 ∧ Below w0.heap.size w0 w' ∧ KeepBut w w' g none := by
 have HI0 := aS hI
 have HK := aS (KeepBut.refl w g none)
 have HL := aS hB.size
 clear hI
 have HW0 := aS hB.size
 have HB := aS hB
 clear hB
 have H := h
 unfold spec_l3Name.f at H
 clear h
 obtain ⟨y125, hy_⟩ : ∃ y_ : List ByteArray, y_ = (([(⟨#[]⟩ : ByteArray), (⟨#[99, 111, 109]⟩ : ByteArray), (⟨#[101, 120, 46, 99, 111, 109]⟩ : ByteArray), (⟨#[119, 119, 119, 46, 101, 120, 46, 99, 111, 109]⟩ : ByteArray), (⟨#[110, 115, 46, 101, 120, 46, 99, 111, 109]⟩ : ByteArray), (⟨#[111, 114, 103]⟩ : ByteArray), (⟨#[97, 46, 111, 114, 103]⟩ : ByteArray), (⟨#[98, 46, 97, 46, 111, 114, 103]⟩ : ByteArray), (⟨#[110, 115, 49, 46, 111, 114, 103]⟩ : ByteArray), (⟨#[120, 46, 121, 46, 122, 46, 101, 120, 46, 99, 111, 109]⟩ : ByteArray)] : List ByteArray)) := ⟨_, rfl⟩
 replace H : ((spec_l1Str.f s0_0 s0_1 s0_2 y125).bind fun bt128 => (some (bt128.1, bt128.2.1, bt128.2.2))) = some (r1, r2, r3) := jD
 have Ny125 := aS hy_
 clear hy_
 obtain ⟨⟨t128, t129, t130⟩, A2, H⟩ := bM H
 try dsimp only at H
 simp only [Option.some.injEq, Prod.mk.injEq] at H
 obtain ⟨rfl, rfl, rfl⟩ := H
 go_enter Tryd.func85, Tryd.ntmps85
 go_wp2_with (first | ((with_reducible refine gate_dst (N := 4) rfl ?_); refine Kd.R_lit Kd.string _ 9 ?hg (N := 4) ?hd (xs := ([(⟨#[]⟩ : ByteArray), (⟨#[99, 111, 109]⟩ : ByteArray), (⟨#[101, 120, 46, 99, 111, 109]⟩ : ByteArray), (⟨#[119, 119, 119, 46, 101, 120, 46, 99, 111, 109]⟩ : ByteArray), (⟨#[110, 115, 46, 101, 120, 46, 99, 111, 109]⟩ : ByteArray), (⟨#[111, 114, 103]⟩ : ByteArray), (⟨#[97, 46, 111, 114, 103]⟩ : ByteArray), (⟨#[98, 46, 97, 46, 111, 114, 103]⟩ : ByteArray), (⟨#[110, 115, 49, 46, 111, 114, 103]⟩ : ByteArray), (⟨#[120, 46, 121, 46, 122, 46, 101, 120, 46, 99, 111, 109]⟩ : ByteArray)] : List ByteArray)) (inner := [.string (⟨#[]⟩ : ByteArray), .string (⟨#[99, 111, 109]⟩ : ByteArray), .string (⟨#[101, 120, 46, 99, 111, 109]⟩ : ByteArray), .string (⟨#[119, 119, 119, 46, 101, 120, 46, 99, 111, 109]⟩ : ByteArray), .string (⟨#[110, 115, 46, 101, 120, 46, 99, 111, 109]⟩ : ByteArray), .string (⟨#[111, 114, 103]⟩ : ByteArray), .string (⟨#[97, 46, 111, 114, 103]⟩ : ByteArray), .string (⟨#[98, 46, 97, 46, 111, 114, 103]⟩ : ByteArray), .string (⟨#[110, 115, 49, 46, 111, 114, 103]⟩ : ByteArray), .string (⟨#[120, 46, 121, 46, 122, 46, 101, 120, 46, 99, 111, 109]⟩ : ByteArray)]) (ok := fun _ => True) (okp := fun _ => True) ?hr ?hp (fun _ hk => hk) trivial (Below.refl _ _) (Nat.le_refl _) (by simp) ?_; (case hd => rfl); (case hg => rfl); (case hr => first | (go_simp; done) | (go_simp; rfl)); (case hp => exact (Reps.one (show Kd.M Kd.string _ _ _ (⟨#[]⟩ : ByteArray) [.string (⟨#[]⟩ : ByteArray)] from rfl) (Reps.one (show Kd.M Kd.string _ _ _ (⟨#[99, 111, 109]⟩ : ByteArray) [.string (⟨#[99, 111, 109]⟩ : ByteArray)] from rfl) (Reps.one (show Kd.M Kd.string _ _ _ (⟨#[101, 120, 46, 99, 111, 109]⟩ : ByteArray) [.string (⟨#[101, 120, 46, 99, 111, 109]⟩ : ByteArray)] from rfl) (Reps.one (show Kd.M Kd.string _ _ _ (⟨#[119, 119, 119, 46, 101, 120, 46, 99, 111, 109]⟩ : ByteArray) [.string (⟨#[119, 119, 119, 46, 101, 120, 46, 99, 111, 109]⟩ : ByteArray)] from rfl) (Reps.one (show Kd.M Kd.string _ _ _ (⟨#[110, 115, 46, 101, 120, 46, 99, 111, 109]⟩ : ByteArray) [.string (⟨#[110, 115, 46, 101, 120, 46, 99, 111, 109]⟩ : ByteArray)] from rfl) (Reps.one (show Kd.M Kd.string _ _ _ (⟨#[111, 114, 103]⟩ : ByteArray) [.string (⟨#[111, 114, 103]⟩ : ByteArray)] from rfl) (Reps.one (show Kd.M Kd.string _ _ _ (⟨#[97, 46, 111, 114, 103]⟩ : ByteArray) [.string (⟨#[97, 46, 111, 114, 103]⟩ : ByteArray)] from rfl) (Reps.one (show Kd.M Kd.string _ _ _ (⟨#[98, 46, 97, 46, 111, 114, 103]⟩ : ByteArray) [.string (⟨#[98, 46, 97, 46, 111, 114, 103]⟩ : ByteArray)] from rfl) (Reps.one (show Kd.M Kd.string _ _ _ (⟨#[110, 115, 49, 46, 111, 114, 103]⟩ : ByteArray) [.string (⟨#[110, 115, 49, 46, 111, 114, 103]⟩ : ByteArray)] from rfl) (Reps.one (show Kd.M Kd.string _ _ _ (⟨#[120, 46, 121, 46, 122, 46, 101, 120, 46, 99, 111, 109]⟩ : ByteArray) [.string (⟨#[120, 46, 121, 46, 122, 46, 101, 120, 46, 99, 111, 109]⟩ : ByteArray)] from rfl) (Reps.none _ _)))))))))))); intro v126 w3 ho4 hb hg_ hnew_; clear hg_ hnew_; (first | rw [← Ny125.out] at ho4 | (simp only [Int.reduceToNat] at ho4; rw [← Ny125.out] at ho4)); have HO127 := aS (Kd.R_lower ho4 (keep_size (w := w) (g := g) (row := none) (kS0 HK.out))); replace HK := aS (KeepBut.trans (kS0 HK.out) (KeepBut.of_below hb g none) (.inl rfl)); replace HB := aS (below_step (by exact wS1 HB.out (IsS111.ge HI0.out)) hb); replace HI0 := aS (IsS111.below (IsS111.iS0 HI0.out) hb); clear hb ho4; obtain ⟨Ao5, co5, eo5⟩ := Kd.R_slice HO127.out; subst eo5) | ((with_reducible refine gate_callee (f := 113) rfl ?_); refine gL (some 5) Tryd.func113 #[.pointer (some ⟨g, 0, none⟩), .slice Ao5 y125.length co5] ?_; (with_reducible refine (spec_l1Str.calls g s0_0 s0_1 s0_2 _ _ y125 t128 t129 t130 w0 _ ?side1 ?side2 ?side3 ?side4 ?side5 A2.out).mono ?_); (case side1 => exact IsS111.iS0 HI0.out); (case side2 => exact wS1 HB.out (IsS111.ge HI0.out)); (case side3 => exact cU ((Kd.R_reads' HO127.out).2.2)); (case side4 => exact (Kd.R_reads' HO127.out).2.1); (case side5 => exact far_slice (IsS111.own_ne HI0.out HO127.out (by decide))); rintro e w6 ⟨rfl, hi, hb, hk⟩; refine ⟨_, rfl, ?_⟩; replace HO127 := kR hk (IsS111.apart (IsS111.iS0 HI0.out) (rU HO127.out) (by decide)); replace HK := aS (KeepBut.trans (kS0 HK.out) hk (.inl rfl)); replace HB := aS (hb); replace HI0 := aS (hi); clear hi hb hk))
 go_ret
 exact ⟨jE, by exact IsS111.iS0 HI0.out, by exact wS1 HB.out (IsS111.ge HI0.out), by exact kS0 HK.out⟩

/-! ### spec_l5Type: function 130 -/
def spec_l5Type.f (s0_0 : List Int) (s0_1 : Int) (s0_2 : Int) : Option (Int × Int × Int) := (spec_l1Int.f s0_0 s0_1 s0_2 (([1, 1, 1, 2, 2, 5, 6, 16] : List Int))).bind fun bt134 => (some (bt134.1, bt134.2.1, bt134.2.2))
set_option maxHeartbeats 8000000 in
set_option maxRecDepth 100000 in
theorem spec_l5Type.calls (g : Nat) (s0_0 : List Int) (s0_1 : Int) (s0_2 : Int) (r1 : Int) (r2 : Int) (r3 : Int) (w0 w : World) (hI : IsS111 w0 w g s0_0 s0_1 s0_2) (hB : Below w0.heap.size w0 w) (h : spec_l5Type.f s0_0 s0_1 s0_2 = some (r1, r2, r3)) :
  Calls Tryd.prog 130 #[.pointer (some ⟨g, 0, none⟩)] w fun e w' => e = .returned (.int .i64 r1) ∧ IsS111 w0 w' g s0_0 r2 r3 ∧ Below w0.heap.size w0 w' ∧ KeepBut w w' g none := by
 have HI0 := aS hI
 have HK := aS (KeepBut.refl w g none)
 have HL := aS hB.size
 clear hI
 have HW0 := aS hB.size
 have HB := aS hB
 clear hB
 have H := h
 unfold spec_l5Type.f at H
 clear h
 obtain ⟨y131, hy_⟩ : ∃ y_ : List Int, y_ = (([1, 1, 1, 2, 2, 5, 6, 16] : List Int)) := ⟨_, rfl⟩
 rw [← hy_] at H
 have Ny131 := aS hy_
 clear hy_
 obtain ⟨⟨t134, t135, t136⟩, A2, H⟩ := bM H
 try dsimp only at H
 simp only [Option.some.injEq, Prod.mk.injEq] at H
 obtain ⟨rfl, rfl, rfl⟩ := H
 go_enter Tryd.func130, Tryd.ntmps130
 go_wp2_with (first | ((with_reducible refine gate_dst (N := 4) rfl ?_); refine Kd.R_lit (Kd.int .i64) _ 3 ?hg (N := 4) ?hd (xs := ([1, 1, 1, 2, 2, 5, 6, 16] : List Int)) (inner := [.int .i64 1, .int .i64 1, .int .i64 1, .int .i64 2, .int .i64 2, .int .i64 5, .int .i64 6, .int .i64 16]) (ok := fun _ => True) (okp := fun _ => True) ?hr ?hp (fun _ hk => hk) trivial (Below.refl _ _) (Nat.le_refl _) (by simp) ?_; (case hd => rfl); (case hg => rfl); (case hr => first | (go_simp; done) | (go_simp; rfl)); (case hp => exact (Reps.one (show Kd.M (Kd.int .i64) _ _ _ 1 [.int .i64 1] from rfl) (Reps.one (show Kd.M (Kd.int .i64) _ _ _ 1 [.int .i64 1] from rfl) (Reps.one (show Kd.M (Kd.int .i64) _ _ _ 1 [.int .i64 1] from rfl) (Reps.one (show Kd.M (Kd.int .i64) _ _ _ 2 [.int .i64 2] from rfl) (Reps.one (show Kd.M (Kd.int .i64) _ _ _ 2 [.int .i64 2] from rfl) (Reps.one (show Kd.M (Kd.int .i64) _ _ _ 5 [.int .i64 5] from rfl) (Reps.one (show Kd.M (Kd.int .i64) _ _ _ 6 [.int .i64 6] from rfl) (Reps.one (show Kd.M (Kd.int .i64) _ _ _ 16 [.int .i64 16] from rfl) (Reps.none _ _)))))))))); intro v132 w3 ho4 hb hg_ hnew_; clear hg_ hnew_; (first | rw [← Ny131.out] at ho4 | (simp only [Int.reduceToNat] at ho4; rw [← Ny131.out] at ho4)); have HO133 := aS (Kd.R_lower ho4 (keep_size (w := w) (g := g) (row := none) (kS0 HK.out))); replace HK := aS (KeepBut.trans (kS0 HK.out) (KeepBut.of_below hb g none) (.inl rfl)); replace HB := aS (below_step (by exact wS1 HB.out (IsS111.ge HI0.out)) hb); replace HI0 := aS (IsS111.below (IsS111.iS0 HI0.out) hb); clear hb ho4; obtain ⟨Ao5, co5, eo5⟩ := Kd.R_slice HO133.out; subst eo5) | ((with_reducible refine gate_callee (f := 81) rfl ?_); refine gL (some 5) Tryd.func81 #[.pointer (some ⟨g, 0, none⟩), .slice Ao5 y131.length co5] ?_; (with_reducible refine (spec_l1Int.calls g s0_0 s0_1 s0_2 _ _ y131 t134 t135 t136 w0 _ ?side1 ?side2 ?side3 ?side4 ?side5 A2.out).mono ?_); (case side1 => exact IsS111.iS0 HI0.out); (case side2 => exact wS1 HB.out (IsS111.ge HI0.out)); (case side3 => exact cU ((Kd.R_reads' HO133.out).2.2)); (case side4 => exact (Kd.R_reads' HO133.out).2.1); (case side5 => exact far_slice (IsS111.own_ne HI0.out HO133.out (by decide))); rintro e w6 ⟨rfl, hi, hb, hk⟩; refine ⟨_, rfl, ?_⟩; replace HO133 := kR hk (IsS111.apart (IsS111.iS0 HI0.out) (rU HO133.out) (by decide)); replace HK := aS (KeepBut.trans (kS0 HK.out) hk (.inl rfl)); replace HB := aS (hb); replace HI0 := aS (hi); clear hi hb hk))
 go_ret
 exact ⟨jE, by exact IsS111.iS0 HI0.out, by exact wS1 HB.out (IsS111.ge HI0.out), by exact kS0 HK.out⟩

/-! ### spec_l5Draw: function 79 -/
def spec_l5Draw.j0 : Nat → Int → Bool → List Int → Int → Int → ByteArray → Int → Int → Int → ByteArray → ByteArray → Option (ByteArray × Int × Int × Int × ByteArray × ByteArray × Int × Int)
 | 0, _, _, _, _, _, _, _, _, _, _, _ => none
 | k + 1, x13, x20, x1000, x1001, x1002, x151000, x151001, x151002, x151003, x151004, x151005 => if x20 = true then ((spec_l3Name.f x1000 x1001 x1002).bind fun bt154 => (some (x151000, x151001, x151002, x151003, bt154.1, x151005, bt154.2.1, bt154.2.2))) else (if x13 = 6 then ((spec_l3Name.f x1000 x1001 x1002).bind fun bt157 => ((spec_l1Int.f x1000 bt157.2.1 bt157.2.2 (([0, 5, 60] : List Int))).bind fun bt163 => (some (x151000, x151001, x151002, bt163.1, bt157.1, x151005, bt163.2.1, bt163.2.2)))) else (if x13 = 16 then ((spec_l1Str.f x1000 x1001 x1002 (([(⟨#[]⟩ : ByteArray), (⟨#[104, 105]⟩ : ByteArray), (⟨#[116, 119, 101, 108, 118, 101, 98, 121, 116, 101, 115, 33]⟩ : ByteArray)] : List ByteArray))).bind fun bt169 => (some (x151000, x151001, x151002, x151003, x151004, bt169.1, bt169.2.1, bt169.2.2))) else (some (x151000, x151001, x151002, x151003, x151004, x151005, x1001, x1002))))
def spec_l5Draw.f (k : Nat) (s0_0 : List Int) (s0_1 : Int) (s0_2 : Int) : Option (ByteArray × Int × Int × Int × ByteArray × ByteArray × Int × Int) := (spec_l3Name.f s0_0 s0_1 s0_2).bind fun bt138 => ((spec_l5Type.f s0_0 bt138.2.1 bt138.2.2).bind fun bt141 => ((spec_l1Int.f s0_0 bt141.2.1 bt141.2.2 (([0, 1, 5, 60, 300, 100000] : List Int))).bind fun bt147 => (if bt141.1 = 1 then ((spec_l1Below.f s0_0 bt147.2.1 bt147.2.2 9).bind fun bt151 => (some (bt138.1, bt141.1, bt147.1, wrap64 (1 + bt151.1), (⟨#[]⟩ : ByteArray), (⟨#[]⟩ : ByteArray), bt151.2.1, bt151.2.2))) else (if bt141.1 = 2 then (spec_l5Draw.j0 k bt141.1 (bt141.1 == 2) s0_0 bt147.2.1 bt147.2.2 bt138.1 bt141.1 bt147.1 0 (⟨#[]⟩ : ByteArray) (⟨#[]⟩ : ByteArray)) else (spec_l5Draw.j0 k bt141.1 (bt141.1 == 5) s0_0 bt147.2.1 bt147.2.2 bt138.1 bt141.1 bt147.1 0 (⟨#[]⟩ : ByteArray) (⟨#[]⟩ : ByteArray))))))
theorem spec_l5Draw.mono_l : ∀ k, (∀ y0 y1 y2 y3 y4 y5 y6 y7 y8 y9 y10, LeO (spec_l5Draw.j0 k y0 y1 y2 y3 y4 y5 y6 y7 y8 y9 y10) (spec_l5Draw.j0 (k + 1) y0 y1 y2 y3 y4 y5 y6 y7 y8 y9 y10))
 | 0 => fun _ _ _ _ _ _ _ _ _ _ _ r h => by simp [spec_l5Draw.j0] at h
 | k + 1 => by
  have ih0 := spec_l5Draw.mono_l k
  ·intro y0 y1 y2 y3 y4 y5 y6 y7 y8 y9 y10
   unfold spec_l5Draw.j0
   repeat' first
   | (with_reducible first | exact ih0 _ _ _ _ _ _ _ _ _ _ _ | exact LeO.refl _ | exact LeO.none _ | refine LeO.ite ?_ ?_ | refine LeO.bind ?_ (fun _ => ?_))
   | refine LeO.ite ?_ ?_
   | refine LeO.bind ?_ (fun _ => ?_)
theorem spec_l5Draw.mono : ∀ a0 a1 a2 k, LeO (spec_l5Draw.f k a0 a1 a2) (spec_l5Draw.f (k + 1) a0 a1 a2) := by
 intro a0 a1 a2 k
 have ih0 := spec_l5Draw.mono_l k
 unfold spec_l5Draw.f
 repeat' first
   | (with_reducible first | exact ih0 _ _ _ _ _ _ _ _ _ _ _ | exact LeO.refl _ | exact LeO.none _ | refine LeO.ite ?_ ?_ | refine LeO.bind ?_ (fun _ => ?_))
   | refine LeO.ite ?_ ?_
   | refine LeO.bind ?_ (fun _ => ?_)
set_option maxHeartbeats 8000000 in
set_option maxRecDepth 100000 in
theorem spec_l5Draw.calls (k : Nat) (g : Nat) (s0_0 : List Int) (s0_1 : Int) (s0_2 : Int) (r1 : ByteArray) (r2 : Int) (r3 : Int) (r4 : Int) (r5 : ByteArray) (r6 : ByteArray) (r7 : Int) (r8 : Int) (w0 w : World) (hI : IsS111 w0 w g s0_0 s0_1 s0_2) (hB : Below w0.heap.size w0 w) (h : spec_l5Draw.f k s0_0 s0_1 s0_2 = some (r1, r2, r3, r4, r5, r6, r7, r8)) :
  Calls Tryd.prog 79 #[.pointer (some ⟨g, 0, none⟩)] w fun e w' => e = .returned (.agg #[.string r1, .int .i64 r2, .int .i64 r3, .int .i64 r4, .string r5, .string r6]) ∧ IsS111 w0 w' g s0_0 r7 r8 ∧ Below w0.heap.size w0 w' ∧ KeepBut w w' g none := by
 have hu25 := Tryd.underlying25
 have HI0 := aS hI
 have HK := aS (KeepBut.refl w g none)
 have HL := aS hB.size
 clear hI
 have HW0 := aS hB.size
 have HB := aS hB
 clear hB
 have H := h
 unfold spec_l5Draw.f at H
 clear h
 obtain ⟨⟨t138, t139, t140⟩, A2, H⟩ := bM H
 try dsimp only at H
 obtain ⟨⟨t141, t142, t143⟩, A3, H⟩ := bM H
 try dsimp only at H
 obtain ⟨y144, hy_⟩ : ∃ y_ : List Int, y_ = (([0, 1, 5, 60, 300, 100000] : List Int)) := ⟨_, rfl⟩
 rw [← hy_] at H
 have Ny144 := aS hy_
 clear hy_
 obtain ⟨⟨t147, t148, t149⟩, A4, H⟩ := bM H
 try dsimp only at H
 have HC5 := aS H
 clear H
 go_enter Tryd.func79, Tryd.ntmps79
 go_upto_if 14 with (first | ((with_reducible refine gate_dst (N := 2) rfl ?_); refine xB 2 #[.string (⟨#[]⟩ : ByteArray), .int .i64 0, .int .i64 0, .int .i64 0, .string (⟨#[]⟩ : ByteArray), .string (⟨#[]⟩ : ByteArray)] 25 ?_; intro gb137 hg w6 hbox hb; replace HB := aS (below_step (by exact wS1 HB.out (IsS111.ge HI0.out)) hb); have BK137 := aS (hbox); have GW137 := aS ((by rw [hg]; exact (keep_size (w := w) (g := g) (row := none) (kS0 HK.out)) : w.heap.size ≤ gb137)); have GE137 := aS ((Nat.le_trans HW0.out (by rw [hg]; exact (keep_size (w := w) (g := g) (row := none) (kS0 HK.out)) : w.heap.size ≤ gb137) : w0.heap.size ≤ gb137)); replace HK := aS (KeepBut.trans (kS0 HK.out) (KeepBut.of_below hb g none) (.inl rfl)); have NB0_137 := aS ((by rw [hg]; exact Nat.ne_of_lt (IsS111.lt (show IsS111 w0 _ g s0_0 s0_1 s0_2 from by exact IsS111.iS0 HI0.out)) : g ≠ gb137)); have NB137_0 := aS ((by rw [hg]; exact Nat.ne_of_gt (IsS111.lt (show IsS111 w0 _ g s0_0 s0_1 s0_2 from by exact IsS111.iS0 HI0.out)) : gb137 ≠ g)); replace HI0 := aS (IsS111.below (IsS111.iS0 HI0.out) hb); clear hb hbox hg) | ((with_reducible refine gate_callee (f := 85) rfl ?_); refine gL (some 5) Tryd.func85 #[.pointer (some ⟨g, 0, none⟩)] ?_; (with_reducible refine (spec_l3Name.calls g s0_0 s0_1 s0_2 t138 t139 t140 w0 _ ?side1 ?side2 A2.out).mono ?_); (case side1 => exact IsS111.iS1 HI0.out NB0_137.out); (case side2 => exact wS2 HB.out (IsS111.ge HI0.out) GE137.out); rintro e w7 ⟨rfl, hi, hb, hk⟩; refine ⟨_, rfl, ?_⟩; replace BK137 := kB hk (bU BK137.out) NB137_0.out; replace HK := aS (KeepBut.trans (kS1 HK.out GW137.out) hk (.inl rfl)); replace HB := aS (hb); replace HI0 := aS (hi); clear hi hb hk) | ((with_reducible refine gate_callee (f := 130) rfl ?_); refine gL (some 7) Tryd.func130 #[.pointer (some ⟨g, 0, none⟩)] ?_; (with_reducible refine (spec_l5Type.calls g s0_0 t139 t140 t141 t142 t143 w0 _ ?side1 ?side2 A3.out).mono ?_); (case side1 => exact IsS111.iS1 HI0.out NB0_137.out); (case side2 => exact wS2 HB.out (IsS111.ge HI0.out) GE137.out); rintro e w8 ⟨rfl, hi, hb, hk⟩; refine ⟨_, rfl, ?_⟩; replace BK137 := kB hk (bU BK137.out) NB137_0.out; replace HK := aS (KeepBut.trans (kS1 HK.out GW137.out) hk (.inl rfl)); replace HB := aS (hb); replace HI0 := aS (hi); clear hi hb hk) | ((with_reducible refine gate_dst (N := 9) rfl ?_); refine Kd.R_lit (Kd.int .i64) _ 3 ?hg (N := 9) ?hd (xs := ([0, 1, 5, 60, 300, 100000] : List Int)) (inner := [.int .i64 0, .int .i64 1, .int .i64 5, .int .i64 60, .int .i64 300, .int .i64 100000]) (ok := fun _ => True) (okp := fun _ => True) ?hr ?hp (fun _ hk => hk) trivial (Below.refl _ _) (Nat.le_refl _) (by simp) ?_; (case hd => rfl); (case hg => rfl); (case hr => first | (go_simp; done) | (go_simp; rfl)); (case hp => exact (Reps.one (show Kd.M (Kd.int .i64) _ _ _ 0 [.int .i64 0] from rfl) (Reps.one (show Kd.M (Kd.int .i64) _ _ _ 1 [.int .i64 1] from rfl) (Reps.one (show Kd.M (Kd.int .i64) _ _ _ 5 [.int .i64 5] from rfl) (Reps.one (show Kd.M (Kd.int .i64) _ _ _ 60 [.int .i64 60] from rfl) (Reps.one (show Kd.M (Kd.int .i64) _ _ _ 300 [.int .i64 300] from rfl) (Reps.one (show Kd.M (Kd.int .i64) _ _ _ 100000 [.int .i64 100000] from rfl) (Reps.none _ _)))))))); intro v145 w9 ho10 hb hg_ hnew_; clear hg_ hnew_; (first | rw [← Ny144.out] at ho10 | (simp only [Int.reduceToNat] at ho10; rw [← Ny144.out] at ho10)); have HO146 := aS (Kd.R_lower ho10 (keep_size (w := w) (g := g) (row := none) (kS1 HK.out GW137.out))); replace BK137 := bB BK137 hb; replace HK := aS (KeepBut.trans (kS1 HK.out GW137.out) (KeepBut.of_below hb g none) (.inl rfl)); replace HB := aS (below_step (by exact wS2 HB.out (IsS111.ge HI0.out) GE137.out) hb); replace HI0 := aS (IsS111.below (IsS111.iS1 HI0.out NB0_137.out) hb); clear hb ho10; obtain ⟨Ao11, co11, eo11⟩ := Kd.R_slice HO146.out; subst eo11) | ((with_reducible refine gate_callee (f := 81) rfl ?_); refine gL (some 10) Tryd.func81 #[.pointer (some ⟨g, 0, none⟩), .slice Ao11 y144.length co11] ?_; (with_reducible refine (spec_l1Int.calls g s0_0 t142 t143 _ _ y144 t147 t148 t149 w0 _ ?side1 ?side2 ?side3 ?side4 ?side5 A4.out).mono ?_); (case side1 => exact IsS111.iS1 HI0.out NB0_137.out); (case side2 => exact wS2 HB.out (IsS111.ge HI0.out) GE137.out); (case side3 => exact cU ((Kd.R_reads' HO146.out).2.2)); (case side4 => exact (Kd.R_reads' HO146.out).2.1); (case side5 => exact far_slice (IsS111.own_ne HI0.out HO146.out (by decide))); rintro e w12 ⟨rfl, hi, hb, hk⟩; refine ⟨_, rfl, ?_⟩; replace BK137 := kB hk (bU BK137.out) NB137_0.out; replace HO146 := kR hk (IsS111.apart (IsS111.iS1 HI0.out NB0_137.out) (rU HO146.out) (by decide)); replace HK := aS (KeepBut.trans (kS1 HK.out GW137.out) hk (.inl rfl)); replace HB := aS (hb); replace HI0 := aS (hi); clear hi hb hk) | ((with_reducible refine gate_dst (N := 3) rfl ?_); refine xB 3 #[.string (⟨#[]⟩ : ByteArray), .int .i64 0, .int .i64 0, .int .i64 0, .string (⟨#[]⟩ : ByteArray), .string (⟨#[]⟩ : ByteArray)] 25 ?_; intro gb150 hg w13 hbox hb; replace HO146 := rB HO146 hb; replace HB := aS (below_step (by exact wS2 HB.out (IsS111.ge HI0.out) GE137.out) hb); have BK150 := aS (hbox); have GW150 := aS ((by rw [hg]; exact (keep_size (w := w) (g := g) (row := none) (kS1 HK.out GW137.out)) : w.heap.size ≤ gb150)); have GE150 := aS ((Nat.le_trans HW0.out (by rw [hg]; exact (keep_size (w := w) (g := g) (row := none) (kS1 HK.out GW137.out)) : w.heap.size ≤ gb150) : w0.heap.size ≤ gb150)); replace HK := aS (KeepBut.trans (kS1 HK.out GW137.out) (KeepBut.of_below hb g none) (.inl rfl)); have NB137_150 := nB hg BK137; have NB150_137 := nS NB137_150; replace BK137 := bB BK137 hb; have NB0_150 := aS ((by rw [hg]; exact Nat.ne_of_lt (IsS111.lt (show IsS111 w0 _ g s0_0 t148 t149 from by exact IsS111.iS1 HI0.out NB0_137.out)) : g ≠ gb150)); have NB150_0 := aS ((by rw [hg]; exact Nat.ne_of_gt (IsS111.lt (show IsS111 w0 _ g s0_0 t148 t149 from by exact IsS111.iS1 HI0.out NB0_137.out)) : gb150 ≠ g)); replace HI0 := aS (IsS111.below (IsS111.iS1 HI0.out NB0_137.out) hb); clear hb hbox hg; have hnb14 := NB150_137.out; have hnc14 := NB137_150.out; have hnb15 := NB150_0.out; have hnc15 := NB0_150.out; have hcz16 := cells6f BK150.out))
 (try simp only [Act.put, List.setIfInBounds_toArray, List.set_cons_zero, List.set_cons_succ])
 have H := HC5.out
 clear HC5
 by_cases c17 : t141 = 1
 ·rw [if_pos c17] at H
  have c17b0 := beq_iff_eq.mpr c17
  have c17b1 := bne_eq_false_iff_eq.mpr c17
  clear c17
  (first | rw [c17b0] | (simp only [i64_w, i32_w]; rw [c17b0]) | skip)
  obtain ⟨⟨t151, t152, t153⟩, A18, H⟩ := bM H
  try dsimp only at H
  simp only [Option.some.injEq, Prod.mk.injEq] at H
  obtain ⟨rfl, rfl, rfl, rfl, rfl, rfl, rfl, rfl⟩ := H
  go_wp2_with (first | ((with_reducible refine gate_callee (f := 78) rfl ?_); refine gL (some 17) Tryd.func78 #[.pointer (some ⟨g, 0, none⟩), .int .i64 9] ?_; (with_reducible refine (spec_l1Below.calls g s0_0 t148 t149 9 t151 t152 t153 w0 _ ?side1 ?side2 A18.out).mono ?_); (case side1 => exact IsS111.iS2 HI0.out NB0_137.out NB0_150.out); (case side2 => exact wS3 HB.out (IsS111.ge HI0.out) GE137.out GE150.out); rintro e w19 ⟨rfl, hi, hb, hk⟩; refine ⟨_, rfl, ?_⟩; replace BK137 := kB hk (bF1 BK137.out NB137_150.out) NB137_0.out; replace HO146 := kR hk (IsS111.apart (IsS111.iS2 HI0.out NB0_137.out NB0_150.out) ((rF1 HO146.out BK150.out)) (by decide)); replace BK150 := kB hk (bO (p6 (bU BK150.out))) NB150_0.out; replace HK := aS (KeepBut.trans (kS2 HK.out GW137.out GW150.out) hk (.inl rfl)); replace HB := aS (hb); replace HI0 := aS (hi); clear hi hb hk; have hnb20 := NB150_137.out; have hnc20 := NB137_150.out; have hnb21 := NB150_0.out; have hnc21 := NB0_150.out; have hcz22 := cells6f BK150.out; have hnb23 := NB137_0.out; have hnc23 := NB0_137.out; have hcz24 := cells6f BK137.out))
  refine bodyPost_ret (results_cell_row rfl _ _ gb137 25 #[.string t138, .int .i64 t141, .int .i64 t147, .int .i64 (wrap64 (1 + t151)), .string (⟨#[]⟩ : ByteArray), .string (⟨#[]⟩ : ByteArray)] (0, 0) _ rfl (by (with_reducible repeat (first | refine blk_drewN ?_ _ | refine blk_drew ?_ | refine blk_alloc ?_ _)); refine blk_put_6 (.string (⟨#[]⟩ : ByteArray)) (.int .i64 0) (.int .i64 0) (.int .i64 0) (.string (⟨#[]⟩ : ByteArray)) (.string (⟨#[]⟩ : ByteArray)) ?_; (with_reducible repeat (first | refine blk_drewN ?_ _ | refine blk_drew ?_ | refine blk_alloc ?_ _)); refine blk_far ?_ NB137_150.out _; exact bU BK137.out) Tryd.underlying25 rfl jK) rfl ?_
  exact ⟨jE, by exact IsS111.iS2 HI0.out NB0_137.out NB0_150.out, by exact wS3 HB.out (IsS111.ge HI0.out) GE137.out GE150.out, by exact kS2 HK.out GW137.out GW150.out⟩
 ·rw [if_neg c17] at H
  have c17b0 := beq_eq_false_iff_ne.mpr c17
  have c17b1 := bne_iff_ne.mpr c17
  (first | rw [c17b0] | (simp only [i64_w, i32_w]; rw [c17b0]) | skip)
  have HC25 := aS H
  clear H
  go_upto_if 20 with (fail)
  go_cut [20] (fun v20 wc => ∃ (kq : Nat) (x20_24 : Bool), v20 = .bool x20_24 ∧ Aside0 (spec_l5Draw.j0 kq t141 x20_24 s0_0 t148 t149 t138 t141 t147 0 (⟨#[]⟩ : ByteArray) (⟨#[]⟩ : ByteArray) = some (r1, r2, r3, r4, r5, r6, r7, r8)) ∧ Aside0 (kq ≤ k) ∧ Aside0 (wc.heap[gb137]? = some (.cells #[.string (⟨#[]⟩ : ByteArray), .int .i64 0, .int .i64 0, .int .i64 0, .string (⟨#[]⟩ : ByteArray), .string (⟨#[]⟩ : ByteArray)] 25 (0, 0))) ∧ Aside0 (wc.heap[gb150]? = some (.cells #[.string t138, .int .i64 t141, .int .i64 t147, .int .i64 0, .string (⟨#[]⟩ : ByteArray), .string (⟨#[]⟩ : ByteArray)] 25 (0, 0))) ∧ Aside0 (IsS111 w0 wc g s0_0 t148 t149) ∧ Aside0 (KeepBut w wc g none) ∧ Aside0 (Below w0.heap.size w0 wc))
  case first =>
   have H := HC25.out
   clear HC25
   by_cases c26 : t141 = 2
   ·rw [if_pos c26] at H
    have c26b0 := beq_iff_eq.mpr c26
    have c26b1 := bne_eq_false_iff_eq.mpr c26
    clear c26
    (first | rw [c26b0] | (simp only [i64_w, i32_w]; rw [c26b0]) | skip)
    have H' := aS H
    clear H
    go_wp2
    go_meet
    case rel => exact ⟨_, ((t141 == 2)), jB, H', ⟨by first | omega | exact Nat.le_refl _⟩, ⟨by exact bF1 BK137.out NB137_150.out⟩, ⟨by exact bO (p6 (bU BK150.out))⟩, ⟨by exact IsS111.iS2 HI0.out NB0_137.out NB0_150.out⟩, ⟨by exact kS2 HK.out GW137.out GW150.out⟩, ⟨by exact wS3 HB.out (IsS111.ge HI0.out) GE137.out GE150.out⟩⟩
   ·rw [if_neg c26] at H
    have c26b0 := beq_eq_false_iff_ne.mpr c26
    have c26b1 := bne_iff_ne.mpr c26
    (first | rw [c26b0] | (simp only [i64_w, i32_w]; rw [c26b0]) | skip)
    have H' := aS H
    clear H
    go_wp2
    go_meet
    case rel => exact ⟨_, ((t141 == 5)), jB, H', ⟨by first | omega | exact Nat.le_refl _⟩, ⟨by exact bF1 BK137.out NB137_150.out⟩, ⟨by exact bO (p6 (bU BK150.out))⟩, ⟨by exact IsS111.iS2 HI0.out NB0_137.out NB0_150.out⟩, ⟨by exact kS2 HK.out GW137.out GW150.out⟩, ⟨by exact wS3 HB.out (IsS111.ge HI0.out) GE137.out GE150.out⟩⟩
  case rest =>
   clear HC25
   try clear c1
   try clear c2
   try clear p2
   try clear p6
   try clear c7
   try clear c8
   try clear c13
   try clear c14
   try clear c15
   try clear c17
   try clear c17b0
   try clear c17b1
   try clear c20
   try clear c21
   try clear c23
   try clear c26
   try clear c26b0
   try clear c26b1
   try clear hcz16
   try clear hcz22
   try clear hcz24
   obtain ⟨kq, x20_24, rfl, HA, HJ24, BK137, BK150, HI0, HK, HB⟩ := hcut
   cases kq with
   | zero => exact absurd HA.out (by simp [spec_l5Draw.j0])
   | succ kj24 =>
    have H := HA.out
    clear HA
    simp only [spec_l5Draw.j0] at H
    by_cases c27 : x20_24 = true
    ·subst c27
     rw [if_pos rfl] at H
     obtain ⟨⟨t154, t155, t156⟩, A28, H⟩ := bM H
     try dsimp only at H
     simp only [Option.some.injEq, Prod.mk.injEq] at H
     obtain ⟨rfl, rfl, rfl, rfl, rfl, rfl, rfl, rfl⟩ := H
     go_wp2_with (first | ((with_reducible refine gate_callee (f := 85) rfl ?_); refine gL (some 24) Tryd.func85 #[.pointer (some ⟨g, 0, none⟩)] ?_; (with_reducible refine (spec_l3Name.calls g s0_0 t148 t149 t154 t155 t156 w0 _ ?side1 ?side2 A28.out).mono ?_); (case side1 => exact IsS111.iS2 HI0.out NB0_137.out NB0_150.out); (case side2 => exact wS3 HB.out (IsS111.ge HI0.out) GE137.out GE150.out); rintro e w29 ⟨rfl, hi, hb, hk⟩; refine ⟨_, rfl, ?_⟩; replace BK137 := kB hk (bU BK137.out) NB137_0.out; replace BK150 := kB hk (bU BK150.out) NB150_0.out; replace HK := aS (KeepBut.trans (kS2 HK.out GW137.out GW150.out) hk (.inl rfl)); replace HB := aS (hb); replace HI0 := aS (hi); clear hi hb hk; have hnb30 := NB150_137.out; have hnc30 := NB137_150.out; have hnb31 := NB150_0.out; have hnc31 := NB0_150.out; have hcz32 := cells6f BK150.out; have hnb33 := NB137_0.out; have hnc33 := NB0_137.out; have hcz34 := cells6f BK137.out))
     refine bodyPost_ret (results_cell_row rfl _ _ gb137 25 #[.string t138, .int .i64 t141, .int .i64 t147, .int .i64 0, .string t154, .string (⟨#[]⟩ : ByteArray)] (0, 0) _ rfl (by (with_reducible repeat (first | refine blk_drewN ?_ _ | refine blk_drew ?_ | refine blk_alloc ?_ _)); refine blk_put_6 (.string (⟨#[]⟩ : ByteArray)) (.int .i64 0) (.int .i64 0) (.int .i64 0) (.string (⟨#[]⟩ : ByteArray)) (.string (⟨#[]⟩ : ByteArray)) ?_; (with_reducible repeat (first | refine blk_drewN ?_ _ | refine blk_drew ?_ | refine blk_alloc ?_ _)); refine blk_far ?_ NB137_150.out _; exact bU BK137.out) Tryd.underlying25 rfl jK) rfl ?_
     exact ⟨jE, by exact IsS111.iS2 HI0.out NB0_137.out NB0_150.out, by exact wS3 HB.out (IsS111.ge HI0.out) GE137.out GE150.out, by exact kS2 HK.out GW137.out GW150.out⟩
    ·replace c27 := Bool.eq_false_iff.mpr c27
     subst c27
     rw [if_neg Bool.false_ne_true] at H
     by_cases c35 : t141 = 6
     ·rw [if_pos c35] at H
      have c35b0 := beq_iff_eq.mpr c35
      have c35b1 := bne_eq_false_iff_eq.mpr c35
      clear c35
      obtain ⟨⟨t157, t158, t159⟩, A36, H⟩ := bM H
      try dsimp only at H
      obtain ⟨y160, hy_⟩ : ∃ y_ : List Int, y_ = (([0, 5, 60] : List Int)) := ⟨_, rfl⟩
      rw [← hy_] at H
      have Ny160 := aS hy_
      clear hy_
      obtain ⟨⟨t163, t164, t165⟩, A37, H⟩ := bM H
      try dsimp only at H
      simp only [Option.some.injEq, Prod.mk.injEq] at H
      obtain ⟨rfl, rfl, rfl, rfl, rfl, rfl, rfl, rfl⟩ := H
      go_wp2_with (first | ((with_reducible refine gate_callee (f := 85) rfl ?_); refine gL (some 29) Tryd.func85 #[.pointer (some ⟨g, 0, none⟩)] ?_; (with_reducible refine (spec_l3Name.calls g s0_0 t148 t149 t157 t158 t159 w0 _ ?side1 ?side2 A36.out).mono ?_); (case side1 => exact IsS111.iS2 HI0.out NB0_137.out NB0_150.out); (case side2 => exact wS3 HB.out (IsS111.ge HI0.out) GE137.out GE150.out); rintro e w38 ⟨rfl, hi, hb, hk⟩; refine ⟨_, rfl, ?_⟩; replace BK137 := kB hk (bU BK137.out) NB137_0.out; replace BK150 := kB hk (bU BK150.out) NB150_0.out; replace HK := aS (KeepBut.trans (kS2 HK.out GW137.out GW150.out) hk (.inl rfl)); replace HB := aS (hb); replace HI0 := aS (hi); clear hi hb hk; have hnb39 := NB150_137.out; have hnc39 := NB137_150.out; have hnb40 := NB150_0.out; have hnc40 := NB0_150.out; have hcz41 := cells6f BK150.out) | ((with_reducible refine gate_dst (N := 32) rfl ?_); refine Kd.R_lit (Kd.int .i64) _ 3 ?hg (N := 32) ?hd (xs := ([0, 5, 60] : List Int)) (inner := [.int .i64 0, .int .i64 5, .int .i64 60]) (ok := fun _ => True) (okp := fun _ => True) ?hr ?hp (fun _ hk => hk) trivial (Below.refl _ _) (Nat.le_refl _) (by simp) ?_; (case hd => rfl); (case hg => rfl); (case hr => first | (go_simp; done) | (go_simp; rfl)); (case hp => exact (Reps.one (show Kd.M (Kd.int .i64) _ _ _ 0 [.int .i64 0] from rfl) (Reps.one (show Kd.M (Kd.int .i64) _ _ _ 5 [.int .i64 5] from rfl) (Reps.one (show Kd.M (Kd.int .i64) _ _ _ 60 [.int .i64 60] from rfl) (Reps.none _ _))))); intro v161 w42 ho43 hb hg_ hnew_; clear hg_ hnew_; (first | rw [← Ny160.out] at ho43 | (simp only [Int.reduceToNat] at ho43; rw [← Ny160.out] at ho43)); have HO162 := aS (Kd.R_lower ho43 (keep_size (w := w) (g := g) (row := none) (kS2 HK.out GW137.out GW150.out))); replace BK137 := aS (blk_below (g := gb137) (o := .cells #[.string (⟨#[]⟩ : ByteArray), .int .i64 0, .int .i64 0, .int .i64 0, .string (⟨#[]⟩ : ByteArray), .string (⟨#[]⟩ : ByteArray)] 25 (0, 0)) (by (with_reducible repeat (first | refine blk_drewN ?_ _ | refine blk_drew ?_ | refine blk_alloc ?_ _)); refine blk_far ?_ NB137_150.out _; exact bU BK137.out) hb); replace BK150 := aS (blk_below (g := gb150) (o := .cells #[.string t138, .int .i64 t141, .int .i64 t147, .int .i64 0, .string t157, .string (⟨#[]⟩ : ByteArray)] 25 (0, 0)) (by (with_reducible repeat (first | refine blk_drewN ?_ _ | refine blk_drew ?_ | refine blk_alloc ?_ _)); refine blk_put (cs := #[.string t138, .int .i64 t141, .int .i64 t147, .int .i64 0, .string (⟨#[]⟩ : ByteArray), .string (⟨#[]⟩ : ByteArray)]) ?_ 4 _ rfl; exact bU BK150.out) hb); replace HK := aS (KeepBut.trans (kS2 HK.out GW137.out GW150.out) (KeepBut.of_below hb g none) (.inl rfl)); replace HB := aS (below_step (by exact wS3 HB.out (IsS111.ge HI0.out) GE137.out GE150.out) hb); replace HI0 := aS (IsS111.below (show IsS111 w0 (w38.setCell ⟨gb150, 4, none⟩ (.string t157)) g s0_0 t158 t159 from by exact IsS111.iS2 HI0.out NB0_137.out NB0_150.out) hb); clear hb ho43; obtain ⟨Ao44, co44, eo44⟩ := Kd.R_slice HO162.out; subst eo44) | ((with_reducible refine gate_callee (f := 81) rfl ?_); refine gL (some 33) Tryd.func81 #[.pointer (some ⟨g, 0, none⟩), .slice Ao44 y160.length co44] ?_; (with_reducible refine (spec_l1Int.calls g s0_0 t158 t159 _ _ y160 t163 t164 t165 w0 _ ?side1 ?side2 ?side3 ?side4 ?side5 A37.out).mono ?_); (case side1 => exact IsS111.iS2 HI0.out NB0_137.out NB0_150.out); (case side2 => exact wS3 HB.out (IsS111.ge HI0.out) GE137.out GE150.out); (case side3 => exact cU ((Kd.R_reads' HO162.out).2.2)); (case side4 => exact (Kd.R_reads' HO162.out).2.1); (case side5 => exact far_slice (IsS111.own_ne HI0.out HO162.out (by decide))); rintro e w45 ⟨rfl, hi, hb, hk⟩; refine ⟨_, rfl, ?_⟩; replace BK137 := kB hk (bU BK137.out) NB137_0.out; replace BK150 := kB hk (bU BK150.out) NB150_0.out; replace HO162 := kR hk (IsS111.apart (IsS111.iS2 HI0.out NB0_137.out NB0_150.out) (rU HO162.out) (by decide)); replace HK := aS (KeepBut.trans (kS2 HK.out GW137.out GW150.out) hk (.inl rfl)); replace HB := aS (hb); replace HI0 := aS (hi); clear hi hb hk; have hcz46 := cells6f BK150.out; have hnb47 := NB137_0.out; have hnc47 := NB0_137.out; have hcz48 := cells6f BK137.out))
      refine bodyPost_ret (results_cell_row rfl _ _ gb137 25 #[.string t138, .int .i64 t141, .int .i64 t147, .int .i64 t163, .string t157, .string (⟨#[]⟩ : ByteArray)] (0, 0) _ rfl (by (with_reducible repeat (first | refine blk_drewN ?_ _ | refine blk_drew ?_ | refine blk_alloc ?_ _)); refine blk_put_6 (.string (⟨#[]⟩ : ByteArray)) (.int .i64 0) (.int .i64 0) (.int .i64 0) (.string (⟨#[]⟩ : ByteArray)) (.string (⟨#[]⟩ : ByteArray)) ?_; (with_reducible repeat (first | refine blk_drewN ?_ _ | refine blk_drew ?_ | refine blk_alloc ?_ _)); refine blk_far ?_ NB137_150.out _; exact bU BK137.out) Tryd.underlying25 rfl jK) rfl ?_
      exact ⟨jE, by exact IsS111.iS2 HI0.out NB0_137.out NB0_150.out, by exact wS3 HB.out (IsS111.ge HI0.out) GE137.out GE150.out, by exact kS2 HK.out GW137.out GW150.out⟩
     ·rw [if_neg c35] at H
      have c35b0 := beq_eq_false_iff_ne.mpr c35
      have c35b1 := bne_iff_ne.mpr c35
      by_cases c49 : t141 = 16
      ·rw [if_pos c49] at H
       have c49b0 := beq_iff_eq.mpr c49
       have c49b1 := bne_eq_false_iff_eq.mpr c49
       clear c49
       obtain ⟨y166, hy_⟩ : ∃ y_ : List ByteArray, y_ = (([(⟨#[]⟩ : ByteArray), (⟨#[104, 105]⟩ : ByteArray), (⟨#[116, 119, 101, 108, 118, 101, 98, 121, 116, 101, 115, 33]⟩ : ByteArray)] : List ByteArray)) := ⟨_, rfl⟩
       replace H : ((spec_l1Str.f s0_0 t148 t149 y166).bind fun bt169 => (some (t138, t141, t147, 0, (⟨#[]⟩ : ByteArray), bt169.1, bt169.2.1, bt169.2.2))) = some (r1, r2, r3, r4, r5, r6, r7, r8) := jD
       have Ny166 := aS hy_
       clear hy_
       obtain ⟨⟨t169, t170, t171⟩, A50, H⟩ := bM H
       try dsimp only at H
       simp only [Option.some.injEq, Prod.mk.injEq] at H
       obtain ⟨rfl, rfl, rfl, rfl, rfl, rfl, rfl, rfl⟩ := H
       go_wp2_with (first | ((with_reducible refine gate_dst (N := 38) rfl ?_); refine Kd.R_lit Kd.string _ 9 ?hg (N := 38) ?hd (xs := ([(⟨#[]⟩ : ByteArray), (⟨#[104, 105]⟩ : ByteArray), (⟨#[116, 119, 101, 108, 118, 101, 98, 121, 116, 101, 115, 33]⟩ : ByteArray)] : List ByteArray)) (inner := [.string (⟨#[]⟩ : ByteArray), .string (⟨#[104, 105]⟩ : ByteArray), .string (⟨#[116, 119, 101, 108, 118, 101, 98, 121, 116, 101, 115, 33]⟩ : ByteArray)]) (ok := fun _ => True) (okp := fun _ => True) ?hr ?hp (fun _ hk => hk) trivial (Below.refl _ _) (Nat.le_refl _) (by simp) ?_; (case hd => rfl); (case hg => rfl); (case hr => first | (go_simp; done) | (go_simp; rfl)); (case hp => exact (Reps.one (show Kd.M Kd.string _ _ _ (⟨#[]⟩ : ByteArray) [.string (⟨#[]⟩ : ByteArray)] from rfl) (Reps.one (show Kd.M Kd.string _ _ _ (⟨#[104, 105]⟩ : ByteArray) [.string (⟨#[104, 105]⟩ : ByteArray)] from rfl) (Reps.one (show Kd.M Kd.string _ _ _ (⟨#[116, 119, 101, 108, 118, 101, 98, 121, 116, 101, 115, 33]⟩ : ByteArray) [.string (⟨#[116, 119, 101, 108, 118, 101, 98, 121, 116, 101, 115, 33]⟩ : ByteArray)] from rfl) (Reps.none _ _))))); intro v167 w51 ho52 hb hg_ hnew_; clear hg_ hnew_; (first | rw [← Ny166.out] at ho52 | (simp only [Int.reduceToNat] at ho52; rw [← Ny166.out] at ho52)); have HO168 := aS (Kd.R_lower ho52 (keep_size (w := w) (g := g) (row := none) (kS2 HK.out GW137.out GW150.out))); replace BK137 := bB BK137 hb; replace BK150 := bB BK150 hb; replace HK := aS (KeepBut.trans (kS2 HK.out GW137.out GW150.out) (KeepBut.of_below hb g none) (.inl rfl)); replace HB := aS (below_step (by exact wS3 HB.out (IsS111.ge HI0.out) GE137.out GE150.out) hb); replace HI0 := aS (IsS111.below (IsS111.iS2 HI0.out NB0_137.out NB0_150.out) hb); clear hb ho52; obtain ⟨Ao53, co53, eo53⟩ := Kd.R_slice HO168.out; subst eo53) | ((with_reducible refine gate_callee (f := 113) rfl ?_); refine gL (some 39) Tryd.func113 #[.pointer (some ⟨g, 0, none⟩), .slice Ao53 y166.length co53] ?_; (with_reducible refine (spec_l1Str.calls g s0_0 t148 t149 _ _ y166 t169 t170 t171 w0 _ ?side1 ?side2 ?side3 ?side4 ?side5 A50.out).mono ?_); (case side1 => exact IsS111.iS2 HI0.out NB0_137.out NB0_150.out); (case side2 => exact wS3 HB.out (IsS111.ge HI0.out) GE137.out GE150.out); (case side3 => exact cU ((Kd.R_reads' HO168.out).2.2)); (case side4 => exact (Kd.R_reads' HO168.out).2.1); (case side5 => exact far_slice (IsS111.own_ne HI0.out HO168.out (by decide))); rintro e w54 ⟨rfl, hi, hb, hk⟩; refine ⟨_, rfl, ?_⟩; replace BK137 := kB hk (bU BK137.out) NB137_0.out; replace BK150 := kB hk (bU BK150.out) NB150_0.out; replace HO168 := kR hk (IsS111.apart (IsS111.iS2 HI0.out NB0_137.out NB0_150.out) (rU HO168.out) (by decide)); replace HK := aS (KeepBut.trans (kS2 HK.out GW137.out GW150.out) hk (.inl rfl)); replace HB := aS (hb); replace HI0 := aS (hi); clear hi hb hk; have hnb55 := NB150_137.out; have hnc55 := NB137_150.out; have hnb56 := NB150_0.out; have hnc56 := NB0_150.out; have hcz57 := cells6f BK150.out; have hnb58 := NB137_0.out; have hnc58 := NB0_137.out; have hcz59 := cells6f BK137.out))
       refine bodyPost_ret (results_cell_row rfl _ _ gb137 25 #[.string t138, .int .i64 t141, .int .i64 t147, .int .i64 0, .string (⟨#[]⟩ : ByteArray), .string t169] (0, 0) _ rfl (by (with_reducible repeat (first | refine blk_drewN ?_ _ | refine blk_drew ?_ | refine blk_alloc ?_ _)); refine blk_put_6 (.string (⟨#[]⟩ : ByteArray)) (.int .i64 0) (.int .i64 0) (.int .i64 0) (.string (⟨#[]⟩ : ByteArray)) (.string (⟨#[]⟩ : ByteArray)) ?_; (with_reducible repeat (first | refine blk_drewN ?_ _ | refine blk_drew ?_ | refine blk_alloc ?_ _)); refine blk_far ?_ NB137_150.out _; exact bU BK137.out) Tryd.underlying25 rfl jK) rfl ?_
       exact ⟨jE, by exact IsS111.iS2 HI0.out NB0_137.out NB0_150.out, by exact wS3 HB.out (IsS111.ge HI0.out) GE137.out GE150.out, by exact kS2 HK.out GW137.out GW150.out⟩
      ·rw [if_neg c49] at H
       have c49b0 := beq_eq_false_iff_ne.mpr c49
       have c49b1 := bne_iff_ne.mpr c49
       simp only [Option.some.injEq, Prod.mk.injEq] at H
       obtain ⟨rfl, rfl, rfl, rfl, rfl, rfl, rfl, rfl⟩ := H
       have hnb60 := NB150_137.out
       have hnc60 := NB137_150.out
       have hnb61 := NB150_0.out
       have hnc61 := NB0_150.out
       have hcz62 := cells6f BK150.out
       have hnb63 := NB137_0.out
       have hnc63 := NB0_137.out
       have hcz64 := cells6f BK137.out
       go_wp2
       refine bodyPost_ret (results_cell_row rfl _ _ gb137 25 #[.string t138, .int .i64 t141, .int .i64 t147, .int .i64 0, .string (⟨#[]⟩ : ByteArray), .string (⟨#[]⟩ : ByteArray)] (0, 0) _ rfl (by exact bO (p6 (bU BK137.out))) Tryd.underlying25 rfl jK) rfl ?_
       exact ⟨jE, by exact IsS111.iS2 HI0.out NB0_137.out NB0_150.out, by exact wS3 HB.out (IsS111.ge HI0.out) GE137.out GE150.out, by exact kS2 HK.out GW137.out GW150.out⟩

/-! ### spec_l5List: function 75 -/
def spec_l5List.l0 : Nat → List (S25) → Int → List Int → Int → Int → Option ((List (S25)) × Int × Int)
 | 0, _, _, _, _, _ => none
 | k + 1, x5, x6, x1000, x1001, x1002 => if x6 > 0 then ((spec_l5Draw.f k x1000 x1001 x1002).bind fun bt178 => (if x5.length < 1954687338268 then (spec_l5List.l0 k (x5 ++ [(⟨bt178.1, bt178.2.1, bt178.2.2.1, bt178.2.2.2.1, bt178.2.2.2.2.1, bt178.2.2.2.2.2.1⟩ : S25)]) (wrap64 (x6 - 1)) x1000 bt178.2.2.2.2.2.2.1 bt178.2.2.2.2.2.2.2) else (none))) else (some (x5, x1001, x1002))
def spec_l5List.f (k : Nat) (s0_0 : List Int) (s0_1 : Int) (s0_2 : Int) (a1 : Int) : Option ((List (S25)) × Int × Int) := (spec_l1Below.f s0_0 s0_1 s0_2 (wrap64 (a1 + 1))).bind fun bt175 => (spec_l5List.l0 k (([] : List (S25))) bt175.1 s0_0 bt175.2.1 bt175.2.2)
theorem spec_l5List.mono_l : ∀ k, (∀ y0 y1 y2 y3 y4, LeO (spec_l5List.l0 k y0 y1 y2 y3 y4) (spec_l5List.l0 (k + 1) y0 y1 y2 y3 y4))
 | 0 => fun _ _ _ _ _ r h => by simp [spec_l5List.l0] at h
 | k + 1 => by
  have ih0 := spec_l5List.mono_l k
  ·intro y0 y1 y2 y3 y4
   unfold spec_l5List.l0
   repeat' first
   | (with_reducible first | exact ih0 _ _ _ _ _ | exact spec_l5Draw.mono _ _ _ _ | exact LeO.refl _ | exact LeO.none _ | refine LeO.ite ?_ ?_ | refine LeO.bind ?_ (fun _ => ?_))
   | refine LeO.ite ?_ ?_
   | refine LeO.bind ?_ (fun _ => ?_)
theorem spec_l5List.mono : ∀ a0 a1 a2 a3 k, LeO (spec_l5List.f k a0 a1 a2 a3) (spec_l5List.f (k + 1) a0 a1 a2 a3) := by
 intro a0 a1 a2 a3 k
 have ih0 := spec_l5List.mono_l k
 unfold spec_l5List.f
 repeat' first
   | (with_reducible first | exact ih0 _ _ _ _ _ | exact spec_l5Draw.mono _ _ _ _ | exact LeO.refl _ | exact LeO.none _ | refine LeO.ite ?_ ?_ | refine LeO.bind ?_ (fun _ => ?_))
   | refine LeO.ite ?_ ?_
   | refine LeO.bind ?_ (fun _ => ?_)
set_option maxHeartbeats 8000000 in
set_option maxRecDepth 100000 in
theorem spec_l5List.calls (k : Nat) (g : Nat) (s0_0 : List Int) (s0_1 : Int) (s0_2 : Int) (a1 : Int) (r1 : List (S25)) (r2 : Int) (r3 : Int) (w0 w : World) (hI : IsS111 w0 w g s0_0 s0_1 s0_2) (hB : Below w0.heap.size w0 w) (h : spec_l5List.f k s0_0 s0_1 s0_2 a1 = some (r1, r2, r3)) :
  Calls Tryd.prog 75 #[.pointer (some ⟨g, 0, none⟩), .int .i64 a1] w fun e w' => ∃ v0_ : Value, e = .returned (v0_) ∧ Kd.R k25 25 w' w.heap.size (fun _ => True) v0_ r1 ∧ IsS111 w0 w' g s0_0 r2 r3 ∧ Below w0.heap.size w0 w' ∧ KeepBut w w' g none := by
 have HI0 := aS hI
 have HK := aS (KeepBut.refl w g none)
 have HL := aS hB.size
 clear hI
 have HW0 := aS hB.size
 have HB := aS hB
 clear hB
 have H := h
 unfold spec_l5List.f at H
 clear h
 obtain ⟨y172, hy_⟩ : ∃ y_ : List (S25), y_ = (([] : List (S25))) := ⟨_, rfl⟩
 replace H : ((spec_l1Below.f s0_0 s0_1 s0_2 (wrap64 (a1 + 1))).bind fun bt175 => (spec_l5List.l0 k y172 bt175.1 s0_0 bt175.2.1 bt175.2.2)) = some (r1, r2, r3) := jD
 have Ny172 := aS hy_
 clear hy_
 obtain ⟨⟨t175, t176, t177⟩, A3, H⟩ := bM H
 try dsimp only at H
 have H' := aS H
 clear H
 go_enter Tryd.func75, Tryd.ntmps75
 go_wp2_with (first | ((with_reducible refine gate_dst (N := 7) rfl ?_); refine Kd.R_lit k25 _ 25 ?hg (N := 7) ?hd (xs := ([] : List (S25))) (inner := []) (ok := fun _ => True) (okp := fun _ => True) ?hr ?hp (fun _ hk => hk) trivial (Below.refl _ _) (Nat.le_refl _) (by simp) ?_; (case hd => rfl); (case hg => rfl); (case hr => first | (go_simp; done) | (go_simp; rfl)); (case hp => exact (Reps.none _ _)); intro v173 w4 ho5 hb hg_ hnew_; clear hg_ hnew_; (first | rw [← Ny172.out] at ho5 | (simp only [Int.reduceToNat] at ho5; rw [← Ny172.out] at ho5)); have HO174 := aS (Kd.R_lower ho5 (keep_size (w := w) (g := g) (row := none) (kS0 HK.out))); replace HK := aS (KeepBut.trans (kS0 HK.out) (KeepBut.of_below hb g none) (.inl rfl)); replace HB := aS (below_step (by exact wS1 HB.out (IsS111.ge HI0.out)) hb); replace HI0 := aS (IsS111.below (IsS111.iS0 HI0.out) hb); clear hb ho5) | ((with_reducible refine gate_callee (f := 78) rfl ?_); refine gL (some 11) Tryd.func78 #[.pointer (some ⟨g, 0, none⟩), .int .i64 (wrap64 (a1 + 1))] ?_; (with_reducible refine (spec_l1Below.calls g s0_0 s0_1 s0_2 (wrap64 (a1 + 1)) t175 t176 t177 w0 _ ?side1 ?side2 A3.out).mono ?_); (case side1 => exact IsS111.iS0 HI0.out); (case side2 => exact wS1 HB.out (IsS111.ge HI0.out)); rintro e w6 ⟨rfl, hi, hb, hk⟩; refine ⟨_, rfl, ?_⟩; replace HO174 := kR hk (IsS111.apart (IsS111.iS0 HI0.out) (rU HO174.out) (by decide)); replace HK := aS (KeepBut.trans (kS0 HK.out) hk (.inl rfl)); replace HB := aS (hb); replace HI0 := aS (hi); clear hi hb hk))
 go_loopg [5, 6] k (fun kq v5 v6 w' => ∃ (x5_1 : List (S25)) (x6_1 : Int) (x1001_1 : Int) (x1002_1 : Int), v6 = .int .i64 x6_1 ∧ Aside0 (spec_l5List.l0 kq x5_1 x6_1 s0_0 x1001_1 x1002_1 = some (r1, r2, r3)) ∧ Aside0 (kq ≤ k) ∧ Aside0 (Kd.R k25 25 w' w.heap.size (fun _ => True) v5 x5_1) ∧ Aside0 (IsS111 w0 w' g s0_0 x1001_1 x1002_1) ∧ Aside0 (KeepBut w w' g none) ∧ Aside0 (Below w0.heap.size w0 w'))
 case atStart => exact ⟨(y172), (t175), (t176), (t177), jB, H', ⟨Nat.le_refl _⟩, ⟨by exact rU HO174.out⟩, ⟨by exact IsS111.iS0 HI0.out⟩, ⟨by exact kS0 HK.out⟩, ⟨by exact wS1 HB.out (IsS111.ge HI0.out)⟩⟩
 case round =>
  clear H'
  try clear p2
  try clear p6
  obtain ⟨x5_1, x6_1, x1001_1, x1002_1, rfl, HA, HK1, HO_5, HI0, HK, HB⟩ := hrel
  cases gk with
  | zero => exact absurd HA.out (by simp [spec_l5List.l0])
  | succ k1 =>
   have H := HA.out
   clear HA
   simp only [spec_l5List.l0] at H
   by_cases c7 : x6_1 > 0
   ·rw [if_pos c7] at H
    have c7b0 := decide_eq_true c7
    clear c7
    obtain ⟨⟨t178, t179, t180, t181, t182, t183, t184, t185⟩, A8, H⟩ := bM H
    try dsimp only at H
    by_cases c9 : x5_1.length < 1954687338268
    ·rw [if_pos c9] at H
     have LMc9 := aS c9
     clear c9
     obtain ⟨y186, hy_⟩ : ∃ y_ : List (S25), y_ = (x5_1 ++ [(⟨t178, t179, t180, t181, t182, t183⟩ : S25)]) := ⟨_, rfl⟩
     replace H : (spec_l5List.l0 k1 y186 (wrap64 (x6_1 - 1)) s0_0 t184 t185) = some (r1, r2, r3) := jD
     have Ny186 := aS hy_
     clear hy_
     have H' := aS H
     clear H
     go_wp2_with (first | ((with_reducible refine gate_callee (f := 79) rfl ?_); refine gL (some 18) Tryd.func79 #[.pointer (some ⟨g, 0, none⟩)] ?_; (with_reducible refine (spec_l5Draw.calls k1 g s0_0 x1001_1 x1002_1 t178 t179 t180 t181 t182 t183 t184 t185 w0 _ ?side1 ?side2 A8.out).mono ?_); (case side1 => exact IsS111.iS0 HI0.out); (case side2 => exact wS1 HB.out (IsS111.ge HI0.out)); rintro e w10 ⟨rfl, hi, hb, hk⟩; refine ⟨_, rfl, ?_⟩; replace HO_5 := kR hk (IsS111.apart (IsS111.iS0 HI0.out) (rU HO_5.out) (by decide)); replace HK := aS (KeepBut.trans (kS0 HK.out) hk (.inl rfl)); replace HB := aS (hb); replace HI0 := aS (hi); clear hi hb hk) | ((with_reducible refine gate_builtin (b := .append) (xs := #[.tmp 16, .tmp 19]) rfl ?_); at_builtin; refine Kd.R_append k25 w.heap.size rfl (.tmp 16) (.tmp 19) 36 25 (.agg #[(.string ⟨#[]⟩), (.int .i64 0), (.int .i64 0), (.int .i64 0), (.string ⟨#[]⟩), (.string ⟨#[]⟩)]) 72 rfl Tryd.underlying36 info25 rfl (by decide) (by omega) u5 x5_1 (⟨t178, t179, t180, t181, t182, t183⟩ : S25) [.string t178, .int .i64 t179, .int .i64 t180, .int .i64 t181, .string t182, .string t183] (fun _ => True) (fun _ => False) rfl rfl ?aP (fun _ hk => hk.elim) ?aF ?aO (Below.refl _ _) ?aS ?aL ?_; (case aP => exact k25_mkM _ _ _ (⟨t178, t179, t180, t181, t182, t183⟩ : S25)); (case aF => exact (fun _ _ => trivial)); (case aO => exact (rU HO_5.out)); (case aS => exact (keep_size (w := w) (g := g) (row := none) (kS0 HK.out))); (case aL => have := LMc9.out; omega); intro v187 w11 ho hb hg hat; rw [← Ny186.out] at ho; replace HB := aS (below_weaken (by exact wS1 HB.out (IsS111.ge HI0.out)) HL.out hb); replace HI0 := aS (IsS111.grown (IsS111.iS0 HI0.out) hg (IsS111.own_ne HI0.out HO_5.out (by decide))); replace HK := aS (KeepBut.trans (kS0 HK.out) (KeepBut.of_grown hg g) (Kd.R_base2 HO_5.out)); have HO188 := aS (ho); clear HO_5; clear ho hb hg hat))
     go_roundg k1
     case measure => have := HK1.out; omega
     case rel => exact ⟨(y186), (wrap64 (x6_1 - 1)), (t184), (t185), jB, H', ⟨by have := HK1.out; omega⟩, ⟨by exact rU HO188.out⟩, ⟨by exact IsS111.iS0 HI0.out⟩, ⟨by exact kS0 HK.out⟩, ⟨by exact wS1 HB.out (IsS111.ge HI0.out)⟩⟩
    ·rw [if_neg c9] at H
     exact absurd H (by simp)
   ·rw [if_neg c7] at H
    have c7b0 := decide_eq_false c7
    clear c7
    simp only [Option.some.injEq, Prod.mk.injEq] at H
    obtain ⟨rfl, rfl, rfl⟩ := H
    go_wp2
    go_ret
    exact ⟨_, jE, by exact rU HO_5.out, by exact IsS111.iS0 HI0.out, by exact wS1 HB.out (IsS111.ge HI0.out), by exact kS0 HK.out⟩

/-! ### spec_l1Once: function 76 -/
def spec_l1Once.f (s0_0 : List Int) (s0_1 : Int) (s0_2 : Int) (a1 : Int) : Option (Bool × Int × Int) := (spec_l1Below.f s0_0 s0_1 s0_2 a1).bind fun bt189 => (some ((bt189.1 == 0), bt189.2.1, bt189.2.2))
set_option maxHeartbeats 8000000 in
set_option maxRecDepth 100000 in
theorem spec_l1Once.calls (g : Nat) (s0_0 : List Int) (s0_1 : Int) (s0_2 : Int) (a1 : Int) (r1 : Bool) (r2 : Int) (r3 : Int) (w0 w : World) (hI : IsS111 w0 w g s0_0 s0_1 s0_2) (hB : Below w0.heap.size w0 w) (h : spec_l1Once.f s0_0 s0_1 s0_2 a1 = some (r1, r2, r3)) :
  Calls Tryd.prog 76 #[.pointer (some ⟨g, 0, none⟩), .int .i64 a1] w fun e w' => e = .returned (.bool r1) ∧ IsS111 w0 w' g s0_0 r2 r3 ∧ Below w0.heap.size w0 w' ∧ KeepBut w w' g none := by
 have HI0 := aS hI
 have HK := aS (KeepBut.refl w g none)
 have HL := aS hB.size
 clear hI
 have HW0 := aS hB.size
 have HB := aS hB
 clear hB
 have H := h
 unfold spec_l1Once.f at H
 clear h
 obtain ⟨⟨t189, t190, t191⟩, A3, H⟩ := bM H
 try dsimp only at H
 simp only [Option.some.injEq, Prod.mk.injEq] at H
 obtain ⟨rfl, rfl, rfl⟩ := H
 go_enter Tryd.func76, Tryd.ntmps76
 go_wp2_with (first | ((with_reducible refine gate_callee (f := 78) rfl ?_); refine gL (some 7) Tryd.func78 #[.pointer (some ⟨g, 0, none⟩), .int .i64 a1] ?_; (with_reducible refine (spec_l1Below.calls g s0_0 s0_1 s0_2 a1 t189 t190 t191 w0 _ ?side1 ?side2 A3.out).mono ?_); (case side1 => exact IsS111.iS0 HI0.out); (case side2 => exact wS1 HB.out (IsS111.ge HI0.out)); rintro e w4 ⟨rfl, hi, hb, hk⟩; refine ⟨_, rfl, ?_⟩; replace HK := aS (KeepBut.trans (kS0 HK.out) hk (.inl rfl)); replace HB := aS (hb); replace HI0 := aS (hi); clear hi hb hk))
 go_ret
 exact ⟨jE, by exact IsS111.iS0 HI0.out, by exact wS1 HB.out (IsS111.ge HI0.out), by exact kS0 HK.out⟩

/-! ### spec_l3Any: function 112 -/
def spec_l3Any.f (s0_0 : List Int) (s0_1 : Int) (s0_2 : Int) : Option (ByteArray × Int × Int) := (spec_l1Once.f s0_0 s0_1 s0_2 5).bind fun bt192 => (if bt192.1 = true then ((spec_l1Str.f s0_0 bt192.2.1 bt192.2.2 (([(⟨#[46]⟩ : ByteArray), (⟨#[97, 46]⟩ : ByteArray), (⟨#[65, 46, 99, 111, 109]⟩ : ByteArray), (⟨#[97, 46, 46, 98]⟩ : ByteArray), (⟨#[97, 46, 98, 46, 99, 46, 100, 46, 101, 46, 102]⟩ : ByteArray), (⟨#[97, 46, 98, 46, 99, 46, 100, 46, 101, 46, 102, 46, 103]⟩ : ByteArray), (⟨#[116, 119, 101, 108, 118, 101, 98, 121, 116, 101, 115, 48, 46, 116, 119, 101, 108, 118, 101, 98, 121, 116, 101, 115, 48, 46, 116, 119, 101, 108, 118, 101, 98, 121, 116, 101, 115, 48, 46, 116, 119, 101, 108, 118, 101, 98, 121, 116, 101, 115, 48]⟩ : ByteArray), (⟨#[116, 104, 105, 114, 116, 101, 101, 110, 98, 121, 116, 101, 115, 46, 97]⟩ : ByteArray)] : List ByteArray))).bind fun bt198 => (some (bt198.1, bt198.2.1, bt198.2.2))) else ((spec_l3Name.f s0_0 bt192.2.1 bt192.2.2).bind fun bt201 => (some (bt201.1, bt201.2.1, bt201.2.2))))
set_option maxHeartbeats 8000000 in
set_option maxRecDepth 100000 in
theorem spec_l3Any.calls (g : Nat) (s0_0 : List Int) (s0_1 : Int) (s0_2 : Int) (r1 : ByteArray) (r2 : Int) (r3 : Int) (w0 w : World) (hI : IsS111 w0 w g s0_0 s0_1 s0_2) (hB : Below w0.heap.size w0 w) (h : spec_l3Any.f s0_0 s0_1 s0_2 = some (r1, r2, r3)) :
  Calls Tryd.prog 112 #[.pointer (some ⟨g, 0, none⟩)] w fun e w' => e = .returned (.string r1) ∧ IsS111 w0 w' g s0_0 r2 r3 ∧ Below w0.heap.size w0 w' ∧ KeepBut w w' g none := by
 have HI0 := aS hI
 have HK := aS (KeepBut.refl w g none)
 have HL := aS hB.size
 clear hI
 have HW0 := aS hB.size
 have HB := aS hB
 clear hB
 have H := h
 unfold spec_l3Any.f at H
 clear h
 obtain ⟨⟨t192, t193, t194⟩, A2, H⟩ := bM H
 try dsimp only at H
 by_cases c3 : t192 = true
 ·subst c3
  rw [if_pos rfl] at H
  obtain ⟨y195, hy_⟩ : ∃ y_ : List ByteArray, y_ = (([(⟨#[46]⟩ : ByteArray), (⟨#[97, 46]⟩ : ByteArray), (⟨#[65, 46, 99, 111, 109]⟩ : ByteArray), (⟨#[97, 46, 46, 98]⟩ : ByteArray), (⟨#[97, 46, 98, 46, 99, 46, 100, 46, 101, 46, 102]⟩ : ByteArray), (⟨#[97, 46, 98, 46, 99, 46, 100, 46, 101, 46, 102, 46, 103]⟩ : ByteArray), (⟨#[116, 119, 101, 108, 118, 101, 98, 121, 116, 101, 115, 48, 46, 116, 119, 101, 108, 118, 101, 98, 121, 116, 101, 115, 48, 46, 116, 119, 101, 108, 118, 101, 98, 121, 116, 101, 115, 48, 46, 116, 119, 101, 108, 118, 101, 98, 121, 116, 101, 115, 48]⟩ : ByteArray), (⟨#[116, 104, 105, 114, 116, 101, 101, 110, 98, 121, 116, 101, 115, 46, 97]⟩ : ByteArray)] : List ByteArray)) := ⟨_, rfl⟩
  replace H : ((spec_l1Str.f s0_0 t193 t194 y195).bind fun bt198 => (some (bt198.1, bt198.2.1, bt198.2.2))) = some (r1, r2, r3) := jD
  have Ny195 := aS hy_
  clear hy_
  obtain ⟨⟨t198, t199, t200⟩, A4, H⟩ := bM H
  try dsimp only at H
  simp only [Option.some.injEq, Prod.mk.injEq] at H
  obtain ⟨rfl, rfl, rfl⟩ := H
  go_enter Tryd.func112, Tryd.ntmps112
  go_wp2_with (first | ((with_reducible refine gate_callee (f := 76) rfl ?_); refine gL (some 4) Tryd.func76 #[.pointer (some ⟨g, 0, none⟩), .int .i64 5] ?_; (with_reducible refine (spec_l1Once.calls g s0_0 s0_1 s0_2 5 true t193 t194 w0 _ ?side1 ?side2 A2.out).mono ?_); (case side1 => exact IsS111.iS0 HI0.out); (case side2 => exact wS1 HB.out (IsS111.ge HI0.out)); rintro e w5 ⟨rfl, hi, hb, hk⟩; refine ⟨_, rfl, ?_⟩; replace HK := aS (KeepBut.trans (kS0 HK.out) hk (.inl rfl)); replace HB := aS (hb); replace HI0 := aS (hi); clear hi hb hk) | ((with_reducible refine gate_dst (N := 6) rfl ?_); refine Kd.R_lit Kd.string _ 9 ?hg (N := 6) ?hd (xs := ([(⟨#[46]⟩ : ByteArray), (⟨#[97, 46]⟩ : ByteArray), (⟨#[65, 46, 99, 111, 109]⟩ : ByteArray), (⟨#[97, 46, 46, 98]⟩ : ByteArray), (⟨#[97, 46, 98, 46, 99, 46, 100, 46, 101, 46, 102]⟩ : ByteArray), (⟨#[97, 46, 98, 46, 99, 46, 100, 46, 101, 46, 102, 46, 103]⟩ : ByteArray), (⟨#[116, 119, 101, 108, 118, 101, 98, 121, 116, 101, 115, 48, 46, 116, 119, 101, 108, 118, 101, 98, 121, 116, 101, 115, 48, 46, 116, 119, 101, 108, 118, 101, 98, 121, 116, 101, 115, 48, 46, 116, 119, 101, 108, 118, 101, 98, 121, 116, 101, 115, 48]⟩ : ByteArray), (⟨#[116, 104, 105, 114, 116, 101, 101, 110, 98, 121, 116, 101, 115, 46, 97]⟩ : ByteArray)] : List ByteArray)) (inner := [.string (⟨#[46]⟩ : ByteArray), .string (⟨#[97, 46]⟩ : ByteArray), .string (⟨#[65, 46, 99, 111, 109]⟩ : ByteArray), .string (⟨#[97, 46, 46, 98]⟩ : ByteArray), .string (⟨#[97, 46, 98, 46, 99, 46, 100, 46, 101, 46, 102]⟩ : ByteArray), .string (⟨#[97, 46, 98, 46, 99, 46, 100, 46, 101, 46, 102, 46, 103]⟩ : ByteArray), .string (⟨#[116, 119, 101, 108, 118, 101, 98, 121, 116, 101, 115, 48, 46, 116, 119, 101, 108, 118, 101, 98, 121, 116, 101, 115, 48, 46, 116, 119, 101, 108, 118, 101, 98, 121, 116, 101, 115, 48, 46, 116, 119, 101, 108, 118, 101, 98, 121, 116, 101, 115, 48]⟩ : ByteArray), .string (⟨#[116, 104, 105, 114, 116, 101, 101, 110, 98, 121, 116, 101, 115, 46, 97]⟩ : ByteArray)]) (ok := fun _ => True) (okp := fun _ => True) ?hr ?hp (fun _ hk => hk) trivial (Below.refl _ _) (Nat.le_refl _) (by simp) ?_; (case hd => rfl); (case hg => rfl); (case hr => first | (go_simp; done) | (go_simp; rfl)); (case hp => exact (Reps.one (show Kd.M Kd.string _ _ _ (⟨#[46]⟩ : ByteArray) [.string (⟨#[46]⟩ : ByteArray)] from rfl) (Reps.one (show Kd.M Kd.string _ _ _ (⟨#[97, 46]⟩ : ByteArray) [.string (⟨#[97, 46]⟩ : ByteArray)] from rfl) (Reps.one (show Kd.M Kd.string _ _ _ (⟨#[65, 46, 99, 111, 109]⟩ : ByteArray) [.string (⟨#[65, 46, 99, 111, 109]⟩ : ByteArray)] from rfl) (Reps.one (show Kd.M Kd.string _ _ _ (⟨#[97, 46, 46, 98]⟩ : ByteArray) [.string (⟨#[97, 46, 46, 98]⟩ : ByteArray)] from rfl) (Reps.one (show Kd.M Kd.string _ _ _ (⟨#[97, 46, 98, 46, 99, 46, 100, 46, 101, 46, 102]⟩ : ByteArray) [.string (⟨#[97, 46, 98, 46, 99, 46, 100, 46, 101, 46, 102]⟩ : ByteArray)] from rfl) (Reps.one (show Kd.M Kd.string _ _ _ (⟨#[97, 46, 98, 46, 99, 46, 100, 46, 101, 46, 102, 46, 103]⟩ : ByteArray) [.string (⟨#[97, 46, 98, 46, 99, 46, 100, 46, 101, 46, 102, 46, 103]⟩ : ByteArray)] from rfl) (Reps.one (show Kd.M Kd.string _ _ _ (⟨#[116, 119, 101, 108, 118, 101, 98, 121, 116, 101, 115, 48, 46, 116, 119, 101, 108, 118, 101, 98, 121, 116, 101, 115, 48, 46, 116, 119, 101, 108, 118, 101, 98, 121, 116, 101, 115, 48, 46, 116, 119, 101, 108, 118, 101, 98, 121, 116, 101, 115, 48]⟩ : ByteArray) [.string (⟨#[116, 119, 101, 108, 118, 101, 98, 121, 116, 101, 115, 48, 46, 116, 119, 101, 108, 118, 101, 98, 121, 116, 101, 115, 48, 46, 116, 119, 101, 108, 118, 101, 98, 121, 116, 101, 115, 48, 46, 116, 119, 101, 108, 118, 101, 98, 121, 116, 101, 115, 48]⟩ : ByteArray)] from rfl) (Reps.one (show Kd.M Kd.string _ _ _ (⟨#[116, 104, 105, 114, 116, 101, 101, 110, 98, 121, 116, 101, 115, 46, 97]⟩ : ByteArray) [.string (⟨#[116, 104, 105, 114, 116, 101, 101, 110, 98, 121, 116, 101, 115, 46, 97]⟩ : ByteArray)] from rfl) (Reps.none _ _)))))))))); intro v196 w6 ho7 hb hg_ hnew_; clear hg_ hnew_; (first | rw [← Ny195.out] at ho7 | (simp only [Int.reduceToNat] at ho7; rw [← Ny195.out] at ho7)); have HO197 := aS (Kd.R_lower ho7 (keep_size (w := w) (g := g) (row := none) (kS0 HK.out))); replace HK := aS (KeepBut.trans (kS0 HK.out) (KeepBut.of_below hb g none) (.inl rfl)); replace HB := aS (below_step (by exact wS1 HB.out (IsS111.ge HI0.out)) hb); replace HI0 := aS (IsS111.below (IsS111.iS0 HI0.out) hb); clear hb ho7; obtain ⟨Ao8, co8, eo8⟩ := Kd.R_slice HO197.out; subst eo8) | ((with_reducible refine gate_callee (f := 113) rfl ?_); refine gL (some 7) Tryd.func113 #[.pointer (some ⟨g, 0, none⟩), .slice Ao8 y195.length co8] ?_; (with_reducible refine (spec_l1Str.calls g s0_0 t193 t194 _ _ y195 t198 t199 t200 w0 _ ?side1 ?side2 ?side3 ?side4 ?side5 A4.out).mono ?_); (case side1 => exact IsS111.iS0 HI0.out); (case side2 => exact wS1 HB.out (IsS111.ge HI0.out)); (case side3 => exact cU ((Kd.R_reads' HO197.out).2.2)); (case side4 => exact (Kd.R_reads' HO197.out).2.1); (case side5 => exact far_slice (IsS111.own_ne HI0.out HO197.out (by decide))); rintro e w9 ⟨rfl, hi, hb, hk⟩; refine ⟨_, rfl, ?_⟩; replace HO197 := kR hk (IsS111.apart (IsS111.iS0 HI0.out) (rU HO197.out) (by decide)); replace HK := aS (KeepBut.trans (kS0 HK.out) hk (.inl rfl)); replace HB := aS (hb); replace HI0 := aS (hi); clear hi hb hk))
  go_ret
  exact ⟨jE, by exact IsS111.iS0 HI0.out, by exact wS1 HB.out (IsS111.ge HI0.out), by exact kS0 HK.out⟩
 ·replace c3 := Bool.eq_false_iff.mpr c3
  subst c3
  rw [if_neg Bool.false_ne_true] at H
  obtain ⟨⟨t201, t202, t203⟩, A10, H⟩ := bM H
  try dsimp only at H
  simp only [Option.some.injEq, Prod.mk.injEq] at H
  obtain ⟨rfl, rfl, rfl⟩ := H
  go_enter Tryd.func112, Tryd.ntmps112
  go_wp2_with (first | ((with_reducible refine gate_callee (f := 76) rfl ?_); refine gL (some 4) Tryd.func76 #[.pointer (some ⟨g, 0, none⟩), .int .i64 5] ?_; (with_reducible refine (spec_l1Once.calls g s0_0 s0_1 s0_2 5 false t193 t194 w0 _ ?side1 ?side2 A2.out).mono ?_); (case side1 => exact IsS111.iS0 HI0.out); (case side2 => exact wS1 HB.out (IsS111.ge HI0.out)); rintro e w11 ⟨rfl, hi, hb, hk⟩; refine ⟨_, rfl, ?_⟩; replace HK := aS (KeepBut.trans (kS0 HK.out) hk (.inl rfl)); replace HB := aS (hb); replace HI0 := aS (hi); clear hi hb hk) | ((with_reducible refine gate_callee (f := 85) rfl ?_); refine gL (some 9) Tryd.func85 #[.pointer (some ⟨g, 0, none⟩)] ?_; (with_reducible refine (spec_l3Name.calls g s0_0 t193 t194 t201 t202 t203 w0 _ ?side1 ?side2 A10.out).mono ?_); (case side1 => exact IsS111.iS0 HI0.out); (case side2 => exact wS1 HB.out (IsS111.ge HI0.out)); rintro e w12 ⟨rfl, hi, hb, hk⟩; refine ⟨_, rfl, ?_⟩; replace HK := aS (KeepBut.trans (kS0 HK.out) hk (.inl rfl)); replace HB := aS (hb); replace HI0 := aS (hi); clear hi hb hk))
  go_ret
  exact ⟨jE, by exact IsS111.iS0 HI0.out, by exact wS1 HB.out (IsS111.ge HI0.out), by exact kS0 HK.out⟩

end Go.Proofs.YtdigilidomimdaaDoor.Pr
