/- The walks of slices.SortStableFunc's family at records, text 1: over any program that bears these bodies. Printed by a program of this session. Conditions: as written at each theorem. -/
import Derived.Shelf.SlSortCmp.KitK
import Derived.WalkKit
import Derived.Deep.LoopGhost
import Derived.Deep.DeepCutAuto
import Derived.Sort.WalkB2
import Derived.Sort.WalkB12
import Derived.Test.YtdigilidomimdaaDoorProg
import Derived.Test.YtdigilidomimdaaDoorSm
import Derived.Test.YtdigilidomimdaaDoorWWords
namespace Go.Proofs.YtdigilidomimdaaDoor.Sw
set_option linter.unusedSimpArgs false
set_option linter.unusedSectionVars false
set_option linter.unusedVariables false
open Go.Proofs Go.Shelf Go.RowKit Go.Lib Go.Sort Go.Proofs.YtdigilidomimdaaDoor.Sm
variable {P : Program} {α : Type} [Inhabited α]
structure Bare (P : Program) (k : Nat) : Prop where
  mixed : P.follows .mixedOrders = true
  fSW : P.funcs[171]? = some Tryd.f171
  fRO : P.funcs[163]? = some Tryd.f163
  fME : P.funcs[153]? = some Tryd.f153
  fIN : P.funcs[152]? = some Tryd.f152
  fST : P.funcs[136]? = some Tryd.f136
  t0 : P.underlying 0 = some (TypeDesc.tuple #[])
  a0 : ∀ w, (isAgg 0).run P w = .ok false w
  z0 : ∀ w, (Go.sizeOf 0).run P w = .ok 1 w
  v0 : ∀ w, (zeroValue 0).run P w = .ok (Value.tuple #[]) w
  t3 : P.underlying 3 = some (TypeDesc.int IntKind.i64)
  a3 : ∀ w, (isAgg 3).run P w = .ok false w
  z3 : ∀ w, (Go.sizeOf 3).run P w = .ok 1 w
  v3 : ∀ w, (zeroValue 3).run P w = .ok (Value.int IntKind.i64 0) w
  t4 : P.underlying 4 = some (TypeDesc.bool)
  a4 : ∀ w, (isAgg 4).run P w = .ok false w
  z4 : ∀ w, (Go.sizeOf 4).run P w = .ok 1 w
  v4 : ∀ w, (zeroValue 4).run P w = .ok (Value.bool false) w
  t36 : P.underlying 36 = some (TypeDesc.slice 25)
  a36 : ∀ w, (isAgg 36).run P w = .ok false w
  z36 : ∀ w, (Go.sizeOf 36).run P w = .ok 1 w
  v36 : ∀ w, (zeroValue 36).run P w = .ok (Value.slice none 0 0) w
  t106 : P.underlying 106 = some (TypeDesc.func #[25, 25] #[3] false)
  a106 : ∀ w, (isAgg 106).run P w = .ok false w
  z106 : ∀ w, (Go.sizeOf 106).run P w = .ok 1 w
  v106 : ∀ w, (zeroValue 106).run P w = .ok (Value.nilFunc) w
  t117 : P.underlying 117 = some (TypeDesc.int IntKind.u64)
  a117 : ∀ w, (isAgg 117).run P w = .ok false w
  z117 : ∀ w, (Go.sizeOf 117).run P w = .ok 1 w
  v117 : ∀ w, (zeroValue 117).run P w = .ok (Value.int IntKind.u64 0) w
  aE : ∀ w, (isAgg 25).run P w = .ok true w
  zE : ∀ w, (Go.sizeOf 25).run P w = .ok k w

/-- A world in which all that lay in w lies unturned. -/
structure BelowBy (w : World) where
  W : World
  h : Below w.heap.size w W
instance (w : World) : Inhabited (BelowBy w) := ⟨⟨w, Below.refl _ w⟩⟩
def SWD (enc : α → List Value) (k : Nat) (w0 : World) (blk off : Nat) (dk : Array α) (W : World) : Prop := ∃ q, SWK enc k w0 blk off dk { W with drawn := q }
section
variable {enc : α → List Value} {k : Nat} {w0 W : World} {blk off : Nat} {dk d0 : Array α}
theorem SWD.start (h : HoldsK enc k w0 blk off dk) : SWD enc k w0 blk off dk w0 := ⟨w0.drawn, SWK.start h⟩
theorem SWD.holds (h : SWD enc k w0 blk off dk W) (R : RowK enc k w0 blk off d0) (hs : dk.size = d0.size) : HoldsK enc k W blk off dk := by
  obtain ⟨q, h⟩ := h
  exact h.holds R.hblk R.hH hs
theorem SWD.le (h : SWD enc k w0 blk off dk W) : w0.heap.size ≤ W.heap.size := by
  obtain ⟨q, h⟩ := h
  exact h.le
theorem grow_of_below {W W1 : World} (hb : Below W.heap.size W W1) (q : Nat) : ∃ os, ({ W1 with drawn := q } : World) = grow { W with drawn := q } os := by
  refine ⟨W1.heap.extract W.heap.size W1.heap.size, ?_⟩
  have e : W1.heap = W.heap ++ W1.heap.extract W.heap.size W1.heap.size := by
    apply Array.ext_getElem?
    intro i
    by_cases c : i < W.heap.size
    · rw [hb.block i c, Array.getElem?_append_left c]
    · rw [Array.getElem?_append_right (by omega), Array.getElem?_extract]
      by_cases c2 : i < W1.heap.size
      · rw [if_pos (by omega)]
        congr 1
        omega
      · rw [if_neg (by omega)]
        exact Array.getElem?_eq_none (by omega)
  have e1 := hb.os
  have e2 := hb.tape
  have e3 := hb.output
  cases W1
  cases W
  simp only at e e1 e2 e3
  subst e1 e2 e3
  show World.mk _ _ _ _ _ = World.mk _ _ _ _ _
  congr 1
theorem SWD.below {W1 : World} (h : SWD enc k w0 blk off dk W) (hb : Below W.heap.size W W1) : SWD enc k w0 blk off dk W1 := by
  obtain ⟨q, m, os, e⟩ := h
  obtain ⟨os', e'⟩ := grow_of_below hb q
  refine ⟨q, m, os ++ os', ?_⟩
  rw [e', e]
  unfold sortWorldK
  rw [grow_grow]
theorem below_drewN (w : World) (n : Nat) : Below w.heap.size w (w.drewN n) := ⟨rfl, rfl, rfl, Nat.le_refl _, fun _ _ => rfl⟩
theorem SWD.drew (h : SWD enc k w0 blk off dk W) : SWD enc k w0 blk off dk W.drew := h.below (below_drewN W 1)
theorem drawn_setCells (b q : Nat) : ∀ (vs : List Value) (o : Nat) (W : World), ({ W with drawn := q } : World).setCells b o vs = { W.setCells b o vs with drawn := q }
  | [], _, _ => rfl
  | v :: r, o, W => by
    rw [World.setCells, World.setCells]
    exact drawn_setCells b q r (o + 1) (W.setCell ⟨b, o, none⟩ v)
theorem SWD.swap (h : SWD enc k w0 blk off dk W) (R : RowK enc k w0 blk off d0) (i j : Nat) (hi : i < dk.size) (hj : j < dk.size) :
    SWD enc k w0 blk off (swp dk i j) ((W.setCells blk (off + i * k) (enc dk[j]!)).setCells blk (off + j * k) (enc dk[i]!)) := by
  obtain ⟨q, h⟩ := h
  have := h.swap R.hk R.hblk i j hi hj
  rw [drawn_setCells blk q _ _ W, drawn_setCells blk q _ _ (W.setCells blk (off + i * k) (enc dk[j]!))] at this
  exact ⟨q, this⟩
theorem SWD.swapped (h : SWD enc k w0 blk off dk W) (R : RowK enc k w0 blk off d0) (i j : Nat) (hi : i < dk.size) (hj : j < dk.size) :
    SWD enc k w0 blk off (swp dk i j) ((W.drew.setCells blk (off + i * k) (enc dk[j]!)).setCells blk (off + j * k) (enc dk[i]!)) := h.drew.swap R i j hi hj
theorem SWD.load (h : SWD enc k w0 blk off dk W) (R : RowK enc k w0 blk off d0) (hs : dk.size = d0.size) (P : Program) (i : Nat) (hi : i < dk.size) :
    Sem.run P (loadCellsFrom ⟨blk, off + i * k, none⟩ 0 k #[]) W = .ok (enc dk[i]!).toArray W :=
  run_loadCellsFrom_list P _ _ _ k (R.hk _) (HoldsK.cells (h.holds R hs) R.hk hi)
theorem SWD.ld1 (h : SWD enc k w0 blk off dk W) (R : RowK enc k w0 blk off d0) (hs : dk.size = d0.size) (P : Program) (i : Nat) (hi : i < dk.size) :
    Sem.run P (loadCellsFrom ⟨blk, off + i * k, none⟩ 0 k #[]) W.drew = .ok (enc dk[i]!).toArray W.drew := h.drew.load R hs P i hi
theorem SWD.ldB (h : SWD enc k w0 blk off dk W) (R : RowK enc k w0 blk off d0) (hs : dk.size = d0.size) (P : Program) (i : Nat) (hi : i < dk.size) (p : BelowBy W) :
    Sem.run P (loadCellsFrom ⟨blk, off + i * k, none⟩ 0 k #[]) p.W = .ok (enc dk[i]!).toArray p.W := (h.below p.h).load R hs P i hi
theorem SWD.st1 (h : SWD enc k w0 blk off dk W) (R : RowK enc k w0 blk off d0) (hs : dk.size = d0.size) (P : Program) (i : Nat) (hi : i < dk.size) (y : α) :
    Sem.run P (storeCells ⟨blk, off + i * k, none⟩ (enc y) 0) W.drew = .ok () (W.drew.setCells blk (off + i * k) (enc y)) :=
  stores_of_holds P (h.drew.holds R hs) (i * k) _ (by rw [R.hk, size_flatK]; exact rowK_bnd dk k i hi) (R.h1 _)
theorem SWD.st2 (h : SWD enc k w0 blk off dk W) (R : RowK enc k w0 blk off d0) (hs : dk.size = d0.size) (P : Program) (i j : Nat) (hi : i < dk.size) (hj : j < dk.size) (y x : α) :
    Sem.run P (storeCells ⟨blk, off + j * k, none⟩ (enc x) 0) (W.drew.setCells blk (off + i * k) (enc y)) = .ok () ((W.drew.setCells blk (off + i * k) (enc y)).setCells blk (off + j * k) (enc x)) :=
  stores_of_holds P (holds_setCells_c (h.drew.holds R hs) (i * k) _ (by rw [R.hk, size_flatK]; exact rowK_bnd dk k i hi)) (j * k) _ (by rw [R.hk, size_setMany, size_flatK]; exact rowK_bnd dk k j hj) (R.h1 _)
end
theorem wp_region_quiet_below {id : Nat} {Q : Exit → Act → World → Prop} {a : Act} {w : World} {l : List Oper} (hm : P.follows .mixedOrders = true) (hB : Region.lexB .any l.toArray = true)
    (h : wpQuiet P l.toArray (fun w' => ∃ p : BelowBy w, w' = p.W) (fun a' => ∀ w', (∃ p : BelowBy w, w' = p.W) → Q .normal a' w') l a) : (Code.region id l.toArray true).wp P Q a w :=
  wp_region_quiet (C := fun w' => ∃ p : BelowBy w, w' = p.W) hm hB ⟨⟨w.drew, below_drewN w 1⟩, rfl⟩ (by simpa using h)
/-- The comparison: it hands back cf x y at all that the row may hold, and leaves what lay below. -/
def CmpB (P : Program) (g : Nat) (cb : Array Value) (enc : α → List Value) (ok : α → Prop) (cf : α → α → Int) : Prop :=
  ∀ (W : World) (x y : α), ok x → ok y → Calls P g (#[.agg (enc x).toArray, .agg (enc y).toArray] ++ cb) W fun e w' => e = .returned (.int .i64 (cf x y)) ∧ Below W.heap.size W w'
theorem CmpB.at_ {g : Nat} {cb : Array Value} {enc : α → List Value} {ok : α → Prop} {cf : α → α → Int} (h : CmpB P g cb enc ok cf) {W : World} (x y : α) (hx : ok x) (hy : ok y) (p : BelowBy W) :
    Calls P g (#[.agg (enc x).toArray, .agg (enc y).toArray] ++ cb) p.W fun e w' => e = .returned (.int .i64 (cf x y)) ∧ ∃ p' : BelowBy W, w' = p'.W :=
  (h p.W x y hx hy).mono fun e w' ⟨he, hb⟩ => ⟨he, ⟨w', ⟨hb.os.trans p.h.os, hb.tape.trans p.h.tape, hb.output.trans p.h.output, Nat.le_trans p.h.size hb.size, fun i hi => (hb.block i (Nat.lt_of_lt_of_le hi p.h.size)).trans (p.h.block i hi)⟩⟩, rfl⟩
set_option maxHeartbeats 4000000 in
set_option maxRecDepth 1000000 in
theorem swapRange {k : Nat} (S : Bare P k) (enc : α → List Value) (g : Nat) (cb : Array Value) (blk off cap a b n : Nat) (d0 d : Array α) (w0 w : World) (R : RowK enc k w0 blk off d0) (hs : d0.size = d.size) (T : SWD enc k w0 blk off d w) (hab : a + n ≤ b) (hb : b + n ≤ d.size) (hsz : d.size < 4611686018427387904) :
    Calls P 171 #[.slice (some ⟨blk, off, none⟩) d.size cap, .int .i64 a, .int .i64 b, .int .i64 n, .func (.func g) #[] cb] w fun e w' => e = .returned (.tuple #[]) ∧ ∃ d' : Array α, SWD enc k w0 blk off d' w' ∧ Via (swI a b n) d d' ∧ ∀ lo hi, lo ≤ a → b + n ≤ hi → hi ≤ d.size → PermIn lo hi d d' := by
  have mixed := S.mixed; have aE := S.aE; have zE := S.zE; have t0 := S.t0; have a0 := S.a0; have z0 := S.z0; have v0 := S.v0; have t3 := S.t3; have a3 := S.a3; have z3 := S.z3; have v3 := S.v3; have t4 := S.t4; have a4 := S.a4; have z4 := S.z4; have v4 := S.v4; have t36 := S.t36; have a36 := S.a36; have z36 := S.z36; have v36 := S.v36; have t106 := S.t106; have a106 := S.a106; have z106 := S.z106; have v106 := S.v106; have t117 := S.t117; have a117 := S.a117; have z117 := S.z117; have v117 := S.v117; have u0 := run_underlying S.t0; have u3 := run_underlying S.t3; have u4 := run_underlying S.t4; have u36 := run_underlying S.t36; have u106 := run_underlying S.t106; have u117 := run_underlying S.t117
  have S0 : Aside (SWD enc k w0 blk off d w) := T
  clear T
  go_enter S.fSW, Tryd.ntmps171
  go_wp2
  go_loopg [10] n (fun kx s10 wr => ∃ (i : Nat) (dk : Array α), s10 = .int .i64 i ∧ i ≤ n ∧ n - i ≤ kx ∧ dk.size = d.size ∧ Aside (SWD enc k w0 blk off dk wr) ∧ Aside (Via (swI a b i) d dk ∧ ∀ lo hi, lo ≤ a → b + n ≤ hi → hi ≤ d.size → PermIn lo hi d dk))
  case atStart => exact ⟨0, d, rfl, Nat.zero_le _, by omega, rfl, S0, show _ ∧ _ from ⟨via_id d (fun x => (swI_zero a b x).symm), fun _ _ _ _ _ => permIn_refl _ _ _⟩⟩
  case round =>
    clear S0
    obtain ⟨i, dk, rfl, hin, hkx, hds, S1, HV⟩ := hrel
    by_cases hlt : i < n
    · have hltz : (i : Int) < (n : Int) := by omega
      have ea44 : ((a : Int) + (i : Int)).toNat = a + i := by omega
      have pa44 : (0 : Int) ≤ (a : Int) + (i : Int) := by omega
      have ba44 : (a : Int) + (i : Int) < (d.size : Int) := by omega
      have ra44 : IntKind.i64.wrap ((a : Int) + (i : Int)) = (a : Int) + (i : Int) := by rw [IntKind.wrap_i64]; omega
      have ec44 : ((b : Int) + (i : Int)).toNat = b + i := by omega
      have pc44 : (0 : Int) ≤ (b : Int) + (i : Int) := by omega
      have bc44 : (b : Int) + (i : Int) < (d.size : Int) := by omega
      have rc44 : IntKind.i64.wrap ((b : Int) + (i : Int)) = (b : Int) + (i : Int) := by rw [IntKind.wrap_i64]; omega
      have S2 : Aside (SWD enc k w0 blk off (swp dk (a + i) (b + i)) ((wr.drew.setCells blk (off + (a + i) * k) (enc dk[b + i]!)).setCells blk (off + (b + i) * k) (enc dk[a + i]!))) := S1.out.swapped R (a + i) (b + i) (by omega) (by omega)
      have l44a := S1.out.ld1 R (by omega) P (a + i) (by omega)
      have l44b := S1.out.ld1 R (by omega) P (b + i) (by omega)
      have s44a := S1.out.st1 R (by omega) P (a + i) (by omega) dk[b + i]!
      have s44b := S1.out.st2 R (by omega) P (a + i) (b + i) (by omega) (by omega) dk[b + i]! dk[a + i]!
      have n44a : (enc dk[a + i]!).length = k := R.hk _
      have n44b : (enc dk[b + i]!).length = k := R.hk _
      generalize enc dk[a + i]! = cI44 at S2 l44a s44b n44a
      generalize enc dk[b + i]! = cJ44 at S2 l44b s44a s44b n44b
      clear S1
      go_wp2_with fail
      go_big_region_o
      clear l44a l44b s44a s44b
      generalize (wr.drew.setCells blk (off + (a + i) * k) cJ44).setCells blk (off + (b + i) * k) cI44 = w2 at S2 ⊢
      go_wp2
      go_roundg (n - (i + 1))
      case measure => omega
      case rel => exact ⟨i + 1, swp dk (a + i) (b + i), by go_num, by omega, Nat.le_refl _, by rw [size_swp]; exact hds, S2, show _ ∧ _ from ⟨(HV.out.1.comp (via_swp (by omega) (by omega))).of_eq (fun x => swI_step a b i x (by omega)), fun lo hi h1 h2 h3 => permIn_trans _ _ _ _ _ (HV.out.2 lo hi h1 h2 h3) (swp_permIn dk lo hi _ _ (by omega) (by omega) (by omega) (by omega) (by omega))⟩⟩
    · have hltz : ¬ (i : Int) < (n : Int) := by omega
      obtain rfl : i = n := by omega
      go_wp2
      go_end0
      exact ⟨rfl, dk, S1.out, HV.out.1, HV.out.2⟩

end Go.Proofs.YtdigilidomimdaaDoor.Sw
namespace Go.Proofs.YtdigilidomimdaaDoor.Sw
set_option linter.unusedSimpArgs false
set_option linter.unusedSectionVars false
set_option linter.unusedVariables false
open Go.Proofs Go.Shelf Go.RowKit Go.Lib Go.Sort Go.Proofs.YtdigilidomimdaaDoor.Sm
variable {P : Program} {α : Type} [Inhabited α]
set_option maxHeartbeats 4000000 in
set_option maxRecDepth 1000000 in
theorem rotate {k : Nat} (S : Bare P k) (enc : α → List Value) (g : Nat) (cb : Array Value) (blk off cap a m b : Nat) (d0 d : Array α) (w0 w : World) (R : RowK enc k w0 blk off d0) (hs : d0.size = d.size) (T : SWD enc k w0 blk off d w) (ham : a < m) (hmb : m < b) (hb : b ≤ d.size) (hsz : d.size < 4611686018427387904) :
    Calls P 163 #[.slice (some ⟨blk, off, none⟩) d.size cap, .int .i64 a, .int .i64 m, .int .i64 b, .func (.func g) #[] cb] w fun e w' => e = .returned (.tuple #[]) ∧ ∃ d' : Array α, SWD enc k w0 blk off d' w' ∧ Via (rotI a m b) d d' ∧ ∀ lo hi, lo ≤ a → b ≤ hi → hi ≤ d.size → PermIn lo hi d d' := by
  have mixed := S.mixed; have aE := S.aE; have zE := S.zE; have t0 := S.t0; have a0 := S.a0; have z0 := S.z0; have v0 := S.v0; have t3 := S.t3; have a3 := S.a3; have z3 := S.z3; have v3 := S.v3; have t4 := S.t4; have a4 := S.a4; have z4 := S.z4; have v4 := S.v4; have t36 := S.t36; have a36 := S.a36; have z36 := S.z36; have v36 := S.v36; have t106 := S.t106; have a106 := S.a106; have z106 := S.z106; have v106 := S.v106; have t117 := S.t117; have a117 := S.a117; have z117 := S.z117; have v117 := S.v117; have u0 := run_underlying S.t0; have u3 := run_underlying S.t3; have u4 := run_underlying S.t4; have u36 := run_underlying S.t36; have u106 := run_underlying S.t106; have u117 := run_underlying S.t117
  have S0 : Aside (SWD enc k w0 blk off d w) := T
  have SW : ∀ (x y n : Nat) (dk : Array α) (W : World), Aside (SWD enc k w0 blk off dk W) → dk.size = d.size → x + n ≤ y → y + n ≤ d.size → Calls P 171 #[.slice (some ⟨blk, off, none⟩) d.size cap, .int .i64 x, .int .i64 y, .int .i64 n, .func (.func g) #[] cb] W fun e w' => e = .returned (.tuple #[]) ∧ ∃ d' : Array α, SWD enc k w0 blk off d' w' ∧ Via (swI x y n) dk d' ∧ ∀ lo hi, lo ≤ x → y + n ≤ hi → hi ≤ dk.size → PermIn lo hi dk d' := fun x y n dk W T hd h1 h2 => by
    rw [← hd] at h2 hsz ⊢
    exact swapRange S enc g cb blk off cap x y n d0 dk w0 W R (by omega) T.out h1 h2 hsz
  clear T
  go_enter S.fRO, Tryd.ntmps163
  have hi0 : IntKind.i64.wrap ((m : Int) - (a : Int)) = ((m - a : Nat) : Int) := by rw [IntKind.wrap_i64]; omega
  have hj0 : IntKind.i64.wrap ((b : Int) - (m : Int)) = ((b - m : Nat) : Int) := by rw [IntKind.wrap_i64]; omega
  have init : ∀ d'' : Array α, Via (rotI (m - (m - a)) m (m + (b - m))) d d'' → Via (rotI a m b) d d'' := fun d'' h => by rw [show m - (m - a) = a by omega, show m + (b - m) = b by omega] at h; exact h
  have INIT : Aside (∀ d'' : Array α, Via (rotI (m - (m - a)) m (m + (b - m))) d d'' → Via (rotI a m b) d d'') := init
  clear init
  obtain ⟨i0, hi0'⟩ : ∃ x, x = m - a := ⟨_, rfl⟩
  obtain ⟨j0, hj0'⟩ : ∃ x, x = b - m := ⟨_, rfl⟩
  rw [← hi0'] at hi0 INIT
  rw [← hj0'] at hj0 INIT
  have HI0 : Hid (i0 = m - a) := hi0'
  have HJ0 : Hid (j0 = b - m) := hj0'
  have pos : 0 < i0 ∧ 0 < j0 ∧ i0 ≤ m - a ∧ j0 ≤ b - m := by omega
  obtain ⟨p1, p2, p3, p4⟩ := pos
  clear hi0' hj0'
  have eSW : ∀ args w, (callFunc 171 args).run P w = .ok (.enter 171 args) w := enters_of S.fSW (by kernel_rfl) rfl
  go_wp2
  go_loopg [10, 11] (i0 + j0) (fun kx s10 s11 wr => ∃ (i j : Nat) (dk : Array α), s10 = .int .i64 i ∧ s11 = .int .i64 j ∧ 0 < i ∧ 0 < j ∧ i ≤ m - a ∧ j ≤ b - m ∧ i + j ≤ kx ∧ dk.size = d.size ∧ Aside (SWD enc k w0 blk off dk wr) ∧ Aside ((∀ d'' : Array α, Via (rotI (m - i) m (m + j)) dk d'' → Via (rotI a m b) d d'') ∧ ∀ lo hi, lo ≤ a → b ≤ hi → hi ≤ d.size → PermIn lo hi d dk))
  case atStart => exact ⟨i0, j0, d, rfl, rfl, p1, p2, p3, p4, Nat.le_refl _, rfl, S0, show _ ∧ _ from ⟨INIT.out, fun _ _ _ _ _ => permIn_refl _ _ _⟩⟩
  case round =>
    clear S0 INIT hi0 hj0 p1 p2 p3 p4
    obtain ⟨i, j, dk, rfl, rfl, hi1, hj1, him, hjb, hkx, hds, S1, HV⟩ := hrel
    have hmi : IntKind.i64.wrap ((m : Int) - (i : Int)) = ((m - i : Nat) : Int) := by rw [IntKind.wrap_i64]; omega
    by_cases hne : i = j
    · subst hne
      have c := SW (m - i) m i dk wr S1 hds (by omega) (by omega)
      clear SW
      go_wp2_with (go_at_fn 171; refine c.mono ?_; rintro e w' ⟨rfl, d', T1, V1, P1⟩)
      go_end0
      exact ⟨rfl, d', T1, HV.out.1 d' (V1.of_eq (fun x => rotI_same m i x (by omega))), fun lo hi h1 h2 h3 => permIn_trans _ _ _ _ _ (HV.out.2 lo hi h1 h2 h3) (P1 lo hi (by omega) (by omega) (by omega))⟩
    · have hnez : ((i : Int) = (j : Int)) = False := eq_false (by omega)
      by_cases hgt : j < i
      · have hgtz : (j : Int) < (i : Int) := by omega
        have c := SW (m - i) m j dk wr S1 hds (by omega) (by omega)
        have hij : IntKind.i64.wrap ((i : Int) - (j : Int)) = ((i - j : Nat) : Int) := by rw [IntKind.wrap_i64]; omega
        go_wp2_with (go_at_fn 171; refine c.mono ?_; rintro e w' ⟨rfl, d', T1, V1, P1⟩)
        have S2 : Aside (SWD enc k w0 blk off d' _) := T1
        have HV2 : Aside (Via (swI (m - i) m j) dk d' ∧ ∀ lo hi, lo ≤ m - i → m + j ≤ hi → hi ≤ dk.size → PermIn lo hi dk d') := (show _ ∧ _ from ⟨V1, P1⟩)
        clear T1 V1 P1
        go_roundg (i - j + j)
        case measure => omega
        case rel => exact ⟨i - j, j, d', rfl, rfl, by omega, hj1, by omega, hjb, Nat.le_refl _, by rw [HV2.out.1.1]; exact hds, S2, show _ ∧ _ from ⟨fun d'' h => HV.out.1 d'' ((HV2.out.1.comp h).of_eq (fun x => rotI_more m i j x hgt (by omega))), fun lo hi h1 h2 h3 => permIn_trans _ _ _ _ _ (HV.out.2 lo hi h1 h2 h3) (HV2.out.2 lo hi (by omega) (by omega) (by omega))⟩⟩
      · have hgtz : ¬ (j : Int) < (i : Int) := by omega
        have c := SW (m - i) (m + j - i) i dk wr S1 hds (by omega) (by omega)
        have hmj : IntKind.i64.wrap ((m : Int) + (j : Int)) = ((m + j : Nat) : Int) := by rw [IntKind.wrap_i64]; omega
        have hmji : IntKind.i64.wrap (((m + j : Nat) : Int) - (i : Int)) = ((m + j - i : Nat) : Int) := by rw [IntKind.wrap_i64]; omega
        have hij : IntKind.i64.wrap ((j : Int) - (i : Int)) = ((j - i : Nat) : Int) := by rw [IntKind.wrap_i64]; omega
        obtain ⟨mj, hmj'⟩ : ∃ x, x = m + j := ⟨_, rfl⟩
        rw [← hmj'] at hmj hmji c
        have HMJ : Hid (mj = m + j) := hmj'
        clear hmj'
        go_wp2_with (go_at_fn 171; refine c.mono ?_; rintro e w' ⟨rfl, d', T1, V1, P1⟩)
        have S2 : Aside (SWD enc k w0 blk off d' _) := T1
        have HV2 : Aside (Via (swI (m - i) (mj - i) i) dk d' ∧ ∀ lo hi, lo ≤ m - i → mj - i + i ≤ hi → hi ≤ dk.size → PermIn lo hi dk d') := (show _ ∧ _ from ⟨V1, P1⟩)
        clear T1 V1 P1
        go_roundg (i + (j - i))
        case measure => omega
        case rel => exact ⟨i, j - i, d', rfl, rfl, hi1, by omega, him, by omega, Nat.le_refl _, by rw [HV2.out.1.1]; exact hds, S2, show _ ∧ _ from ⟨fun d'' h => HV.out.1 d'' ((HV2.out.1.comp h).of_eq (fun x => by rw [HMJ.out]; exact rotI_less m i j x (by omega) (by omega))), fun lo hi h1 h2 h3 => permIn_trans _ _ _ _ _ (HV.out.2 lo hi h1 h2 h3) (HV2.out.2 lo hi (by omega) (by have := HMJ.out; omega) (by omega))⟩⟩

end Go.Proofs.YtdigilidomimdaaDoor.Sw
namespace Go.Proofs.YtdigilidomimdaaDoor.Sw
set_option linter.unusedSimpArgs false
set_option linter.unusedSectionVars false
set_option linter.unusedVariables false
open Go.Proofs Go.Shelf Go.RowKit Go.Lib Go.Sort Go.Proofs.YtdigilidomimdaaDoor.Sm
variable {P : Program} {α : Type} [Inhabited α]
set_option maxHeartbeats 4000000 in
set_option maxRecDepth 1000000 in
theorem insertion {k : Nat} (S : Bare P k) (enc : α → List Value) (g : Nat) (cb : Array Value) (blk off cap a b : Nat) (d0 d : Array α) (w0 w : World) (R : RowK enc k w0 blk off d0) (hs : d0.size = d.size) (T : SWD enc k w0 blk off d w) (ok : α → Prop) (cf : α → α → Int) (eg : ∀ args w, (callFunc g args).run P w = .ok (.enter g args) w) (hcmp : CmpB P g cb enc ok cf) (hok : ∀ i, i < d.size → ok d[i]!) (hab : a ≤ b) (hb : b ≤ d.size) (hsz : d.size < 4611686018427387904) :
    Calls P 152 #[.slice (some ⟨blk, off, none⟩) d.size cap, .int .i64 a, .int .i64 b, .func (.func g) #[] cb] w fun e w' => e = .returned (.tuple #[]) ∧ SWD enc k w0 blk off (Sort.insertionSort (ltOf cf) d a b) w' := by
  have mixed := S.mixed; have aE := S.aE; have zE := S.zE; have t0 := S.t0; have a0 := S.a0; have z0 := S.z0; have v0 := S.v0; have t3 := S.t3; have a3 := S.a3; have z3 := S.z3; have v3 := S.v3; have t4 := S.t4; have a4 := S.a4; have z4 := S.z4; have v4 := S.v4; have t36 := S.t36; have a36 := S.a36; have z36 := S.z36; have v36 := S.v36; have t106 := S.t106; have a106 := S.a106; have z106 := S.z106; have v106 := S.v106; have t117 := S.t117; have a117 := S.a117; have z117 := S.z117; have v117 := S.v117; have u0 := run_underlying S.t0; have u3 := run_underlying S.t3; have u4 := run_underlying S.t4; have u36 := run_underlying S.t36; have u106 := run_underlying S.t106; have u117 := run_underlying S.t117
  have S0 : Aside (SWD enc k w0 blk off d w) := T
  have HC : Aside (CmpB P g cb enc ok cf) := hcmp
  have HOK : Aside (∀ i, i < d.size → ok d[i]!) := hok
  clear T hcmp hok
  go_enter S.fIN, Tryd.ntmps152
  go_wp2
  go_loopg [8] (b - a) (fun g1 vi wr => ∃ (i : Nat) (dk : Array α), vi = .int .i64 i ∧ a < i ∧ i ≤ b + 1 ∧ b + 1 - i ≤ g1 + 1 ∧ dk.size = d.size ∧ Aside (SWD enc k w0 blk off dk wr) ∧ Aside (PermIn 0 d.size d dk ∧ insOuter (ltOf cf) a b i dk = insOuter (ltOf cf) a b (a + 1) d))
  case atStart => exact ⟨a + 1, d, by go_num, by omega, by omega, by omega, rfl, S0, show _ ∧ _ from ⟨permIn_refl _ _ _, rfl⟩⟩
  case round =>
    clear S0
    obtain ⟨i, dk, rfl, hai, hib, hg1, hsk, S1, HO⟩ := hrel
    by_cases hlt : i < b
    · have hltz : (i : Int) < (b : Int) := by omega
      go_wp2
      go_loopg [9] i (fun g2 vj wr2 => ∃ (j : Nat) (dj : Array α), vj = .int .i64 j ∧ a ≤ j ∧ j ≤ i ∧ j ≤ g2 ∧ dj.size = d.size ∧ Aside (SWD enc k w0 blk off dj wr2) ∧ Aside (PermIn 0 d.size d dj ∧ insInner (ltOf cf) a j dj = insInner (ltOf cf) a i dk))
      case atStart => exact ⟨i, dk, rfl, by omega, Nat.le_refl _, Nat.le_refl _, hsk, S1, show _ ∧ _ from ⟨HO.out.1, rfl⟩⟩
      case round =>
        clear S1
        obtain ⟨j, dj, rfl, haj, hji, hg2, hsj, S2, HI⟩ := hrel
        have out : (j ≤ a ∨ ltOf cf dj[j]! dj[j - 1]! = false) → insOuter (ltOf cf) a b (i + 1) dj = insOuter (ltOf cf) a b (a + 1) d := fun hs => by
          rw [← HO.out.2, insOuter_go _ _ _ _ _ hlt, ← HI.out.2, insInner_stop _ _ _ _ hs]
        have OUT : Aside ((j ≤ a ∨ ltOf cf dj[j]! dj[j - 1]! = false) → insOuter (ltOf cf) a b (i + 1) dj = insOuter (ltOf cf) a b (a + 1) d) := out
        clear out
        by_cases hja : a < j
        · have hjaz : (a : Int) < (j : Int) := by omega
          obtain ⟨jp, rfl⟩ : ∃ jp, j = jp + 1 := ⟨j - 1, by omega⟩
          have okj : ok dj[jp + 1]! := permIn_all d dj 0 d.size ok (Nat.le_refl _) HI.out.1 (fun i _ h => HOK.out i h) (jp + 1) (Nat.zero_le _) (by omega)
          have okp : ok dj[jp]! := permIn_all d dj 0 d.size ok (Nat.le_refl _) HI.out.1 (fun i _ h => HOK.out i h) jp (Nat.zero_le _) (by omega)
          have lj := S2.out.ldB R (by omega) P (jp + 1) (by omega)
          have lp := S2.out.ldB R (by omega) P jp (by omega)
          have hcg := HC.out.at_ (W := wr) _ _ okj okp
          obtain ⟨xj, hxj⟩ : ∃ x, dj[jp + 1]! = x := ⟨_, rfl⟩
          obtain ⟨xp, hxp⟩ : ∃ x, dj[jp]! = x := ⟨_, rfl⟩
          rw [hxj] at lj hcg
          rw [hxp] at lp hcg
          have XX : Hid (dj[jp + 1]! = xj ∧ dj[jp]! = xp) := ⟨hxj, hxp⟩
          clear okj okp hxj hxp
          have hwp : IntKind.i64.wrap (jp : Int) = (jp : Int) := by rw [IntKind.wrap_i64]; omega
          have jz : (jp : Int) + 1 < (d.size : Int) := by omega
          have jz1 : (jp : Int) < (d.size : Int) := by omega
          have hjaz' : (a : Int) < (jp : Int) + 1 := by omega
          have p0 : (0 : Int) ≤ (jp : Int) + 1 := by omega
          have e0 : ((jp : Int) + 1).toNat = jp + 1 := by omega
          by_cases hlv : cf xj xp < 0
          · skip
            go_wp2_with fail
            refine wp_region_quiet_below (by assumption) (by kernel_rfl) ?_
            repeat (quiet_step (first | (go_at_fn g; exact hcg _)))
            refine wpQuiet_nil ?_
            intro _ hw'
            obtain ⟨p, hw''⟩ := hw'
            subst hw''
            have S3 : Aside (SWD enc k w0 blk off dj p.W) := S2.out.below p.h
            clear lj lp hcg S2 jz jz1 p0 e0
            generalize p.W = wq at S3 ⊢
            go_wp2_with fail
            have ea45 : ((jp : Int) + 1).toNat = jp + 1 := by omega
            have pa45 : (0 : Int) ≤ (jp : Int) + 1 := by omega
            have ba45 : (jp : Int) + 1 < (d.size : Int) := by omega
            have ra45 : IntKind.i64.wrap ((jp : Int) + 1) = (jp : Int) + 1 := by rw [IntKind.wrap_i64]; omega
            have ec45 : ((jp : Int)).toNat = jp := by omega
            have pc45 : (0 : Int) ≤ (jp : Int) := by omega
            have bc45 : (jp : Int) < (d.size : Int) := by omega
            have rc45 : IntKind.i64.wrap ((jp : Int)) = (jp : Int) := by rw [IntKind.wrap_i64]; omega
            have S4 : Aside (SWD enc k w0 blk off (swp dj (jp + 1) (jp)) ((wq.drew.setCells blk (off + (jp + 1) * k) (enc dj[jp]!)).setCells blk (off + (jp) * k) (enc dj[jp + 1]!))) := S3.out.swapped R (jp + 1) (jp) (by omega) (by omega)
            have l45a := S3.out.ld1 R (by omega) P (jp + 1) (by omega)
            have l45b := S3.out.ld1 R (by omega) P (jp) (by omega)
            have s45a := S3.out.st1 R (by omega) P (jp + 1) (by omega) dj[jp]!
            have s45b := S3.out.st2 R (by omega) P (jp + 1) (jp) (by omega) (by omega) dj[jp]! dj[jp + 1]!
            have n45a : (enc dj[jp + 1]!).length = k := R.hk _
            have n45b : (enc dj[jp]!).length = k := R.hk _
            generalize enc dj[jp + 1]! = cI45 at S4 l45a s45b n45a
            generalize enc dj[jp]! = cJ45 at S4 l45b s45a s45b n45b
            clear S3
            go_wp2_with fail
            go_big_region_o
            clear l45a l45b s45a s45b
            generalize (wq.drew.setCells blk (off + (jp + 1) * k) cJ45).setCells blk (off + (jp) * k) cI45 = w2 at S4 ⊢
            go_wp2
            go_roundg jp
            case measure => omega
            case rel =>
              refine ⟨jp, swp dj (jp + 1) jp, by first | rfl | go_num | (congr 1; omega), by omega, by omega, Nat.le_refl _, by rw [size_swp]; exact hsj, S4, show _ ∧ _ from ⟨permIn_trans _ _ _ _ _ HI.out.1 (swp_permIn dj 0 d.size _ _ (by omega) (by omega) (by omega) (by omega) (by omega)), ?_⟩⟩
              have := insInner_go (ltOf cf) a (jp + 1) dj hja (by simp only [Nat.add_sub_cancel]; rw [XX.out.1, XX.out.2]; exact decide_eq_true hlv)
              simp only [Nat.add_sub_cancel] at this
              rw [← HI.out.2, this]
          · skip
            go_wp2_with fail
            refine wp_region_quiet_below (by assumption) (by kernel_rfl) ?_
            repeat (quiet_step (first | (go_at_fn g; exact hcg _)))
            refine wpQuiet_nil ?_
            intro _ hw'
            obtain ⟨p, hw''⟩ := hw'
            subst hw''
            have S3 : Aside (SWD enc k w0 blk off dj p.W) := S2.out.below p.h
            clear lj lp hcg S2
            generalize p.W = wq at S3 ⊢
            go_wp2
            go_roundg (b - (i + 1))
            case measure => omega
            case rel => exact ⟨i + 1, dj, by go_num, by omega, by omega, by omega, hsj, S3, show _ ∧ _ from ⟨HI.out.1, OUT.out (Or.inr (by simp only [Nat.add_sub_cancel]; rw [XX.out.1, XX.out.2]; exact decide_eq_false (by omega)))⟩⟩
        · have hjaz : decide ((j : Int) > (a : Int)) = false := decide_eq_false (by omega)
          have hjaz' : ¬ (a : Int) < (j : Int) := by omega
          have S3 : Aside (SWD enc k w0 blk off dj wr.drew) := S2.out.drew
          clear S2
          go_wp2_with fail
          go_big_region_o
          all_goals go_wp2
          go_roundg (b - (i + 1))
          case measure => omega
          case rel => exact ⟨i + 1, dj, by go_num, by omega, by omega, by omega, hsj, S3, show _ ∧ _ from ⟨HI.out.1, OUT.out (Or.inl (by omega))⟩⟩
    · have hltz : ¬ (i : Int) < (b : Int) := by omega
      go_wp2
      go_end0
      exact ⟨rfl, by unfold Sort.insertionSort; rw [← HO.out.2, insOuter_stop _ _ _ _ _ hlt]; exact S1.out⟩

end Go.Proofs.YtdigilidomimdaaDoor.Sw
namespace Go.Proofs.YtdigilidomimdaaDoor.Sw
set_option linter.unusedSimpArgs false
set_option linter.unusedSectionVars false
set_option linter.unusedVariables false
open Go.Proofs Go.Shelf Go.RowKit Go.Lib Go.Sort Go.Proofs.YtdigilidomimdaaDoor.Sm
variable {P : Program} {α : Type} [Inhabited α]
set_option maxHeartbeats 4000000 in
set_option maxRecDepth 1000000 in
theorem symLeft {k : Nat} (S : Bare P k) (enc : α → List Value) (g : Nat) (cb : Array Value) (blk off cap : Nat) (d0 : Array α) (w0 : World) (R : RowK enc k w0 blk off d0) (ok : α → Prop) (cf : α → α → Int) (eg : ∀ args w, (callFunc g args).run P w = .ok (.enter g args) w) (hcmp : CmpB P g cb enc ok cf) (hS : SWO (ltOf cf)) (a m b : Nat) (d : Array α) (w : World) (hm1 : m = a + 1) : d0.size = d.size → SWD enc k w0 blk off d w → (∀ i, i < d.size → ok d[i]!) → a < m → m < b → b ≤ d.size → d.size < 4611686018427387904 → SortedIn (ltOf cf) a m d → SortedIn (ltOf cf) m b d →
    Calls P 153 #[.slice (some ⟨blk, off, none⟩) d.size cap, .int .i64 a, .int .i64 m, .int .i64 b, .func (.func g) #[] cb] w fun e w' => e = .returned (.tuple #[]) ∧ ∃ d' : Array α, SWD enc k w0 blk off d' w' ∧ PermIn a b d d' ∧ SortedIn (ltOf cf) a b d' := by
  intro hs T hok ham hmb hb hsz hL hR
  have mixed := S.mixed; have aE := S.aE; have zE := S.zE; have t0 := S.t0; have a0 := S.a0; have z0 := S.z0; have v0 := S.v0; have t3 := S.t3; have a3 := S.a3; have z3 := S.z3; have v3 := S.v3; have t4 := S.t4; have a4 := S.a4; have z4 := S.z4; have v4 := S.v4; have t36 := S.t36; have a36 := S.a36; have z36 := S.z36; have v36 := S.v36; have t106 := S.t106; have a106 := S.a106; have z106 := S.z106; have v106 := S.v106; have t117 := S.t117; have a117 := S.a117; have z117 := S.z117; have v117 := S.v117; have u0 := run_underlying S.t0; have u3 := run_underlying S.t3; have u4 := run_underlying S.t4; have u36 := run_underlying S.t36; have u106 := run_underlying S.t106; have u117 := run_underlying S.t117
  have S0 : Aside (SWD enc k w0 blk off d w) := T
  have HC : Aside (CmpB P g cb enc ok cf) := hcmp
  have HOK : Aside (∀ i, i < d.size → ok d[i]!) := hok
  have HL : Aside (SortedIn (ltOf cf) a m d) := hL
  have HR : Aside (SortedIn (ltOf cf) m b d) := hR
  clear T hcmp hok hL hR
  have eME : ∀ args w, (callFunc 153 args).run P w = .ok (.enter 153 args) w := enters_of S.fME (by kernel_rfl) rfl
  have eRO : ∀ args w, (callFunc 163 args).run P w = .ok (.enter 163 args) w := enters_of S.fRO (by kernel_rfl) rfl
  have hma : IntKind.i64.wrap ((m : Int) - (a : Int)) = (m : Int) - (a : Int) := by rw [IntKind.wrap_i64]; omega
  have hbm : IntKind.i64.wrap ((b : Int) - (m : Int)) = (b : Int) - (m : Int) := by rw [IntKind.wrap_i64]; omega
  go_enter S.fME, Tryd.ntmps153
  · have hm1z : ((m : Int) - (a : Int) == 1) = true := beq_iff_eq.mpr (by omega)
    have hm1a : m ≤ a + 1 := by omega
    have hm1b : a + 1 ≤ m := by omega
    have HM1 : Hid (m = a + 1) := hm1
    clear hm1
    go_wp2
    go_loopg [10, 11, 12] (b - m) (fun kx s10 s11 s12 wr => ∃ lo hi : Nat, s10 = .int .i64 lo ∧ s11 = .int .i64 hi ∧ m ≤ lo ∧ lo ≤ hi ∧ hi ≤ b ∧ hi - lo ≤ kx ∧ Aside (SWD enc k w0 blk off d wr) ∧ Aside ((m < lo → ltOf cf d[lo - 1]! d[a]! = true) ∧ (hi < b → ltOf cf d[hi]! d[a]! = false)))
    case atStart => exact ⟨m, b, rfl, rfl, Nat.le_refl _, by omega, Nat.le_refl _, by omega, S0, show _ ∧ _ from ⟨fun h => by omega, fun h => by omega⟩⟩
    case round =>
      clear S0
      obtain ⟨lo, hi, rfl, rfl, hlo, hlh, hhi, hkx, S1, I1⟩ := hrel
      by_cases hlt : lo < hi
      · have hltz : (lo : Int) < (hi : Int) := by omega
        obtain ⟨h, h'⟩ : ∃ x, x = (lo + hi) / 2 := ⟨_, rfl⟩
        have HH : Hid (h = (lo + hi) / 2) := h'
        have divh : ((lo : Int) + (hi : Int)) / 2 = (h : Int) := by omega
        have bndh : lo ≤ h ∧ (lo < hi → h < hi) := by omega
        clear h'
        obtain ⟨h1, h2⟩ := bndh
        have h2 := h2 hlt
        have lx := S1.out.ldB R (by omega) P h (by omega)
        have ly := S1.out.ldB R (by omega) P a (by omega)
        have hcg := HC.out.at_ (W := wr) _ _ (HOK.out h (by omega)) (HOK.out a (by omega))
        obtain ⟨x, hx⟩ : ∃ x, d[h]! = x := ⟨_, rfl⟩
        obtain ⟨y, hy⟩ : ∃ y, d[a]! = y := ⟨_, rfl⟩
        rw [hx] at lx hcg
        rw [hy] at ly hcg
        have XX : Hid (d[h]! = x ∧ d[a]! = y) := ⟨hx, hy⟩
        clear hx hy
        have e1 : ((h : Int)).toNat = h := by omega
        have p1 : (0 : Int) ≤ (h : Int) := by omega
        have b1 : (h : Int) < (d.size : Int) := by omega
        have r1 : IntKind.i64.wrap ((h : Int)) = (h : Int) := by rw [IntKind.wrap_i64]; omega
        have e2 : ((a : Int)).toNat = a := by omega
        have p2 : (0 : Int) ≤ (a : Int) := by omega
        have b2 : (a : Int) < (d.size : Int) := by omega
        have r2 : IntKind.i64.wrap ((a : Int)) = (a : Int) := by rw [IntKind.wrap_i64]; omega
        by_cases hlv : cf x y < 0
        · skip
          go_wp2_with fail
          refine wp_region_quiet_below (by assumption) (by kernel_rfl) ?_
          repeat (quiet_step (first | (go_at_fn g; exact hcg _)))
          refine wpQuiet_nil ?_
          intro _ hw'
          obtain ⟨p, hw''⟩ := hw'
          subst hw''
          have S3 : Aside (SWD enc k w0 blk off d p.W) := S1.out.below p.h
          clear lx ly hcg S1
          generalize p.W = wq at S3 ⊢
          go_wp2
          go_roundg (hi - (h + 1))
          case measure => omega
          case rel => exact ⟨h + 1, hi, by go_num, rfl, by omega, by omega, hhi, Nat.le_refl _, S3, show _ ∧ _ from ⟨fun _ => by rw [Nat.add_sub_cancel, XX.out.1, XX.out.2]; exact decide_eq_true hlv, I1.out.2⟩⟩
        · skip
          go_wp2_with fail
          refine wp_region_quiet_below (by assumption) (by kernel_rfl) ?_
          repeat (quiet_step (first | (go_at_fn g; exact hcg _)))
          refine wpQuiet_nil ?_
          intro _ hw'
          obtain ⟨p, hw''⟩ := hw'
          subst hw''
          have S3 : Aside (SWD enc k w0 blk off d p.W) := S1.out.below p.h
          clear lx ly hcg S1
          generalize p.W = wq at S3 ⊢
          go_wp2
          go_roundg (h - lo)
          case measure => omega
          case rel => exact ⟨lo, h, rfl, rfl, hlo, by omega, by omega, Nat.le_refl _, S3, show _ ∧ _ from ⟨I1.out.1, fun _ => by rw [XX.out.1, XX.out.2]; exact decide_eq_false (by omega)⟩⟩
      · have hltz : ¬ (lo : Int) < (hi : Int) := by omega
        have hlo1 : IntKind.i64.wrap ((lo : Int) - 1) = (lo : Int) - 1 := by rw [IntKind.wrap_i64]; omega
        have hle : hi = lo := by omega
        rw [hle] at I1
        have I2 := I1
        clear I1 hle
        go_wp2
        go_loopg [13] (lo - 1 - a) (fun kx s13 wr => ∃ (kk : Nat) (dk : Array α), s13 = .int .i64 kk ∧ a ≤ kk ∧ kk ≤ lo - 1 ∧ lo - 1 - kk ≤ kx ∧ dk.size = d.size ∧ Aside (SWD enc k w0 blk off dk wr) ∧ Aside (Via (rotI a (a + 1) (kk + 1)) d dk ∧ PermIn a b d dk))
        case atStart => exact ⟨a, d, rfl, Nat.le_refl _, by omega, Nat.le_refl _, rfl, S1, show _ ∧ _ from ⟨via_id d (fun x => rotI_none a (a + 1) (a + 1) x (by omega) (by omega) (Or.inr rfl)), permIn_refl _ _ _⟩⟩
        case round =>
          clear S1
          obtain ⟨kk, dk, rfl, hk1, hk2, hkx2, hds, S1, HV⟩ := hrel
          by_cases hk : kk < lo - 1
          · have hkz : (kk : Int) < (lo : Int) - 1 := by omega
            have ea44 : ((kk : Int)).toNat = kk := by omega
            have pa44 : (0 : Int) ≤ (kk : Int) := by omega
            have ba44 : (kk : Int) < (d.size : Int) := by omega
            have ra44 : IntKind.i64.wrap ((kk : Int)) = (kk : Int) := by rw [IntKind.wrap_i64]; omega
            have ec44 : ((kk : Int) + 1).toNat = kk + 1 := by omega
            have pc44 : (0 : Int) ≤ (kk : Int) + 1 := by omega
            have bc44 : (kk : Int) + 1 < (d.size : Int) := by omega
            have rc44 : IntKind.i64.wrap ((kk : Int) + 1) = (kk : Int) + 1 := by rw [IntKind.wrap_i64]; omega
            have S2 : Aside (SWD enc k w0 blk off (swp dk (kk) (kk + 1)) ((wr.drew.setCells blk (off + (kk) * k) (enc dk[kk + 1]!)).setCells blk (off + (kk + 1) * k) (enc dk[kk]!))) := S1.out.swapped R (kk) (kk + 1) (by omega) (by omega)
            have l44a := S1.out.ld1 R (by omega) P (kk) (by omega)
            have l44b := S1.out.ld1 R (by omega) P (kk + 1) (by omega)
            have s44a := S1.out.st1 R (by omega) P (kk) (by omega) dk[kk + 1]!
            have s44b := S1.out.st2 R (by omega) P (kk) (kk + 1) (by omega) (by omega) dk[kk + 1]! dk[kk]!
            have n44a : (enc dk[kk]!).length = k := R.hk _
            have n44b : (enc dk[kk + 1]!).length = k := R.hk _
            generalize enc dk[kk]! = cI44 at S2 l44a s44b n44a
            generalize enc dk[kk + 1]! = cJ44 at S2 l44b s44a s44b n44b
            clear S1
            go_wp2_with fail
            go_big_region_o
            clear l44a l44b s44a s44b
            generalize (wr.drew.setCells blk (off + (kk) * k) cJ44).setCells blk (off + (kk + 1) * k) cI44 = w2 at S2 ⊢
            go_wp2
            go_roundg (lo - 1 - (kk + 1))
            case measure => omega
            case rel => exact ⟨kk + 1, swp dk kk (kk + 1), by go_num, by omega, by omega, Nat.le_refl _, by rw [size_swp]; exact hds, S2, show _ ∧ _ from ⟨(HV.out.1.comp (via_swp (by omega) (by omega))).of_eq (fun x => rotI_up a kk x hk1), permIn_trans _ _ _ _ _ HV.out.2 (swp_permIn dk a b _ _ (by omega) (by omega) (by omega) (by omega) (by omega))⟩⟩
          · have hkz : ¬ (kk : Int) < (lo : Int) - 1 := by omega
            go_wp2
            (try simp only [Exit.inBlock, Exit.then])
            refine bodyPost_ret (results_none rfl _ _ _) rfl ?_
            refine ⟨rfl, dk, S1.out, HV.out.2, ?_⟩
            have hv := HV.out.1
            rw [show kk + 1 = lo by omega] at hv
            have hr := HR.out
            rw [HM1.out] at hr
            exact ins_left hS hr (by omega) (by omega) (fun h => I2.out.1 (by omega)) I2.out.2 hv

end Go.Proofs.YtdigilidomimdaaDoor.Sw
namespace Go.Proofs.YtdigilidomimdaaDoor.Sw
set_option linter.unusedSimpArgs false
set_option linter.unusedSectionVars false
set_option linter.unusedVariables false
open Go.Proofs Go.Shelf Go.RowKit Go.Lib Go.Sort Go.Proofs.YtdigilidomimdaaDoor.Sm
variable {P : Program} {α : Type} [Inhabited α]
set_option maxHeartbeats 4000000 in
set_option maxRecDepth 1000000 in
theorem symRight {k : Nat} (S : Bare P k) (enc : α → List Value) (g : Nat) (cb : Array Value) (blk off cap : Nat) (d0 : Array α) (w0 : World) (R : RowK enc k w0 blk off d0) (ok : α → Prop) (cf : α → α → Int) (eg : ∀ args w, (callFunc g args).run P w = .ok (.enter g args) w) (hcmp : CmpB P g cb enc ok cf) (hS : SWO (ltOf cf)) (a m b : Nat) (d : Array α) (w : World) (hm1 : ¬ m = a + 1) (hb1 : b = m + 1) : d0.size = d.size → SWD enc k w0 blk off d w → (∀ i, i < d.size → ok d[i]!) → a < m → m < b → b ≤ d.size → d.size < 4611686018427387904 → SortedIn (ltOf cf) a m d → SortedIn (ltOf cf) m b d →
    Calls P 153 #[.slice (some ⟨blk, off, none⟩) d.size cap, .int .i64 a, .int .i64 m, .int .i64 b, .func (.func g) #[] cb] w fun e w' => e = .returned (.tuple #[]) ∧ ∃ d' : Array α, SWD enc k w0 blk off d' w' ∧ PermIn a b d d' ∧ SortedIn (ltOf cf) a b d' := by
  intro hs T hok ham hmb hb hsz hL hR
  have mixed := S.mixed; have aE := S.aE; have zE := S.zE; have t0 := S.t0; have a0 := S.a0; have z0 := S.z0; have v0 := S.v0; have t3 := S.t3; have a3 := S.a3; have z3 := S.z3; have v3 := S.v3; have t4 := S.t4; have a4 := S.a4; have z4 := S.z4; have v4 := S.v4; have t36 := S.t36; have a36 := S.a36; have z36 := S.z36; have v36 := S.v36; have t106 := S.t106; have a106 := S.a106; have z106 := S.z106; have v106 := S.v106; have t117 := S.t117; have a117 := S.a117; have z117 := S.z117; have v117 := S.v117; have u0 := run_underlying S.t0; have u3 := run_underlying S.t3; have u4 := run_underlying S.t4; have u36 := run_underlying S.t36; have u106 := run_underlying S.t106; have u117 := run_underlying S.t117
  have S0 : Aside (SWD enc k w0 blk off d w) := T
  have HC : Aside (CmpB P g cb enc ok cf) := hcmp
  have HOK : Aside (∀ i, i < d.size → ok d[i]!) := hok
  have HL : Aside (SortedIn (ltOf cf) a m d) := hL
  have HR : Aside (SortedIn (ltOf cf) m b d) := hR
  clear T hcmp hok hL hR
  have eME : ∀ args w, (callFunc 153 args).run P w = .ok (.enter 153 args) w := enters_of S.fME (by kernel_rfl) rfl
  have eRO : ∀ args w, (callFunc 163 args).run P w = .ok (.enter 163 args) w := enters_of S.fRO (by kernel_rfl) rfl
  have hma : IntKind.i64.wrap ((m : Int) - (a : Int)) = (m : Int) - (a : Int) := by rw [IntKind.wrap_i64]; omega
  have hbm : IntKind.i64.wrap ((b : Int) - (m : Int)) = (b : Int) - (m : Int) := by rw [IntKind.wrap_i64]; omega
  go_enter S.fME, Tryd.ntmps153
  have hm1z : ((m : Int) - (a : Int) == 1) = false := beq_eq_false_iff_ne.mpr (by omega)
  · have hb1z : ((b : Int) - (m : Int) == 1) = true := beq_iff_eq.mpr (by omega)
    have hb1a : b ≤ m + 1 := by omega
    have HB1 : Hid (b = m + 1) := hb1
    clear hb1
    go_wp2
    go_loopg [14, 15, 16] (m - a) (fun kx s14 s15 s16 wr => ∃ lo hi : Nat, s14 = .int .i64 lo ∧ s15 = .int .i64 hi ∧ a ≤ lo ∧ lo ≤ hi ∧ hi ≤ m ∧ hi - lo ≤ kx ∧ Aside (SWD enc k w0 blk off d wr) ∧ Aside ((a < lo → ltOf cf d[m]! d[lo - 1]! = false) ∧ (hi < m → ltOf cf d[m]! d[hi]! = true)))
    case atStart => exact ⟨a, m, rfl, rfl, Nat.le_refl _, by omega, Nat.le_refl _, by omega, S0, show _ ∧ _ from ⟨fun h => by omega, fun h => by omega⟩⟩
    case round =>
      clear S0
      obtain ⟨lo, hi, rfl, rfl, hlo, hlh, hhi, hkx, S1, I1⟩ := hrel
      by_cases hlt : lo < hi
      · have hltz : (lo : Int) < (hi : Int) := by omega
        obtain ⟨h, h'⟩ : ∃ x, x = (lo + hi) / 2 := ⟨_, rfl⟩
        have HH : Hid (h = (lo + hi) / 2) := h'
        have divh : ((lo : Int) + (hi : Int)) / 2 = (h : Int) := by omega
        have bndh : lo ≤ h ∧ (lo < hi → h < hi) := by omega
        clear h'
        obtain ⟨h1, h2⟩ := bndh
        have h2 := h2 hlt
        have lx := S1.out.ldB R (by omega) P m (by omega)
        have ly := S1.out.ldB R (by omega) P h (by omega)
        have hcg := HC.out.at_ (W := wr) _ _ (HOK.out m (by omega)) (HOK.out h (by omega))
        obtain ⟨x, hx⟩ : ∃ x, d[m]! = x := ⟨_, rfl⟩
        obtain ⟨y, hy⟩ : ∃ y, d[h]! = y := ⟨_, rfl⟩
        rw [hx] at lx hcg
        rw [hy] at ly hcg
        have XX : Hid (d[m]! = x ∧ d[h]! = y) := ⟨hx, hy⟩
        clear hx hy
        have e1 : ((h : Int)).toNat = h := by omega
        have p1 : (0 : Int) ≤ (h : Int) := by omega
        have b1 : (h : Int) < (d.size : Int) := by omega
        have r1 : IntKind.i64.wrap ((h : Int)) = (h : Int) := by rw [IntKind.wrap_i64]; omega
        have e2 : ((m : Int)).toNat = m := by omega
        have p2 : (0 : Int) ≤ (m : Int) := by omega
        have b2 : (m : Int) < (d.size : Int) := by omega
        have r2 : IntKind.i64.wrap ((m : Int)) = (m : Int) := by rw [IntKind.wrap_i64]; omega
        by_cases hlv : cf x y < 0
        · have hlq : (!decide (cf x y < 0)) = false := by rw [decide_eq_true hlv]; rfl
          go_wp2_with fail
          refine wp_region_quiet_below (by assumption) (by kernel_rfl) ?_
          repeat (quiet_step (first | (go_at_fn g; exact hcg _)))
          refine wpQuiet_nil ?_
          intro _ hw'
          obtain ⟨p, hw''⟩ := hw'
          subst hw''
          have S3 : Aside (SWD enc k w0 blk off d p.W) := S1.out.below p.h
          clear lx ly hcg S1
          generalize p.W = wq at S3 ⊢
          go_wp2
          go_roundg (h - lo)
          case measure => omega
          case rel => exact ⟨lo, h, rfl, rfl, hlo, by omega, by omega, Nat.le_refl _, S3, show _ ∧ _ from ⟨I1.out.1, fun _ => by rw [XX.out.1, XX.out.2]; exact decide_eq_true hlv⟩⟩
        · have hlq : (!decide (cf x y < 0)) = true := by rw [decide_eq_false hlv]; rfl
          go_wp2_with fail
          refine wp_region_quiet_below (by assumption) (by kernel_rfl) ?_
          repeat (quiet_step (first | (go_at_fn g; exact hcg _)))
          refine wpQuiet_nil ?_
          intro _ hw'
          obtain ⟨p, hw''⟩ := hw'
          subst hw''
          have S3 : Aside (SWD enc k w0 blk off d p.W) := S1.out.below p.h
          clear lx ly hcg S1
          generalize p.W = wq at S3 ⊢
          go_wp2
          go_roundg (hi - (h + 1))
          case measure => omega
          case rel => exact ⟨h + 1, hi, by go_num, rfl, by omega, by omega, hhi, Nat.le_refl _, S3, show _ ∧ _ from ⟨fun _ => by rw [Nat.add_sub_cancel, XX.out.1, XX.out.2]; exact decide_eq_false (by omega), I1.out.2⟩⟩
      · have hltz : ¬ (lo : Int) < (hi : Int) := by omega
        have hle : hi = lo := by omega
        rw [hle] at I1
        have I2 := I1
        clear I1 hle
        go_wp2
        go_loopg [17] (m - lo) (fun kx s17 wr => ∃ (kk : Nat) (dk : Array α), s17 = .int .i64 kk ∧ lo ≤ kk ∧ kk ≤ m ∧ kk - lo ≤ kx ∧ dk.size = d.size ∧ Aside (SWD enc k w0 blk off dk wr) ∧ Aside (Via (rotI kk m (m + 1)) d dk ∧ PermIn a b d dk))
        case atStart => exact ⟨m, d, rfl, by omega, Nat.le_refl _, Nat.le_refl _, rfl, S1, show _ ∧ _ from ⟨via_id d (fun x => rotI_none m m (m + 1) x (Nat.le_refl _) (by omega) (Or.inl rfl)), permIn_refl _ _ _⟩⟩
        case round =>
          clear S1
          obtain ⟨kk, dk, rfl, hk1, hk2, hkx2, hds, S1, HV⟩ := hrel
          by_cases hk : lo < kk
          · obtain ⟨kp, rfl⟩ : ∃ kp, kk = kp + 1 := ⟨kk - 1, by omega⟩
            have hkz : (lo : Int) < (kp : Int) + 1 := by omega
            have hwp : IntKind.i64.wrap (kp : Int) = (kp : Int) := by rw [IntKind.wrap_i64]; omega
            have ea44 : ((kp : Int) + 1).toNat = kp + 1 := by omega
            have pa44 : (0 : Int) ≤ (kp : Int) + 1 := by omega
            have ba44 : (kp : Int) + 1 < (d.size : Int) := by omega
            have ra44 : IntKind.i64.wrap ((kp : Int) + 1) = (kp : Int) + 1 := by rw [IntKind.wrap_i64]; omega
            have ec44 : ((kp : Int)).toNat = kp := by omega
            have pc44 : (0 : Int) ≤ (kp : Int) := by omega
            have bc44 : (kp : Int) < (d.size : Int) := by omega
            have rc44 : IntKind.i64.wrap ((kp : Int)) = (kp : Int) := by rw [IntKind.wrap_i64]; omega
            have S2 : Aside (SWD enc k w0 blk off (swp dk (kp + 1) (kp)) ((wr.drew.setCells blk (off + (kp + 1) * k) (enc dk[kp]!)).setCells blk (off + (kp) * k) (enc dk[kp + 1]!))) := S1.out.swapped R (kp + 1) (kp) (by omega) (by omega)
            have l44a := S1.out.ld1 R (by omega) P (kp + 1) (by omega)
            have l44b := S1.out.ld1 R (by omega) P (kp) (by omega)
            have s44a := S1.out.st1 R (by omega) P (kp + 1) (by omega) dk[kp]!
            have s44b := S1.out.st2 R (by omega) P (kp + 1) (kp) (by omega) (by omega) dk[kp]! dk[kp + 1]!
            have n44a : (enc dk[kp + 1]!).length = k := R.hk _
            have n44b : (enc dk[kp]!).length = k := R.hk _
            generalize enc dk[kp + 1]! = cI44 at S2 l44a s44b n44a
            generalize enc dk[kp]! = cJ44 at S2 l44b s44a s44b n44b
            clear S1
            go_wp2_with fail
            go_big_region_o
            clear l44a l44b s44a s44b
            generalize (wr.drew.setCells blk (off + (kp + 1) * k) cJ44).setCells blk (off + (kp) * k) cI44 = w2 at S2 ⊢
            go_wp2
            go_roundg (kp - lo)
            case measure => omega
            case rel => exact ⟨kp, swp dk (kp + 1) kp, by first | rfl | go_num | (congr 1; omega), by omega, by omega, Nat.le_refl _, by rw [size_swp]; exact hds, S2, show _ ∧ _ from ⟨(HV.out.1.comp (via_swp (by omega) (by omega))).of_eq (fun x => rotI_down kp m x (by omega)), permIn_trans _ _ _ _ _ HV.out.2 (swp_permIn dk a b _ _ (by omega) (by omega) (by omega) (by omega) (by omega))⟩⟩
          · have hkz : ¬ (lo : Int) < (kk : Int) := by omega
            go_wp2
            (try simp only [Exit.inBlock, Exit.then])
            refine bodyPost_ret (results_none rfl _ _ _) rfl ?_
            refine ⟨rfl, dk, S1.out, HV.out.2, ?_⟩
            have hv := HV.out.1
            rw [show kk = lo by omega] at hv
            rw [HB1.out]
            exact ins_right hS HL.out (by omega) (by omega) I2.out.1 I2.out.2 hv

end Go.Proofs.YtdigilidomimdaaDoor.Sw
namespace Go.Proofs.YtdigilidomimdaaDoor.Sw
set_option linter.unusedSimpArgs false
set_option linter.unusedSectionVars false
set_option linter.unusedVariables false
open Go.Proofs Go.Shelf Go.RowKit Go.Lib Go.Sort Go.Proofs.YtdigilidomimdaaDoor.Sm
variable {P : Program} {α : Type} [Inhabited α]
set_option maxHeartbeats 4000000 in
set_option maxRecDepth 1000000 in
theorem symGen {k : Nat} (S : Bare P k) (enc : α → List Value) (g : Nat) (cb : Array Value) (blk off cap : Nat) (d0 : Array α) (w0 : World) (R : RowK enc k w0 blk off d0) (ok : α → Prop) (cf : α → α → Int) (eg : ∀ args w, (callFunc g args).run P w = .ok (.enter g args) w) (hcmp : CmpB P g cb enc ok cf) (hS : SWO (ltOf cf)) (N : Nat) (ih : ∀ (a m b : Nat) (d : Array α) (w : World), b - a ≤ N → d0.size = d.size → SWD enc k w0 blk off d w → (∀ i, i < d.size → ok d[i]!) → a < m → m < b → b ≤ d.size → d.size < 4611686018427387904 → SortedIn (ltOf cf) a m d → SortedIn (ltOf cf) m b d → Calls P 153 #[.slice (some ⟨blk, off, none⟩) d.size cap, .int .i64 a, .int .i64 m, .int .i64 b, .func (.func g) #[] cb] w fun e w' => e = .returned (.tuple #[]) ∧ ∃ d' : Array α, SWD enc k w0 blk off d' w' ∧ PermIn a b d d' ∧ SortedIn (ltOf cf) a b d') (a m b : Nat) (d : Array α) (w : World) (hN : b - a ≤ N + 1) (hm1 : ¬ m = a + 1) (hb1 : ¬ b = m + 1) : d0.size = d.size → SWD enc k w0 blk off d w → (∀ i, i < d.size → ok d[i]!) → a < m → m < b → b ≤ d.size → d.size < 4611686018427387904 → SortedIn (ltOf cf) a m d → SortedIn (ltOf cf) m b d →
    Calls P 153 #[.slice (some ⟨blk, off, none⟩) d.size cap, .int .i64 a, .int .i64 m, .int .i64 b, .func (.func g) #[] cb] w fun e w' => e = .returned (.tuple #[]) ∧ ∃ d' : Array α, SWD enc k w0 blk off d' w' ∧ PermIn a b d d' ∧ SortedIn (ltOf cf) a b d' := by
  intro hs T hok ham hmb hb hsz hL hR
  have mixed := S.mixed; have aE := S.aE; have zE := S.zE; have t0 := S.t0; have a0 := S.a0; have z0 := S.z0; have v0 := S.v0; have t3 := S.t3; have a3 := S.a3; have z3 := S.z3; have v3 := S.v3; have t4 := S.t4; have a4 := S.a4; have z4 := S.z4; have v4 := S.v4; have t36 := S.t36; have a36 := S.a36; have z36 := S.z36; have v36 := S.v36; have t106 := S.t106; have a106 := S.a106; have z106 := S.z106; have v106 := S.v106; have t117 := S.t117; have a117 := S.a117; have z117 := S.z117; have v117 := S.v117; have u0 := run_underlying S.t0; have u3 := run_underlying S.t3; have u4 := run_underlying S.t4; have u36 := run_underlying S.t36; have u106 := run_underlying S.t106; have u117 := run_underlying S.t117
  have S0 : Aside (SWD enc k w0 blk off d w) := T
  have HC : Aside (CmpB P g cb enc ok cf) := hcmp
  have HOK : Aside (∀ i, i < d.size → ok d[i]!) := hok
  have HL : Aside (SortedIn (ltOf cf) a m d) := hL
  have HR : Aside (SortedIn (ltOf cf) m b d) := hR
  have IH : Aside _ := ih
  clear T hcmp hok hL hR ih
  have eME : ∀ args w, (callFunc 153 args).run P w = .ok (.enter 153 args) w := enters_of S.fME (by kernel_rfl) rfl
  have eRO : ∀ args w, (callFunc 163 args).run P w = .ok (.enter 163 args) w := enters_of S.fRO (by kernel_rfl) rfl
  have hma : IntKind.i64.wrap ((m : Int) - (a : Int)) = (m : Int) - (a : Int) := by rw [IntKind.wrap_i64]; omega
  have hbm : IntKind.i64.wrap ((b : Int) - (m : Int)) = (b : Int) - (m : Int) := by rw [IntKind.wrap_i64]; omega
  go_enter S.fME, Tryd.ntmps153
  have hm1z : ((m : Int) - (a : Int) == 1) = false := beq_eq_false_iff_ne.mpr (by omega)
  · have hb1z : ((b : Int) - (m : Int) == 1) = false := beq_eq_false_iff_ne.mpr (by omega)
    obtain ⟨mid, mid'⟩ : ∃ x, x = (a + b) / 2 := ⟨_, rfl⟩
    have HM : Hid (mid = (a + b) / 2) := mid'
    have divmid : ((a : Int) + (b : Int)) / 2 = (mid : Int) := by omega
    have bndmid : a ≤ mid ∧ (a < b → mid < b) := by omega
    clear mid'
    obtain ⟨m1, m2⟩ := bndmid
    have m2 := m2 (by omega)
    have m3 : 2 * mid ≤ a + b ∧ a + b ≤ 2 * mid + 1 := by have := HM.out; omega
    obtain ⟨m3, m4⟩ := m3
    obtain ⟨nn, nn'⟩ : ∃ x, x = mid + m := ⟨_, rfl⟩
    have HN : Hid (nn = mid + m) := nn'
    have rnn : IntKind.i64.wrap ((mid : Int) + (m : Int)) = (nn : Int) := by rw [IntKind.wrap_i64]; omega
    have n1 : nn ≤ mid + m := by omega
    have n2 : mid + m ≤ nn := by omega
    clear nn'
    go_upto_if 140 with fail
    go_cut [20, 21] (fun v20 v21 wc => ∃ s0 r0 : Nat, v20 = .int .i64 s0 ∧ v21 = .int .i64 r0 ∧ a ≤ s0 ∧ s0 ≤ r0 ∧ r0 ≤ mid ∧ r0 ≤ m ∧ nn ≤ b + s0 ∧ Aside ((s0 = a ∨ nn = b + s0) ∧ (r0 = m ∨ r0 = mid)) ∧ Aside (SWD enc k w0 blk off d wc))
    case first =>
      by_cases hmm : mid < m
      · have hmmz : (mid : Int) < (m : Int) := by omega
        obtain ⟨s0, s0'⟩ : ∃ x, x = nn - b := ⟨_, rfl⟩
        have rs0 : IntKind.i64.wrap ((nn : Int) - (b : Int)) = (s0 : Int) := by rw [IntKind.wrap_i64]; omega
        have f1 : a ≤ s0 := by omega
        have f2 : s0 ≤ mid := by omega
        have f3 : nn ≤ b + s0 := by omega
        have HS0 : Hid (nn = b + s0) := (show nn = b + s0 by omega)
        clear s0'
        go_wp2
        go_meet
        case rel => exact ⟨s0, mid, rfl, rfl, f1, f2, Nat.le_refl _, by omega, f3, show _ ∧ _ from ⟨Or.inr HS0.out, Or.inr rfl⟩, S0⟩
      · have hmmz : ¬ (mid : Int) < (m : Int) := by omega
        go_wp2
        go_meet
        case rel => exact ⟨a, m, rfl, rfl, Nat.le_refl _, by omega, by omega, Nat.le_refl _, by omega, show _ ∧ _ from ⟨Or.inl rfl, Or.inl rfl⟩, S0⟩
    case rest =>
    as_aux_lemma =>
    clear S0
    obtain ⟨s0, r0, rfl, rfl, q0, q1, q2, q3, q4, HQ, S1⟩ := hcut
    obtain ⟨pp, pp'⟩ : ∃ x, x = nn - 1 := ⟨_, rfl⟩
    have rpp : IntKind.i64.wrap ((nn : Int) - 1) = (pp : Int) := by rw [IntKind.wrap_i64]; omega
    have HP : Hid (pp = nn - 1) := pp'
    have pp1 : pp + 1 ≤ nn := by omega
    have pp2 : nn ≤ pp + 1 := by omega
    clear pp'
    go_wp2
    go_loopg [20, 21, 23] (r0 - s0) (fun kx s20 s21 s23 wr => ∃ lo hi : Nat, s20 = .int .i64 lo ∧ s21 = .int .i64 hi ∧ s0 ≤ lo ∧ lo ≤ hi ∧ hi ≤ r0 ∧ hi - lo ≤ kx ∧ Aside (SWD enc k w0 blk off d wr) ∧ Aside ((s0 < lo → ltOf cf d[nn - lo]! d[lo - 1]! = false) ∧ (hi < r0 → ltOf cf d[pp - hi]! d[hi]! = true)))
    case atStart => exact ⟨s0, r0, rfl, rfl, Nat.le_refl _, q1, Nat.le_refl _, Nat.le_refl _, S1, show _ ∧ _ from ⟨fun h => by omega, fun h => by omega⟩⟩
    case round =>
      clear S1
      obtain ⟨lo, hi, rfl, rfl, hlo, hlh, hhi, hkx, S1, I1⟩ := hrel
      by_cases hlt : lo < hi
      · have hltz : (lo : Int) < (hi : Int) := by omega
        obtain ⟨h, h'⟩ : ∃ x, x = (lo + hi) / 2 := ⟨_, rfl⟩
        have HH : Hid (h = (lo + hi) / 2) := h'
        have divh : ((lo : Int) + (hi : Int)) / 2 = (h : Int) := by omega
        have bndh : lo ≤ h ∧ (lo < hi → h < hi) := by omega
        clear h'
        obtain ⟨h1, h2⟩ := bndh
        have h2 := h2 hlt
        obtain ⟨xi, xi'⟩ : ∃ x, x = pp - h := ⟨_, rfl⟩
        have rxi : IntKind.i64.wrap ((pp : Int) - (h : Int)) = (xi : Int) := by rw [IntKind.wrap_i64]; omega
        have HXI : Hid (xi = pp - h) := xi'
        have xib : xi < d.size := by omega
        clear xi'
        have lx := S1.out.ldB R (by omega) P xi (by omega)
        have ly := S1.out.ldB R (by omega) P h (by omega)
        have hcg := HC.out.at_ (W := wr) _ _ (HOK.out xi (by omega)) (HOK.out h (by omega))
        obtain ⟨x, hx⟩ : ∃ x, d[xi]! = x := ⟨_, rfl⟩
        obtain ⟨y, hy⟩ : ∃ y, d[h]! = y := ⟨_, rfl⟩
        rw [hx] at lx hcg
        rw [hy] at ly hcg
        have XX : Hid (d[xi]! = x ∧ d[h]! = y) := ⟨hx, hy⟩
        clear hx hy
        have e1 : ((h : Int)).toNat = h := by omega
        have p1 : (0 : Int) ≤ (h : Int) := by omega
        have b1 : (h : Int) < (d.size : Int) := by omega
        have r1 : IntKind.i64.wrap ((h : Int)) = (h : Int) := by rw [IntKind.wrap_i64]; omega
        have e2 : ((xi : Int)).toNat = xi := by omega
        have p2 : (0 : Int) ≤ (xi : Int) := by omega
        have b2 : (xi : Int) < (d.size : Int) := by omega
        have r2 : IntKind.i64.wrap ((xi : Int)) = (xi : Int) := by rw [IntKind.wrap_i64]; omega
        by_cases hlv : cf x y < 0
        · have hlq : (!decide (cf x y < 0)) = false := by rw [decide_eq_true hlv]; rfl
          go_wp2_with fail
          refine wp_region_quiet_below (by assumption) (by kernel_rfl) ?_
          repeat (quiet_step (first | (go_at_fn g; exact hcg _)))
          refine wpQuiet_nil ?_
          intro _ hw'
          obtain ⟨p, hw''⟩ := hw'
          subst hw''
          have S3 : Aside (SWD enc k w0 blk off d p.W) := S1.out.below p.h
          clear lx ly hcg S1
          generalize p.W = wq at S3 ⊢
          go_wp2
          go_roundg (h - lo)
          case measure => omega
          case rel => exact ⟨lo, h, rfl, rfl, hlo, by omega, by omega, Nat.le_refl _, S3, show _ ∧ _ from ⟨I1.out.1, fun _ => by rw [← HXI.out, XX.out.1, XX.out.2]; exact decide_eq_true hlv⟩⟩
        · have hlq : (!decide (cf x y < 0)) = true := by rw [decide_eq_false hlv]; rfl
          go_wp2_with fail
          refine wp_region_quiet_below (by assumption) (by kernel_rfl) ?_
          repeat (quiet_step (first | (go_at_fn g; exact hcg _)))
          refine wpQuiet_nil ?_
          intro _ hw'
          obtain ⟨p, hw''⟩ := hw'
          subst hw''
          have S3 : Aside (SWD enc k w0 blk off d p.W) := S1.out.below p.h
          clear lx ly hcg S1
          generalize p.W = wq at S3 ⊢
          go_wp2
          go_roundg (hi - (h + 1))
          case measure => omega
          case rel => exact ⟨h + 1, hi, by go_num, rfl, by omega, by omega, hhi, Nat.le_refl _, S3, show _ ∧ _ from ⟨fun _ => by rw [Nat.add_sub_cancel, show nn - (h + 1) = xi by have := HXI.out; omega, XX.out.1, XX.out.2]; exact decide_eq_false (by omega), I1.out.2⟩⟩
      · have hltz : ¬ (lo : Int) < (hi : Int) := by omega
        have hle : hi = lo := by omega
        rw [hle] at I1 hltz ⊢
        have I2 := I1
        have hhi' : lo ≤ r0 := by omega
        clear I1 hlt hlh hkx hhi
        clear hle hi
        obtain ⟨e, e'⟩ : ∃ x, x = nn - lo := ⟨_, rfl⟩
        have re : IntKind.i64.wrap ((nn : Int) - (lo : Int)) = (e : Int) := by rw [IntKind.wrap_i64]; omega
        have HE : Hid (e = nn - lo) := e'
        have e1 : e + lo ≤ nn := by omega
        have e2 : nn ≤ e + lo := by omega
        clear e'
        have pt : ∀ d1 : Array α, Via (rotI lo m e) d d1 → _ := fun d1 hv => parts (mid := mid) hS (by omega) (by omega) (by omega) (by omega) (by omega) HL.out HR.out (fun h1 h2 => by rw [HE.out]; exact I2.out.1 (by rcases HQ.out.1 with c | c <;> omega)) (fun h1 h2 => by rw [show e - 1 = pp - lo by omega]; exact I2.out.2 (by rcases HQ.out.2 with c | c <;> omega)) hv
        have PT : Aside _ := pt
        clear pt
        go_upto_region 39 with fail
        go_cut [185] (fun vq wc => vq = .bool (decide (lo < m ∧ m < e)) ∧ Aside (SWD enc k w0 blk off d wc))
        case first =>
          by_cases c1 : lo < m
          · have c1z : (lo : Int) < (m : Int) := by omega
            by_cases c2 : m < e
            · have c2z : (m : Int) < (e : Int) := by omega
              go_wp2
              go_meet
              case rel => exact ⟨by simp [c1, c2], S1⟩
            · have c2z : ¬ (m : Int) < (e : Int) := by omega
              go_wp2
              go_meet
              case rel => exact ⟨by simp [c1, c2], S1⟩
          · have c1z : ¬ (lo : Int) < (m : Int) := by omega
            go_wp2
            go_meet
            case rel => exact ⟨by simp [c1], S1⟩
        case rest =>
        as_aux_lemma =>
        clear S1
        obtain ⟨rfl, S1⟩ := hcut
        go_upto_if 185 with fail
        go_cut [] (fun wc => ∃ d1 : Array α, d1.size = d.size ∧ Aside (SWD enc k w0 blk off d1 wc) ∧ Aside (Via (rotI lo m e) d d1 ∧ PermIn a b d d1))
        case first =>
          by_cases c1 : lo < m
          · have c1z : (lo : Int) < (m : Int) := by omega
            by_cases c2 : m < e
            · have cz : decide (lo < m ∧ m < e) = true := decide_eq_true ⟨c1, c2⟩
              have c := rotate S enc g cb blk off cap lo m e d0 d w0 _ R hs S1.out c1 c2 (by omega) hsz
              go_wp2_with (go_at_fn 163; refine c.mono ?_; rintro e' w' ⟨rfl, d', T1, V1, P1⟩)
              go_meet
              case rel => exact ⟨d', V1.1, T1, show _ ∧ _ from ⟨V1, P1 a b (by omega) (by omega) hb⟩⟩
            · have cz : decide (lo < m ∧ m < e) = false := decide_eq_false (fun z => c2 z.2)
              go_wp2
              go_meet
              case rel => exact ⟨d, rfl, S1, show _ ∧ _ from ⟨via_id d (fun x => rotI_none lo m e x (by omega) (by omega) (Or.inr (by omega))), permIn_refl _ _ _⟩⟩
          · have cz : decide (lo < m ∧ m < e) = false := decide_eq_false (fun z => c1 z.1)
            go_wp2
            go_meet
            case rel => exact ⟨d, rfl, S1, show _ ∧ _ from ⟨via_id d (fun x => rotI_none lo m e x (by omega) (by omega) (Or.inl (by omega))), permIn_refl _ _ _⟩⟩
        case rest =>
        as_aux_lemma =>
        clear S1
        obtain ⟨d1, hd1, S2, HV⟩ := hcut
        have pt := PT.out d1 HV.out.1
        have PT1 : Aside _ := pt
        clear pt PT
        have ok1 : Aside (∀ i, i < d1.size → ok d1[i]!) := fun i h => permIn_all d d1 0 d.size ok (Nat.le_refl _) (permIn_mono d d1 a b 0 d.size (Nat.zero_le _) hb (Nat.le_refl _) HV.out.2) (fun i _ h => HOK.out i h) i (Nat.zero_le _) (by omega)
        go_upto_region 41 with fail
        go_cut [199] (fun vq wc => vq = .bool (decide (a < lo ∧ lo < mid)) ∧ Aside (SWD enc k w0 blk off d1 wc))
        case first =>
          by_cases c1 : a < lo
          · have c1z : (a : Int) < (lo : Int) := by omega
            by_cases c2 : lo < mid
            · have c2z : (lo : Int) < (mid : Int) := by omega
              go_wp2
              go_meet
              case rel => exact ⟨by simp [c1, c2], S2⟩
            · have c2z : ¬ (lo : Int) < (mid : Int) := by omega
              go_wp2
              go_meet
              case rel => exact ⟨by simp [c1, c2], S2⟩
          · have c1z : ¬ (a : Int) < (lo : Int) := by omega
            go_wp2
            go_meet
            case rel => exact ⟨by simp [c1], S2⟩
        case rest =>
        as_aux_lemma =>
        clear S2
        obtain ⟨rfl, S2⟩ := hcut
        go_upto_if 199 with fail
        go_cut [] (fun wc => ∃ d2 : Array α, d2.size = d.size ∧ Aside (SWD enc k w0 blk off d2 wc) ∧ Aside (PermIn a mid d1 d2 ∧ SortedIn (ltOf cf) a mid d2))
        case first =>
          by_cases c1 : a < lo
          · have c1z : (a : Int) < (lo : Int) := by omega
            by_cases c2 : lo < mid
            · have cz : decide (a < lo ∧ lo < mid) = true := decide_eq_true ⟨c1, c2⟩
              have c := IH.out a lo mid d1 _ (by omega) (by omega) S2.out ok1.out c1 c2 (by omega) (by omega) PT1.out.1 PT1.out.2.1
              rw [hd1] at c
              go_wp2_with (go_at_fn 153; refine c.mono ?_; rintro e' w' ⟨rfl, d', T1, P1, V1⟩)
              go_meet
              case rel => exact ⟨d', P1.1.trans hd1, T1, show _ ∧ _ from ⟨P1, V1⟩⟩
            · have cz : decide (a < lo ∧ lo < mid) = false := decide_eq_false (fun z => c2 z.2)
              go_wp2
              go_meet
              case rel => exact ⟨d1, hd1, S2, show _ ∧ _ from ⟨permIn_refl _ _ _, fun i j h1 h2 h3 => PT1.out.1 i j h1 h2 (by omega)⟩⟩
          · have cz : decide (a < lo ∧ lo < mid) = false := decide_eq_false (fun z => c1 z.1)
            go_wp2
            go_meet
            case rel => exact ⟨d1, hd1, S2, show _ ∧ _ from ⟨permIn_refl _ _ _, fun i j h1 h2 h3 => PT1.out.2.1 i j (by omega) h2 h3⟩⟩
        case rest =>
        as_aux_lemma =>
        clear S2
        obtain ⟨d2, hd2, S3, HV2⟩ := hcut
        have ok2 : Aside (∀ i, i < d2.size → ok d2[i]!) := fun i h => permIn_all d1 d2 0 d1.size ok (Nat.le_refl _) (permIn_mono d1 d2 a mid 0 d1.size (Nat.zero_le _) (by omega) (Nat.le_refl _) HV2.out.1) (fun i _ h => ok1.out i h) i (Nat.zero_le _) (by omega)
        have fin : ∀ d3 : Array α, PermIn mid b d2 d3 → SortedIn (ltOf cf) mid b d3 → PermIn a b d d3 ∧ SortedIn (ltOf cf) a b d3 := fun d3 p3 s3 =>
          ⟨permIn_trans _ _ _ _ _ HV.out.2 (permIn_trans _ _ _ _ _ (permIn_mono d1 d2 a mid a b (Nat.le_refl _) (by omega) (by omega) HV2.out.1) (permIn_mono d2 d3 mid b a b (by omega) (Nat.le_refl _) (by omega) p3)), whole hS (by omega) (by omega) (by omega) HV2.out.1 HV2.out.2 p3 s3 PT1.out.2.2.2.2⟩
        have FIN : Aside _ := fin
        clear fin
        go_upto_region 43 with fail
        go_cut [213] (fun vq wc => vq = .bool (decide (mid < e ∧ e < b)) ∧ Aside (SWD enc k w0 blk off d2 wc))
        case first =>
          by_cases c1 : mid < e
          · have c1z : (mid : Int) < (e : Int) := by omega
            by_cases c2 : e < b
            · have c2z : (e : Int) < (b : Int) := by omega
              go_wp2
              go_meet
              case rel => exact ⟨by simp [c1, c2], S3⟩
            · have c2z : ¬ (e : Int) < (b : Int) := by omega
              go_wp2
              go_meet
              case rel => exact ⟨by simp [c1, c2], S3⟩
          · have c1z : ¬ (mid : Int) < (e : Int) := by omega
            go_wp2
            go_meet
            case rel => exact ⟨by simp [c1], S3⟩
        case rest =>
        as_aux_lemma =>
        clear S3
        obtain ⟨rfl, S3⟩ := hcut
        by_cases c1 : mid < e
        · have c1z : (mid : Int) < (e : Int) := by omega
          by_cases c2 : e < b
          · have cz : decide (mid < e ∧ e < b) = true := decide_eq_true ⟨c1, c2⟩
            have c := IH.out mid e b d2 _ (by omega) (by omega) S3.out ok2.out c1 c2 (by omega) (by omega) (fun i j h1 h2 h3 => by rw [HV2.out.1.2.1 i (by omega), HV2.out.1.2.1 j (by omega)]; exact PT1.out.2.2.1 i j h1 h2 h3) (fun i j h1 h2 h3 => by rw [HV2.out.1.2.1 i (by omega), HV2.out.1.2.1 j (by omega)]; exact PT1.out.2.2.2.1 i j h1 h2 h3)
            rw [hd2] at c
            go_wp2_with (go_at_fn 153; refine c.mono ?_; rintro e' w' ⟨rfl, d', T1, P1, V1⟩)
            go_end0
            exact ⟨rfl, d', T1, FIN.out d' P1 V1⟩
          · have cz : decide (mid < e ∧ e < b) = false := decide_eq_false (fun z => c2 z.2)
            go_wp2
            go_end0
            exact ⟨rfl, d2, S3.out, FIN.out d2 (permIn_refl _ _ _) (fun i j h1 h2 h3 => by rw [HV2.out.1.2.1 i (by omega), HV2.out.1.2.1 j (by omega)]; exact PT1.out.2.2.1 i j h1 h2 (by omega))⟩
        · have cz : decide (mid < e ∧ e < b) = false := decide_eq_false (fun z => c1 z.1)
          go_wp2
          go_end0
          exact ⟨rfl, d2, S3.out, FIN.out d2 (permIn_refl _ _ _) (fun i j h1 h2 h3 => by rw [HV2.out.1.2.1 i (by omega), HV2.out.1.2.1 j (by omega)]; exact PT1.out.2.2.2.1 i j (by omega) h2 h3)⟩

end Go.Proofs.YtdigilidomimdaaDoor.Sw
namespace Go.Proofs.YtdigilidomimdaaDoor.Sw
set_option linter.unusedSimpArgs false
set_option linter.unusedSectionVars false
set_option linter.unusedVariables false
open Go.Proofs Go.Shelf Go.RowKit Go.Lib Go.Sort Go.Proofs.YtdigilidomimdaaDoor.Sm
variable {P : Program} {α : Type} [Inhabited α]
theorem symMerge {k : Nat} (S : Bare P k) (enc : α → List Value) (g : Nat) (cb : Array Value) (blk off cap : Nat) (d0 : Array α) (w0 : World) (R : RowK enc k w0 blk off d0) (ok : α → Prop) (cf : α → α → Int) (eg : ∀ args w, (callFunc g args).run P w = .ok (.enter g args) w) (hcmp : CmpB P g cb enc ok cf) (hS : SWO (ltOf cf)) : ∀ (N : Nat) (a m b : Nat) (d : Array α) (w : World), b - a ≤ N → d0.size = d.size → SWD enc k w0 blk off d w → (∀ i, i < d.size → ok d[i]!) → a < m → m < b → b ≤ d.size → d.size < 4611686018427387904 → SortedIn (ltOf cf) a m d → SortedIn (ltOf cf) m b d → Calls P 153 #[.slice (some ⟨blk, off, none⟩) d.size cap, .int .i64 a, .int .i64 m, .int .i64 b, .func (.func g) #[] cb] w fun e w' => e = .returned (.tuple #[]) ∧ ∃ d' : Array α, SWD enc k w0 blk off d' w' ∧ PermIn a b d d' ∧ SortedIn (ltOf cf) a b d' := by
  intro N
  induction N with
  | zero => intro a m b d w h0 _ _ _ h1 h2; omega
  | succ N ih =>
    intro a m b d w hN
    by_cases hm1 : m = a + 1
    · exact symLeft S enc g cb blk off cap d0 w0 R ok cf eg hcmp hS a m b d w hm1
    · by_cases hb1 : b = m + 1
      · exact symRight S enc g cb blk off cap d0 w0 R ok cf eg hcmp hS a m b d w hm1 hb1
      · exact symGen S enc g cb blk off cap d0 w0 R ok cf eg hcmp hS N ih a m b d w hN hm1 hb1

end Go.Proofs.YtdigilidomimdaaDoor.Sw
namespace Go.Proofs.YtdigilidomimdaaDoor.Sw
set_option linter.unusedSimpArgs false
set_option linter.unusedSectionVars false
set_option linter.unusedVariables false
open Go.Proofs Go.Shelf Go.RowKit Go.Lib Go.Sort Go.Proofs.YtdigilidomimdaaDoor.Sm
variable {P : Program} {α : Type} [Inhabited α]
set_option maxHeartbeats 4000000 in
set_option maxRecDepth 1000000 in
theorem stable {k : Nat} (S : Bare P k) (enc : α → List Value) (g : Nat) (cb : Array Value) (blk off cap : Nat) (d0 d : Array α) (w0 w : World) (R : RowK enc k w0 blk off d0) (hs : d0.size = d.size) (T : SWD enc k w0 blk off d w) (ok : α → Prop) (cf : α → α → Int) (eg : ∀ args w, (callFunc g args).run P w = .ok (.enter g args) w) (hcmp : CmpB P g cb enc ok cf) (hok : ∀ i, i < d.size → ok d[i]!) (hS : SWO (ltOf cf)) (hsz : d.size < 1152921504606846976) :
    Calls P 136 #[.slice (some ⟨blk, off, none⟩) d.size cap, .int .i64 d.size, .func (.func g) #[] cb] w fun e w' => e = .returned (.tuple #[]) ∧ ∃ d' : Array α, SWD enc k w0 blk off d' w' ∧ PermIn 0 d.size d d' ∧ SortedIn (ltOf cf) 0 d.size d' := by
  have mixed := S.mixed; have aE := S.aE; have zE := S.zE; have t0 := S.t0; have a0 := S.a0; have z0 := S.z0; have v0 := S.v0; have t3 := S.t3; have a3 := S.a3; have z3 := S.z3; have v3 := S.v3; have t4 := S.t4; have a4 := S.a4; have z4 := S.z4; have v4 := S.v4; have t36 := S.t36; have a36 := S.a36; have z36 := S.z36; have v36 := S.v36; have t106 := S.t106; have a106 := S.a106; have z106 := S.z106; have v106 := S.v106; have t117 := S.t117; have a117 := S.a117; have z117 := S.z117; have v117 := S.v117; have u0 := run_underlying S.t0; have u3 := run_underlying S.t3; have u4 := run_underlying S.t4; have u36 := run_underlying S.t36; have u106 := run_underlying S.t106; have u117 := run_underlying S.t117
  have S0 : Aside (SWD enc k w0 blk off d w) := T
  have okp : ∀ dk : Array α, PermIn 0 d.size d dk → ∀ i, i < dk.size → ok dk[i]! := fun dk hp i h => permIn_all d dk 0 d.size ok (Nat.le_refl _) hp (fun i _ h => hok i h) i (Nat.zero_le _) (by rw [← hp.1]; exact h)
  have OKP : Aside _ := okp
  have insC : ∀ (x y : Nat) (dk : Array α) (W : World), Aside (SWD enc k w0 blk off dk W) → PermIn 0 d.size d dk → x ≤ y → y ≤ d.size → Calls P 152 #[.slice (some ⟨blk, off, none⟩) d.size cap, .int .i64 x, .int .i64 y, .func (.func g) #[] cb] W fun e w' => e = .returned (.tuple #[]) ∧ ∃ d' : Array α, SWD enc k w0 blk off d' w' ∧ PermIn x y dk d' ∧ SortedIn (ltOf cf) x y d' := fun x y dk W T hp h1 h2 => by
    have c := insertion S enc g cb blk off cap x y d0 dk w0 W R (by rw [hp.1]; exact hs) T ok cf eg hcmp (okp dk hp) h1 (by rw [hp.1]; exact h2) (by rw [hp.1]; omega)
    rw [hp.1] at c
    have q := insertionSort_holds hS dk x y h1 (by rw [hp.1]; exact h2)
    exact c.mono fun e w' ⟨he, ht⟩ => ⟨he, _, ht, q.1, q.2⟩
  have INS : Aside _ := insC
  have symC : ∀ (x m y : Nat) (dk : Array α) (W : World), Aside (SWD enc k w0 blk off dk W) → PermIn 0 d.size d dk → x < m → m < y → y ≤ d.size → SortedIn (ltOf cf) x m dk → SortedIn (ltOf cf) m y dk → Calls P 153 #[.slice (some ⟨blk, off, none⟩) d.size cap, .int .i64 x, .int .i64 m, .int .i64 y, .func (.func g) #[] cb] W fun e w' => e = .returned (.tuple #[]) ∧ ∃ d' : Array α, SWD enc k w0 blk off d' w' ∧ PermIn x y dk d' ∧ SortedIn (ltOf cf) x y d' := fun x m y dk W T hp h1 h2 h3 h4 h5 => by
    have c := symMerge S enc g cb blk off cap d0 w0 R ok cf eg hcmp hS (y - x) x m y dk W (Nat.le_refl _) (by rw [hp.1]; exact hs) T (okp dk hp) h1 h2 (by rw [hp.1]; exact h3) (by rw [hp.1]; omega) h4 h5
    rw [hp.1] at c
    exact c
  have SYM : Aside _ := symC
  clear T hcmp hok okp insC symC
  have eIN : ∀ args w, (callFunc 152 args).run P w = .ok (.enter 152 args) w := enters_of S.fIN (by kernel_rfl) rfl
  have eME : ∀ args w, (callFunc 153 args).run P w = .ok (.enter 153 args) w := enters_of S.fME (by kernel_rfl) rfl
  go_enter S.fST, Tryd.ntmps136
  go_wp2
  go_loopg [7, 8] d.size (fun kx s7 s8 wr => ∃ (t x y : Nat) (dk : Array α), s7 = .int .i64 x ∧ s8 = .int .i64 y ∧ y ≤ x + 20 ∧ x + 20 ≤ y ∧ x ≤ d.size ∧ d.size - x ≤ kx ∧ dk.size = d.size ∧ Aside (SWD enc k w0 blk off dk wr) ∧ Aside (x = 20 * t ∧ PermIn 0 d.size d dk ∧ ∀ i j, i < j → j < 20 * t → i / 20 = j / 20 → ltOf cf dk[j]! dk[i]! = false))
  case atStart => exact ⟨0, 0, 20, d, rfl, rfl, by omega, by omega, Nat.zero_le _, by omega, rfl, S0, show _ ∧ _ from ⟨rfl, permIn_refl _ _ _, fun i j h1 h2 => by omega⟩⟩
  case round =>
    clear S0
    obtain ⟨t, x, y, dk, rfl, rfl, hy1, hy2, hxn, hkx, hds, S1, HV⟩ := hrel
    by_cases hlt : y ≤ d.size
    · have hltz : (y : Int) ≤ (d.size : Int) := by omega
      have c := INS.out x y dk _ S1 HV.out.2.1 (by omega) hlt
      obtain ⟨z, z'⟩ : ∃ z, z = y + 20 := ⟨_, rfl⟩
      have HZ : Hid (z = y + 20) := z'
      have z1 : z ≤ y + 20 := by omega
      have z2 : y + 20 ≤ z := by omega
      have rz : IntKind.i64.wrap ((y : Int) + 20) = (z : Int) := by rw [IntKind.wrap_i64]; omega
      clear z'
      go_wp2_with (go_at_fn 152; refine c.mono ?_; rintro e w' ⟨rfl, d', T1, P1, V1⟩)
      have S2 : Aside (SWD enc k w0 blk off d' _) := T1
      have HV2 : Aside (PermIn x y dk d' ∧ SortedIn (ltOf cf) x y d') := (show _ ∧ _ from ⟨P1, V1⟩)
      have hds2 : d'.size = d.size := P1.1.trans hds
      clear T1 P1 V1
      go_roundg (d.size - y)
      case measure => omega
      case rel =>
        refine ⟨t + 1, y, z, d', rfl, rfl, z1, z2, hlt, Nat.le_refl _, hds2, S2, show _ ∧ _ from ⟨by have := HV.out.1; omega, permIn_trans _ _ _ _ _ HV.out.2.1 (permIn_mono dk d' x y 0 d.size (Nat.zero_le _) hlt (by omega) HV2.out.1), ?_⟩⟩
        have hx := HV.out.1
        have q1 := HV2.out.1
        have q2 := HV2.out.2
        rw [hx] at q1 q2
        have := blocks_next (bs := 20) (t := t) (n := d.size) (y := y) (d := dk) (d' := d') (by decide) HV.out.2.2 q1 q2 (by omega)
        rw [show 20 * (t + 1) = y by omega]
        exact this
    · have hltz : ¬ (y : Int) ≤ (d.size : Int) := by omega
      have c := INS.out x d.size dk _ S1 HV.out.2.1 hxn (Nat.le_refl _)
      go_wp2_with (go_at_fn 152; refine c.mono ?_; rintro e w' ⟨rfl, d', T1, P1, V1⟩)
      have S2 : Aside (SWD enc k w0 blk off d' _) := T1
      have q0 : Blocks (ltOf cf) 20 0 d.size d' := by
        have hx := HV.out.1
        have q1 := P1
        have q2 := V1
        rw [hx] at q1 q2
        have := blocks_next (bs := 20) (t := t) (n := d.size) (y := d.size) (d := dk) (d' := d') (by decide) HV.out.2.2 q1 q2 (by omega)
        exact fun i j _ h1 h2 h3 => this i j h1 h2 h3
      have HV2 : Aside (PermIn 0 d.size d d' ∧ Blocks (ltOf cf) 20 0 d.size d') := (show _ ∧ _ from ⟨permIn_trans _ _ _ _ _ HV.out.2.1 (permIn_mono dk d' x d.size 0 d.size (Nat.zero_le _) (Nat.le_refl _) (by omega) P1), q0⟩)
      have hds2 : d'.size = d.size := P1.1.trans hds
      clear T1 P1 V1 q0 HV S1 hds c
      go_wp2
      go_loopg [6, 7, 8, 9] d.size (fun kx s6 s7 s8 s9 wr => ∃ (bs : Nat) (dk : Array α), s6 = .int .i64 bs ∧ 0 < bs ∧ d.size - bs ≤ kx ∧ dk.size = d.size ∧ Aside (SWD enc k w0 blk off dk wr) ∧ Aside (PermIn 0 d.size d dk ∧ Blocks (ltOf cf) bs 0 d.size dk))
      case atStart => exact ⟨20, d', rfl, by omega, by omega, hds2, S2, HV2⟩
      case round =>
        clear S2 HV2 hds2
        obtain ⟨bs, dk2, rfl, hbs, hkx2, hds, S1, HV⟩ := hrel
        by_cases hbn : bs < d.size
        · have hbnz : (bs : Int) < (d.size : Int) := by omega
          obtain ⟨c, c'⟩ : ∃ z, z = 2 * bs := ⟨_, rfl⟩
          have HCC : Hid (c = 2 * bs) := c'
          have c1 : c ≤ 2 * bs := by omega
          have c2 : 2 * bs ≤ c := by omega
          have rc : IntKind.i64.wrap (2 * (bs : Int)) = (c : Int) := by rw [IntKind.wrap_i64]; omega
          have rc2 : IntKind.i64.wrap ((bs : Int) * 2) = (c : Int) := by rw [IntKind.wrap_i64]; omega
          clear c'
          go_wp2
          go_loopg [7, 8] d.size (fun kx s7 s8 wr => ∃ (t x y : Nat) (dk : Array α), s7 = .int .i64 x ∧ s8 = .int .i64 y ∧ y ≤ x + c ∧ x + c ≤ y ∧ x ≤ d.size ∧ d.size - x ≤ kx ∧ dk.size = d.size ∧ Aside (SWD enc k w0 blk off dk wr) ∧ Aside (x = c * t ∧ PermIn 0 d.size d dk ∧ (∀ i j, i < j → j < c * t → i / c = j / c → ltOf cf dk[j]! dk[i]! = false) ∧ Blocks (ltOf cf) bs x d.size dk))
          case atStart => exact ⟨0, 0, c, dk2, rfl, rfl, by omega, by omega, Nat.zero_le _, by omega, hds, S1, show _ ∧ _ from ⟨rfl, HV.out.1, fun i j h1 h2 => by rw [Nat.mul_zero] at h2; omega, HV.out.2⟩⟩
          case round =>
            clear S1 HV hds dk2
            obtain ⟨t, x, y, dk, rfl, rfl, hy1, hy2, hxn, hkx3, hds, S1, HV⟩ := hrel
            have hx2 : Hid (bs * (2 * t) = x) := by
              show bs * (2 * t) = x
              rw [HV.out.1, HCC.out, Nat.mul_left_comm, Nat.mul_assoc]
            have hx3 : Hid (bs * (2 * t + 1) = x + bs) := by
              show bs * (2 * t + 1) = x + bs
              rw [Nat.mul_add, hx2.out, Nat.mul_one]
            obtain ⟨xm, xm'⟩ : ∃ z, z = x + bs := ⟨_, rfl⟩
            have HXM : Hid (xm = x + bs) := xm'
            have xm1 : xm ≤ x + bs := by omega
            have xm2 : x + bs ≤ xm := by omega
            have rxm : IntKind.i64.wrap ((x : Int) + (bs : Int)) = (xm : Int) := by rw [IntKind.wrap_i64]; omega
            clear xm'
            by_cases hyn : y ≤ d.size
            · have hynz : (y : Int) ≤ (d.size : Int) := by omega
              obtain ⟨z, z'⟩ : ∃ z, z = y + c := ⟨_, rfl⟩
              have HZ : Hid (z = y + c) := z'
              have z1 : z ≤ y + c := by omega
              have z2 : y + c ≤ z := by omega
              have rz : IntKind.i64.wrap ((y : Int) + (c : Int)) = (z : Int) := by rw [IntKind.wrap_i64]; omega
              clear z'
              have cc := SYM.out x xm y dk _ S1 HV.out.2.1 (by omega) (by omega) hyn (blocks_sorted HV.out.2.2.2 hbs (2 * t) (Nat.le_refl _) (by rw [hx2.out]; omega) (by rw [hx2.out]; omega) (by omega)) (blocks_sorted HV.out.2.2.2 hbs (2 * t + 1) (by omega) (by rw [hx3.out]; omega) (by rw [hx3.out]; omega) hyn)
              go_wp2_with (go_at_fn 153; refine cc.mono ?_; rintro e w' ⟨rfl, d', T1, P1, V1⟩)
              have S2 : Aside (SWD enc k w0 blk off d' _) := T1
              have HV2 : Aside (PermIn x y dk d' ∧ SortedIn (ltOf cf) x y d') := (show _ ∧ _ from ⟨P1, V1⟩)
              have hds2 : d'.size = d.size := P1.1.trans hds
              clear T1 P1 V1
              go_roundg (d.size - y)
              case measure => omega
              case rel =>
                have hx := HV.out.1
                have q1 := HV2.out.1
                have q2 := HV2.out.2
                have ec : c * (t + 1) = y := by rw [Nat.mul_add, ← hx, Nat.mul_one]; omega
                refine ⟨t + 1, y, z, d', rfl, rfl, z1, z2, hyn, Nat.le_refl _, hds2, S2, show _ ∧ _ from ⟨ec.symm, permIn_trans _ _ _ _ _ HV.out.2.1 (permIn_mono dk d' x y 0 d.size (Nat.zero_le _) hyn (by omega) HV2.out.1), ?_, ?_⟩⟩
                · have q1' := q1
                  have q2' := q2
                  rw [hx] at q1' q2'
                  rw [ec]
                  exact blocks_next (bs := c) (t := t) (n := d.size) (y := y) (d := dk) (d' := d') (by omega) HV.out.2.2.1 q1' q2' (by rw [← hx]; omega)
                · intro i j h1 h2 h3 h4
                  rw [q1.2.1 i (Or.inr h1), q1.2.1 j (Or.inr (by omega))]
                  exact HV.out.2.2.2 i j (by omega) h2 h3 h4
            · have hynz : ¬ (y : Int) ≤ (d.size : Int) := by omega
              have fin : ∀ d' : Array α, PermIn x d.size dk d' → SortedIn (ltOf cf) x d.size d' → d'.size = d.size ∧ PermIn 0 d.size d d' ∧ Blocks (ltOf cf) c 0 d.size d' := fun d' q1 q2 => by
                refine ⟨q1.1.trans hds, permIn_trans _ _ _ _ _ HV.out.2.1 (permIn_mono dk d' x d.size 0 d.size (Nat.zero_le _) (Nat.le_refl _) (by omega) q1), ?_⟩
                have hx := HV.out.1
                have q1' := q1
                have q2' := q2
                rw [hx] at q1' q2'
                have := blocks_next (bs := c) (t := t) (n := d.size) (y := d.size) (d := dk) (d' := d') (by omega) HV.out.2.2.1 q1' q2' (by rw [← hx]; omega)
                exact fun i j _ h1 h2 h3 => this i j h1 h2 h3
              have FIN : Aside _ := fin
              clear fin
              by_cases hxm : xm < d.size
              · have hxmz : (xm : Int) < (d.size : Int) := by omega
                have cc := SYM.out x xm d.size dk _ S1 HV.out.2.1 (by omega) hxm (Nat.le_refl _) (blocks_sorted HV.out.2.2.2 hbs (2 * t) (Nat.le_refl _) (by rw [hx2.out]; omega) (by rw [hx2.out]; omega) (by omega)) (blocks_sorted HV.out.2.2.2 hbs (2 * t + 1) (by omega) (by rw [hx3.out]; omega) (by rw [hx3.out]; omega) (Nat.le_refl _))
                go_wp2_with (go_at_fn 153; refine cc.mono ?_; rintro e w' ⟨rfl, d', T1, P1, V1⟩)
                have S2 : Aside (SWD enc k w0 blk off d' _) := T1
                have F : Aside (d'.size = d.size ∧ PermIn 0 d.size d d' ∧ Blocks (ltOf cf) c 0 d.size d') := FIN.out d' P1 V1
                clear T1 P1 V1 FIN
                go_roundg (d.size - c)
                case measure => omega
                case rel => exact ⟨c, d', rfl, by omega, Nat.le_refl _, F.out.1, S2, F.out.2⟩
              · have hxmz : ¬ (xm : Int) < (d.size : Int) := by omega
                have F : Aside (dk.size = d.size ∧ PermIn 0 d.size d dk ∧ Blocks (ltOf cf) c 0 d.size dk) := FIN.out dk (permIn_refl _ _ _) (blocks_sorted HV.out.2.2.2 hbs (2 * t) (Nat.le_refl _) (by rw [hx2.out]; omega) (by rw [hx2.out]; omega) (Nat.le_refl _))
                clear FIN
                go_wp2
                go_roundg (d.size - c)
                case measure => omega
                case rel => exact ⟨c, dk, rfl, by omega, Nat.le_refl _, F.out.1, S1, F.out.2⟩
        · have hbnz : ¬ (bs : Int) < (d.size : Int) := by omega
          go_wp2
          go_end0
          exact ⟨rfl, dk2, S1.out, HV.out.1, fun i j h1 h2 h3 => HV.out.2 i j h1 h2 h3 (by rw [Nat.div_eq_of_lt (by omega), Nat.div_eq_of_lt (by omega)])⟩

end Go.Proofs.YtdigilidomimdaaDoor.Sw
namespace Go.Proofs.YtdigilidomimdaaDoor.Sw
set_option linter.unusedSimpArgs false
set_option linter.unusedSectionVars false
set_option linter.unusedVariables false
open Go.Proofs Go.Shelf Go.RowKit Go.Lib Go.Sort Go.Proofs.YtdigilidomimdaaDoor.Sm
variable {P : Program} {α : Type} [Inhabited α]
theorem insNil {k : Nat} (S : Bare P k) (g : Nat) (cb : Array Value) (w : World) :
    Calls P 152 #[.slice none 0 0, .int .i64 0, .int .i64 0, .func (.func g) #[] cb] w fun e w' => e = .returned (.tuple #[]) ∧ Below w.heap.size w w' := by
  have mixed := S.mixed; have aE := S.aE; have zE := S.zE; have t0 := S.t0; have a0 := S.a0; have z0 := S.z0; have v0 := S.v0; have t3 := S.t3; have a3 := S.a3; have z3 := S.z3; have v3 := S.v3; have t4 := S.t4; have a4 := S.a4; have z4 := S.z4; have v4 := S.v4; have t36 := S.t36; have a36 := S.a36; have z36 := S.z36; have v36 := S.v36; have t106 := S.t106; have a106 := S.a106; have z106 := S.z106; have v106 := S.v106; have t117 := S.t117; have a117 := S.a117; have z117 := S.z117; have v117 := S.v117; have u0 := run_underlying S.t0; have u3 := run_underlying S.t3; have u4 := run_underlying S.t4; have u36 := run_underlying S.t36; have u106 := run_underlying S.t106; have u117 := run_underlying S.t117
  go_enter S.fIN, Tryd.ntmps152
  go_wp2
  go_loopg [8] 0 (fun g1 vi wr => vi = .int .i64 1 ∧ Aside (Below w.heap.size w wr))
  case atStart => exact ⟨by go_num, show _ from Below.refl _ _⟩
  case round =>
    obtain ⟨rfl, B⟩ := hrel
    go_wp2
    go_end0
    exact ⟨rfl, B.out⟩
theorem stableNil {k : Nat} (S : Bare P k) (g : Nat) (cb : Array Value) (w : World) :
    Calls P 136 #[.slice none 0 0, .int .i64 0, .func (.func g) #[] cb] w fun e w' => e = .returned (.tuple #[]) ∧ Below w.heap.size w w' := by
  have mixed := S.mixed; have aE := S.aE; have zE := S.zE; have t0 := S.t0; have a0 := S.a0; have z0 := S.z0; have v0 := S.v0; have t3 := S.t3; have a3 := S.a3; have z3 := S.z3; have v3 := S.v3; have t4 := S.t4; have a4 := S.a4; have z4 := S.z4; have v4 := S.v4; have t36 := S.t36; have a36 := S.a36; have z36 := S.z36; have v36 := S.v36; have t106 := S.t106; have a106 := S.a106; have z106 := S.z106; have v106 := S.v106; have t117 := S.t117; have a117 := S.a117; have z117 := S.z117; have v117 := S.v117; have u0 := run_underlying S.t0; have u3 := run_underlying S.t3; have u4 := run_underlying S.t4; have u36 := run_underlying S.t36; have u106 := run_underlying S.t106; have u117 := run_underlying S.t117
  have eIN : ∀ args w, (callFunc 152 args).run P w = .ok (.enter 152 args) w := enters_of S.fIN (by kernel_rfl) rfl
  have c := fun W => insNil S g cb W
  go_enter S.fST, Tryd.ntmps136
  go_wp2
  go_loopg [7, 8] 0 (fun g1 v7 v8 wr => v7 = .int .i64 0 ∧ v8 = .int .i64 20 ∧ Aside (Below w.heap.size w wr))
  case atStart => exact ⟨rfl, rfl, show _ from Below.refl _ _⟩
  case round =>
    obtain ⟨rfl, rfl, B⟩ := hrel
    have c := c wr
    go_wp2_with (go_at_fn 152; refine c.mono ?_; rintro e w' ⟨rfl, B1⟩)
    have B2 : Aside (Below w.heap.size w _) := (Below.trans B.out (B1.mono B.out.size) : Below w.heap.size w _)
    clear B B1 c
    go_wp2
    go_loopg [6, 7, 8, 9] 0 (fun g1 v6 v7 v8 v9 wr => v6 = .int .i64 20 ∧ Aside (Below w.heap.size w wr))
    case atStart => exact ⟨rfl, B2⟩
    case round =>
      obtain ⟨rfl, B⟩ := hrel
      go_wp2
      go_end0
      exact ⟨rfl, B.out⟩
theorem sortNil {k : Nat} (S : Bare P k) (fSO : P.funcs[106]? = some Tryd.f106) (g : Nat) (cb : Array Value) (w : World) :
    Calls P 106 #[.slice none 0 0, .func (.func g) #[] cb] w fun e w' => e = .returned (.tuple #[]) ∧ Below w.heap.size w w' := by
  have mixed := S.mixed; have aE := S.aE; have zE := S.zE; have t0 := S.t0; have a0 := S.a0; have z0 := S.z0; have v0 := S.v0; have t3 := S.t3; have a3 := S.a3; have z3 := S.z3; have v3 := S.v3; have t4 := S.t4; have a4 := S.a4; have z4 := S.z4; have v4 := S.v4; have t36 := S.t36; have a36 := S.a36; have z36 := S.z36; have v36 := S.v36; have t106 := S.t106; have a106 := S.a106; have z106 := S.z106; have v106 := S.v106; have t117 := S.t117; have a117 := S.a117; have z117 := S.z117; have v117 := S.v117; have u0 := run_underlying S.t0; have u3 := run_underlying S.t3; have u4 := run_underlying S.t4; have u36 := run_underlying S.t36; have u106 := run_underlying S.t106; have u117 := run_underlying S.t117
  have eST : ∀ args w, (callFunc 136 args).run P w = .ok (.enter 136 args) w := enters_of S.fST (by kernel_rfl) rfl
  have c := fun W => stableNil S g cb W
  go_enter fSO, Tryd.ntmps106
  go_wp2_with (go_at_fn 136; refine (c _).mono ?_; rintro e w' ⟨rfl, B1⟩)
  go_end0
  exact ⟨rfl, B1⟩
theorem sortStable {k : Nat} (S : Bare P k) (enc : α → List Value) (g : Nat) (cb : Array Value) (blk off cap : Nat) (d0 d : Array α) (w0 w : World) (R : RowK enc k w0 blk off d0) (hs : d0.size = d.size) (T : SWD enc k w0 blk off d w) (ok : α → Prop) (cf : α → α → Int) (eg : ∀ args w, (callFunc g args).run P w = .ok (.enter g args) w) (hcmp : CmpB P g cb enc ok cf) (hok : ∀ i, i < d.size → ok d[i]!) (hS : SWO (ltOf cf)) (hsz : d.size < 1152921504606846976) (fSO : P.funcs[106]? = some Tryd.f106) :
    Calls P 106 #[.slice (some ⟨blk, off, none⟩) d.size cap, .func (.func g) #[] cb] w fun e w' => e = .returned (.tuple #[]) ∧ ∃ d' : Array α, SWD enc k w0 blk off d' w' ∧ PermIn 0 d.size d d' ∧ SortedIn (ltOf cf) 0 d.size d' := by
  have mixed := S.mixed; have aE := S.aE; have zE := S.zE; have t0 := S.t0; have a0 := S.a0; have z0 := S.z0; have v0 := S.v0; have t3 := S.t3; have a3 := S.a3; have z3 := S.z3; have v3 := S.v3; have t4 := S.t4; have a4 := S.a4; have z4 := S.z4; have v4 := S.v4; have t36 := S.t36; have a36 := S.a36; have z36 := S.z36; have v36 := S.v36; have t106 := S.t106; have a106 := S.a106; have z106 := S.z106; have v106 := S.v106; have t117 := S.t117; have a117 := S.a117; have z117 := S.z117; have v117 := S.v117; have u0 := run_underlying S.t0; have u3 := run_underlying S.t3; have u4 := run_underlying S.t4; have u36 := run_underlying S.t36; have u106 := run_underlying S.t106; have u117 := run_underlying S.t117
  have eST : ∀ args w, (callFunc 136 args).run P w = .ok (.enter 136 args) w := enters_of S.fST (by kernel_rfl) rfl
  have c := stable S enc g cb blk off cap d0 d w0 w R hs T ok cf eg hcmp hok hS hsz
  go_enter fSO, Tryd.ntmps106
  go_wp2_with (go_at_fn 136; refine c.mono ?_; rintro e w' ⟨rfl, H⟩)
  go_end0
  exact ⟨rfl, H⟩

end Go.Proofs.YtdigilidomimdaaDoor.Sw
namespace Go.Proofs.YtdigilidomimdaaDoor.Sw
set_option linter.unusedSimpArgs false
set_option linter.unusedSectionVars false
set_option linter.unusedVariables false
open Go.Proofs Go.Shelf Go.RowKit Go.Lib Go.Sort Go.Proofs.YtdigilidomimdaaDoor.Sm
variable {P : Program} {α : Type} [Inhabited α]
open Go.Proofs.YtdigilidomimdaaDoorW.PrintWords
theorem holds_of_reps {enc : α → List Value} {k : Nat} (hk : ∀ x, (enc x).length = k) (hk0 : 0 < k) {w : World} {g e : Nat} {cur : Array Value} (hh : w.heap[g]? = some (.cells cur e (0, 0))) (xs : List α) (inner : List Value) (hc : cur.toList.take (xs.length * k) = inner) (hr : ∀ i p, xs[i]? = some p → (inner.drop (i * k)).take k = enc p) : HoldsK enc k w g 0 xs.toArray := by
  intro j hj
  rw [size_flatK] at hj
  have hj' : j < xs.length * k := by simpa using hj
  have hd : j / k < xs.length := (Nat.div_lt_iff_lt_mul hk0).2 hj'
  have hm : j % k < k := Nat.mod_lt _ hk0
  have hjk : j / k * k + j % k = j := by rw [Nat.mul_comm]; exact Nat.div_add_mod j k
  refine ⟨?_, blk_frozen hh _⟩
  rw [blk_cell hh, Nat.zero_add, get_flatK _ _ _ _ hj]
  have e2 := hr (j / k) xs[j / k] (List.getElem?_eq_getElem hd)
  have e1 : cur[j]? = (enc xs[j / k])[j % k]? := by
    rw [← e2, List.getElem?_take_of_lt hm, List.getElem?_drop, hjk, ← hc, List.getElem?_take_of_lt hj', Array.getElem?_toList]
  rw [e1]
  have hxe : (xs.toArray)[j / k]! = xs[j / k] := by rw [getElem!_pos xs.toArray (j / k) (by simpa using hd)]; simp
  rw [hxe]
  have hlen : j % k < (enc xs[j / k]).length := by rw [hk]; exact hm
  rw [List.getElem?_eq_getElem hlen, getElem!_pos (enc xs[j / k]) (j % k) hlen]
  rfl
theorem reps_of_flat {enc : α → List Value} {k : Nat} (hk : ∀ x, (enc x).length = k) (hk0 : 0 < k) (d : Array α) (i : Nat) (p : α) (h : d.toList[i]? = some p) : ((flatK enc k d).toList.drop (i * k)).take k = enc p := by
  have hi : i < d.size := by
    have := (List.getElem?_eq_some_iff.1 h).1
    simpa using this
  have hp : d[i]! = p := by
    rw [getElem!_pos d i hi]
    rw [Array.getElem?_toList, Array.getElem?_eq_getElem hi] at h
    exact Option.some.inj h
  have hb : i * k + k ≤ d.size * k := by
    have := Nat.mul_le_mul_right k (show i + 1 ≤ d.size from hi)
    rwa [Nat.add_mul, Nat.one_mul] at this
  apply List.ext_getElem?
  intro t
  by_cases ht : t < k
  · have hj : i * k + t < d.size * k := by omega
    rw [List.getElem?_take_of_lt ht, List.getElem?_drop, Array.getElem?_toList, Array.getElem?_eq_getElem (by rw [size_flatK]; exact hj), ← getElem!_pos (flatK enc k d) (i * k + t) (by rw [size_flatK]; exact hj), get_flatK _ _ _ _ hj]
    have e1 : (i * k + t) / k = i := by rw [Nat.mul_comm, Nat.mul_add_div hk0, Nat.div_eq_of_lt ht, Nat.add_zero]
    have e2 : (i * k + t) % k = t := by rw [Nat.mul_comm, Nat.mul_add_mod, Nat.mod_eq_of_lt ht]
    have hlen : t < (enc p).length := by rw [hk]; exact ht
    rw [e1, e2, hp, getElem!_pos (enc p) t hlen, List.getElem?_eq_getElem hlen]
  · rw [List.getElem?_eq_none (by simp; omega), List.getElem?_eq_none (by rw [hk]; omega)]
theorem swd_heap {enc : α → List Value} {k : Nat} {w W : World} {g e : Nat} {d : Array α} {cur : Array Value} (h : SWD enc k w g 0 d W) (hh : w.heap[g]? = some (.cells cur e (0, 0))) (hs : d.size * k ≤ cur.size) :
    (∃ cur', W.heap[g]? = some (.cells cur' e (0, 0)) ∧ cur'.size = cur.size ∧ cur'.toList.take (d.size * k) = (flatK enc k d).toList) ∧ W.os = w.os ∧ W.tape = w.tape ∧ W.output = w.output ∧ w.heap.size ≤ W.heap.size ∧ ∀ i, i < w.heap.size → i ≠ g → W.heap[i]? = w.heap[i]? := by
  obtain ⟨q, m, os, e1⟩ := h
  have hg : g < w.heap.size := blk_lt hh
  have eh : W.heap = (w.heap.modify g (onCells (putCells id 0 (flatK enc k d)))) ++ os := congrArg World.heap e1
  have e2 : W.os = w.os := by have z := congrArg World.os e1; exact z
  have e3 : W.tape = w.tape := by have z := congrArg World.tape e1; exact z
  have e4 : W.output = w.output := by have z := congrArg World.output e1; exact z
  have old : ∀ i, i < w.heap.size → W.heap[i]? = (w.heap.modify g (onCells (putCells id 0 (flatK enc k d))))[i]? := fun i hi => by
    rw [eh, Array.getElem?_append_left (by simpa using hi)]
  refine ⟨⟨putCells id 0 (flatK enc k d) cur, ?_, by simp [putCells], ?_⟩, e2, e3, e4, by rw [eh]; simp, fun i hi hne => ?_⟩
  · rw [old g hg, Array.getElem?_modify, if_pos rfl, hh]
    rfl
  · apply List.ext_getElem?
    intro t
    by_cases ht : t < d.size * k
    · have hc : t < cur.size := by omega
      have hf : t < (flatK enc k d).size := by rw [size_flatK]; exact ht
      rw [List.getElem?_take_of_lt ht, Array.getElem?_toList, Array.getElem?_toList, Array.getElem?_eq_getElem (by simp [putCells]; exact hc), Array.getElem?_eq_getElem hf]
      simp [putCells, ht, hf]
    · rw [List.getElem?_eq_none (by simp; omega), List.getElem?_eq_none (by simp; omega)]
  · rw [old i hi, Array.getElem?_modify, if_neg (fun h => hne h.symm)]
theorem R_sort {k : Nat} (S : Bare P k) (fSO : P.funcs[106]? = some Tryd.f106) (D : Kd α) (enc : α → List Value) (hD : D.sz = k) (hM : ∀ w base okb x cs, D.M w base okb x cs ↔ cs = enc x) (hk : ∀ x, (enc x).length = k) (h1 : ∀ x, ∀ v ∈ enc x, v.oneCell' = true) (hk0 : 0 < k)
    (g : Nat) (cb : Array Value) (ok : α → Prop) (cf : α → α → Int) (eg : ∀ args w, (callFunc g args).run P w = .ok (.enter g args) w) (hcmp : CmpB P g cb enc ok cf) (hS : SWO (ltOf cf)) (anti : ∀ x y, ltOf cf x y = false → ltOf cf y x = false → x = y)
    (e base : Nat) (v : Value) (xs : List α) (w : World) (hR : D.R e w base (fun _ => True) v xs) (hok : ∀ x ∈ xs, ok x) (hsz : xs.length < 1152921504606846976) (hbw : base ≤ w.heap.size) :
    Calls P 106 #[v, .func (.func g) #[] cb] w fun e' w' => e' = .returned (.tuple #[]) ∧ D.R e w' base (fun _ => True) v (xs.mergeSort (fun x y => !ltOf cf y x)) ∧ Below base w w' ∧ w.heap.size ≤ w'.heap.size ∧ ∀ i, i < w.heap.size → v.ownBlock ≠ some i → w'.heap[i]? = w.heap[i]? := by
  obtain ⟨ho, inner, ⟨hlen, hv⟩, hreps⟩ := hR
  rw [hD] at hlen hreps
  rcases hv with ⟨rfl, hn0⟩ | ⟨g0, cap, cur, rfl, hbase, hheap, hncap, hcap, hcur, htake⟩
  · obtain rfl : xs = [] := List.eq_nil_of_length_eq_zero hn0
    exact (sortNil S fSO g cb w).mono fun e' w' ⟨he, hb⟩ => ⟨he, by simpa using Kd.R_nil D e w' base (fun _ => True), ⟨hb.os, hb.tape, hb.output, hb.size, fun i hi => hb.block i (Nat.lt_of_lt_of_le hi hbw)⟩, hb.size, fun i hi _ => hb.block i hi⟩
  · rw [hD] at hcur htake
    have hsl : xs.length * k ≤ cur.size := by rw [hcur]; exact Nat.mul_le_mul_right k hncap
    have hH := holds_of_reps hk hk0 hheap xs inner htake (fun i p hp => (hM _ _ _ _ _).1 (hreps.2 i p hp))
    have R : RowK enc k w g0 0 xs.toArray := ⟨hk, h1, hH, blk_lt hheap⟩
    have c := sortStable S enc g cb g0 0 cap xs.toArray xs.toArray w w R rfl (SWD.start hH) ok cf eg hcmp (fun i hi => hok _ (by rw [getElem!_pos xs.toArray i hi]; simp)) hS (by simpa using hsz) fSO
    rw [show xs.toArray.size = xs.length by simp] at c
    refine c.mono fun e' w' ⟨he, d', T, hp, hs⟩ => ?_
    have hds : d'.size = xs.length := by rw [hp.1]; simp
    have hu := sorted_unique_holds (lt := ltOf cf) hS anti xs.toArray d' (by simpa using hp) (by simpa using hs)
    obtain ⟨⟨cur', hh', hcs, htk⟩, o1, o2, o3, o4, o5⟩ := swd_heap T hheap (by rw [hds]; exact hsl)
    have hml : (xs.mergeSort (fun x y => !ltOf cf y x)).length = xs.length := List.length_mergeSort _
    refine ⟨he, ⟨ho, (flatK enc k d').toList, ⟨by rw [hD, hml, ← hds]; simp, .inr ⟨g0, cap, cur', by rw [hml], hbase, hh', by rw [hml]; exact hncap, hcap, by rw [hcs, hD]; exact hcur, by rw [hD, hml, ← hds]; exact htk⟩⟩, ?_⟩, ⟨o1, o2, o3, o4, fun i hi => ?_⟩, o4, fun i hi hne => o5 i hi (fun e => hne (by rw [e]; rfl))⟩
    · rw [hD]
      refine ⟨by rw [hml, ← hds]; simp, fun i p hpp => (hM _ _ _ _ _).2 (reps_of_flat hk hk0 d' i p ?_)⟩
      rw [hu]
      exact hpp
    · exact o5 i (Nat.lt_of_lt_of_le hi (Nat.le_trans hbase (Nat.le_of_lt (blk_lt hheap)))) (by omega)
set_option maxRecDepth 100000 in
set_option maxHeartbeats 4000000 in
theorem bareT : Bare Tryd.prog 6 where
  mixed := rfl
  fSW := Tryd.func171
  fRO := Tryd.func163
  fME := Tryd.func153
  fIN := Tryd.func152
  fST := Tryd.func136
  t0 := Tryd.underlying0
  a0 := fun _ => rfl
  z0 := fun _ => rfl
  v0 := fun _ => rfl
  t3 := Tryd.underlying3
  a3 := fun _ => rfl
  z3 := fun _ => rfl
  v3 := fun _ => rfl
  t4 := Tryd.underlying4
  a4 := fun _ => rfl
  z4 := fun _ => rfl
  v4 := fun _ => rfl
  t36 := Tryd.underlying36
  a36 := fun _ => rfl
  z36 := fun _ => rfl
  v36 := fun _ => rfl
  t106 := Tryd.underlying106
  a106 := fun _ => rfl
  z106 := fun _ => rfl
  v106 := fun _ => rfl
  t117 := Tryd.underlying117
  a117 := fun _ => rfl
  z117 := fun _ => rfl
  v117 := fun _ => rfl
  aE := fun _ => rfl
  zE := fun _ => rfl

end Go.Proofs.YtdigilidomimdaaDoor.Sw
