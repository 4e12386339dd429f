/- The walks of slices.SortStableFunc's family at records, text 1: over any program that bears these bodies. Printed by a program of this session. Conditions: as written at each theorem. -/
import Derived.Shelf.SlSortCmp.KitK
import Derived.WalkKit
import Derived.Deep.LoopGhost
import Derived.Deep.DeepCutAuto
import Derived.Sort.WalkB2
import Derived.Sort.WalkB12
import Derived.Test.YtfmnofjijodgcaaDoorProg
import Derived.Test.YtfmnofjijodgcaaDoorSm
namespace Go.Proofs.YtfmnofjijodgcaaDoor.Sw
set_option linter.unusedSimpArgs false
set_option linter.unusedSectionVars false
set_option linter.unusedVariables false
open Go.Proofs Go.Shelf Go.RowKit Go.Lib Go.Sort Go.Proofs.YtfmnofjijodgcaaDoor.Sm
variable {P : Program} {α : Type} [Inhabited α]
structure Bare (P : Program) (k : Nat) : Prop where
  mixed : P.follows .mixedOrders = true
  fSW : P.funcs[151]? = some Tryd.f151
  fRO : P.funcs[145]? = some Tryd.f145
  fME : P.funcs[136]? = some Tryd.f136
  fIN : P.funcs[135]? = some Tryd.f135
  fST : P.funcs[115]? = some Tryd.f115
  t0 : P.underlying 0 = some (TypeDesc.tuple #[])
  a0 : ∀ w, (isAgg 0).run P w = .ok false w
  z0 : ∀ w, (Go.sizeOf 0).run P w = .ok 1 w
  v0 : ∀ w, (zeroValue 0).run P w = .ok (Value.tuple #[]) w
  t3 : P.underlying 3 = some (TypeDesc.int IntKind.i64)
  a3 : ∀ w, (isAgg 3).run P w = .ok false w
  z3 : ∀ w, (Go.sizeOf 3).run P w = .ok 1 w
  v3 : ∀ w, (zeroValue 3).run P w = .ok (Value.int IntKind.i64 0) w
  t4 : P.underlying 4 = some (TypeDesc.bool)
  a4 : ∀ w, (isAgg 4).run P w = .ok false w
  z4 : ∀ w, (Go.sizeOf 4).run P w = .ok 1 w
  v4 : ∀ w, (zeroValue 4).run P w = .ok (Value.bool false) w
  t46 : P.underlying 46 = some (TypeDesc.slice 33)
  a46 : ∀ w, (isAgg 46).run P w = .ok false w
  z46 : ∀ w, (Go.sizeOf 46).run P w = .ok 1 w
  v46 : ∀ w, (zeroValue 46).run P w = .ok (Value.slice none 0 0) w
  t86 : P.underlying 86 = some (TypeDesc.func #[33, 33] #[3] false)
  a86 : ∀ w, (isAgg 86).run P w = .ok false w
  z86 : ∀ w, (Go.sizeOf 86).run P w = .ok 1 w
  v86 : ∀ w, (zeroValue 86).run P w = .ok (Value.nilFunc) w
  t116 : P.underlying 116 = some (TypeDesc.int IntKind.u64)
  a116 : ∀ w, (isAgg 116).run P w = .ok false w
  z116 : ∀ w, (Go.sizeOf 116).run P w = .ok 1 w
  v116 : ∀ w, (zeroValue 116).run P w = .ok (Value.int IntKind.u64 0) w
  aE : ∀ w, (isAgg 33).run P w = .ok true w
  zE : ∀ w, (Go.sizeOf 33).run P w = .ok k w

/-- A world in which all that lay in w lies unturned. -/
structure BelowBy (w : World) where
  W : World
  h : Below w.heap.size w W
instance (w : World) : Inhabited (BelowBy w) := ⟨⟨w, Below.refl _ w⟩⟩
def SWD (enc : α → List Value) (k : Nat) (w0 : World) (blk off : Nat) (dk : Array α) (W : World) : Prop := ∃ q, SWK enc k w0 blk off dk { W with drawn := q }
section
variable {enc : α → List Value} {k : Nat} {w0 W : World} {blk off : Nat} {dk d0 : Array α}
theorem SWD.start (h : HoldsK enc k w0 blk off dk) : SWD enc k w0 blk off dk w0 := ⟨w0.drawn, SWK.start h⟩
theorem SWD.holds (h : SWD enc k w0 blk off dk W) (R : RowK enc k w0 blk off d0) (hs : dk.size = d0.size) : HoldsK enc k W blk off dk := by
  obtain ⟨q, h⟩ := h
  exact h.holds R.hblk R.hH hs
theorem SWD.le (h : SWD enc k w0 blk off dk W) : w0.heap.size ≤ W.heap.size := by
  obtain ⟨q, h⟩ := h
  exact h.le
theorem grow_of_below {W W1 : World} (hb : Below W.heap.size W W1) (q : Nat) : ∃ os, ({ W1 with drawn := q } : World) = grow { W with drawn := q } os := by
  refine ⟨W1.heap.extract W.heap.size W1.heap.size, ?_⟩
  have e : W1.heap = W.heap ++ W1.heap.extract W.heap.size W1.heap.size := by
    apply Array.ext_getElem?
    intro i
    by_cases c : i < W.heap.size
    · rw [hb.block i c, Array.getElem?_append_left c]
    · rw [Array.getElem?_append_right (by omega), Array.getElem?_extract]
      by_cases c2 : i < W1.heap.size
      · rw [if_pos (by omega)]
        congr 1
        omega
      · rw [if_neg (by omega)]
        exact Array.getElem?_eq_none (by omega)
  have e1 := hb.os
  have e2 := hb.tape
  have e3 := hb.output
  cases W1
  cases W
  simp only at e e1 e2 e3
  subst e1 e2 e3
  show World.mk _ _ _ _ _ = World.mk _ _ _ _ _
  congr 1
theorem SWD.below {W1 : World} (h : SWD enc k w0 blk off dk W) (hb : Below W.heap.size W W1) : SWD enc k w0 blk off dk W1 := by
  obtain ⟨q, m, os, e⟩ := h
  obtain ⟨os', e'⟩ := grow_of_below hb q
  refine ⟨q, m, os ++ os', ?_⟩
  rw [e', e]
  unfold sortWorldK
  rw [grow_grow]
theorem below_drewN (w : World) (n : Nat) : Below w.heap.size w (w.drewN n) := ⟨rfl, rfl, rfl, Nat.le_refl _, fun _ _ => rfl⟩
theorem SWD.drew (h : SWD enc k w0 blk off dk W) : SWD enc k w0 blk off dk W.drew := h.below (below_drewN W 1)
theorem drawn_setCells (b q : Nat) : ∀ (vs : List Value) (o : Nat) (W : World), ({ W with drawn := q } : World).setCells b o vs = { W.setCells b o vs with drawn := q }
  | [], _, _ => rfl
  | v :: r, o, W => by
    rw [World.setCells, World.setCells]
    exact drawn_setCells b q r (o + 1) (W.setCell ⟨b, o, none⟩ v)
theorem SWD.swap (h : SWD enc k w0 blk off dk W) (R : RowK enc k w0 blk off d0) (i j : Nat) (hi : i < dk.size) (hj : j < dk.size) :
    SWD enc k w0 blk off (swp dk i j) ((W.setCells blk (off + i * k) (enc dk[j]!)).setCells blk (off + j * k) (enc dk[i]!)) := by
  obtain ⟨q, h⟩ := h
  have := h.swap R.hk R.hblk i j hi hj
  rw [drawn_setCells blk q _ _ W, drawn_setCells blk q _ _ (W.setCells blk (off + i * k) (enc dk[j]!))] at this
  exact ⟨q, this⟩
theorem SWD.swapped (h : SWD enc k w0 blk off dk W) (R : RowK enc k w0 blk off d0) (i j : Nat) (hi : i < dk.size) (hj : j < dk.size) :
    SWD enc k w0 blk off (swp dk i j) ((W.drew.setCells blk (off + i * k) (enc dk[j]!)).setCells blk (off + j * k) (enc dk[i]!)) := h.drew.swap R i j hi hj
theorem SWD.load (h : SWD enc k w0 blk off dk W) (R : RowK enc k w0 blk off d0) (hs : dk.size = d0.size) (P : Program) (i : Nat) (hi : i < dk.size) :
    Sem.run P (loadCellsFrom ⟨blk, off + i * k, none⟩ 0 k #[]) W = .ok (enc dk[i]!).toArray W :=
  run_loadCellsFrom_list P _ _ _ k (R.hk _) (HoldsK.cells (h.holds R hs) R.hk hi)
theorem SWD.ld1 (h : SWD enc k w0 blk off dk W) (R : RowK enc k w0 blk off d0) (hs : dk.size = d0.size) (P : Program) (i : Nat) (hi : i < dk.size) :
    Sem.run P (loadCellsFrom ⟨blk, off + i * k, none⟩ 0 k #[]) W.drew = .ok (enc dk[i]!).toArray W.drew := h.drew.load R hs P i hi
theorem SWD.ldB (h : SWD enc k w0 blk off dk W) (R : RowK enc k w0 blk off d0) (hs : dk.size = d0.size) (P : Program) (i : Nat) (hi : i < dk.size) (p : BelowBy W) :
    Sem.run P (loadCellsFrom ⟨blk, off + i * k, none⟩ 0 k #[]) p.W = .ok (enc dk[i]!).toArray p.W := (h.below p.h).load R hs P i hi
theorem SWD.st1 (h : SWD enc k w0 blk off dk W) (R : RowK enc k w0 blk off d0) (hs : dk.size = d0.size) (P : Program) (i : Nat) (hi : i < dk.size) (y : α) :
    Sem.run P (storeCells ⟨blk, off + i * k, none⟩ (enc y) 0) W.drew = .ok () (W.drew.setCells blk (off + i * k) (enc y)) :=
  stores_of_holds P (h.drew.holds R hs) (i * k) _ (by rw [R.hk, size_flatK]; exact rowK_bnd dk k i hi) (R.h1 _)
theorem SWD.st2 (h : SWD enc k w0 blk off dk W) (R : RowK enc k w0 blk off d0) (hs : dk.size = d0.size) (P : Program) (i j : Nat) (hi : i < dk.size) (hj : j < dk.size) (y x : α) :
    Sem.run P (storeCells ⟨blk, off + j * k, none⟩ (enc x) 0) (W.drew.setCells blk (off + i * k) (enc y)) = .ok () ((W.drew.setCells blk (off + i * k) (enc y)).setCells blk (off + j * k) (enc x)) :=
  stores_of_holds P (holds_setCells_c (h.drew.holds R hs) (i * k) _ (by rw [R.hk, size_flatK]; exact rowK_bnd dk k i hi)) (j * k) _ (by rw [R.hk, size_setMany, size_flatK]; exact rowK_bnd dk k j hj) (R.h1 _)
end
theorem wp_region_quiet_below {id : Nat} {Q : Exit → Act → World → Prop} {a : Act} {w : World} {l : List Oper} (hm : P.follows .mixedOrders = true) (hB : Region.lexB .any l.toArray = true)
    (h : wpQuiet P l.toArray (fun w' => ∃ p : BelowBy w, w' = p.W) (fun a' => ∀ w', (∃ p : BelowBy w, w' = p.W) → Q .normal a' w') l a) : (Code.region id l.toArray true).wp P Q a w :=
  wp_region_quiet (C := fun w' => ∃ p : BelowBy w, w' = p.W) hm hB ⟨⟨w.drew, below_drewN w 1⟩, rfl⟩ (by simpa using h)
/-- The comparison: it hands back cf x y at all that the row may hold, and leaves what lay below. -/
def CmpB (P : Program) (g : Nat) (cb : Array Value) (enc : α → List Value) (ok : α → Prop) (cf : α → α → Int) : Prop :=
  ∀ (W : World) (x y : α), ok x → ok y → Calls P g (#[.agg (enc x).toArray, .agg (enc y).toArray] ++ cb) W fun e w' => e = .returned (.int .i64 (cf x y)) ∧ Below W.heap.size W w'
theorem CmpB.at_ {g : Nat} {cb : Array Value} {enc : α → List Value} {ok : α → Prop} {cf : α → α → Int} (h : CmpB P g cb enc ok cf) {W : World} (x y : α) (hx : ok x) (hy : ok y) (p : BelowBy W) :
    Calls P g (#[.agg (enc x).toArray, .agg (enc y).toArray] ++ cb) p.W fun e w' => e = .returned (.int .i64 (cf x y)) ∧ ∃ p' : BelowBy W, w' = p'.W :=
  (h p.W x y hx hy).mono fun e w' ⟨he, hb⟩ => ⟨he, ⟨w', ⟨hb.os.trans p.h.os, hb.tape.trans p.h.tape, hb.output.trans p.h.output, Nat.le_trans p.h.size hb.size, fun i hi => (hb.block i (Nat.lt_of_lt_of_le hi p.h.size)).trans (p.h.block i hi)⟩⟩, rfl⟩
set_option maxHeartbeats 4000000 in
set_option maxRecDepth 1000000 in
theorem swapRange {k : Nat} (S : Bare P k) (enc : α → List Value) (g : Nat) (cb : Array Value) (blk off cap a b n : Nat) (d0 d : Array α) (w0 w : World) (R : RowK enc k w0 blk off d0) (hs : d0.size = d.size) (T : SWD enc k w0 blk off d w) (hab : a + n ≤ b) (hb : b + n ≤ d.size) (hsz : d.size < 4611686018427387904) :
    Calls P 151 #[.slice (some ⟨blk, off, none⟩) d.size cap, .int .i64 a, .int .i64 b, .int .i64 n, .func (.func g) #[] cb] w fun e w' => e = .returned (.tuple #[]) ∧ ∃ d' : Array α, SWD enc k w0 blk off d' w' ∧ Via (swI a b n) d d' ∧ ∀ lo hi, lo ≤ a → b + n ≤ hi → hi ≤ d.size → PermIn lo hi d d' := by
  have mixed := S.mixed; have aE := S.aE; have zE := S.zE; have t0 := S.t0; have a0 := S.a0; have z0 := S.z0; have v0 := S.v0; have t3 := S.t3; have a3 := S.a3; have z3 := S.z3; have v3 := S.v3; have t4 := S.t4; have a4 := S.a4; have z4 := S.z4; have v4 := S.v4; have t46 := S.t46; have a46 := S.a46; have z46 := S.z46; have v46 := S.v46; have t86 := S.t86; have a86 := S.a86; have z86 := S.z86; have v86 := S.v86; have t116 := S.t116; have a116 := S.a116; have z116 := S.z116; have v116 := S.v116; have u0 := run_underlying S.t0; have u3 := run_underlying S.t3; have u4 := run_underlying S.t4; have u46 := run_underlying S.t46; have u86 := run_underlying S.t86; have u116 := run_underlying S.t116
  have S0 : Aside (SWD enc k w0 blk off d w) := T
  clear T
  go_enter S.fSW, Tryd.ntmps151
  go_wp2
  go_loopg [10] n (fun kx s10 wr => ∃ (i : Nat) (dk : Array α), s10 = .int .i64 i ∧ i ≤ n ∧ n - i ≤ kx ∧ dk.size = d.size ∧ Aside (SWD enc k w0 blk off dk wr) ∧ Aside (Via (swI a b i) d dk ∧ ∀ lo hi, lo ≤ a → b + n ≤ hi → hi ≤ d.size → PermIn lo hi d dk))
  case atStart => exact ⟨0, d, rfl, Nat.zero_le _, by omega, rfl, S0, show _ ∧ _ from ⟨via_id d (fun x => (swI_zero a b x).symm), fun _ _ _ _ _ => permIn_refl _ _ _⟩⟩
  case round =>
    clear S0
    obtain ⟨i, dk, rfl, hin, hkx, hds, S1, HV⟩ := hrel
    by_cases hlt : i < n
    · have hltz : (i : Int) < (n : Int) := by omega
      have ea44 : ((a : Int) + (i : Int)).toNat = a + i := by omega
      have pa44 : (0 : Int) ≤ (a : Int) + (i : Int) := by omega
      have ba44 : (a : Int) + (i : Int) < (d.size : Int) := by omega
      have ra44 : IntKind.i64.wrap ((a : Int) + (i : Int)) = (a : Int) + (i : Int) := by rw [IntKind.wrap_i64]; omega
      have ec44 : ((b : Int) + (i : Int)).toNat = b + i := by omega
      have pc44 : (0 : Int) ≤ (b : Int) + (i : Int) := by omega
      have bc44 : (b : Int) + (i : Int) < (d.size : Int) := by omega
      have rc44 : IntKind.i64.wrap ((b : Int) + (i : Int)) = (b : Int) + (i : Int) := by rw [IntKind.wrap_i64]; omega
      have S2 : Aside (SWD enc k w0 blk off (swp dk (a + i) (b + i)) ((wr.drew.setCells blk (off + (a + i) * k) (enc dk[b + i]!)).setCells blk (off + (b + i) * k) (enc dk[a + i]!))) := S1.out.swapped R (a + i) (b + i) (by omega) (by omega)
      have l44a := S1.out.ld1 R (by omega) P (a + i) (by omega)
      have l44b := S1.out.ld1 R (by omega) P (b + i) (by omega)
      have s44a := S1.out.st1 R (by omega) P (a + i) (by omega) dk[b + i]!
      have s44b := S1.out.st2 R (by omega) P (a + i) (b + i) (by omega) (by omega) dk[b + i]! dk[a + i]!
      have n44a : (enc dk[a + i]!).length = k := R.hk _
      have n44b : (enc dk[b + i]!).length = k := R.hk _
      generalize enc dk[a + i]! = cI44 at S2 l44a s44b n44a
      generalize enc dk[b + i]! = cJ44 at S2 l44b s44a s44b n44b
      clear S1
      go_wp2_with fail
      go_big_region_o
      clear l44a l44b s44a s44b
      generalize (wr.drew.setCells blk (off + (a + i) * k) cJ44).setCells blk (off + (b + i) * k) cI44 = w2 at S2 ⊢
      go_wp2
      go_roundg (n - (i + 1))
      case measure => omega
      case rel => exact ⟨i + 1, swp dk (a + i) (b + i), by go_num, by omega, Nat.le_refl _, by rw [size_swp]; exact hds, S2, show _ ∧ _ from ⟨(HV.out.1.comp (via_swp (by omega) (by omega))).of_eq (fun x => swI_step a b i x (by omega)), fun lo hi h1 h2 h3 => permIn_trans _ _ _ _ _ (HV.out.2 lo hi h1 h2 h3) (swp_permIn dk lo hi _ _ (by omega) (by omega) (by omega) (by omega) (by omega))⟩⟩
    · have hltz : ¬ (i : Int) < (n : Int) := by omega
      obtain rfl : i = n := by omega
      go_wp2
      go_end0
      exact ⟨rfl, dk, S1.out, HV.out.1, HV.out.2⟩

end Go.Proofs.YtfmnofjijodgcaaDoor.Sw
