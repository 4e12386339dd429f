/- The walks of slices.SortStableFunc's family at records, text 9: over any program that bears these bodies. Printed by a program of this session. Conditions: as written at each theorem. -/
import Derived.Test.YtfmnofjijodgcaaDoorSw8
namespace Go.Proofs.YtfmnofjijodgcaaDoor.Sw
set_option linter.unusedSimpArgs false
set_option linter.unusedSectionVars false
set_option linter.unusedVariables false
open Go.Proofs Go.Shelf Go.RowKit Go.Lib Go.Sort Go.Proofs.YtfmnofjijodgcaaDoor.Sm
variable {P : Program} {α : Type} [Inhabited α]
theorem insNil {k : Nat} (S : Bare P k) (g : Nat) (cb : Array Value) (w : World) :
    Calls P 135 #[.slice none 0 0, .int .i64 0, .int .i64 0, .func (.func g) #[] cb] w fun e w' => e = .returned (.tuple #[]) ∧ Below w.heap.size w w' := by
  have mixed := S.mixed; have aE := S.aE; have zE := S.zE; have t0 := S.t0; have a0 := S.a0; have z0 := S.z0; have v0 := S.v0; have t3 := S.t3; have a3 := S.a3; have z3 := S.z3; have v3 := S.v3; have t4 := S.t4; have a4 := S.a4; have z4 := S.z4; have v4 := S.v4; have t46 := S.t46; have a46 := S.a46; have z46 := S.z46; have v46 := S.v46; have t86 := S.t86; have a86 := S.a86; have z86 := S.z86; have v86 := S.v86; have t116 := S.t116; have a116 := S.a116; have z116 := S.z116; have v116 := S.v116; have u0 := run_underlying S.t0; have u3 := run_underlying S.t3; have u4 := run_underlying S.t4; have u46 := run_underlying S.t46; have u86 := run_underlying S.t86; have u116 := run_underlying S.t116
  go_enter S.fIN, Tryd.ntmps135
  go_wp2
  go_loopg [8] 0 (fun g1 vi wr => vi = .int .i64 1 ∧ Aside (Below w.heap.size w wr))
  case atStart => exact ⟨by go_num, show _ from Below.refl _ _⟩
  case round =>
    obtain ⟨rfl, B⟩ := hrel
    go_wp2
    go_end0
    exact ⟨rfl, B.out⟩
theorem stableNil {k : Nat} (S : Bare P k) (g : Nat) (cb : Array Value) (w : World) :
    Calls P 115 #[.slice none 0 0, .int .i64 0, .func (.func g) #[] cb] w fun e w' => e = .returned (.tuple #[]) ∧ Below w.heap.size w w' := by
  have mixed := S.mixed; have aE := S.aE; have zE := S.zE; have t0 := S.t0; have a0 := S.a0; have z0 := S.z0; have v0 := S.v0; have t3 := S.t3; have a3 := S.a3; have z3 := S.z3; have v3 := S.v3; have t4 := S.t4; have a4 := S.a4; have z4 := S.z4; have v4 := S.v4; have t46 := S.t46; have a46 := S.a46; have z46 := S.z46; have v46 := S.v46; have t86 := S.t86; have a86 := S.a86; have z86 := S.z86; have v86 := S.v86; have t116 := S.t116; have a116 := S.a116; have z116 := S.z116; have v116 := S.v116; have u0 := run_underlying S.t0; have u3 := run_underlying S.t3; have u4 := run_underlying S.t4; have u46 := run_underlying S.t46; have u86 := run_underlying S.t86; have u116 := run_underlying S.t116
  have eIN : ∀ args w, (callFunc 135 args).run P w = .ok (.enter 135 args) w := enters_of S.fIN (by kernel_rfl) rfl
  have c := fun W => insNil S g cb W
  go_enter S.fST, Tryd.ntmps115
  go_wp2
  go_loopg [7, 8] 0 (fun g1 v7 v8 wr => v7 = .int .i64 0 ∧ v8 = .int .i64 20 ∧ Aside (Below w.heap.size w wr))
  case atStart => exact ⟨rfl, rfl, show _ from Below.refl _ _⟩
  case round =>
    obtain ⟨rfl, rfl, B⟩ := hrel
    have c := c wr
    go_wp2_with (go_at_fn 135; refine c.mono ?_; rintro e w' ⟨rfl, B1⟩)
    have B2 : Aside (Below w.heap.size w _) := (Below.trans B.out (B1.mono B.out.size) : Below w.heap.size w _)
    clear B B1 c
    go_wp2
    go_loopg [6, 7, 8, 9] 0 (fun g1 v6 v7 v8 v9 wr => v6 = .int .i64 20 ∧ Aside (Below w.heap.size w wr))
    case atStart => exact ⟨rfl, B2⟩
    case round =>
      obtain ⟨rfl, B⟩ := hrel
      go_wp2
      go_end0
      exact ⟨rfl, B.out⟩
theorem sortNil {k : Nat} (S : Bare P k) (fSO : P.funcs[75]? = some Tryd.f75) (g : Nat) (cb : Array Value) (w : World) :
    Calls P 75 #[.slice none 0 0, .func (.func g) #[] cb] w fun e w' => e = .returned (.tuple #[]) ∧ Below w.heap.size w w' := by
  have mixed := S.mixed; have aE := S.aE; have zE := S.zE; have t0 := S.t0; have a0 := S.a0; have z0 := S.z0; have v0 := S.v0; have t3 := S.t3; have a3 := S.a3; have z3 := S.z3; have v3 := S.v3; have t4 := S.t4; have a4 := S.a4; have z4 := S.z4; have v4 := S.v4; have t46 := S.t46; have a46 := S.a46; have z46 := S.z46; have v46 := S.v46; have t86 := S.t86; have a86 := S.a86; have z86 := S.z86; have v86 := S.v86; have t116 := S.t116; have a116 := S.a116; have z116 := S.z116; have v116 := S.v116; have u0 := run_underlying S.t0; have u3 := run_underlying S.t3; have u4 := run_underlying S.t4; have u46 := run_underlying S.t46; have u86 := run_underlying S.t86; have u116 := run_underlying S.t116
  have eST : ∀ args w, (callFunc 115 args).run P w = .ok (.enter 115 args) w := enters_of S.fST (by kernel_rfl) rfl
  have c := fun W => stableNil S g cb W
  go_enter fSO, Tryd.ntmps75
  go_wp2_with (go_at_fn 115; refine (c _).mono ?_; rintro e w' ⟨rfl, B1⟩)
  go_end0
  exact ⟨rfl, B1⟩
theorem sortStable {k : Nat} (S : Bare P k) (enc : α → List Value) (g : Nat) (cb : Array Value) (blk off cap : Nat) (d0 d : Array α) (w0 w : World) (R : RowK enc k w0 blk off d0) (hs : d0.size = d.size) (T : SWD enc k w0 blk off d w) (ok : α → Prop) (cf : α → α → Int) (eg : ∀ args w, (callFunc g args).run P w = .ok (.enter g args) w) (hcmp : CmpB P g cb enc ok cf) (hok : ∀ i, i < d.size → ok d[i]!) (hS : SWO (ltOf cf)) (hsz : d.size < 1152921504606846976) (fSO : P.funcs[75]? = some Tryd.f75) :
    Calls P 75 #[.slice (some ⟨blk, off, none⟩) d.size cap, .func (.func g) #[] cb] w fun e w' => e = .returned (.tuple #[]) ∧ ∃ d' : Array α, SWD enc k w0 blk off d' w' ∧ PermIn 0 d.size d d' ∧ SortedIn (ltOf cf) 0 d.size d' := by
  have mixed := S.mixed; have aE := S.aE; have zE := S.zE; have t0 := S.t0; have a0 := S.a0; have z0 := S.z0; have v0 := S.v0; have t3 := S.t3; have a3 := S.a3; have z3 := S.z3; have v3 := S.v3; have t4 := S.t4; have a4 := S.a4; have z4 := S.z4; have v4 := S.v4; have t46 := S.t46; have a46 := S.a46; have z46 := S.z46; have v46 := S.v46; have t86 := S.t86; have a86 := S.a86; have z86 := S.z86; have v86 := S.v86; have t116 := S.t116; have a116 := S.a116; have z116 := S.z116; have v116 := S.v116; have u0 := run_underlying S.t0; have u3 := run_underlying S.t3; have u4 := run_underlying S.t4; have u46 := run_underlying S.t46; have u86 := run_underlying S.t86; have u116 := run_underlying S.t116
  have eST : ∀ args w, (callFunc 115 args).run P w = .ok (.enter 115 args) w := enters_of S.fST (by kernel_rfl) rfl
  have c := stable S enc g cb blk off cap d0 d w0 w R hs T ok cf eg hcmp hok hS hsz
  go_enter fSO, Tryd.ntmps75
  go_wp2_with (go_at_fn 115; refine c.mono ?_; rintro e w' ⟨rfl, H⟩)
  go_end0
  exact ⟨rfl, H⟩

end Go.Proofs.YtfmnofjijodgcaaDoor.Sw
