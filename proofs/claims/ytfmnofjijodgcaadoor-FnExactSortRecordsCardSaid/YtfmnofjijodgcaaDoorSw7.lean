/- The walks of slices.SortStableFunc's family at records, text 7: over any program that bears these bodies. Printed by a program of this session. Conditions: as written at each theorem. -/
import Derived.Test.YtfmnofjijodgcaaDoorSw4
import Derived.Test.YtfmnofjijodgcaaDoorSw5
import Derived.Test.YtfmnofjijodgcaaDoorSw6
namespace Go.Proofs.YtfmnofjijodgcaaDoor.Sw
set_option linter.unusedSimpArgs false
set_option linter.unusedSectionVars false
set_option linter.unusedVariables false
open Go.Proofs Go.Shelf Go.RowKit Go.Lib Go.Sort Go.Proofs.YtfmnofjijodgcaaDoor.Sm
variable {P : Program} {α : Type} [Inhabited α]
theorem symMerge {k : Nat} (S : Bare P k) (enc : α → List Value) (g : Nat) (cb : Array Value) (blk off cap : Nat) (d0 : Array α) (w0 : World) (R : RowK enc k w0 blk off d0) (ok : α → Prop) (cf : α → α → Int) (eg : ∀ args w, (callFunc g args).run P w = .ok (.enter g args) w) (hcmp : CmpB P g cb enc ok cf) (hS : SWO (ltOf cf)) : ∀ (N : Nat) (a m b : Nat) (d : Array α) (w : World), b - a ≤ N → d0.size = d.size → SWD enc k w0 blk off d w → (∀ i, i < d.size → ok d[i]!) → a < m → m < b → b ≤ d.size → d.size < 4611686018427387904 → SortedIn (ltOf cf) a m d → SortedIn (ltOf cf) m b d → Calls P 136 #[.slice (some ⟨blk, off, none⟩) d.size cap, .int .i64 a, .int .i64 m, .int .i64 b, .func (.func g) #[] cb] w fun e w' => e = .returned (.tuple #[]) ∧ ∃ d' : Array α, SWD enc k w0 blk off d' w' ∧ PermIn a b d d' ∧ SortedIn (ltOf cf) a b d' := by
  intro N
  induction N with
  | zero => intro a m b d w h0 _ _ _ h1 h2; omega
  | succ N ih =>
    intro a m b d w hN
    by_cases hm1 : m = a + 1
    · exact symLeft S enc g cb blk off cap d0 w0 R ok cf eg hcmp hS a m b d w hm1
    · by_cases hb1 : b = m + 1
      · exact symRight S enc g cb blk off cap d0 w0 R ok cf eg hcmp hS a m b d w hm1 hb1
      · exact symGen S enc g cb blk off cap d0 w0 R ok cf eg hcmp hS N ih a m b d w hN hm1 hb1

end Go.Proofs.YtfmnofjijodgcaaDoor.Sw
