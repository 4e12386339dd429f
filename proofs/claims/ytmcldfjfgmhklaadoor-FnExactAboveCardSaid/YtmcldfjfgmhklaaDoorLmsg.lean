/- Lemmas on the printed functions, of this session. -/
import Derived.Test.YtmcldfjfgmhklaaDoorY
import Derived.Test.YtmcldfjfgmhklaaDoorPrx0
import Derived.Test.YtmcldfjfgmhklaaDoorPrx16
namespace Go.Proofs.YtmcldfjfgmhklaaDoor.Lem
open Go.RowKit Go.Proofs.YtmcldfjfgmhklaaDoor.Pr Go.Proofs.YtmcldfjfgmhklaaDoor.X Go.Proofs.YtmcldfjfgmhklaaDoor.Y Go.Proofs.YtmcldfjfgmhklaaDoorW.PrintWords Go.Proofs.YtmcldfjfgmhklaaDoorW.PrintLast Go.Proofs.YtmcldfjfgmhklaaDoorW.PrintMore
set_option linter.unusedVariables false
set_option linter.unusedSimpArgs false
/-- What the laws write into a text: m and digits. -/
def mt (a : Int) : ByteArray := if a ≤ 0 then (⟨#[109, 48]⟩ : ByteArray) else strOfNums (109 :: decZ a.toNat)
theorem markText_loop : ∀ (m : Nat) (s : List Int), m ≤ 4000000000000000000 → (decZ m).length + s.length ≤ 100 → Ev (fun k => laws_markText.l0 k (m : Int) (strOfNums s)) (strOfNums (109 :: (decZ m ++ s))) := by
  intro m
  induction m using Nat.strongRecOn with
  | _ m ih =>
    intro s hm hl
    by_cases hz : m = 0
    · subst hz
      refine Ev.step (f := fun _ => some (strOfNums (109 :: s))) (fun k => ?_) ⟨0, fun _ _ => by rw [decZ_zero, List.nil_append]⟩
      simp only [laws_markText.l0]
      rw [if_neg (by omega), if_pos (by rw [strOfNums_size]; omega), show (109 :: s) = [109] ++ s from rfl, strOfNums_append]
      rfl
    · have hd := decZ_pos m hz
      have hl2 : (decZ m).length = (decZ (m / 10)).length + 1 := by rw [hd, List.length_append]; rfl
      have := ih (m / 10) (by omega) ((48 + ((m % 10 : Nat) : Int)) :: s) (by omega) (by rw [List.length_cons]; omega)
      have e : decZ (m / 10) ++ (48 + ((m % 10 : Nat) : Int)) :: s = decZ m ++ s := by rw [hd, List.append_assoc]; rfl
      rw [e] at this
      refine Ev.step (f := fun k => laws_markText.l0 k ((m / 10 : Nat) : Int) (strOfNums ((48 + ((m % 10 : Nat) : Int)) :: s))) (fun k => ?_) this
      simp only [laws_markText.l0]
      rw [if_pos (by omega), tmod_pos, tdiv_pos]
      have w1 : wrap64 (48 + ((m % 10 : Nat) : Int)) % 256 = 48 + ((m % 10 : Nat) : Int) := by rw [wrap_id (by omega) (by omega)]; omega
      have w2 : wrap64 ((m / 10 : Nat) : Int) = ((m / 10 : Nat) : Int) := wrap_id (by omega) (by omega)
      rw [w1, w2]
      simp only [Option.bind_some]
      rw [if_pos (by rw [strOfNums_size, strOfNums_size]; simp; omega), ← strOfNums_append]
      rfl
theorem markText_eq (a : Int) (ha : a ≤ 4000000000000000000) : Ev (fun k => laws_markText.f k a) (mt a) := by
  unfold laws_markText.f mt
  by_cases h : a ≤ 0
  · simp only [if_pos h]
    exact Ev.now _
  · simp only [if_neg h]
    have := markText_loop a.toNat [] (by omega) (by have := decZ_le a.toNat (by omega); simp; omega)
    rw [show ((a.toNat : Int)) = a by omega, List.append_nil] at this
    exact this

end Go.Proofs.YtmcldfjfgmhklaaDoor.Lem
