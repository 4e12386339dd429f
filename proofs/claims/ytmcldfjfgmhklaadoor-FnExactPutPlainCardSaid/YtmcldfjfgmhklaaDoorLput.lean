/- Lemmas on the printed functions, of this session. -/
import Derived.Test.YtmcldfjfgmhklaaDoorY
import Derived.Test.YtmcldfjfgmhklaaDoorPrx0
import Derived.Test.YtmcldfjfgmhklaaDoorPrx18
import Derived.Test.YtmcldfjfgmhklaaDoorPrx8
namespace Go.Proofs.YtmcldfjfgmhklaaDoor.Lem
open Go.RowKit Go.Proofs.YtmcldfjfgmhklaaDoor.Pr Go.Proofs.YtmcldfjfgmhklaaDoor.X Go.Proofs.YtmcldfjfgmhklaaDoor.Y Go.Proofs.YtmcldfjfgmhklaaDoorW.PrintWords Go.Proofs.YtmcldfjfgmhklaaDoorW.PrintLast Go.Proofs.YtmcldfjfgmhklaaDoorW.PrintMore
set_option linter.unusedVariables false
set_option linter.unusedSimpArgs false
/-- The bytes of a number, most significant first. -/
def be2 (n : Int) : List Int := [n / 256 % 256, n % 256]
def be4 (n : Int) : List Int := [n / 16777216 % 256, n / 65536 % 256, n / 256 % 256, n % 256]
/-- What Put2 and Put4 return. -/
def put2 (l : List Int) (n : Int) : List Int := if 0 ≤ n ∧ n ≤ 65535 then l ++ be2 n else l
def put4 (l : List Int) (n : Int) : List Int := if 0 ≤ n ∧ n ≤ 2147483647 then l ++ be4 n else l
theorem clone_bytes_eq (l : List Int) (h : l.length < 140737488355328) : slices_Clone_byte.f l = some l := by
  unfold slices_Clone_byte.f
  simp [h]
theorem bits_low8 (n : Int) (h0 : 0 ≤ n) (h1 : n < 2 ^ 62) : Go.bits .and .i64 n 255 = n % 256 :=
  Go.bits_mask .i64 62 (by decide) (fun n h0 h1 => by rw [Go.IntKind.wrap_i64]; omega) 8 (by decide) n h0 h1
/-- The bytes that putBytes appends: from the byte with number c - 1 down to the byte with number 0. -/
def beTo (n : Int) : Nat → List Int
  | 0 => []
  | c + 1 => (n / 2 ^ (8 * c)) % 256 :: beTo n c
theorem putBytes_loop (n : Int) : ∀ (c : Nat) (l : List Int), c ≤ 4 → l.length + c ≤ 140737488355000 → Ev (fun k => impl_putBytes.l0 k n l ((c : Int) - 1)) (l ++ beTo n c) := by
  intro c
  induction c with
  | zero =>
    intro l _ _
    refine Ev.step (f := fun _ => some l) (fun k => ?_) ⟨0, fun _ _ => by rw [beTo, List.append_nil]⟩
    simp only [impl_putBytes.l0]
    rw [if_neg (by omega)]
  | succ c ih =>
    intro l hc hl
    have hs : shr .i64 n (8 * (c : Int)) = n / 2 ^ (8 * c) := by
      unfold shr
      have e : min ((8 * (c : Int)).toNat) (IntKind.bits .i64) = 8 * c := by
        have : IntKind.bits .i64 = 64 := rfl
        omega
      rw [e]
    have e1 : ((c + 1 : Nat) : Int) - 1 = (c : Int) := by omega
    rw [e1]
    have := ih (l ++ [(n / 2 ^ (8 * c)) % 256]) (by omega) (by rw [List.length_append]; simp; omega)
    rw [List.append_assoc] at this
    refine Ev.step (f := fun k => impl_putBytes.l0 k n (l ++ [(n / 2 ^ (8 * c)) % 256]) ((c : Int) - 1)) (fun k => ?_) this
    simp only [impl_putBytes.l0]
    rw [if_pos (by omega), wrap_id (x := 8 * (c : Int)) (by omega) (by omega), if_pos (by omega), if_pos (by omega), hs, wrap_id (x := (c : Int) - 1) (by omega) (by omega)]
theorem putBytes_eq (l : List Int) (hl : l.length ≤ 140737488351232) (n : Int) (c : Nat) (hc : c ≤ 4) (m : Int) : Ev (fun k => impl_putBytes.f k l n c m) (if 0 ≤ n ∧ n ≤ m then l ++ beTo n c else l) := by
  unfold impl_putBytes.f
  simp only [clone_bytes_eq l (by omega), Option.bind_some]
  by_cases h : 0 ≤ n ∧ n ≤ m
  · have h0 : ¬ n < 0 := by omega
    have h1 : ¬ n > m := by omega
    simp only [if_neg h0, decide_eq_false h1, if_pos h]
    refine Ev.step (f := fun k => impl_putBytes.l0 k n l ((c : Int) - 1)) (fun k => ?_) (putBytes_loop n c l hc (by omega))
    simp only [impl_putBytes.j0]
    rw [if_neg (by decide), wrap_id (x := (c : Int) - 1) (by omega) (by omega)]
  · rw [if_neg h]
    by_cases h0 : n < 0
    · simp only [if_pos h0]
      refine Ev.step (f := fun _ => some l) (fun k => ?_) ⟨0, fun _ _ => rfl⟩
      simp only [impl_putBytes.j0]
      rfl
    · have h1 : n > m := by omega
      simp only [if_neg h0, decide_eq_true h1]
      refine Ev.step (f := fun _ => some l) (fun k => ?_) ⟨0, fun _ _ => rfl⟩
      simp only [impl_putBytes.j0]
      rfl
theorem put2_le (l : List Int) (n : Int) : (put2 l n).length ≤ l.length + 2 := by
  unfold put2
  split
  · simp [be2]
  · omega
theorem put4_le (l : List Int) (n : Int) : (put4 l n).length ≤ l.length + 4 := by
  unfold put4
  split
  · simp [be4]
  · omega

end Go.Proofs.YtmcldfjfgmhklaaDoor.Lem
