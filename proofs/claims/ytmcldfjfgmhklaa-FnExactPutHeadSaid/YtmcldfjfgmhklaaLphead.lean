/- Lemmas on the printed functions, of this session. -/
import Derived.Test.YtmcldfjfgmhklaaY
import Derived.Test.YtmcldfjfgmhklaaLput
import Derived.Test.YtmcldfjfgmhklaaPrx0
import Derived.Test.YtmcldfjfgmhklaaPrx7
import Derived.Test.YtmcldfjfgmhklaaPrx8
namespace Go.Proofs.Ytmcldfjfgmhklaa.Lem
open Go.RowKit Go.Proofs.Ytmcldfjfgmhklaa.Pr Go.Proofs.Ytmcldfjfgmhklaa.X Go.Proofs.Ytmcldfjfgmhklaa.Y Go.Proofs.YtmcldfjfgmhklaaW.PrintWords Go.Proofs.YtmcldfjfgmhklaaW.PrintLast Go.Proofs.YtmcldfjfgmhklaaW.PrintMore
set_option linter.unusedVariables false
set_option linter.unusedSimpArgs false
/-- A flag's bit. -/
def fl (b : Bool) (c : Int) : Int := if b = true then c else 0
theorem spec_flag_eq (b : Bool) (c : Int) : spec_l8Flag.f b c = some (fl b c) := by
  unfold spec_l8Flag.f fl
  split <;> rfl
theorem impl_flag_eq (b : Bool) (c : Int) : impl_bit.f b c = some (fl b c) := by
  unfold impl_bit.f fl
  split <;> rfl
/-- The two bytes of flags. -/
def flags (a1 a2 a3 a4 a5 : Bool) (a6 : Int) : List Int := [(wrap64 ((wrap64 ((wrap64 (fl a1 128 + fl a2 4)) + fl a3 2)) + fl a4 1)) % 256, (wrap64 (fl a5 128 + (Go.bits .and .i64 a6 15))) % 256]
theorem flags_length (a1 a2 a3 a4 a5 : Bool) (a6 : Int) : (flags a1 a2 a3 a4 a5 a6).length = 2 := rfl
/-- What PutHead writes. -/
def hdr (a0 : Int) (a1 a2 a3 a4 a5 : Bool) (a6 : Int) (n9 n10 n11 : Nat) : List Int := put2 (put2 (put2 (put2 (put2 [] a0 ++ flags a1 a2 a3 a4 a5 a6) 1) n9) n10) n11
theorem hdr_lens (a0 : Int) (a1 a2 a3 a4 a5 : Bool) (a6 : Int) (n9 n10 n11 : Nat) :
    (put2 [] a0).length ≤ 2 ∧ (put2 [] a0 ++ flags a1 a2 a3 a4 a5 a6).length ≤ 4 ∧ (put2 (put2 [] a0 ++ flags a1 a2 a3 a4 a5 a6) 1).length ≤ 6 ∧ (put2 (put2 (put2 [] a0 ++ flags a1 a2 a3 a4 a5 a6) 1) n9).length ≤ 8 ∧ (put2 (put2 (put2 (put2 [] a0 ++ flags a1 a2 a3 a4 a5 a6) 1) n9) n10).length ≤ 10 ∧ (hdr a0 a1 a2 a3 a4 a5 a6 n9 n10 n11).length ≤ 12 := by
  have h0 := put2_le [] a0
  rw [List.length_nil] at h0
  have h1 : (put2 [] a0 ++ flags a1 a2 a3 a4 a5 a6).length = (put2 [] a0).length + 2 := by rw [List.length_append, flags_length]
  have h2 := put2_le (put2 [] a0 ++ flags a1 a2 a3 a4 a5 a6) 1
  have h3 := put2_le (put2 (put2 [] a0 ++ flags a1 a2 a3 a4 a5 a6) 1) n9
  have h4 := put2_le (put2 (put2 (put2 [] a0 ++ flags a1 a2 a3 a4 a5 a6) 1) n9) n10
  have h5 := put2_le (put2 (put2 (put2 (put2 [] a0 ++ flags a1 a2 a3 a4 a5 a6) 1) n9) n10) n11
  unfold hdr
  omega
theorem spec_PutHead_eq (a0 : Int) (a1 a2 a3 a4 a5 : Bool) (a6 : Int) (a7 : ByteArray) (a8 : Int) (l9 l10 l11 : List S52) :
    spec_PutHead.f a0 a1 a2 a3 a4 a5 a6 a7 a8 l9 l10 l11 = some (hdr a0 a1 a2 a3 a4 a5 a6 l9.length l10.length l11.length) := by
  obtain ⟨h0, h1, h2, h3, h4, _⟩ := hdr_lens a0 a1 a2 a3 a4 a5 a6 l9.length l10.length l11.length
  unfold spec_PutHead.f
  rw [spec_Put2_eq [] (by decide) a0, Option.bind_some]
  simp only [spec_flag_eq, Option.bind_some]
  rw [← flags]
  rw [if_pos (by rw [flags_length]; omega), spec_Put2_eq _ (by omega), Option.bind_some, spec_Put2_eq _ (by omega), Option.bind_some, spec_Put2_eq _ (by omega), Option.bind_some, spec_Put2_eq _ (by omega), Option.bind_some]
  rfl
theorem impl_PutHead_loop (l9 l10 l11 : List S52) (x : List Int) (hx : x.length ≤ 1000) : Ev (fun k => impl_PutHead.l0 k x [l9, l10, l11] 3 0) (put2 (put2 (put2 x l9.length) l10.length) l11.length) := by
  have h3 := put2_le x l9.length
  have h4 := put2_le (put2 x l9.length) l10.length
  refine Ev.step (f := fun k => (impl_Put2.f k x (l9.length : Int)).bind fun t => impl_PutHead.l0 k t [l9, l10, l11] 3 1) (fun k => ?_) ?_
  · simp only [impl_PutHead.l0]
    rw [if_pos (by decide), if_pos (by decide), if_pos (show (0 : Int) < (([l9, l10, l11] : List (List S52)).length : Int) by simp), show wrap64 ((0 : Int) + 1) = 1 from wrap_id (by decide) (by decide)]
    rfl
  refine Ev.bind (impl_Put2_eq x (by omega) _) ?_
  refine Ev.step (f := fun k => (impl_Put2.f k (put2 x l9.length) (l10.length : Int)).bind fun t => impl_PutHead.l0 k t [l9, l10, l11] 3 2) (fun k => ?_) ?_
  · simp only [impl_PutHead.l0]
    rw [if_pos (by decide), if_pos (by decide), if_pos (show (1 : Int) < (([l9, l10, l11] : List (List S52)).length : Int) by simp), show wrap64 ((1 : Int) + 1) = 2 from wrap_id (by decide) (by decide)]
    rfl
  refine Ev.bind (impl_Put2_eq _ (by omega) _) ?_
  refine Ev.step (f := fun k => (impl_Put2.f k (put2 (put2 x l9.length) l10.length) (l11.length : Int)).bind fun t => impl_PutHead.l0 k t [l9, l10, l11] 3 3) (fun k => ?_) ?_
  · simp only [impl_PutHead.l0]
    rw [if_pos (by decide), if_pos (by decide), if_pos (show (2 : Int) < (([l9, l10, l11] : List (List S52)).length : Int) by simp), show wrap64 ((2 : Int) + 1) = 3 from wrap_id (by decide) (by decide)]
    rfl
  refine Ev.bind (impl_Put2_eq _ (by omega) _) ?_
  refine Ev.step (f := fun _ => some (put2 (put2 (put2 x l9.length) l10.length) l11.length)) (fun k => ?_) ⟨0, fun _ _ => rfl⟩
  simp only [impl_PutHead.l0]
  rw [if_neg (by decide)]
theorem impl_PutHead_eq (a0 : Int) (a1 a2 a3 a4 a5 : Bool) (a6 : Int) (a7 : ByteArray) (a8 : Int) (l9 l10 l11 : List S52) :
    Ev (fun k => impl_PutHead.f k a0 a1 a2 a3 a4 a5 a6 a7 a8 l9 l10 l11) (hdr a0 a1 a2 a3 a4 a5 a6 l9.length l10.length l11.length) := by
  obtain ⟨h0, h1, h2, h3, h4, _⟩ := hdr_lens a0 a1 a2 a3 a4 a5 a6 l9.length l10.length l11.length
  unfold impl_PutHead.f
  refine Ev.bind (impl_Put2_eq [] (by decide) a0) ?_
  simp only [impl_flag_eq, Option.bind_some]
  have c : (put2 [] a0).length + (flags a1 a2 a3 a4 a5 a6).length < 140737488355328 := by rw [flags_length]; omega
  unfold flags at c
  simp only [if_pos c]
  refine Ev.bind (impl_Put2_eq (put2 [] a0 ++ flags a1 a2 a3 a4 a5 a6) (by omega) 1) ?_
  exact impl_PutHead_loop l9 l10 l11 _ (by omega)

end Go.Proofs.Ytmcldfjfgmhklaa.Lem
