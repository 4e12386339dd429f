/- Lemmas on the printed functions, of this session. -/
import Derived.Test.YtbnkjjmdmohjmaaX
import Derived.Test.YtbnkjjmdmohjmaaLget2
import Derived.Test.YtbnkjjmdmohjmaaPrx2
namespace Go.Proofs.Ytbnkjjmdmohjmaa.Lem
open Go.RowKit Go.Proofs.Ytbnkjjmdmohjmaa.Pr Go.Proofs.Ytbnkjjmdmohjmaa.X Go.Proofs.YtbnkjjmdmohjmaaW.PrintWords Go.Proofs.YtbnkjjmdmohjmaaW.PrintLast Go.Proofs.YtbnkjjmdmohjmaaW.PrintMore
set_option linter.unusedVariables false
set_option linter.unusedSimpArgs false
/-- What Get4 returns: the four bytes at an offset, if they are there and the number is no greater than MaxFour. -/
def get4 (l : List Int) (i : Int) : Int × Bool :=
  if 0 ≤ i ∧ i ≤ (l.length : Int) - 4 then
    (if 16777216 * rd l i + 65536 * rd l (i + 1) + 256 * rd l (i + 2) + rd l (i + 3) > 2147483647 then (0, false)
     else (16777216 * rd l i + 65536 * rd l (i + 1) + 256 * rd l (i + 2) + rd l (i + 3), true)) else (0, false)
theorem spec_Get4_eq (l : List Int) (hn : l.length ≤ 140737488351232) (hb : Bytes l) (i : Int) (hi : -9223372036854775808 ≤ i ∧ i ≤ 9223372036854775807) : Ev (fun k => spec_Get4.f k l i) (get4 l i) := by
  unfold spec_Get4.f get4
  have hw : wrap64 ((l.length : Int) - 4) = (l.length : Int) - 4 := wrap_id (by omega) (by omega)
  rw [hw]
  by_cases h : 0 ≤ i ∧ i ≤ (l.length : Int) - 4
  · have h0 : ¬ i < 0 := by omega
    have h1 : ¬ i > (l.length : Int) - 4 := by omega
    simp only [if_neg h0, decide_eq_false h1, if_pos h]
    have b0 := rd_byte hb i
    have b1 := rd_byte hb (i + 1)
    have b2 := rd_byte hb (i + 2)
    have b3 := rd_byte hb (i + 3)
    have v1 : wrap64 (i + 1) = i + 1 := wrap_id (by omega) (by omega)
    have v2 : wrap64 (i + 2) = i + 2 := wrap_id (by omega) (by omega)
    have v3 : wrap64 (i + 3) = i + 3 := wrap_id (by omega) (by omega)
    have w0 : wrap64 (rd l i) = rd l i := wrap_id (by omega) (by omega)
    have w1 : wrap64 (rd l (i + 1)) = rd l (i + 1) := wrap_id (by omega) (by omega)
    have w2 : wrap64 (rd l (i + 2)) = rd l (i + 2) := wrap_id (by omega) (by omega)
    have w3 : wrap64 (rd l (i + 3)) = rd l (i + 3) := wrap_id (by omega) (by omega)
    have u0 : wrap64 (rd l i * 16777216) = rd l i * 16777216 := wrap_id (by omega) (by omega)
    have u1 : wrap64 (rd l (i + 1) * 65536) = rd l (i + 1) * 65536 := wrap_id (by omega) (by omega)
    have u2 : wrap64 (rd l (i + 2) * 256) = rd l (i + 2) * 256 := wrap_id (by omega) (by omega)
    have s1 : Go.bits .or .i64 (rd l i * 16777216) (rd l (i + 1) * 65536) = rd l i * 16777216 + rd l (i + 1) * 65536 := bits_or64 24 _ _ (by omega) (by omega) (by omega) (by omega) (by omega) (by omega)
    have s2 : Go.bits .or .i64 (rd l i * 16777216 + rd l (i + 1) * 65536) (rd l (i + 2) * 256) = rd l i * 16777216 + rd l (i + 1) * 65536 + rd l (i + 2) * 256 := bits_or64 16 _ _ (by omega) (by omega) (by omega) (by omega) (by omega) (by omega)
    have s3 : Go.bits .or .i64 (rd l i * 16777216 + rd l (i + 1) * 65536 + rd l (i + 2) * 256) (rd l (i + 3)) = rd l i * 16777216 + rd l (i + 1) * 65536 + rd l (i + 2) * 256 + rd l (i + 3) := bits_or64 8 _ _ (by omega) (by omega) (by omega) (by omega) (by omega) (by omega)
    have e : rd l i * 16777216 + rd l (i + 1) * 65536 + rd l (i + 2) * 256 + rd l (i + 3) = 16777216 * rd l i + 65536 * rd l (i + 1) + 256 * rd l (i + 2) + rd l (i + 3) := by omega
    refine Ev.step (f := fun _ => if 16777216 * rd l i + 65536 * rd l (i + 1) + 256 * rd l (i + 2) + rd l (i + 3) > 2147483647 then some (0, false) else some (16777216 * rd l i + 65536 * rd l (i + 1) + 256 * rd l (i + 2) + rd l (i + 3), true)) (fun k => ?_) ⟨0, fun _ _ => by split <;> rfl⟩
    simp only [spec_Get4.j0]
    rw [if_neg (by decide), v1, v2, v3, if_pos h.1, if_pos (by omega), if_pos (by omega), if_pos (by omega), if_pos (by omega), if_pos (by omega), if_pos (by omega), if_pos (by omega),
      w0, w1, w2, w3, u0, u1, u2, s1, s2, s3, e]
  · rw [if_neg h]
    by_cases h0 : i < 0
    · simp only [if_pos h0]
      refine Ev.step (f := fun _ => some (0, false)) (fun k => ?_) ⟨0, fun _ _ => rfl⟩
      simp only [spec_Get4.j0]
      rfl
    · have h1 : i > (l.length : Int) - 4 := by omega
      simp only [if_neg h0, decide_eq_true h1]
      refine Ev.step (f := fun _ => some (0, false)) (fun k => ?_) ⟨0, fun _ _ => rfl⟩
      simp only [spec_Get4.j0]
      rfl
theorem take4 (l : List Int) (i : Int) (h0 : 0 ≤ i) (h1 : i ≤ (l.length : Int) - 4) : (l.drop i.toNat).take 4 = [rd l i, rd l (i + 1), rd l (i + 2), rd l (i + 3)] := by
  obtain ⟨n, rfl⟩ := Int.eq_ofNat_of_zero_le h0
  have e1 : ((n : Int) + 1) = ((n + 1 : Nat) : Int) := by omega
  have e2 : ((n : Int) + 2) = ((n + 1 + 1 : Nat) : Int) := by omega
  have e3 : ((n : Int) + 3) = ((n + 1 + 1 + 1 : Nat) : Int) := by omega
  rw [e1, e2, e3, Int.toNat_natCast, rd_drop l n (by omega), rd_drop l (n + 1) (by omega), rd_drop l (n + 1 + 1) (by omega), rd_drop l (n + 1 + 1 + 1) (by omega)]
  rfl
theorem impl_Get4_eq (l : List Int) (hn : l.length ≤ 140737488351232) (hb : Bytes l) (i : Int) (hi : -9223372036854775808 ≤ i ∧ i ≤ 9223372036854775807) : Ev (fun k => impl_Get4.f k l i) (get4 l i) := by
  unfold impl_Get4.f
  refine Ev.bind (a := get4 l i) ?_ ⟨0, fun _ _ => rfl⟩
  have := getBytes_eq l hn hb i hi 4 (by decide) 2147483647
  unfold get4
  by_cases h : 0 ≤ i ∧ i ≤ (l.length : Int) - 4
  · rw [if_pos h]
    rw [if_pos (by exact h), take4 l i h.1 h.2] at this
    have e : numOf 0 [rd l i, rd l (i + 1), rd l (i + 2), rd l (i + 3)] = 16777216 * rd l i + 65536 * rd l (i + 1) + 256 * rd l (i + 2) + rd l (i + 3) := by
      simp only [numOf]
      omega
    rw [e] at this
    exact this
  · rw [if_neg h]
    rw [if_neg (by exact h)] at this
    exact this

end Go.Proofs.Ytbnkjjmdmohjmaa.Lem
