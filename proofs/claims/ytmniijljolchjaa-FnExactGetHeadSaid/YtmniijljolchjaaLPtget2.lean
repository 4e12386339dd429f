/- Lemmas on the printed functions, of this session. -/
import Derived.Test.YtmniijljolchjaaY
import Derived.Test.YtmniijljolchjaaPtx0
import Derived.Test.YtmniijljolchjaaPtx5
import Derived.Test.YtmniijljolchjaaPtx7
namespace Go.Proofs.Ytmniijljolchjaa.Lem
open Go.RowKit Go.Proofs.Ytmniijljolchjaa.Pt Go.Proofs.Ytmniijljolchjaa.X Go.Proofs.Ytmniijljolchjaa.Y Go.Proofs.YtmniijljolchjaaW.PrintWords Go.Proofs.YtmniijljolchjaaW.PrintLast Go.Proofs.YtmniijljolchjaaW.PrintMore
set_option linter.unusedVariables false
set_option linter.unusedSimpArgs false
theorem getBytes_loop (l : List Int) (m : Int) (hl : l.length ≤ 4) (hb : Bytes l) : ∀ (d i : Nat) (n : Int), i + d = l.length → 0 ≤ n → n < 256 ^ i →
    Ev (fun k => impl_getBytes.l0 k m n l (l.length : Int) (i : Int)) (if numOf n (l.drop i) > m then (0, false) else (numOf n (l.drop i), true)) := by
  intro d
  induction d with
  | zero =>
    intro i n hi h0 h1
    refine Ev.step (f := fun _ => if n > m then some (0, false) else some (n, true)) (fun k => ?_) ⟨0, fun _ _ => ?_⟩
    · simp only [impl_getBytes.l0]
      rw [if_neg (by omega)]
    · rw [List.drop_of_length_le (by omega)]
      unfold numOf
      split <;> rfl
  | succ d ih =>
    intro i n hi h0 h1
    have hd := rd_drop l i (by omega)
    have hm := rd_byte hb (i : Int)
    have hi4 : i ≤ 3 := by omega
    have hp : (256 : Int) ^ i ≤ 16777216 := by
      have : i = 0 ∨ i = 1 ∨ i = 2 ∨ i = 3 := by omega
      rcases this with rfl | rfl | rfl | rfl <;> decide
    have hps : (256 : Int) ^ (i + 1) = 256 ^ i * 256 := by rw [Int.pow_succ]
    have w1 : wrap64 (256 * n) = 256 * n := wrap_id (by omega) (by omega)
    have w2 : wrap64 (rd l i) = rd l i := wrap_id (by omega) (by omega)
    have w3 : wrap64 (256 * n + rd l i) = 256 * n + rd l i := wrap_id (by omega) (by omega)
    have w4 : wrap64 ((i : Int) + 1) = ((i + 1 : Nat) : Int) := wrap_succ i 4 (by omega) (by decide)
    rw [hd]
    refine Ev.step (f := fun k => impl_getBytes.l0 k m (256 * n + rd l i) l (l.length : Int) ((i + 1 : Nat) : Int)) (fun k => ?_) (ih (i + 1) _ (by omega) (by omega) (by omega))
    simp only [impl_getBytes.l0]
    rw [if_pos (by omega), if_pos (by omega), if_pos (by omega), w1, w2, w3, w4]
/-- getBytes at an offset that fits, and at one that does not. -/
theorem getBytes_eq (l : List Int) (hn : l.length ≤ 140737488351232) (hb : Bytes l) (i : Int) (hi : -9223372036854775808 ≤ i ∧ i ≤ 9223372036854775807) (c : Nat) (hc : c ≤ 4) (m : Int) :
    Ev (fun k => impl_getBytes.f k l i c m) (if 0 ≤ i ∧ i ≤ (l.length : Int) - c then (if numOf 0 ((l.drop i.toNat).take c) > m then (0, false) else (numOf 0 ((l.drop i.toNat).take c), true)) else (0, false)) := by
  have hw : wrap64 ((l.length : Int) - c) = (l.length : Int) - c := wrap_id (by omega) (by omega)
  unfold impl_getBytes.f
  rw [hw]
  by_cases h : 0 ≤ i ∧ i ≤ (l.length : Int) - c
  · have h0 : ¬ i < 0 := by omega
    have h1 : ¬ i > (l.length : Int) - c := by omega
    simp only [if_neg h0, decide_eq_false h1, if_pos h]
    have w2 : wrap64 (i + c) = i + c := wrap_id (by omega) (by omega)
    have hq : ((l.take ((i + c : Int)).toNat).drop (i : Int).toNat) = (l.drop i.toNat).take c := by
      rw [List.drop_take]
      congr 1
      omega
    have hl : ((l.drop i.toNat).take c).length = c := by
      rw [List.length_take, List.length_drop]
      omega
    refine Ev.step (f := fun k => impl_getBytes.l0 k m 0 ((l.drop i.toNat).take c) (((l.drop i.toNat).take c).length : Int) 0) (fun k => ?_) ?_
    · simp only [impl_getBytes.j0]
      rw [if_neg (by decide), w2, if_pos h.1, if_pos (by omega), if_pos (by omega), hq]
      rfl
    · have := getBytes_loop ((l.drop i.toNat).take c) m (by omega) ((hb.drop _).take _) c 0 0 (by omega) (by omega) (by decide)
      simpa using this
  · rw [if_neg h]
    by_cases h0 : i < 0
    · simp only [if_pos h0]
      refine Ev.step (f := fun _ => some (0, false)) (fun k => ?_) ⟨0, fun _ _ => rfl⟩
      simp only [impl_getBytes.j0]
      rfl
    · have h1 : i > (l.length : Int) - c := by omega
      simp only [if_neg h0, decide_eq_true h1]
      refine Ev.step (f := fun _ => some (0, false)) (fun k => ?_) ⟨0, fun _ _ => rfl⟩
      simp only [impl_getBytes.j0]
      rfl
/-- What Get2 returns: the two bytes at an offset, if they are there. -/
def get2 (l : List Int) (i : Int) : Int × Bool := if 0 ≤ i ∧ i ≤ (l.length : Int) - 2 then (256 * rd l i + rd l (i + 1), true) else (0, false)
theorem spec_Get2_eq (l : List Int) (hn : l.length ≤ 140737488351232) (hb : Bytes l) (i : Int) (hi : -9223372036854775808 ≤ i ∧ i ≤ 9223372036854775807) : spec_Get2.f l i = some (get2 l i) := by
  unfold spec_Get2.f get2
  have hw : wrap64 ((l.length : Int) - 2) = (l.length : Int) - 2 := wrap_id (by omega) (by omega)
  rw [hw]
  by_cases h0 : i < 0
  · rw [if_pos h0, if_neg (by omega)]
  · rw [if_neg h0]
    by_cases h1 : i > (l.length : Int) - 2
    · rw [if_pos h1, if_neg (by omega)]
    · rw [if_neg h1, if_pos (show 0 ≤ i ∧ i ≤ (l.length : Int) - 2 by omega), if_pos (by omega), if_pos (by omega)]
      have w1 : wrap64 (i + 1) = i + 1 := wrap_id (by omega) (by omega)
      rw [w1, if_pos (by omega), if_pos (by omega)]
      have b0 := rd_byte hb i
      have b1 := rd_byte hb (i + 1)
      have w2 : wrap64 (rd l i) = rd l i := wrap_id (by omega) (by omega)
      have w3 : wrap64 (rd l (i + 1)) = rd l (i + 1) := wrap_id (by omega) (by omega)
      have w4 : wrap64 (rd l i * 256) = rd l i * 256 := wrap_id (by omega) (by omega)
      rw [w2, w3, w4, bits_or64 8 _ _ (by omega) (by omega) (by omega) b1.1 (by omega) (by omega), Int.mul_comm]
theorem take2 (l : List Int) (i : Int) (h0 : 0 ≤ i) (h1 : i ≤ (l.length : Int) - 2) : (l.drop i.toNat).take 2 = [rd l i, rd l (i + 1)] := by
  obtain ⟨n, rfl⟩ := Int.eq_ofNat_of_zero_le h0
  have e2 : ((n : Int) + 1) = ((n + 1 : Nat) : Int) := by omega
  rw [e2, Int.toNat_natCast, rd_drop l n (by omega), rd_drop l (n + 1) (by omega)]
  rfl
theorem impl_Get2_eq (l : List Int) (hn : l.length ≤ 140737488351232) (hb : Bytes l) (i : Int) (hi : -9223372036854775808 ≤ i ∧ i ≤ 9223372036854775807) : Ev (fun k => impl_Get2.f k l i) (get2 l i) := by
  unfold impl_Get2.f
  refine Ev.bind (a := get2 l i) ?_ ⟨0, fun _ _ => rfl⟩
  have := getBytes_eq l hn hb i hi 2 (by decide) 65535
  unfold get2
  by_cases h : 0 ≤ i ∧ i ≤ (l.length : Int) - 2
  · have b0 := rd_byte hb i
    have b1 := rd_byte hb (i + 1)
    rw [if_pos h]
    rw [if_pos (by exact h), take2 l i h.1 h.2] at this
    have e : numOf 0 [rd l i, rd l (i + 1)] = 256 * rd l i + rd l (i + 1) := by
      simp only [numOf]
      omega
    rw [e, if_neg (by omega)] at this
    exact this
  · rw [if_neg h]
    rw [if_neg (by exact h)] at this
    exact this

end Go.Proofs.Ytmniijljolchjaa.Lem
