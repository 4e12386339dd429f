/- More of this session's own plain words, on bytes and strings, for the pure statements. No condition. -/
import Derived.Test.YtdigilidomimdaaDoorX
namespace Go.Proofs.YtdigilidomimdaaDoor.Y
set_option linter.unusedVariables false
set_option linter.unusedSimpArgs false
open Go.RowKit Go.Proofs.YtdigilidomimdaaDoor.X Go.Proofs.YtdigilidomimdaaDoorW.PrintWords

theorem bytesOf_strOfNums {l : List Int} (h : Bytes l) : bytesOf (strOfNums l) = l := by
  unfold bytesOf strOfNums
  simp only [List.map_map]
  rw [show (List.map ((fun b : UInt8 => (b.toNat : Int)) ∘ fun n : Int => UInt8.ofNat n.toNat) l) = l.map id from List.map_congr_left fun x hx => ?_, List.map_id]
  have := h x hx
  simp only [Function.comp, id]
  have e : (UInt8.ofNat x.toNat).toNat = x.toNat := by
    rw [UInt8.toNat_ofNat']
    omega
  rw [e]
  omega
theorem strOfNums_bytesOf (s : ByteArray) : strOfNums (bytesOf s) = s := by
  apply ByteArray.ext
  unfold bytesOf strOfNums
  simp only [List.map_map]
  have e : s.data.toList.map ((fun n : Int => UInt8.ofNat n.toNat) ∘ fun b : UInt8 => (b.toNat : Int)) = s.data.toList.map id := by
    refine List.map_congr_left fun x _ => ?_
    simp
  rw [e, List.map_id, Array.toArray_toList]
theorem bytes_map_foldB {l : List Int} (h : Bytes l) : Bytes (l.map foldB) := by
  intro x hx
  obtain ⟨y, hy, rfl⟩ := List.mem_map.1 hx
  have := h y hy
  unfold foldB
  split <;> omega
theorem toList_inj {a b : ByteArray} : a.toList = b.toList ↔ a = b := by
  constructor
  · intro h
    rw [ByteArray.toList_eq, ByteArray.toList_eq] at h
    exact ByteArray.ext (Array.toList_inj.1 h)
  · rintro rfl
    rfl

/-- The decimal digits of a number, as bytes; none for 0. -/
def decZ (n : Nat) : List Int := if h : n = 0 then [] else decZ (n / 10) ++ [48 + ((n % 10 : Nat) : Int)]
termination_by n
decreasing_by omega
theorem decZ_zero : decZ 0 = [] := by rw [decZ]; rfl
theorem decZ_pos (n : Nat) (h : n ≠ 0) : decZ n = decZ (n / 10) ++ [48 + ((n % 10 : Nat) : Int)] := by rw [decZ, dif_neg h]
/-- The decimal digits of a number, as bytes. -/
def decN (n : Nat) : List Int := decZ (n / 10) ++ [48 + ((n % 10 : Nat) : Int)]
theorem decN_pos (n : Nat) (h : n ≠ 0) : decN n = decZ n := (decZ_pos n h).symm
theorem decN_small (n : Nat) (h : n < 10) : decN n = [48 + (n : Int)] := by
  unfold decN
  rw [show n / 10 = 0 by omega, decZ_zero, show n % 10 = n by omega]
  rfl
theorem decN_step (n : Nat) (h : 10 ≤ n) : decN n = decN (n / 10) ++ [48 + ((n % 10 : Nat) : Int)] := by
  rw [decN, decN_pos (n / 10) (by omega)]
theorem decZ_length : ∀ (k n : Nat), n < 10 ^ k → (decZ n).length ≤ k
  | 0, n, h => by
    have : n = 0 := by simpa using h
    subst this
    rw [decZ_zero]
    simp
  | k + 1, n, h => by
    by_cases hz : n = 0
    · subst hz
      rw [decZ_zero]
      simp
    · rw [decZ_pos n hz, List.length_append]
      have := decZ_length k (n / 10) (by rw [Nat.pow_succ] at h; omega)
      simp
      omega
theorem decZ_le (n : Nat) (h : n ≤ 9223372036854775808) : (decZ n).length ≤ 20 := by
  have e : (10 : Nat) ^ 20 = 100000000000000000000 := by decide
  exact decZ_length 20 n (by rw [e]; omega)
theorem decN_le (n : Nat) (h : n ≤ 9223372036854775808) : (decN n).length ≤ 21 := by
  have := decZ_le (n / 10) (by omega)
  unfold decN
  rw [List.length_append]
  simp
  omega
/-- The decimal representation of an integer, as bytes. -/
def numL (n : Int) : List Int := if n < 0 then 45 :: decN n.natAbs else decN n.natAbs
def numText (n : Int) : ByteArray := strOfNums (numL n)
theorem numL_le (n : Int) (h : -9223372036854775808 ≤ n ∧ n ≤ 9223372036854775807) : (numL n).length ≤ 22 := by
  have := decN_le n.natAbs (by omega)
  unfold numL
  split
  · rw [List.length_cons]; omega
  · omega
theorem tdiv_pos (m : Nat) : Int.tdiv (m : Int) 10 = ((m / 10 : Nat) : Int) := (Int.ofNat_tdiv m 10).symm
theorem tmod_pos (m : Nat) : Int.tmod (m : Int) 10 = ((m % 10 : Nat) : Int) := (Int.ofNat_tmod m 10).symm
theorem tdiv_neg (m : Nat) : Int.tdiv (-(m : Int)) 10 = -((m / 10 : Nat) : Int) := by rw [Int.neg_tdiv, tdiv_pos]
theorem tmod_neg (m : Nat) : Int.tmod (-(m : Int)) 10 = -((m % 10 : Nat) : Int) := by rw [Int.neg_tmod, tmod_pos]
theorem natAbs_neg_cast (m : Nat) : (-(m : Int)).natAbs = m := by omega

end Go.Proofs.YtdigilidomimdaaDoor.Y
