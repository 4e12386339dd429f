/- Lemmas on the printed functions, of this session. -/
import Derived.Test.YtbnkjjmdmohjmaaX
import Derived.Test.YtbnkjjmdmohjmaaPrx2
namespace Go.Proofs.Ytbnkjjmdmohjmaa.Lem
open Go.RowKit Go.Proofs.Ytbnkjjmdmohjmaa.Pr Go.Proofs.Ytbnkjjmdmohjmaa.X Go.Proofs.YtbnkjjmdmohjmaaW.PrintWords Go.Proofs.YtbnkjjmdmohjmaaW.PrintLast Go.Proofs.YtbnkjjmdmohjmaaW.PrintMore
set_option linter.unusedVariables false
set_option linter.unusedSimpArgs false
/-- The decimal digits of a number, as bytes; none for 0. -/
def decZ (n : Nat) : List Int := if h : n = 0 then [] else decZ (n / 10) ++ [48 + ((n % 10 : Nat) : Int)]
termination_by n
decreasing_by omega
theorem decZ_zero : decZ 0 = [] := by rw [decZ]; rfl
theorem decZ_pos (n : Nat) (h : n ≠ 0) : decZ n = decZ (n / 10) ++ [48 + ((n % 10 : Nat) : Int)] := by rw [decZ, dif_neg h]
/-- The decimal digits of a number, as bytes. -/
def decN (n : Nat) : List Int := decZ (n / 10) ++ [48 + ((n % 10 : Nat) : Int)]
theorem decN_pos (n : Nat) (h : n ≠ 0) : decN n = decZ n := (decZ_pos n h).symm
theorem decN_small (n : Nat) (h : n < 10) : decN n = [48 + (n : Int)] := by
  unfold decN
  rw [show n / 10 = 0 by omega, decZ_zero, show n % 10 = n by omega]
  rfl
theorem decN_step (n : Nat) (h : 10 ≤ n) : decN n = decN (n / 10) ++ [48 + ((n % 10 : Nat) : Int)] := by
  rw [decN, decN_pos (n / 10) (by omega)]
theorem decZ_length : ∀ (k n : Nat), n < 10 ^ k → (decZ n).length ≤ k
  | 0, n, h => by
    have : n = 0 := by simpa using h
    subst this
    rw [decZ_zero]
    simp
  | k + 1, n, h => by
    by_cases hz : n = 0
    · subst hz
      rw [decZ_zero]
      simp
    · rw [decZ_pos n hz, List.length_append]
      have := decZ_length k (n / 10) (by rw [Nat.pow_succ] at h; omega)
      simp
      omega
theorem decZ_le (n : Nat) (h : n ≤ 9223372036854775808) : (decZ n).length ≤ 20 := by
  have e : (10 : Nat) ^ 20 = 100000000000000000000 := by decide
  exact decZ_length 20 n (by rw [e]; omega)
theorem decN_le (n : Nat) (h : n ≤ 9223372036854775808) : (decN n).length ≤ 21 := by
  have := decZ_le (n / 10) (by omega)
  unfold decN
  rw [List.length_append]
  simp
  omega
/-- The decimal representation of an integer, as bytes. -/
def numL (n : Int) : List Int := if n < 0 then 45 :: decN n.natAbs else decN n.natAbs
def numText (n : Int) : ByteArray := strOfNums (numL n)
theorem numL_le (n : Int) (h : -9223372036854775808 ≤ n ∧ n ≤ 9223372036854775807) : (numL n).length ≤ 22 := by
  have := decN_le n.natAbs (by omega)
  unfold numL
  split
  · rw [List.length_cons]; omega
  · omega
theorem tdiv_pos (m : Nat) : Int.tdiv (m : Int) 10 = ((m / 10 : Nat) : Int) := (Int.ofNat_tdiv m 10).symm
theorem tmod_pos (m : Nat) : Int.tmod (m : Int) 10 = ((m % 10 : Nat) : Int) := (Int.ofNat_tmod m 10).symm
theorem tdiv_neg (m : Nat) : Int.tdiv (-(m : Int)) 10 = -((m / 10 : Nat) : Int) := by rw [Int.neg_tdiv, tdiv_pos]
theorem tmod_neg (m : Nat) : Int.tmod (-(m : Int)) 10 = -((m % 10 : Nat) : Int) := by rw [Int.neg_tmod, tmod_pos]
theorem natAbs_neg_cast (m : Nat) : (-(m : Int)).natAbs = m := by omega

theorem spec_NumText_pos (x0 : Int) (hx : ¬ x0 < 0) : ∀ (m : Nat) (s : List Int), m ≤ 9223372036854775808 → (decZ m).length + s.length ≤ 100 →
    m ≤ 9223372036854775807 → Ev (fun k => spec_NumText.l0 k x0 (strOfNums s) (m : Int)) (strOfNums (decZ m ++ s)) := by
  intro m
  induction m using Nat.strongRecOn with
  | _ m ih =>
    intro s hm hl hm2
    by_cases hz : m = 0
    · subst hz
      refine Ev.step (f := fun _ => some (strOfNums s)) (fun k => ?_) ⟨0, fun _ _ => by rw [decZ_zero, List.nil_append]⟩
      simp only [spec_NumText.l0]
      rw [if_pos (by simp), if_neg hx]
    · have hd := decZ_pos m hz
      have hl2 : (decZ m).length = (decZ (m / 10)).length + 1 := by rw [hd, List.length_append]; rfl
      have := ih (m / 10) (by omega) ((48 + ((m % 10 : Nat) : Int)) :: s) (by omega) (by rw [List.length_cons]; omega) (by omega)
      have e : decZ (m / 10) ++ (48 + ((m % 10 : Nat) : Int)) :: s = decZ m ++ s := by rw [hd, List.append_assoc]; rfl
      rw [e] at this
      refine Ev.step (f := fun k => spec_NumText.l0 k x0 (strOfNums ((48 + ((m % 10 : Nat) : Int)) :: s)) ((m / 10 : Nat) : Int)) (fun k => ?_) this
      simp only [spec_NumText.l0]
      rw [if_neg (by omega), tmod_pos, tdiv_pos, if_neg (by omega)]
      have w1 : wrap64 (48 + ((m % 10 : Nat) : Int)) % 256 = 48 + ((m % 10 : Nat) : Int) := by rw [wrap_id (by omega) (by omega)]; omega
      have w2 : wrap64 ((m / 10 : Nat) : Int) = ((m / 10 : Nat) : Int) := wrap_id (by omega) (by omega)
      rw [w1, w2]
      simp only [Option.bind_some]
      rw [if_pos (by rw [strOfNums_size, strOfNums_size]; simp; omega), ← strOfNums_append]
      rfl
theorem spec_NumText_neg (x0 : Int) (hx : x0 < 0) : ∀ (m : Nat) (s : List Int), m ≤ 9223372036854775808 → (decZ m).length + s.length ≤ 100 →
    Ev (fun k => spec_NumText.l0 k x0 (strOfNums s) (-(m : Int))) (strOfNums (45 :: (decZ m ++ s))) := by
  intro m
  induction m using Nat.strongRecOn with
  | _ m ih =>
    intro s hm hl
    by_cases hz : m = 0
    · subst hz
      refine Ev.step (f := fun _ => some (strOfNums (45 :: s))) (fun k => ?_) ⟨0, fun _ _ => by rw [decZ_zero, List.nil_append]⟩
      simp only [spec_NumText.l0]
      rw [if_pos (by simp), if_pos hx, if_pos (by rw [strOfNums_size]; omega)]
      rw [show (45 :: s) = [45] ++ s from rfl, strOfNums_append]
      rfl
    · have hd := decZ_pos m hz
      have hl2 : (decZ m).length = (decZ (m / 10)).length + 1 := by rw [hd, List.length_append]; rfl
      have := ih (m / 10) (by omega) ((48 + ((m % 10 : Nat) : Int)) :: s) (by omega) (by rw [List.length_cons]; omega)
      have e : decZ (m / 10) ++ (48 + ((m % 10 : Nat) : Int)) :: s = decZ m ++ s := by rw [hd, List.append_assoc]; rfl
      rw [e] at this
      refine Ev.step (f := fun k => spec_NumText.l0 k x0 (strOfNums ((48 + ((m % 10 : Nat) : Int)) :: s)) (-((m / 10 : Nat) : Int))) (fun k => ?_) this
      simp only [spec_NumText.l0]
      rw [if_neg (by omega), tmod_neg, tdiv_neg]
      have w2 : wrap64 (-((m / 10 : Nat) : Int)) = -((m / 10 : Nat) : Int) := wrap_id (by omega) (by omega)
      have w3 : wrap64 (-(-((m % 10 : Nat) : Int))) = ((m % 10 : Nat) : Int) := by rw [Int.neg_neg]; exact wrap_id (by omega) (by omega)
      have w1 : wrap64 (48 + ((m % 10 : Nat) : Int)) % 256 = 48 + ((m % 10 : Nat) : Int) := by rw [wrap_id (by omega) (by omega)]; omega
      rw [w2, w3, w1]
      by_cases hn : -((m % 10 : Nat) : Int) < 0
      · rw [if_pos hn]
        simp only [Option.bind_some]
        rw [if_pos (by rw [strOfNums_size, strOfNums_size]; simp; omega), ← strOfNums_append]
        rfl
      · rw [if_neg hn]
        have hz : ((m % 10 : Nat) : Int) = 0 := by omega
        rw [hz]
        have w4 : wrap64 (48 + (-0 : Int)) % 256 = 48 + 0 := by unfold wrap64; omega
        rw [w4]
        simp only [Option.bind_some]
        rw [if_pos (by rw [strOfNums_size, strOfNums_size]; simp; omega), ← strOfNums_append]
        rfl
theorem spec_NumText_eq (n : Int) (h : -9223372036854775808 ≤ n ∧ n ≤ 9223372036854775807) : Ev (fun k => spec_NumText.f k n) (numText n) := by
  unfold spec_NumText.f numText numL
  by_cases hz : n = 0
  · subst hz
    simp only [if_true]
    rw [if_neg (by decide)]
    refine ⟨0, fun _ _ => ?_⟩
    rw [show (0 : Int).natAbs = 0 from rfl, decN_small 0 (by decide)]
    rfl
  · simp only [if_neg hz]
    by_cases hn : n < 0
    · rw [if_pos hn, decN_pos _ (by omega)]
      have := spec_NumText_neg n hn n.natAbs [] (by omega) (by have := decZ_le n.natAbs (by omega); simp; omega)
      rw [show (-(n.natAbs : Int)) = n by omega, List.append_nil] at this
      exact this
    · rw [if_neg hn, decN_pos _ (by omega)]
      have := spec_NumText_pos n hn n.natAbs [] (by omega) (by have := decZ_le n.natAbs (by omega); simp; omega) (by omega)
      rw [show ((n.natAbs : Int)) = n by omega, List.append_nil] at this
      exact this

end Go.Proofs.Ytbnkjjmdmohjmaa.Lem
