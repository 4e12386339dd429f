/- Lemmas on the printed functions, of this session. -/
import Derived.Test.YtbnkjjmdmohjmaaX
import Derived.Test.YtbnkjjmdmohjmaaLnum
import Derived.Test.YtbnkjjmdmohjmaaPrx2
namespace Go.Proofs.Ytbnkjjmdmohjmaa.Lem
open Go.RowKit Go.Proofs.Ytbnkjjmdmohjmaa.Pr Go.Proofs.Ytbnkjjmdmohjmaa.X Go.Proofs.YtbnkjjmdmohjmaaW.PrintWords Go.Proofs.YtbnkjjmdmohjmaaW.PrintLast Go.Proofs.YtbnkjjmdmohjmaaW.PrintMore
set_option linter.unusedVariables false
set_option linter.unusedSimpArgs false
theorem impl_NumText_pos : ∀ (m : Nat), m ≤ 9223372036854775807 → Ev (fun k => impl_NumText.f k (m : Int)) (strOfNums (decN m)) := by
  intro m
  induction m using Nat.strongRecOn with
  | _ m ih =>
    intro hm
    refine Ev.step (f := fun k => impl_NumText.j0 k (m : Int) false) (fun k => ?_) ?_
    · simp only [impl_NumText.f]
      rw [if_neg (by omega)]
    · by_cases hs : m < 10
      · refine Ev.step (f := fun _ => some (strOfNums (decN m))) (fun k => ?_) ⟨0, fun _ _ => rfl⟩
        simp only [impl_NumText.j0]
        rw [if_neg (by decide), if_neg (by omega), if_pos (by omega), wrap_id (by omega) (by omega), wrap32_id (by omega) (by omega), encode_digit _ (by omega) (by omega), decN_small m hs]
      · have hq := ih (m / 10) (by omega) (by omega)
        refine Ev.step (f := fun k => (impl_NumText.f k ((m / 10 : Nat) : Int)).bind fun t => if t.size + (strOfNums [48 + ((m % 10 : Nat) : Int)]).size ≤ 9223372036854775807 then some (t ++ strOfNums [48 + ((m % 10 : Nat) : Int)]) else none) (fun k => ?_) (Ev.bind hq ?_)
        · simp only [impl_NumText.j0]
          rw [if_neg (by decide), if_neg (by omega), if_neg (by omega), tdiv_pos, tmod_pos, wrap_id (x := ((m / 10 : Nat) : Int)) (by omega) (by omega), wrap_id (x := 48 + ((m % 10 : Nat) : Int)) (by omega) (by omega), wrap32_id (by omega) (by omega), encode_digit _ (by omega) (by omega)]
        · refine ⟨0, fun _ _ => ?_⟩
          have := decN_le (m / 10) (by omega)
          rw [if_pos (by rw [strOfNums_size, strOfNums_size]; simp; omega), ← strOfNums_append, ← decN_step m (by omega)]
theorem impl_NumText_neg : ∀ (m : Nat), m ≠ 0 → m ≤ 9223372036854775808 → Ev (fun k => impl_NumText.f k (-(m : Int))) (strOfNums (45 :: decN m)) := by
  intro m
  induction m using Nat.strongRecOn with
  | _ m ih =>
    intro hz hm
    by_cases hs : m < 10
    · refine Ev.step (f := fun k => impl_NumText.j0 k (-(m : Int)) true) (fun k => ?_) ?_
      · simp only [impl_NumText.f]
        rw [if_pos (by omega)]
        have : -(m : Int) > -10 := by omega
        rw [decide_eq_true this]
      · refine Ev.step (f := fun k => (impl_NumText.f k (m : Int)).bind fun t => if 1 + t.size ≤ 9223372036854775807 then some ((⟨#[45]⟩ : ByteArray) ++ t) else none) (fun k => ?_) (Ev.bind (impl_NumText_pos m (by omega)) ?_)
        · simp only [impl_NumText.j0]
          rw [if_pos trivial, Int.neg_neg, wrap_id (by omega) (by omega)]
        · refine ⟨0, fun _ _ => ?_⟩
          have := decN_le m (by omega)
          rw [if_pos (by rw [strOfNums_size]; omega), show (45 :: decN m) = [45] ++ decN m from rfl, strOfNums_append]
          rfl
    · refine Ev.step (f := fun k => impl_NumText.j0 k (-(m : Int)) false) (fun k => ?_) ?_
      · simp only [impl_NumText.f]
        rw [if_pos (by omega)]
        have : ¬ -(m : Int) > -10 := by omega
        rw [decide_eq_false this]
      · refine Ev.step (f := fun k => (impl_NumText.f k (-((m / 10 : Nat) : Int))).bind fun t => (impl_NumText.f k ((m % 10 : Nat) : Int)).bind fun u => if t.size + u.size ≤ 9223372036854775807 then some (t ++ u) else none) (fun k => ?_)
          (Ev.bind (ih (m / 10) (by omega) (by omega) (by omega)) (Ev.bind (impl_NumText_pos (m % 10) (by omega)) ?_))
        · simp only [impl_NumText.j0]
          rw [if_neg (by decide), if_pos (by omega), tdiv_neg, tmod_neg, Int.neg_neg, wrap_id (x := -((m / 10 : Nat) : Int)) (by omega) (by omega), wrap_id (x := ((m % 10 : Nat) : Int)) (by omega) (by omega)]
        · refine ⟨0, fun _ _ => ?_⟩
          have h1 := decN_le (m / 10) (by omega)
          have h2 := decN_le (m % 10) (by omega)
          rw [if_pos (by rw [strOfNums_size, strOfNums_size, List.length_cons]; omega), ← strOfNums_append, decN_small (m % 10) (by omega), decN_step m (by omega)]
          rfl
theorem impl_NumText_eq (n : Int) (h : -9223372036854775808 ≤ n ∧ n ≤ 9223372036854775807) : Ev (fun k => impl_NumText.f k n) (numText n) := by
  unfold numText numL
  by_cases hn : n < 0
  · rw [if_pos hn]
    have := impl_NumText_neg n.natAbs (by omega) (by omega)
    rw [show (-(n.natAbs : Int)) = n by omega] at this
    exact this
  · rw [if_neg hn]
    have := impl_NumText_pos n.natAbs (by omega)
    rw [show ((n.natAbs : Int)) = n by omega] at this
    exact this

end Go.Proofs.Ytbnkjjmdmohjmaa.Lem
