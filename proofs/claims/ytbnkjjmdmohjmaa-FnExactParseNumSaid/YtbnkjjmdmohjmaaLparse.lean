/- Lemmas on the printed functions, of this session. -/
import Derived.Test.YtbnkjjmdmohjmaaX
import Derived.Test.YtbnkjjmdmohjmaaLnum
import Derived.Test.YtbnkjjmdmohjmaaLnum2
import Derived.Test.YtbnkjjmdmohjmaaPrx2
import Derived.Test.YtbnkjjmdmohjmaaPrx3
namespace Go.Proofs.Ytbnkjjmdmohjmaa.Lem
open Go.RowKit Go.Proofs.Ytbnkjjmdmohjmaa.Pr Go.Proofs.Ytbnkjjmdmohjmaa.X Go.Proofs.YtbnkjjmdmohjmaaW.PrintWords Go.Proofs.YtbnkjjmdmohjmaaW.PrintLast Go.Proofs.YtbnkjjmdmohjmaaW.PrintMore
set_option linter.unusedVariables false
set_option linter.unusedSimpArgs false
/-- What ParseNum returns from a state on: n is read, l is still to be read, s is the whole text. -/
def parseL (s : ByteArray) : Int → List Int → Int × Bool
  | n, [] => if n > 2147483647 then (0, false) else if (numText n).toList = s.toList then (n, true) else (0, false)
  | n, x :: l => if 48 ≤ x ∧ x ≤ 57 then parseL s (10 * n + (x - 48)) l else (0, false)
/-- What ParseNum returns. -/
def parseNum (s : ByteArray) : Int × Bool := if 1 ≤ s.size ∧ s.size ≤ 10 then parseL s 0 (bytesOf s) else (0, false)
theorem drop_bytes (s : ByteArray) (i : Nat) (h : i < s.size) : (bytesOf s).drop i = bt s i :: (bytesOf s).drop (i + 1) := by
  rw [rd_drop _ i (by rw [bytesOf_length]; exact h), rd_bytesOf]
theorem l1In_eq (a b c : Int) : spec_l1In.f a b c = some (decide (b ≤ a ∧ a ≤ c)) := by
  unfold spec_l1In.f
  by_cases h : a ≥ b
  · rw [if_pos h]
    have h' : b ≤ a := h
    simp [h']
  · rw [if_neg h]
    have h' : ¬ b ≤ a := h
    simp [h']
theorem pow10 (i : Nat) (h : i ≤ 10) : (10 : Int) ^ i ≤ 10000000000 := by
  have : (10 : Nat) ^ i ≤ 10 ^ 10 := Nat.pow_le_pow_right (by decide) h
  have e : ((10 ^ i : Nat) : Int) = (10 : Int) ^ i := by simp
  have f : (10 : Nat) ^ 10 = 10000000000 := by decide
  omega
theorem spec_parse_loop (s : ByteArray) (hs : s.size ≤ 10) : ∀ (d i : Nat) (n : Int), i + d = s.size → 0 ≤ n → n < 10 ^ i →
    Ev (fun k => spec_ParseNum.l0 k s n (i : Int)) (parseL s n ((bytesOf s).drop i)) := by
  intro d
  induction d with
  | zero =>
    intro i n hi h0 h1
    have hp := pow10 i (by omega)
    rw [List.drop_of_length_le (by rw [bytesOf_length]; omega)]
    unfold parseL
    by_cases hb : n > 2147483647
    · refine Ev.step (f := fun _ => some (0, false)) (fun k => ?_) ⟨0, fun _ _ => by rw [if_pos hb]⟩
      simp only [spec_ParseNum.l0]
      rw [if_neg (by omega), if_pos hb]
    · rw [if_neg hb]
      refine Ev.step (f := fun k => (spec_NumText.f k n).bind fun t => if t.toList = s.toList then some (n, true) else some (0, false)) (fun k => ?_) (Ev.bind (spec_NumText_eq n (by omega)) ?_)
      · simp only [spec_ParseNum.l0]
        rw [if_neg (by omega), if_neg hb]
      · refine ⟨0, fun _ _ => ?_⟩
        split <;> rfl
  | succ d ih =>
    intro i n hi h0 h1
    have hp := pow10 i (by omega)
    have hps : (10 : Int) ^ (i + 1) = 10 ^ i * 10 := by rw [Int.pow_succ]
    rw [drop_bytes s i (by omega)]
    unfold parseL
    have hb := bt_range s i
    by_cases hd : 48 ≤ bt s i ∧ bt s i ≤ 57
    · rw [if_pos hd]
      refine Ev.step (f := fun k => spec_ParseNum.l0 k s (10 * n + (bt s i - 48)) ((i + 1 : Nat) : Int)) (fun k => ?_) (ih (i + 1) _ (by omega) (by omega) (by omega))
      simp only [spec_ParseNum.l0]
      rw [if_pos (by omega), if_pos (by omega), wrap_id (x := bt s i) (by omega) (by omega), l1In_eq, decide_eq_true hd]
      simp only [Option.bind_some, if_true]
      rw [wrap_id (x := 10 * n) (by omega) (by omega), show (bt s i - 48) % 256 = bt s i - 48 by omega, wrap_id (by omega) (by omega), wrap_succ i 10 (by omega) (by decide)]
    · rw [if_neg hd]
      refine Ev.step (f := fun _ => some (0, false)) (fun k => ?_) ⟨0, fun _ _ => rfl⟩
      simp only [spec_ParseNum.l0]
      rw [if_pos (by omega), if_pos (by omega), wrap_id (x := bt s i) (by omega) (by omega), l1In_eq, decide_eq_false hd]
      rfl
theorem spec_ParseNum_eq (s : ByteArray) : Ev (fun k => spec_ParseNum.f k s) (parseNum s) := by
  unfold spec_ParseNum.f parseNum
  rw [l1In_eq]
  simp only [Option.bind_some]
  by_cases h : 1 ≤ s.size ∧ s.size ≤ 10
  · rw [if_pos h, decide_eq_true (by omega)]
    simp only [if_true]
    have := spec_parse_loop s h.2 s.size 0 0 (by omega) (by omega) (by decide)
    simpa using this
  · rw [if_neg h, decide_eq_false (by omega)]
    exact ⟨0, fun _ _ => rfl⟩
theorem impl_parse_loop (s : ByteArray) (hs : s.size ≤ 10) : ∀ (d i : Nat) (n : Int), i + d = s.size → 0 ≤ n → n < 10 ^ i →
    Ev (fun k => impl_ParseNum.l0 k s n (s.size : Int) (i : Int)) (parseL s n ((bytesOf s).drop i)) := by
  intro d
  induction d with
  | zero =>
    intro i n hi h0 h1
    have hp := pow10 i (by omega)
    rw [List.drop_of_length_le (by rw [bytesOf_length]; omega)]
    unfold parseL
    by_cases hb : n > 2147483647
    · refine Ev.step (f := fun _ => some (0, false)) (fun k => ?_) ⟨0, fun _ _ => by rw [if_pos hb]⟩
      simp only [impl_ParseNum.l0]
      rw [if_neg (by omega), if_pos hb]
    · rw [if_neg hb]
      refine Ev.step (f := fun k => (impl_NumText.f k n).bind fun t => if t.toList = s.toList then some (n, true) else some (0, false)) (fun k => ?_) (Ev.bind (impl_NumText_eq n (by omega)) ?_)
      · simp only [impl_ParseNum.l0]
        rw [if_neg (by omega), if_neg hb]
      · refine ⟨0, fun _ _ => ?_⟩
        split <;> rfl
  | succ d ih =>
    intro i n hi h0 h1
    have hp := pow10 i (by omega)
    have hps : (10 : Int) ^ (i + 1) = 10 ^ i * 10 := by rw [Int.pow_succ]
    rw [drop_bytes s i (by omega)]
    unfold parseL
    have hb := bt_range s i
    by_cases hd : 48 ≤ bt s i ∧ bt s i ≤ 57
    · rw [if_pos hd]
      refine Ev.step (f := fun k => impl_ParseNum.l0 k s (10 * n + (bt s i - 48)) (s.size : Int) ((i + 1 : Nat) : Int)) (fun k => ?_) (ih (i + 1) _ (by omega) (by omega) (by omega))
      simp only [impl_ParseNum.l0]
      rw [if_pos (by omega), if_pos (by omega), if_pos (by omega), if_neg (by omega), if_neg (by omega),
        wrap_id (x := 10 * n) (by omega) (by omega), show (bt s i - 48) % 256 = bt s i - 48 by omega, wrap_id (by omega) (by omega), wrap_succ i 10 (by omega) (by decide)]
    · rw [if_neg hd]
      refine Ev.step (f := fun _ => some (0, false)) (fun k => ?_) ⟨0, fun _ _ => rfl⟩
      simp only [impl_ParseNum.l0]
      rw [if_pos (by omega), if_pos (by omega), if_pos (by omega)]
      by_cases h48 : bt s i < 48
      · rw [if_pos h48]
      · rw [if_neg h48, if_pos (by omega)]
theorem toList_nil (s : ByteArray) : s.toList = ([] : List UInt8) ↔ s.size = 0 := by
  rw [ByteArray.toList_eq]
  constructor
  · intro h
    have := congrArg List.length h
    rw [data_length] at this
    simpa using this
  · intro h
    exact List.eq_nil_of_length_eq_zero (by rw [data_length]; exact h)
theorem impl_ParseNum_eq (s : ByteArray) : Ev (fun k => impl_ParseNum.f k s) (parseNum s) := by
  unfold impl_ParseNum.f parseNum
  by_cases h0 : s.size = 0
  · simp only [if_pos ((toList_nil s).2 h0)]
    rw [if_neg (by omega)]
    refine Ev.step (f := fun _ => some (0, false)) (fun k => ?_) ⟨0, fun _ _ => rfl⟩
    simp only [impl_ParseNum.j0]
    rfl
  · have hne : ¬ s.toList = ([] : List UInt8) := fun e => h0 ((toList_nil s).1 e)
    simp only [if_neg hne]
    by_cases h1 : (s.size : Int) > 10
    · rw [if_neg (by omega), decide_eq_true h1]
      refine Ev.step (f := fun _ => some (0, false)) (fun k => ?_) ⟨0, fun _ _ => rfl⟩
      simp only [impl_ParseNum.j0]
      rfl
    · rw [if_pos (by omega), decide_eq_false h1]
      refine Ev.step (f := fun k => impl_ParseNum.l0 k s 0 (s.size : Int) 0) (fun k => ?_) ?_
      · simp only [impl_ParseNum.j0]
        rfl
      · have := impl_parse_loop s (by omega) s.size 0 0 (by omega) (by omega) (by decide)
        simpa using this

end Go.Proofs.Ytbnkjjmdmohjmaa.Lem
