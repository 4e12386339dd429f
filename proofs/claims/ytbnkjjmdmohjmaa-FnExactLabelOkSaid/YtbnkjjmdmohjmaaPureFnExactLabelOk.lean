/- For all strings the program's LabelOk returns what the reference's returns. No condition. -/
import Derived.Test.YtbnkjjmdmohjmaaPFnExactLabelOkx1
namespace Go.Proofs.Ytbnkjjmdmohjmaa.Pure
open Go.RowKit Go.Proofs.Ytbnkjjmdmohjmaa.PFnExactLabelOk Go.Proofs.YtbnkjjmdmohjmaaW.PrintWords Go.Proofs.YtbnkjjmdmohjmaaW.PrintLast
set_option linter.unusedSimpArgs false

/-- A byte of a label. -/
def okB (c : Int) : Bool := (decide (97 ≤ c) && decide (c ≤ 122)) || (decide (48 ≤ c) && decide (c ≤ 57)) || decide (c = 45) || decide (c = 95)
/-- All of d bytes from i on are a label's. -/
def allOk (s : ByteArray) : Nat → Nat → Bool
  | _, 0 => true
  | i, d + 1 => okB (bt s i) && allOk s (i + 1) d
theorem l1In_eq (a b c : Int) : spec_l1In.f a b c = some (decide (b ≤ a) && decide (a ≤ c)) := by
  unfold spec_l1In.f
  by_cases h : a ≥ b
  · rw [if_pos h]
    have h' : b ≤ a := h
    simp [h']
  · rw [if_neg h]
    have h' : ¬ b ≤ a := h
    simp [h']
theorem wrap_byte (c : Int) (h0 : 0 ≤ c) (h1 : c ≤ 255) : wrap64 c = c := by unfold wrap64; omega
theorem wrap_next (i n : Nat) (h : i < n) (hn : n ≤ 140737488351232) : wrap64 ((i : Int) + 1) = ((i + 1 : Nat) : Int) := by unfold wrap64; omega
theorem l2Byte_eq (c : Int) (h0 : 0 ≤ c) (h1 : c ≤ 255) : spec_l2Byte.f c = some (okB c) := by
  unfold spec_l2Byte.f okB
  rw [wrap_byte c h0 h1, l1In_eq, l1In_eq]
  simp only [Option.bind_some]
  by_cases a : (decide (97 ≤ c) && decide (c ≤ 122)) = true
  · simp [a]
  · by_cases b : (decide (48 ≤ c) && decide (c ≤ 57)) = true
    · simp [a, b]
    · by_cases d : c = 45
      · simp [a, b, d]
      · simp only [Bool.not_eq_true] at a b
        have e : (c == 95) = decide (c = 95) := by by_cases z : c = 95 <;> simp [z]
        simp [a, b, d, e]
theorem spec_loop (s : ByteArray) (hn : s.size ≤ 140737488351232) : ∀ (d i : Nat), i + d = s.size →
    Ev (fun k => spec_LabelOk.l0 k s (i : Int)) (allOk s i d && (decide (1 ≤ (s.size : Int)) && decide ((s.size : Int) ≤ 12))) := by
  intro d
  induction d with
  | zero =>
    intro i hi
    refine Ev.step (f := fun _ => some (decide (1 ≤ (s.size : Int)) && decide ((s.size : Int) ≤ 12))) (fun k => ?_) ⟨0, fun _ _ => by simp [allOk]⟩
    simp only [spec_LabelOk.l0]
    rw [if_neg (by omega), l1In_eq]
    rfl
  | succ d ih =>
    intro i hi
    have hb := bt_range s i
    have hw := wrap_next i s.size (by omega) hn
    cases h : okB (bt s i) with
    | true =>
      refine Ev.step (f := fun k => spec_LabelOk.l0 k s ((i + 1 : Nat) : Int)) (fun k => ?_) ?_
      · simp only [spec_LabelOk.l0]
        rw [if_pos (by omega), if_pos (by omega), l2Byte_eq _ hb.1 hb.2, h, hw]
        rfl
      · have := ih (i + 1) (by omega)
        simpa [allOk, h] using this
    | false =>
      refine Ev.step (f := fun _ => some false) (fun k => ?_) ⟨0, fun _ _ => by simp [allOk, h]⟩
      simp only [spec_LabelOk.l0]
      rw [if_pos (by omega), if_pos (by omega), l2Byte_eq _ hb.1 hb.2, h]
      rfl
theorem impl_body (c : Int) (x : Option Bool) :
    (if c < 97 then (if c < 48 then (if c = 45 then x else (if c = 95 then x else (some false))) else (if c > 57 then (if c = 45 then x else (if c = 95 then x else (some false))) else x))
      else (if c > 122 then (if c < 48 then (if c = 45 then x else (if c = 95 then x else (some false))) else (if c > 57 then (if c = 45 then x else (if c = 95 then x else (some false))) else x)) else x)) = if okB c = true then x else some false := by
  have hk : okB c = true ↔ (97 ≤ c ∧ c ≤ 122) ∨ (48 ≤ c ∧ c ≤ 57) ∨ c = 45 ∨ c = 95 := by simp [okB, or_assoc]
  by_cases h : okB c = true
  · have h' := hk.1 h
    rw [show (if okB c = true then x else some false) = x from if_pos h]
    repeat' split
    all_goals first | rfl | (exfalso; omega)
  · have h' : ¬ ((97 ≤ c ∧ c ≤ 122) ∨ (48 ≤ c ∧ c ≤ 57) ∨ c = 45 ∨ c = 95) := fun z => h (hk.2 z)
    rw [show (if okB c = true then x else some false) = some false from if_neg h]
    repeat' split
    all_goals first | rfl | (exfalso; omega)
theorem impl_loop (s : ByteArray) (hn : s.size ≤ 140737488351232) : ∀ (d i : Nat), i + d = s.size →
    Ev (fun k => impl_LabelOk.l0 k s (s.size : Int) (i : Int)) (allOk s i d && (decide (1 ≤ (s.size : Int)) && decide ((s.size : Int) ≤ 12))) := by
  intro d
  induction d with
  | zero =>
    intro i hi
    refine Ev.step (f := fun _ => some (decide (1 ≤ (s.size : Int)) && decide ((s.size : Int) ≤ 12))) (fun k => ?_) ⟨0, fun _ _ => by simp [allOk]⟩
    simp only [impl_LabelOk.l0]
    rw [if_neg (by omega)]
    by_cases h : (s.size : Int) ≥ 1
    · rw [if_pos h]
      have h' : 1 ≤ (s.size : Int) := h
      simp only [decide_eq_true h', Bool.true_and]
    · rw [if_neg h]
      have h' : ¬ 1 ≤ (s.size : Int) := h
      simp only [decide_eq_false h', Bool.false_and]
  | succ d ih =>
    intro i hi
    have hw := wrap_next i s.size (by omega) hn
    refine Ev.step (f := fun k => if okB (bt s i) = true then impl_LabelOk.l0 k s (s.size : Int) ((i + 1 : Nat) : Int) else some false) (fun k => ?_) ?_
    · simp only [impl_LabelOk.l0]
      rw [if_pos (by omega), if_pos (by omega), if_pos (by omega), hw]
      exact impl_body _ _
    · cases h : okB (bt s i) with
      | true =>
        have := ih (i + 1) (by omega)
        simpa [allOk, h] using this
      | false => exact ⟨0, fun _ _ => by simp [allOk, h]⟩

theorem FnExactLabelOk : laws_FnExactLabelOk.Pure := by
  intro s hn
  unfold laws_FnExactLabelOk.f
  by_cases hb : (s.size : Int) > 1048576
  · exact ⟨0, by rw [if_pos hb]⟩
  · obtain ⟨k1, h1⟩ := spec_loop s hn s.size 0 (by omega)
    obtain ⟨k2, h2⟩ := impl_loop s hn s.size 0 (by omega)
    refine ⟨max k1 k2, ?_⟩
    have e1 := h1 (max k1 k2) (Nat.le_max_left _ _)
    have e2 := h2 (max k1 k2) (Nat.le_max_right _ _)
    simp only [Int.natCast_zero] at e1 e2
    rw [if_neg hb]
    unfold spec_LabelOk.f impl_LabelOk.f
    rw [e1, e2]
    simp

end Go.Proofs.Ytbnkjjmdmohjmaa.Pure
