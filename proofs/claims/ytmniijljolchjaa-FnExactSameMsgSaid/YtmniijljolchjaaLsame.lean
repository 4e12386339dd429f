/- Lemmas on the printed functions, of this session. -/
import Derived.Test.YtmniijljolchjaaY
import Derived.Test.YtmniijljolchjaaLrec
import Derived.Test.YtmniijljolchjaaPrx0
import Derived.Test.YtmniijljolchjaaPrx7
import Derived.Test.YtmniijljolchjaaPrx8
namespace Go.Proofs.Ytmniijljolchjaa.Lem
open Go.RowKit Go.Proofs.Ytmniijljolchjaa.Pr Go.Proofs.Ytmniijljolchjaa.X Go.Proofs.Ytmniijljolchjaa.Y Go.Proofs.YtmniijljolchjaaW.PrintWords Go.Proofs.YtmniijljolchjaaW.PrintLast Go.Proofs.YtmniijljolchjaaW.PrintMore
set_option linter.unusedVariables false
set_option linter.unusedSimpArgs false
/-- Whether two records differ, as '!=' of the struct spells it. -/
def recNe (x y : S73) : Bool := !(x.f0.toList == y.f0.toList) || (!(x.f1 == y.f1) || (!(x.f2 == y.f2) || (!(x.f3 == y.f3) || (!(x.f4.toList == y.f4.toList) || (!(x.f5.toList == y.f5.toList))))))
theorem recNe_iff (x y : S73) : recNe x y = false ↔ x = y := by
  obtain ⟨a0, a1, a2, a3, a4, a5⟩ := x
  obtain ⟨b0, b1, b2, b3, b4, b5⟩ := y
  simp [recNe, toList_inj]
/-- What SameRecords answers. -/
def sameL : List S73 → List S73 → Bool
  | [], [] => true
  | x :: a, y :: b => if recNe x y = true then false else sameL a b
  | _, _ => false
theorem sameL_iff : ∀ (a b : List S73), sameL a b = true ↔ a = b
  | [], [] => by simp [sameL]
  | [], _ :: _ => by simp [sameL]
  | _ :: _, [] => by simp [sameL]
  | x :: a, y :: b => by
    unfold sameL
    have := recNe_iff x y
    cases h : recNe x y with
    | true =>
      have hne : x ≠ y := fun e => by rw [this.2 e] at h; cases h
      simp [hne]
    | false =>
      rw [if_neg (by decide), sameL_iff a b]
      have e := this.1 h
      simp [e]
theorem sameL_len : ∀ (a b : List S73), a.length ≠ b.length → sameL a b = false
  | [], [], h => absurd rfl h
  | [], _ :: _, _ => rfl
  | _ :: _, [], _ => rfl
  | x :: a, y :: b, h => by
    unfold sameL
    rw [sameL_len a b (by simpa using h)]
    split <;> rfl
theorem spec_SameRecords_loop (a b : List S73) (hab : a.length = b.length) (hn : a.length ≤ 140737488351232) : ∀ (d i : Nat), i + d = a.length →
    Ev (fun k => spec_SameRecords.l0 k a b (i : Int)) (sameL (a.drop i) (b.drop i)) := by
  intro d
  induction d with
  | zero =>
    intro i hi
    rw [List.drop_of_length_le (by omega), List.drop_of_length_le (by omega)]
    refine Ev.step (f := fun _ => some true) (fun k => ?_) ⟨0, fun _ _ => rfl⟩
    simp only [spec_SameRecords.l0]
    rw [if_neg (by omega)]
  | succ d ih =>
    intro i hi
    have hw := wrap_succ i a.length (by omega) (by omega)
    have ha : i < a.length := by omega
    have hb : i < b.length := by omega
    rw [List.drop_eq_getElem_cons ha, List.drop_eq_getElem_cons hb, sameL]
    refine Ev.step (f := fun k => if recNe a[i] b[i] = true then some false else spec_SameRecords.l0 k a b ((i + 1 : Nat) : Int)) (fun k => ?_) ?_
    · simp only [spec_SameRecords.l0]
      rw [if_pos (by omega), if_pos (by omega), if_pos (by omega), rdR_getElem a i ha, rdR_getElem b i hb, hw]
      rfl
    · cases h : recNe a[i] b[i] with
      | true => exact ⟨0, fun _ _ => rfl⟩
      | false => simpa using ih (i + 1) (by omega)
theorem spec_SameRecords_eq (a b : List S73) (hn : a.length ≤ 140737488351232) : Ev (fun k => spec_SameRecords.f k a b) (sameL a b) := by
  unfold spec_SameRecords.f
  by_cases h : a.length = b.length
  · have h' : (a.length : Int) = (b.length : Int) := by omega
    simp only [if_pos h']
    simpa using spec_SameRecords_loop a b h hn a.length 0 (by omega)
  · have h' : ¬ (a.length : Int) = (b.length : Int) := by omega
    simp only [if_neg h']
    rw [sameL_len a b h]
    exact Ev.now _
theorem slices_Equal_loop (a b : List S73) (hab : a.length = b.length) (hn : a.length ≤ 140737488351232) : ∀ (d i : Nat), i + d = a.length →
    Ev (fun k => slices_Equal_impl_Record.l0 k a b (a.length : Int) (i : Int)) (sameL (a.drop i) (b.drop i)) := by
  intro d
  induction d with
  | zero =>
    intro i hi
    rw [List.drop_of_length_le (by omega), List.drop_of_length_le (by omega)]
    refine Ev.step (f := fun _ => some true) (fun k => ?_) ⟨0, fun _ _ => rfl⟩
    simp only [slices_Equal_impl_Record.l0]
    rw [if_neg (by omega)]
  | succ d ih =>
    intro i hi
    have hw := wrap_succ i a.length (by omega) (by omega)
    have ha : i < a.length := by omega
    have hb : i < b.length := by omega
    rw [List.drop_eq_getElem_cons ha, List.drop_eq_getElem_cons hb, sameL]
    refine Ev.step (f := fun k => if recNe a[i] b[i] = true then some false else slices_Equal_impl_Record.l0 k a b (a.length : Int) ((i + 1 : Nat) : Int)) (fun k => ?_) ?_
    · simp only [slices_Equal_impl_Record.l0]
      rw [if_pos (by omega), if_pos (by omega), if_pos (by omega), if_pos (by omega), rdR_getElem a i ha, rdR_getElem b i hb, hw]
      rfl
    · cases h : recNe a[i] b[i] with
      | true => exact ⟨0, fun _ _ => rfl⟩
      | false => simpa using ih (i + 1) (by omega)
theorem impl_SameRecords_eq (a b : List S73) (hn : a.length ≤ 140737488351232) : Ev (fun k => impl_SameRecords.f k a b) (sameL a b) := by
  unfold impl_SameRecords.f
  refine Ev.bind (a := sameL a b) ?_ ⟨0, fun _ _ => rfl⟩
  unfold slices_Equal_impl_Record.f
  by_cases h : a.length = b.length
  · have h' : (a.length : Int) = (b.length : Int) := by omega
    simp only [if_pos h']
    simpa using slices_Equal_loop a b h hn a.length 0 (by omega)
  · have h' : ¬ (a.length : Int) = (b.length : Int) := by omega
    simp only [if_neg h']
    rw [sameL_len a b h]
    exact Ev.now _

end Go.Proofs.Ytmniijljolchjaa.Lem
