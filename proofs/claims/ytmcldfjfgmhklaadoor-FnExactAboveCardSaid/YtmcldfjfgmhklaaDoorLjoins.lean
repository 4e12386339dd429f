/- Lemmas on the printed functions, of this session. -/
import Derived.Test.YtmcldfjfgmhklaaDoorY
import Derived.Test.YtmcldfjfgmhklaaDoorLstrs
import Derived.Test.YtmcldfjfgmhklaaDoorPrx0
import Derived.Test.YtmcldfjfgmhklaaDoorPrx16
import Derived.Test.YtmcldfjfgmhklaaDoorPrx17
namespace Go.Proofs.YtmcldfjfgmhklaaDoor.Lem
open Go.RowKit Go.Proofs.YtmcldfjfgmhklaaDoor.Pr Go.Proofs.YtmcldfjfgmhklaaDoor.X Go.Proofs.YtmcldfjfgmhklaaDoor.Y Go.Proofs.YtmcldfjfgmhklaaDoorW.PrintWords Go.Proofs.YtmcldfjfgmhklaaDoorW.PrintLast Go.Proofs.YtmcldfjfgmhklaaDoorW.PrintMore
set_option linter.unusedVariables false
set_option linter.unusedSimpArgs false
/-- Strings with a dot between them. -/
def joinS : List ByteArray → ByteArray
  | [] => (⟨#[]⟩ : ByteArray)
  | [x] => x
  | x :: y :: l => x ++ ((⟨#[46]⟩ : ByteArray) ++ joinS (y :: l))
theorem joinS_cons (x : ByteArray) (l : List ByteArray) (h : l ≠ []) : joinS (x :: l) = x ++ ((⟨#[46]⟩ : ByteArray) ++ joinS l) := by
  cases l with
  | nil => exact absurd rfl h
  | cons y l => rfl
theorem joinS_data : ∀ (l : List ByteArray), (joinS l).data.toList = Lib.join (l.map (·.data.toList)) [46]
  | [] => rfl
  | [x] => by simp [joinS, Lib.join, List.intercalate]
  | x :: y :: l => by
    have ih := joinS_data (y :: l)
    rw [joinS, ByteArray.data_append, ByteArray.data_append, Array.toList_append, Array.toList_append, ih]
    simp [Lib.join, List.intercalate]
theorem joinS_size : ∀ (l : List ByteArray), (joinS l).size ≤ szSs l + l.length
  | [] => Nat.zero_le _
  | [x] => by simp [joinS, szSs]
  | x :: y :: l => by
    have ih := joinS_size (y :: l)
    rw [joinS, ByteArray.size_append, ByteArray.size_append]
    have e : (⟨#[46]⟩ : ByteArray).size = 1 := rfl
    have e2 : szSs (x :: y :: l) = x.size + szSs (y :: l) := by simp [szSs]
    rw [e, e2, List.length_cons]
    omega
theorem impl_JoinLabels_eq (l : List ByteArray) (h : szSs l + l.length ≤ 140737488355328) : impl_JoinLabels.f l = some (joinS l) := by
  have hs := joinS_size l
  have hd := joinS_data l
  unfold impl_JoinLabels.f strings_Join.f
  have e : (⟨#[46]⟩ : ByteArray).data.toList = [46] := rfl
  rw [e, ← hd, if_pos ⟨by rw [data_length]; omega, by omega⟩]
  simp
theorem empty_append (s : ByteArray) : (⟨#[]⟩ : ByteArray) ++ s = s := by
  apply ByteArray.ext
  rw [ByteArray.data_append]
  simp
theorem szSs_drop (l : List ByteArray) (i : Nat) (h : i < l.length) : szSs (l.drop i) = l[i].size + szSs (l.drop (i + 1)) := by
  unfold szSs
  rw [List.drop_eq_getElem_cons h, List.map_cons, List.sum_cons]
theorem spec_JoinLabels_loop (l : List ByteArray) (hn : l.length ≤ 140737488355328) : ∀ (d i : Nat) (s : ByteArray), i + d = l.length → (0 < i ∨ s = (⟨#[]⟩ : ByteArray)) → s.size + szSs (l.drop i) + d ≤ 281474976710656 →
    Ev (fun k => spec_JoinLabels.l0 k l s (i : Int)) (if i = 0 then joinS l else if l.drop i = [] then s else s ++ ((⟨#[46]⟩ : ByteArray) ++ joinS (l.drop i))) := by
  intro d
  induction d with
  | zero =>
    intro i s hi hs hsz
    refine Ev.step (f := fun _ => some s) (fun k => ?_) ⟨0, fun _ _ => ?_⟩
    · simp only [spec_JoinLabels.l0]
      rw [if_neg (by omega)]
    · rw [List.drop_of_length_le (by omega), if_pos rfl]
      by_cases z : i = 0
      · subst z
        have hl : l = [] := List.eq_nil_of_length_eq_zero (by omega)
        subst hl
        rcases hs with h | h
        · exact absurd h (Nat.lt_irrefl _)
        · rw [if_pos rfl, h]
          rfl
      · rw [if_neg z]
  | succ d ih =>
    intro i s hi hs hsz
    have hil : i < l.length := by omega
    have hw := wrap_succ i l.length hil hn
    have hd : l.drop i = l[i] :: l.drop (i + 1) := List.drop_eq_getElem_cons hil
    have hdz := szSs_drop l i hil
    have e1 : (⟨#[46]⟩ : ByteArray).size = 1 := rfl
    by_cases z : i = 0
    · subst z
      have hs' : s = (⟨#[]⟩ : ByteArray) := hs.resolve_left (Nat.lt_irrefl _)
      subst hs'
      have e0 : (⟨#[]⟩ : ByteArray).size = 0 := rfl
      simp only [Nat.zero_add] at hdz
      have := ih 1 l[0] (by omega) (.inl (by decide)) (by omega)
      rw [if_neg (by decide)] at this
      rw [if_pos rfl]
      have hj : joinS l = if l.drop 1 = [] then l[0] else l[0] ++ ((⟨#[46]⟩ : ByteArray) ++ joinS (l.drop 1)) := by
        clear this ih hdz hd hsz hi hw
        cases l with
        | nil => exact absurd hil (by simp)
        | cons x rest =>
          show joinS (x :: rest) = if rest = [] then x else x ++ ((⟨#[46]⟩ : ByteArray) ++ joinS rest)
          by_cases q : rest = []
          · rw [if_pos q, q]
            rfl
          · rw [if_neg q]
            exact joinS_cons _ _ q
      rw [hj]
      refine Ev.step (f := fun k => spec_JoinLabels.l0 k l l[0] ((1 : Nat) : Int)) (fun k => ?_) this
      simp only [spec_JoinLabels.l0]
      rw [if_pos (by omega), if_neg (by omega), if_pos (by omega)]
      have er := rdS_getElem l 0 hil
      rw [er, if_pos (by omega), empty_append, hw]
    · rw [if_neg z, hd, if_neg (List.cons_ne_nil _ _)]
      have hsz2 : ((s ++ (⟨#[46]⟩ : ByteArray)) ++ l[i]).size = s.size + 1 + l[i].size := by rw [ByteArray.size_append, ByteArray.size_append, e1]
      have := ih (i + 1) ((s ++ (⟨#[46]⟩ : ByteArray)) ++ l[i]) (by omega) (.inl (by omega)) (by omega)
      rw [if_neg (by omega)] at this
      have hj : (if l.drop (i + 1) = [] then (s ++ (⟨#[46]⟩ : ByteArray)) ++ l[i] else ((s ++ (⟨#[46]⟩ : ByteArray)) ++ l[i]) ++ ((⟨#[46]⟩ : ByteArray) ++ joinS (l.drop (i + 1)))) = s ++ ((⟨#[46]⟩ : ByteArray) ++ joinS (l[i] :: l.drop (i + 1))) := by
        by_cases q : l.drop (i + 1) = []
        · rw [if_pos q, q, ByteArray.append_assoc]
          rfl
        · rw [if_neg q, joinS_cons _ _ q, @ByteArray.append_assoc (s ++ (⟨#[46]⟩ : ByteArray)), @ByteArray.append_assoc s]
      rw [hj] at this
      refine Ev.step (f := fun k => spec_JoinLabels.l0 k l ((s ++ (⟨#[46]⟩ : ByteArray)) ++ l[i]) ((i + 1 : Nat) : Int)) (fun k => ?_) this
      simp only [spec_JoinLabels.l0]
      rw [if_pos (by omega), if_pos (by omega), if_pos (by omega), if_pos (by omega), rdS_getElem l i hil, if_pos (by rw [ByteArray.size_append, e1]; omega), hw]
theorem spec_JoinLabels_eq (l : List ByteArray) (h : szSs l + l.length ≤ 140737488355328) : Ev (fun k => spec_JoinLabels.f k l) (joinS l) := by
  have := spec_JoinLabels_loop l (by omega) l.length 0 (⟨#[]⟩ : ByteArray) (by omega) (.inr rfl) (by rw [List.drop_zero, show (⟨#[]⟩ : ByteArray).size = 0 from rfl]; omega)
  rw [if_pos rfl] at this
  unfold spec_JoinLabels.f
  simpa using this

end Go.Proofs.YtmcldfjfgmhklaaDoor.Lem
