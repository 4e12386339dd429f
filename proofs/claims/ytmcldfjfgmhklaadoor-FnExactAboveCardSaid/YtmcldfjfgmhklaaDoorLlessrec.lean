/- Lemmas on the printed functions, of this session. -/
import Derived.Test.YtmcldfjfgmhklaaDoorY
import Derived.Test.YtmcldfjfgmhklaaDoorLcmpor
import Derived.Test.YtmcldfjfgmhklaaDoorLev
import Derived.Test.YtmcldfjfgmhklaaDoorLjoins
import Derived.Test.YtmcldfjfgmhklaaDoorLlabels
import Derived.Test.YtmcldfjfgmhklaaDoorLless
import Derived.Test.YtmcldfjfgmhklaaDoorPrx0
import Derived.Test.YtmcldfjfgmhklaaDoorPrx13
namespace Go.Proofs.YtmcldfjfgmhklaaDoor.Lem
open Go.RowKit Go.Proofs.YtmcldfjfgmhklaaDoor.Pr Go.Proofs.YtmcldfjfgmhklaaDoor.X Go.Proofs.YtmcldfjfgmhklaaDoor.Y Go.Proofs.YtmcldfjfgmhklaaDoorW.PrintWords Go.Proofs.YtmcldfjfgmhklaaDoorW.PrintLast Go.Proofs.YtmcldfjfgmhklaaDoorW.PrintMore
set_option linter.unusedVariables false
set_option linter.unusedSimpArgs false
theorem mkB_append (a b : List UInt8) : mkB a ++ mkB b = mkB (a ++ b) := by
  apply ByteArray.ext
  rw [ByteArray.data_append]
  simp [mkB]
theorem cutA_ne : ∀ (t acc : List UInt8), cutA acc t ≠ []
  | [], acc => by simp [cutA]
  | c :: t, acc => by
    unfold cutA
    split
    · simp
    · exact cutA_ne t _
theorem join_cutA : ∀ (t acc : List UInt8), joinS ((cutA acc t).map mkB) = mkB (acc ++ t)
  | [], acc => by simp [cutA, joinS]
  | c :: t, acc => by
    by_cases h : c = 46
    · subst h
      simp only [cutA, if_true, List.map_cons]
      rw [joinS_cons _ _ (by simpa using cutA_ne t []), join_cutA t []]
      have e : (⟨#[46]⟩ : ByteArray) = mkB [46] := rfl
      rw [e, mkB_append, mkB_append]
      rfl
    · simp only [cutA, if_neg h]
      rw [join_cutA t (acc ++ [c])]
      simp
theorem join_labels (s : ByteArray) : joinS (labelsL s) = s := by
  unfold labelsL
  by_cases h : s.data.toList = []
  · rw [if_pos h]
    have e : mkB s.data.toList = s := mkB_data s
    rw [h] at e
    exact e
  · rw [if_neg h, join_cutA]
    exact mkB_data s
theorem labelsL_inj {a b : ByteArray} (h : labelsL a = labelsL b) : a = b := by rw [← join_labels a, h, join_labels b]
theorem lessR_irrefl : ∀ x : List ByteArray, lessR x x = false
  | [] => rfl
  | a :: x => by
    unfold lessR
    rw [if_pos rfl]
    exact lessR_irrefl x
theorem lessR_total : ∀ x y : List ByteArray, x ≠ y → lessR x y = false → lessR y x = true
  | [], [], h, _ => absurd rfl h
  | [], _ :: _, _, h => by simp [lessR] at h
  | _ :: _, [], _, _ => by simp [lessR]
  | a :: x, b :: y, hne, h => by
    unfold lessR at h ⊢
    by_cases e : a = b
    · subst e
      rw [if_pos rfl] at h ⊢
      exact lessR_total x y (fun q => hne (by rw [q])) h
    · rw [if_neg e] at h
      rw [if_neg (fun q => e q.symm)]
      exact less_total _ _ (fun q => e (toList_inj.1 q)) h
theorem lessN_irrefl (a : ByteArray) : lessN a a = false := lessR_irrefl _
theorem lessN_total (a b : ByteArray) (hne : a ≠ b) (h : lessN a b = false) : lessN b a = true :=
  lessR_total _ _ (fun q => hne (labelsL_inj (List.reverse_inj.1 q))) h
/-- A name held against another, as a number. -/
def nameC (a b : ByteArray) : Int := if a = b then 0 else if lessN a b = true then -1 else 1
theorem impl_byName_eq (a b : ByteArray) (ha : a.size ≤ 1048576) (hb : b.size ≤ 1048576) : Ev (fun k => impl_byName.f k a b) (nameC a b) := by
  unfold impl_byName.f nameC
  refine Ev.bind (impl_LessName_eq a b ha hb) ?_
  by_cases e : a = b
  · subst e
    rw [lessN_irrefl, if_pos rfl]
    refine Ev_ifn (by decide) (Ev.bind (impl_LessName_eq a a ha ha) ?_)
    rw [lessN_irrefl]
    exact Ev_ifn (by decide) ⟨0, fun _ _ => rfl⟩
  · rw [if_neg e]
    cases h : lessN a b with
    | true =>
      rw [if_pos rfl]
      exact Ev_if rfl ⟨0, fun _ _ => rfl⟩
    | false =>
      rw [if_neg (by decide)]
      refine Ev_ifn (by decide) (Ev.bind (impl_LessName_eq b a hb ha) ?_)
      rw [lessN_total a b e h]
      exact Ev_if rfl ⟨0, fun _ _ => rfl⟩
def intC (a b : Int) : Int := if a < b then -1 else if a > b then 1 else 0
theorem cmp_int_eq (a b : Int) : cmp_Compare_int.f a b = some (intC a b) := by
  unfold cmp_Compare_int.f cmp_isNaN_int.f intC
  simp only [bne_self_eq_false, Option.bind_some, if_neg (show ¬ (false = true) by decide)]
  split
  · rfl
  · split <;> rfl
def strC (a b : ByteArray) : Int := if a = b then 0 else if Op.bytesLess a.toList b.toList = true then -1 else 1
/-- What LessRecord answers. -/
def lessRec (a0 : ByteArray) (a1 a2 a3 : Int) (a4 a5 b0 : ByteArray) (b1 b2 b3 : Int) (b4 b5 : ByteArray) : Bool :=
  if a0 = b0 then (if a1 = b1 then (if a3 = b3 then (if a4 = b4 then (if a5 = b5 then decide (a2 < b2) else Op.bytesLess a5.toList b5.toList) else lessN a4 b4) else decide (a3 < b3)) else decide (a1 < b1)) else lessN a0 b0
theorem lessRec_or (a0 : ByteArray) (a1 a2 a3 : Int) (a4 a5 b0 : ByteArray) (b1 b2 b3 : Int) (b4 b5 : ByteArray) :
    decide (orL [nameC a0 b0, intC a1 b1, intC a3 b3, nameC a4 b4, strC a5 b5, intC a2 b2] < 0) = lessRec a0 a1 a2 a3 a4 a5 b0 b1 b2 b3 b4 b5 := by
  have nn (a b : ByteArray) (l : List Int) : orL (nameC a b :: l) = if a = b then orL l else if lessN a b = true then -1 else 1 := by
    rw [orL_cons]
    unfold nameC
    by_cases e : a = b
    · simp [e]
    · rw [if_neg e, if_neg e]
      split <;> rfl
  have ss (a b : ByteArray) (l : List Int) : orL (strC a b :: l) = if a = b then orL l else if Op.bytesLess a.toList b.toList = true then -1 else 1 := by
    rw [orL_cons]
    unfold strC
    by_cases e : a = b
    · simp [e]
    · rw [if_neg e, if_neg e]
      split <;> rfl
  have ii (a b : Int) (l : List Int) : orL (intC a b :: l) = if a = b then orL l else if a < b then -1 else 1 := by
    rw [orL_cons]
    unfold intC
    by_cases e : a = b
    · subst e
      simp
    · rw [if_neg e]
      by_cases q : a < b
      · simp [q]
      · simp [q, show b < a by omega]
  have fb (q : Bool) : decide ((if q = true then (-1 : Int) else 1) < 0) = q := by cases q <;> rfl
  have fi (a b : Int) : decide ((if a < b then (-1 : Int) else 1) < 0) = decide (a < b) := by
    by_cases q : a < b
    · simp [q]
    · simp [q]
  unfold lessRec
  rw [nn]
  by_cases e0 : a0 = b0
  · rw [if_pos e0, if_pos e0, ii]
    by_cases e1 : a1 = b1
    · rw [if_pos e1, if_pos e1, ii]
      by_cases e3 : a3 = b3
      · rw [if_pos e3, if_pos e3, nn]
        by_cases e4 : a4 = b4
        · rw [if_pos e4, if_pos e4, ss]
          by_cases e5 : a5 = b5
          · rw [if_pos e5, if_pos e5, ii]
            by_cases e2 : a2 = b2
            · subst e2
              simp [orL]
            · rw [if_neg e2]
              exact fi _ _
          · rw [if_neg e5, if_neg e5]
            exact fb _
        · rw [if_neg e4, if_neg e4]
          exact fb _
      · rw [if_neg e3, if_neg e3]
        exact fi _ _
    · rw [if_neg e1, if_neg e1]
      exact fi _ _
  · rw [if_neg e0, if_neg e0]
    exact fb _

end Go.Proofs.YtmcldfjfgmhklaaDoor.Lem
