/- Lemmas on the printed functions, of this session. -/
import Derived.Test.YtmcldfjfgmhklaaDoorY
import Derived.Test.YtmcldfjfgmhklaaDoorLev
import Derived.Test.YtmcldfjfgmhklaaDoorLlabels
import Derived.Test.YtmcldfjfgmhklaaDoorLstrs
import Derived.Test.YtmcldfjfgmhklaaDoorPrx0
import Derived.Test.YtmcldfjfgmhklaaDoorPrx5
namespace Go.Proofs.YtmcldfjfgmhklaaDoor.Lem
open Go.RowKit Go.Proofs.YtmcldfjfgmhklaaDoor.Pr Go.Proofs.YtmcldfjfgmhklaaDoor.X Go.Proofs.YtmcldfjfgmhklaaDoor.Y Go.Proofs.YtmcldfjfgmhklaaDoorW.PrintWords Go.Proofs.YtmcldfjfgmhklaaDoorW.PrintLast Go.Proofs.YtmcldfjfgmhklaaDoorW.PrintMore
set_option linter.unusedVariables false
set_option linter.unusedSimpArgs false
theorem less_irrefl : ∀ a : List UInt8, Op.bytesLess a a = false
  | [] => rfl
  | c :: t => by simp [Op.bytesLess, less_irrefl t]
theorem less_total : ∀ a b : List UInt8, a ≠ b → Op.bytesLess a b = false → Op.bytesLess b a = true
  | [], [], h, _ => absurd rfl h
  | [], _ :: _, _, h => by simp [Op.bytesLess] at h
  | _ :: _, [], _, _ => by simp [Op.bytesLess]
  | c :: x, e :: y, hne, h => by
    simp only [Op.bytesLess, Bool.or_eq_false_iff, decide_eq_false_iff_not] at h
    obtain ⟨h1, h2⟩ := h
    simp only [Op.bytesLess, Bool.or_eq_true, decide_eq_true_eq]
    by_cases hce : c = e
    · subst hce
      have hxy : x ≠ y := fun e => hne (by rw [e])
      have h3 : Op.bytesLess x y = false := by simpa using h2
      exact Or.inr (by simp [less_total x y hxy h3])
    · left
      rw [UInt8.lt_iff_toNat_lt] at h1 ⊢
      have : c.toNat ≠ e.toNat := fun q => hce (UInt8.toNat_inj.1 q)
      omega
/-- What comes first, of two lists of labels that are read from the end. -/
def lessR : List ByteArray → List ByteArray → Bool
  | [], [] => false
  | [], _ :: _ => true
  | _ :: _, [] => false
  | a :: x, b :: y => if a = b then lessR x y else Op.bytesLess a.toList b.toList
/-- The same, as a number. -/
def cmpR : List ByteArray → List ByteArray → Int
  | [], [] => 0
  | [], _ :: _ => -1
  | _ :: _, [] => 1
  | a :: x, b :: y => if a = b then cmpR x y else if Op.bytesLess a.toList b.toList = true then -1 else 1
theorem cmpR_neg : ∀ x y : List ByteArray, decide (cmpR x y < 0) = lessR x y
  | [], [] => rfl
  | [], _ :: _ => rfl
  | _ :: _, [] => rfl
  | a :: x, b :: y => by
    unfold cmpR lessR
    by_cases h : a = b
    · rw [if_pos h, if_pos h]
      exact cmpR_neg x y
    · rw [if_neg h, if_neg h]
      cases Op.bytesLess a.toList b.toList <;> rfl
theorem cmp_string_eq (a b : ByteArray) : cmp_Compare_string.f a b = some (if a = b then 0 else if Op.bytesLess a.toList b.toList = true then -1 else 1) := by
  unfold cmp_Compare_string.f cmp_isNaN_string.f
  simp only [bne_self_eq_false, Option.bind_some, if_neg (show ¬ (false = true) by decide)]
  by_cases h : a = b
  · subst h
    simp [less_irrefl]
  · rw [if_neg h]
    have hne : a.toList ≠ b.toList := fun e => h (toList_inj.1 e)
    cases hl : Op.bytesLess a.toList b.toList with
    | true => simp
    | false => simp [hne]
theorem slices_Compare_loop (x y : List ByteArray) (hx : x.length ≤ 140737488351232) : ∀ (d i : Nat), i + d = x.length → i ≤ y.length →
    Ev (fun k => slices_Compare_string.l0 k x y x (x.length : Int) (i : Int)) (cmpR (x.drop i) (y.drop i)) := by
  intro d
  induction d with
  | zero =>
    intro i hi hy
    rw [show x.drop i = [] from List.drop_of_length_le (by omega)]
    by_cases c : (x.length : Int) < (y.length : Int)
    · rw [List.drop_eq_getElem_cons (show i < y.length by omega)]
      refine Ev.step (f := fun _ => some (-1)) (fun k => ?_) ⟨0, fun _ _ => rfl⟩
      simp only [slices_Compare_string.l0]
      rw [if_neg (by omega), if_pos c]
    · rw [show y.drop i = [] from List.drop_of_length_le (by omega)]
      refine Ev.step (f := fun _ => some 0) (fun k => ?_) ⟨0, fun _ _ => rfl⟩
      simp only [slices_Compare_string.l0]
      rw [if_neg (by omega), if_neg c]
  | succ d ih =>
    intro i hi hy
    have hxi : i < x.length := by omega
    have w3 : wrap64 ((i : Int) + 1) = ((i + 1 : Nat) : Int) := wrap_succ i x.length (by omega) (by omega)
    rw [List.drop_eq_getElem_cons hxi]
    by_cases c : i < y.length
    · rw [List.drop_eq_getElem_cons c]
      refine Ev.step (f := fun k => if (if x[i] = y[i] then (0 : Int) else if Op.bytesLess x[i].toList y[i].toList = true then -1 else 1) = 0 then slices_Compare_string.l0 k x y x (x.length : Int) ((i + 1 : Nat) : Int) else some (if x[i] = y[i] then (0 : Int) else if Op.bytesLess x[i].toList y[i].toList = true then -1 else 1)) (fun k => ?_) ?_
      · simp only [slices_Compare_string.l0]
        rw [if_pos (by omega), if_pos (by omega), if_pos (by omega), if_neg (by omega), if_pos (by omega), rdS_getElem x i hxi, rdS_getElem y i c, cmp_string_eq, Option.bind_some, w3]
      · unfold cmpR
        by_cases e : x[i] = y[i]
        · simp only [if_pos e, if_true]
          exact ih (i + 1) (by omega) (by omega)
        · simp only [if_neg e]
          refine Ev_ifn ?_ ⟨0, fun _ _ => rfl⟩
          split <;> decide
    · rw [show y.drop i = [] from List.drop_of_length_le (by omega)]
      refine Ev.step (f := fun _ => some 1) (fun k => ?_) ⟨0, fun _ _ => rfl⟩
      simp only [slices_Compare_string.l0]
      rw [if_pos (by omega), if_pos (by omega), if_pos (by omega), if_pos (by omega)]
theorem slices_Compare_eq (x y : List ByteArray) (hx : x.length ≤ 140737488351232) : Ev (fun k => slices_Compare_string.f k x y) (cmpR x y) := by
  have := slices_Compare_loop x y hx x.length 0 (by omega) (by omega)
  unfold slices_Compare_string.f
  simpa using this
theorem rev_mid (l m : List ByteArray) (i j : Nat) (hm : m.length = l.length) (hij : i + j + 1 = l.length) (hle : j ≤ i)
    (h : ∀ p (hp : p < l.length), m[p]'(by omega) = if p < i ∨ j < p then l.reverse[p]'(by simpa using hp) else l[p]) : m = l.reverse := by
  refine List.ext_getElem (by simp [hm]) (fun p h1 h2 => ?_)
  have hp : p < l.length := by omega
  rw [h p hp]
  by_cases c : p < i ∨ j < p
  · rw [if_pos c]
  · rw [if_neg c, List.getElem_reverse]
    congr 1
    omega
theorem reverse_loop (l : List ByteArray) (hl : l.length ≤ 140737488351232) : ∀ (d i j : Nat) (m : List ByteArray) (hm : m.length = l.length), i + j + 1 = l.length → j ≤ i + d →
    (∀ p (hp : p < l.length), m[p]'(by omega) = if p < i ∨ j < p then l.reverse[p]'(by simpa using hp) else l[p]) →
    Ev (fun k => slices_Reverse_string.l0 k m (i : Int) (j : Int)) l.reverse := by
  intro d
  induction d using Nat.strongRecOn with
  | _ d ih =>
    intro i j m hm hij hle h
    by_cases c : i < j
    · have hi : i < m.length := by omega
      have hj : j < m.length := by omega
      have w1 : wrap64 ((i : Int) + 1) = ((i + 1 : Nat) : Int) := wrap_succ i l.length (by omega) (by omega)
      have w2 : wrap64 ((j : Int) - 1) = ((j - 1 : Nat) : Int) := by rw [wrap_id (by omega) (by omega)]; omega
      have := ih (d - 2) (by omega) (i + 1) (j - 1) ((m.set i m[j]).set j m[i]) (by simp [hm]) (by omega) (by omega) (fun p hp => by
        have hi' := h i (by omega)
        have hj' := h j (by omega)
        rw [if_neg (by omega)] at hi' hj'
        rw [List.getElem_set, List.getElem_set]
        by_cases e1 : j = p
        · subst e1
          rw [if_pos rfl, if_pos (by omega), hi', List.getElem_reverse]
          congr 1
          omega
        · rw [if_neg e1]
          by_cases e2 : i = p
          · subst e2
            rw [if_pos rfl, if_pos (by omega), hj', List.getElem_reverse]
            congr 1
            omega
          · rw [if_neg e2, h p hp]
            by_cases e3 : p < i ∨ j < p
            · rw [if_pos e3, if_pos (by omega)]
            · rw [if_neg e3, if_neg (by omega)])
      refine Ev.step (f := fun k => slices_Reverse_string.l0 k ((m.set i m[j]).set j m[i]) ((i + 1 : Nat) : Int) ((j - 1 : Nat) : Int)) (fun k => ?_) this
      simp only [slices_Reverse_string.l0]
      rw [if_pos (by omega), if_pos (by omega), if_pos (by omega), if_pos (by omega), if_pos (by omega), rdS_getElem m i hi, rdS_getElem m j hj, w1, w2, Int.toNat_natCast, Int.toNat_natCast]
    · have e := rev_mid l m i j hm hij (by omega) h
      refine Ev.step (f := fun _ => some m) (fun k => ?_) ⟨0, fun _ _ => by rw [e]⟩
      simp only [slices_Reverse_string.l0]
      rw [if_neg (by omega)]
theorem slices_Reverse_eq (l : List ByteArray) (hl : l.length ≤ 140737488351232) : Ev (fun k => slices_Reverse_string.f k l) l.reverse := by
  unfold slices_Reverse_string.f
  cases l with
  | nil =>
    refine Ev.step (f := fun _ => some []) (fun k => ?_) ⟨0, fun _ _ => rfl⟩
    simp only [slices_Reverse_string.l0]
    rw [if_neg (by rw [wrap_id (by simp) (by simp)]; simp)]
  | cons a t =>
    have w : wrap64 (((a :: t).length : Int) - 1) = (t.length : Int) := by rw [wrap_id (by simp) (by simp at hl ⊢; omega)]; simp
    rw [w]
    exact reverse_loop (a :: t) hl t.length 0 t.length (a :: t) rfl (by simp) (by omega) (fun p hp => by
      rw [if_neg (by simp at hp; omega)])
theorem sub_idx (n i : Nat) (h : i < n) : n - 1 - i < n := by omega
theorem wrap_sub (n i : Nat) (hn : n ≤ 140737488351232) (h : i < n) : wrap64 ((n : Int) - ((i + 1 : Nat) : Int)) = ((n - 1 - i : Nat) : Int) := by
  rw [wrap_id (by omega) (by omega)]
  omega
theorem wrap_suc2 (n i : Nat) (hn : n ≤ 140737488351232) (h : i < n) : wrap64 (((i + 1 : Nat) : Int) + 1) = ((i + 1 + 1 : Nat) : Int) := wrap_succ (i + 1) (i + 2) (by omega) (by omega)
theorem spec_LessName_j1t (x y : List ByteArray) (t : Int) (p q : Nat) (hp : p < x.length) (hq : q < y.length) (w1 : wrap64 ((x.length : Int) - t) = (p : Int)) (w2 : wrap64 ((y.length : Int) - t) = (q : Int)) (k : Nat) :
    spec_LessName.j1 (k + 1) x y t true = if x[p].toList = y[q].toList then spec_LessName.l0 k x y (wrap64 (t + 1)) else some (Op.bytesLess x[p].toList y[q].toList) := by
  simp only [spec_LessName.j1, if_true]
  rw [w1, w2, if_pos (Int.natCast_nonneg p), if_pos (Int.ofNat_lt.2 hp), if_pos (Int.natCast_nonneg q), if_pos (Int.ofNat_lt.2 hq), rdS_getElem x p hp, rdS_getElem y q hq]
theorem spec_LessName_j1f (x y : List ByteArray) (t : Int) (k : Nat) : spec_LessName.j1 (k + 1) x y t false = some (decide ((x.length : Int) < (y.length : Int))) := by
  simp only [spec_LessName.j1]
  rw [if_neg (by decide)]
theorem spec_LessName_l0p (x y : List ByteArray) (t : Int) (b : Bool) (h : t ≤ (x.length : Int)) (hb : decide (t ≤ (y.length : Int)) = b) (k : Nat) : spec_LessName.l0 (k + 1) x y t = spec_LessName.j1 k x y t b := by
  simp only [spec_LessName.l0]
  rw [if_pos h, hb]
theorem spec_LessName_l0n (x y : List ByteArray) (t : Int) (h : ¬ t ≤ (x.length : Int)) (k : Nat) : spec_LessName.l0 (k + 1) x y t = spec_LessName.j1 k x y t false := by
  simp only [spec_LessName.l0]
  rw [if_neg h]
theorem lessR_nil_left (y : List ByteArray) : lessR [] y = decide (0 < y.length) := by cases y <;> simp [lessR]
theorem lessR_nil_right (x : List ByteArray) : lessR x [] = false := by cases x <;> rfl
theorem spec_LessName_loop (x y : List ByteArray) (hx : x.length ≤ 140737488351232) (hy : y.length ≤ 140737488351232) : ∀ (d i : Nat), i + d = x.length → i ≤ y.length →
    Ev (fun k => spec_LessName.l0 k x y ((i + 1 : Nat) : Int)) (lessR (x.reverse.drop i) (y.reverse.drop i)) := by
  intro d
  induction d with
  | zero =>
    intro i hi hyi
    refine Ev.step (spec_LessName_l0n x y _ (by omega)) (Ev.step (f := fun _ => some (decide ((x.length : Int) < (y.length : Int)))) (spec_LessName_j1f x y _) ⟨0, fun _ _ => ?_⟩)
    rw [show x.reverse.drop i = [] from List.drop_of_length_le (by rw [List.length_reverse]; omega), lessR_nil_left, List.length_drop, List.length_reverse]
    exact congrArg some (decide_eq_decide.2 (by omega))
  | succ d ih =>
    intro i hi hyi
    have hxl : i < x.length := by omega
    have hxi : i < x.reverse.length := by rw [List.length_reverse]; exact hxl
    by_cases c : i < y.length
    · have hyi' : i < y.reverse.length := by rw [List.length_reverse]; exact c
      have ex : x.reverse[i] = x[x.length - 1 - i]'(sub_idx x.length i hxl) := List.getElem_reverse _
      have ey : y.reverse[i] = y[y.length - 1 - i]'(sub_idx y.length i c) := List.getElem_reverse _
      have j := ih (i + 1) (by omega) (by omega)
      rw [List.drop_eq_getElem_cons hxi, List.drop_eq_getElem_cons hyi']
      refine Ev.step (spec_LessName_l0p x y _ true (by omega) (decide_eq_true (by omega))) (Ev.step (spec_LessName_j1t x y _ _ _ (sub_idx x.length i hxl) (sub_idx y.length i c) (wrap_sub x.length i hx hxl) (wrap_sub y.length i hy c)) ?_)
      rw [← ex, ← ey, wrap_suc2 x.length i hx hxl]
      unfold lessR
      by_cases e : x.reverse[i] = y.reverse[i]
      · rw [if_pos e]
        exact Ev_if (congrArg ByteArray.toList e) j
      · rw [if_neg e]
        exact Ev_ifn (fun h => e (toList_inj.1 h)) ⟨0, fun _ _ => rfl⟩
    · rw [show y.reverse.drop i = [] from List.drop_of_length_le (by rw [List.length_reverse]; omega), lessR_nil_right]
      refine Ev.step (spec_LessName_l0p x y _ false (by omega) (decide_eq_false (by omega))) (Ev.step (f := fun _ => some (decide ((x.length : Int) < (y.length : Int)))) (spec_LessName_j1f x y _) ⟨0, fun _ _ => ?_⟩)
      exact congrArg some (decide_eq_false (by omega))
/-- What LessName answers. -/
def lessN (a b : ByteArray) : Bool := lessR (labelsL a).reverse (labelsL b).reverse
theorem spec_LessName_eq (a b : ByteArray) (ha : a.size ≤ 1048576) (hb : b.size ≤ 1048576) : Ev (fun k => spec_LessName.f k a b) (lessN a b) := by
  have h1 := labelsL_length a
  have h2 := labelsL_length b
  unfold spec_LessName.f lessN
  refine Ev.bind (spec_Labels_eq a ha) (Ev.bind (spec_Labels_eq b hb) ?_)
  have := spec_LessName_loop (labelsL a) (labelsL b) (by omega) (by omega) (labelsL a).length 0 (by omega) (by omega)
  simpa using this
theorem impl_LessName_eq (a b : ByteArray) (ha : a.size ≤ 1048576) (hb : b.size ≤ 1048576) : Ev (fun k => impl_LessName.f k a b) (lessN a b) := by
  have h1 := labelsL_length a
  have h2 := labelsL_length b
  unfold impl_LessName.f lessN
  rw [impl_Labels_eq a (by omega), impl_Labels_eq b (by omega)]
  simp only [Option.bind_some]
  rw [← cmpR_neg]
  refine Ev.bind (slices_Reverse_eq _ (by omega)) (Ev.bind (slices_Reverse_eq _ (by omega)) (Ev.bind (slices_Compare_eq _ _ (by rw [List.length_reverse]; omega)) (Ev.now _)))

end Go.Proofs.YtmcldfjfgmhklaaDoor.Lem
