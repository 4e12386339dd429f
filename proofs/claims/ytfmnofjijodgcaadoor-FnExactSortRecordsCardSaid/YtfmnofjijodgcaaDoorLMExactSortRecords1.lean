/- Lemmas on the printed functions, of this session. -/
-- half
import Derived.Test.YtfmnofjijodgcaaDoorY
import Derived.Test.YtfmnofjijodgcaaDoorPrx0
import Derived.Test.YtfmnofjijodgcaaDoorPrx1
import Derived.Test.YtfmnofjijodgcaaDoorPrx10
import Derived.Test.YtfmnofjijodgcaaDoorPrx2
import Derived.Test.YtfmnofjijodgcaaDoorPrx3
import Derived.Test.YtfmnofjijodgcaaDoorPrx4
import Derived.Test.YtfmnofjijodgcaaDoorPrx8
import Derived.Test.YtfmnofjijodgcaaDoorPrx9
namespace Go.Proofs.YtfmnofjijodgcaaDoor.Lem
open Go.RowKit Go.Proofs.YtfmnofjijodgcaaDoor.Pr Go.Proofs.YtfmnofjijodgcaaDoor.X Go.Proofs.YtfmnofjijodgcaaDoor.Y Go.Proofs.YtfmnofjijodgcaaDoorW.PrintWords Go.Proofs.YtfmnofjijodgcaaDoorW.PrintLast Go.Proofs.YtfmnofjijodgcaaDoorW.PrintMore
set_option linter.unusedVariables false
set_option linter.unusedSimpArgs false
def orL : List Int → Int
 | [] => 0
 | x :: l => if x = 0 then orL l else x
theorem orL_cons (x : Int) (l : List Int) : orL (x :: l) = if x = 0 then orL l else x := rfl
theorem cmp_Or_loop (l : List Int) (hn : l.length ≤ 1000) : ∀ (d i : Nat), i + d = l.length → Ev (fun k => cmp_Or_int.l0 k 0 l (l.length : Int) (i : Int)) (orL (l.drop i)) := by
 intro d
 induction d with
 | zero =>
  intro i hi
  rw [show l.drop i = [] from List.drop_of_length_le (by omega)]
  refine Ev.step (f := fun _ => some 0) (fun k => ?_) ⟨0, fun _ _ => rfl⟩
  simp only [cmp_Or_int.l0]
  rw [if_neg (by omega)]
 | succ d ih =>
  intro i hi
  have hw := wrap_succ i l.length (by omega) (by omega)
  rw [rd_drop l i (by omega)]
  by_cases c : rd l i = 0
  ·refine Ev.step (f := fun k => cmp_Or_int.l0 k 0 l (l.length : Int) ((i + 1 : Nat) : Int)) (fun k => ?_) ?_
   ·simp only [cmp_Or_int.l0]
    rw [if_pos (by omega), if_pos (by omega), if_pos (by omega), if_pos c, hw]
   ·unfold orL
    rw [if_pos c]
    exact ih (i + 1) (by omega)
  ·refine Ev.step (f := fun _ => some (rd l i)) (fun k => ?_) ⟨0, fun _ _ => ?_⟩
   ·simp only [cmp_Or_int.l0]
    rw [if_pos (by omega), if_pos (by omega), if_pos (by omega), if_neg c]
   ·unfold orL
    rw [if_neg c]
theorem cmp_Or_eq (l : List Int) (hn : l.length ≤ 1000) : Ev (fun k => cmp_Or_int.f k l) (orL l) := by
 have := cmp_Or_loop l hn l.length 0 (by omega)
 unfold cmp_Or_int.f
 simpa using this
theorem Ev_if {α : Type} {c : Prop} [Decidable c] {f g : Nat → Option α} {x : α} (h : c) (h1 : Ev f x) : Ev (fun k => if c then f k else g k) x := by
 simp only [if_pos h]
 exact h1
theorem Ev_ifn {α : Type} {c : Prop} [Decidable c] {f g : Nat → Option α} {x : α} (h : ¬ c) (h1 : Ev g x) : Ev (fun k => if c then f k else g k) x := by
 simp only [if_neg h]
 exact h1
theorem rdS_getElem (l : List ByteArray) (i : Nat) (h : i < l.length) : rdOf ByteArray.empty l i = l[i] := by
 unfold rdOf
 rw [Int.toNat_natCast, List.getD_eq_getElem?_getD, List.getElem?_eq_getElem h, Option.getD_some]
def joinS : List ByteArray → ByteArray
 | [] => (⟨#[]⟩ : ByteArray)
 | [x] => x
 | x :: y :: l => x ++ ((⟨#[46]⟩ : ByteArray) ++ joinS (y :: l))
theorem joinS_cons (x : ByteArray) (l : List ByteArray) (h : l ≠ []) : joinS (x :: l) = x ++ ((⟨#[46]⟩ : ByteArray) ++ joinS l) := by
 cases l with
 | nil => exact absurd rfl h
 | cons y l => rfl
def cutA : List UInt8 → List UInt8 → List (List UInt8)
 | acc, [] => [acc]
 | acc, c :: t => if c = 46 then acc :: cutA [] t else cutA (acc ++ [c]) t
def mkB (l : List UInt8) : ByteArray := ⟨l.toArray⟩
theorem mkB_data (s : ByteArray) : mkB s.data.toList = s := rfl
def labelsL (s : ByteArray) : List ByteArray := if s.data.toList = [] then [] else (cutA [] s.data.toList).map mkB
theorem cutA_acc : ∀ (t acc : List UInt8), cutA acc t = match cutA [] t with | [] => [] | x :: r => (acc ++ x) :: r
 | [], acc => by simp [cutA]
 | c :: t, acc => by
  by_cases h : c = 46
  ·simp [cutA, h]
  ·have e1 := cutA_acc t (acc ++ [c])
   have e2 := cutA_acc t ([] ++ [c])
   simp only [cutA, if_neg h]
   rw [e1, e2]
   cases cutA [] t with
   | nil => rfl
   | cons x r => simp [List.append_assoc]
theorem split_cut : ∀ (l : List UInt8), Lib.splitK [46] 0 (l.count 46) l = cutA [] l
 | [] => rfl
 | c :: t => by
  have ih := split_cut t
  by_cases h : c = 46
  ·subst h
   rw [List.count_cons_self]
   simp only [Lib.splitK, cutA, if_true]
   rw [Lib.index_one]
   simp only [Lib.indexByte]
   simp [ih]
  ·rw [List.count_cons_of_ne (by simpa using h)]
   have e2 := cutA_acc t ([] ++ [c])
   simp only [cutA, if_neg h]
   rw [e2, ← ih]
   have hb : (c == 46) = false := by simpa using h
   cases hk : t.count 46 with
   | zero => simp [Lib.splitK]
   | succ k =>
    simp only [Lib.splitK]
    rw [Lib.index_one, Lib.index_one]
    simp only [Lib.indexByte, hb]
    have hge := Lib.indexByte_ge t 46
    by_cases hi : Lib.indexByte t 46 = -1
    ·simp [hi]
    ·have h1 : (Lib.indexByte t 46 == -1) = false := by simpa using hi
     have h2 : (Lib.indexByte t 46 + 1 == -1) = false := by simp; omega
     have h3 : (Lib.indexByte t 46 + 1).toNat = (Lib.indexByte t 46).toNat + 1 := by omega
     simp only [h1, h2, h3, Bool.false_eq_true, if_false]
     simp [List.take_succ_cons, Nat.add_right_comm]
theorem impl_Labels_eq (s : ByteArray) (hs : s.size < 4294967281) : impl_Labels.f s = some (labelsL s) := by
 unfold impl_Labels.f labelsL
 rw [ByteArray.toList_eq]
 by_cases h : s.data.toList = []
 ·rw [if_pos h, if_pos h]
 ·rw [if_neg h, if_neg h]
  have e : strings_Split.f s (⟨#[46]⟩ : ByteArray) = some (Lib.splitB ⟨#[46]⟩ 0 (Lib.countB s ⟨#[46]⟩) s) := by
   unfold strings_Split.f
   exact if_pos ⟨rfl, hs⟩
  rw [e]
  simp only [Option.bind_some]
  congr 1
  have d := Lib.splitB_data ⟨#[46]⟩ 0 (Lib.countB s ⟨#[46]⟩) s
  have k : Lib.countB s ⟨#[46]⟩ = s.data.toList.count 46 := Lib.count_one 46 s.data.toList
  rw [k] at d ⊢
  have d2 : (Lib.splitB ⟨#[46]⟩ 0 (s.data.toList.count 46) s).map (·.data.toList) = cutA [] s.data.toList := d.trans (split_cut _)
  rw [← d2, List.map_map]
  exact (List.map_id'' (fun x => mkB_data x) _).symm
theorem extract_mkB (s : ByteArray) (f i : Nat) : s.extract f i = mkB ((s.data.toList.take i).drop f) := by
 have h : (s.extract f i).data.toList = (s.data.toList.take i).drop f := by
  rw [ByteArray.data_extract, Array.toList_extract, List.extract_eq_take_drop, List.drop_take]
 rw [← mkB_data (s.extract f i), h]
theorem bt_data (s : ByteArray) (i : Nat) (h : i < s.data.toList.length) : (bt s (i : Int) = 46) ↔ s.data.toList[i] = 46 := by
 have h' : (i : Int).toNat < s.size := by simpa using h
 have e := bt_at s (i : Int) h'
 have e2 : s[(i : Int).toNat]'h' = s.data.toList[i] := by
  rw [Array.getElem_toList]
  rfl
 rw [← e, e2, ← UInt8.toNat_inj]
 have t : UInt8.toNat 46 = 46 := rfl
 generalize s.data.toList[i].toNat = z
 generalize UInt8.toNat 46 = z' at t ⊢
 omega
theorem size_data (s : ByteArray) : s.size = s.data.toList.length := rfl
theorem spec_Labels_loop (s : ByteArray) (hn : s.size ≤ 1048576) (hne : s.toList ≠ []) : ∀ (d i f : Nat) (out : List ByteArray), i + d = s.size → f ≤ i → out.length ≤ i →
  Ev (fun k => spec_Labels.l0 k s out (f : Int) (i : Int)) (out ++ (cutA ((s.data.toList.take i).drop f) (s.data.toList.drop i)).map mkB) := by
 have hz := size_data s
 have hb : (s.toList != ([] : List UInt8)) = true := bne_iff_ne.2 hne
 intro d
 induction d with
 | zero =>
  intro i f out hi hf ho
  have w : wrap64 ((i : Int) + 1) = ((i + 1 : Nat) : Int) := wrap_succ i 1048577 (by omega) (by omega)
  have hx : s.extract f i = mkB ((s.data.toList.take i).drop f) := extract_mkB s f i
  refine Ev.step (f := fun k => spec_Labels.j1 k s out (f : Int) (i : Int) true) (fun k => ?_) ?_
  ·simp only [spec_Labels.l0]
   rw [if_pos (by omega), hb]
  refine Ev.step (f := fun k => spec_Labels.l0 k s (out ++ [mkB ((s.data.toList.take i).drop f)]) ((i + 1 : Nat) : Int) ((i + 1 : Nat) : Int)) (fun k => ?_) ?_
  ·simp only [spec_Labels.j1, if_true]
   rw [if_pos (by omega), if_pos (by omega), if_pos (by omega), if_pos (by omega), if_pos (by omega), w, Int.toNat_natCast, Int.toNat_natCast, hx]
  refine Ev.step (f := fun k => spec_Labels.j1 k s (out ++ [mkB ((s.data.toList.take i).drop f)]) ((i + 1 : Nat) : Int) ((i + 1 : Nat) : Int) false) (fun k => ?_) ?_
  ·simp only [spec_Labels.l0]
   rw [if_neg (by omega)]
  refine Ev.step (f := fun _ => some (out ++ [mkB ((s.data.toList.take i).drop f)])) (fun k => ?_) ⟨0, fun _ _ => ?_⟩
  ·simp only [spec_Labels.j1]
   rw [if_neg (by decide)]
  ·rw [show s.data.toList.drop i = [] from List.drop_of_length_le (by omega)]
   rfl
 | succ d ih =>
  intro i f out hi hf ho
  have hil : i < s.data.toList.length := by omega
  have w : wrap64 ((i : Int) + 1) = ((i + 1 : Nat) : Int) := wrap_succ i 1048577 (by omega) (by omega)
  have hx : s.extract f i = mkB ((s.data.toList.take i).drop f) := extract_mkB s f i
  rw [List.drop_eq_getElem_cons hil]
  refine Ev.step (f := fun k => spec_Labels.j1 k s out (f : Int) (i : Int) true) (fun k => ?_) ?_
  ·simp only [spec_Labels.l0]
   rw [if_pos (by omega), hb]
  by_cases c : s.data.toList[i] = 46
  ·have cb := (bt_data s i hil).2 c
   have := ih (i + 1) (i + 1) (out ++ [mkB ((s.data.toList.take i).drop f)]) (by omega) (by omega) (by simp; omega)
   have e0 : (s.data.toList.take (i + 1)).drop (i + 1) = [] := List.drop_of_length_le (by rw [List.length_take]; omega)
   rw [e0] at this
   refine Ev.step (f := fun k => spec_Labels.l0 k s (out ++ [mkB ((s.data.toList.take i).drop f)]) ((i + 1 : Nat) : Int) ((i + 1 : Nat) : Int)) (fun k => ?_) ?_
   ·simp only [spec_Labels.j1, if_true]
    rw [if_neg (by omega), if_pos (by omega), if_pos (by omega), if_pos cb, if_pos (by omega), if_pos (by omega), if_pos (by omega), if_pos (by omega), w, Int.toNat_natCast, Int.toNat_natCast, hx]
   ·simp only [cutA, if_pos c, List.map_cons]
    rw [List.append_assoc] at this
    exact this
  ·have cb : ¬ bt s (i : Int) = 46 := fun e => c ((bt_data s i hil).1 e)
   have := ih (i + 1) f out (by omega) (by omega) (by omega)
   have e0 : (s.data.toList.take (i + 1)).drop f = (s.data.toList.take i).drop f ++ [s.data.toList[i]] := by
    rw [← List.take_append_getElem hil, List.drop_append_of_le_length (by rw [List.length_take]; omega)]
   rw [e0] at this
   refine Ev.step (f := fun k => spec_Labels.l0 k s out (f : Int) ((i + 1 : Nat) : Int)) (fun k => ?_) ?_
   ·simp only [spec_Labels.j1, if_true]
    rw [if_neg (by omega), if_pos (by omega), if_pos (by omega), if_neg cb, w]
   ·simp only [cutA, if_neg c]
    exact this
theorem spec_Labels_eq (s : ByteArray) (hn : s.size ≤ 1048576) : Ev (fun k => spec_Labels.f k s) (labelsL s) := by
 unfold spec_Labels.f labelsL
 by_cases h : s.data.toList = []
 ·rw [if_pos h]
  have hb : (s.toList != ([] : List UInt8)) = false := by rw [ByteArray.toList_eq, h]; rfl
  refine Ev.step (f := fun k => spec_Labels.j1 k s [] 0 0 false) (fun k => ?_) ?_
  ·simp only [spec_Labels.l0]
   rw [if_pos (by omega), hb]
  refine Ev.step (f := fun _ => some []) (fun k => ?_) ⟨0, fun _ _ => rfl⟩
  simp only [spec_Labels.j1]
  rw [if_neg (by decide)]
 ·rw [if_neg h]
  have := spec_Labels_loop s hn (by rw [ByteArray.toList_eq]; exact h) s.size 0 0 [] (by omega) (by omega) (by simp)
  simpa using this
theorem cutA_length : ∀ (t acc : List UInt8), (cutA acc t).length ≤ t.length + 1
 | [], _ => Nat.le_refl _
 | c :: t, acc => by
  unfold cutA
  split
  ·have := cutA_length t []
   simp only [List.length_cons]
   omega
  ·have := cutA_length t (acc ++ [c])
   simp only [List.length_cons]
   omega
theorem labelsL_length (s : ByteArray) : (labelsL s).length ≤ s.size + 1 := by
 unfold labelsL
 split
 ·simp
 ·rw [List.length_map, size_data]
  exact cutA_length _ _
theorem less_irrefl : ∀ a : List UInt8, Op.bytesLess a a = false
 | [] => rfl
 | c :: t => by simp [Op.bytesLess, less_irrefl t]
theorem less_total : ∀ a b : List UInt8, a ≠ b → Op.bytesLess a b = false → Op.bytesLess b a = true
 | [], [], h, _ => absurd rfl h
 | [], _ :: _, _, h => by simp [Op.bytesLess] at h
 | _ :: _, [], _, _ => by simp [Op.bytesLess]
 | c :: x, e :: y, hne, h => by
  simp only [Op.bytesLess, Bool.or_eq_false_iff, decide_eq_false_iff_not] at h
  obtain ⟨h1, h2⟩ := h
  simp only [Op.bytesLess, Bool.or_eq_true, decide_eq_true_eq]
  by_cases hce : c = e
  ·subst hce
   have hxy : x ≠ y := fun e => hne (by rw [e])
   have h3 : Op.bytesLess x y = false := by simpa using h2
   exact Or.inr (by simp [less_total x y hxy h3])
  ·left
   rw [UInt8.lt_iff_toNat_lt] at h1 ⊢
   have : c.toNat ≠ e.toNat := fun q => hce (UInt8.toNat_inj.1 q)
   omega
def lessR : List ByteArray → List ByteArray → Bool
 | [], [] => false
 | [], _ :: _ => true
 | _ :: _, [] => false
 | a :: x, b :: y => if a = b then lessR x y else Op.bytesLess a.toList b.toList
def cmpR : List ByteArray → List ByteArray → Int
 | [], [] => 0
 | [], _ :: _ => -1
 | _ :: _, [] => 1
 | a :: x, b :: y => if a = b then cmpR x y else if Op.bytesLess a.toList b.toList = true then -1 else 1
theorem cmpR_neg : ∀ x y : List ByteArray, decide (cmpR x y < 0) = lessR x y
 | [], [] => rfl
 | [], _ :: _ => rfl
 | _ :: _, [] => rfl
 | a :: x, b :: y => by
  unfold cmpR lessR
  by_cases h : a = b
  ·rw [if_pos h, if_pos h]
   exact cmpR_neg x y
  ·rw [if_neg h, if_neg h]
   cases Op.bytesLess a.toList b.toList <;> rfl
theorem cmp_string_eq (a b : ByteArray) : cmp_Compare_string.f a b = some (if a = b then 0 else if Op.bytesLess a.toList b.toList = true then -1 else 1) := by
 unfold cmp_Compare_string.f cmp_isNaN_string.f
 simp only [bne_self_eq_false, Option.bind_some, if_neg (show ¬ (false = true) by decide)]
 by_cases h : a = b
 ·subst h
  simp [less_irrefl]
 ·rw [if_neg h]
  have hne : a.toList ≠ b.toList := fun e => h (toList_inj.1 e)
  cases hl : Op.bytesLess a.toList b.toList with
  | true => simp
  | false => simp [hne]
theorem slices_Compare_loop (x y : List ByteArray) (hx : x.length ≤ 140737488351232) : ∀ (d i : Nat), i + d = x.length → i ≤ y.length →
  Ev (fun k => slices_Compare_string.l0 k x y x (x.length : Int) (i : Int)) (cmpR (x.drop i) (y.drop i)) := by
 intro d
 induction d with
 | zero =>
  intro i hi hy
  rw [show x.drop i = [] from List.drop_of_length_le (by omega)]
  by_cases c : (x.length : Int) < (y.length : Int)
  ·rw [List.drop_eq_getElem_cons (show i < y.length by omega)]
   refine Ev.step (f := fun _ => some (-1)) (fun k => ?_) ⟨0, fun _ _ => rfl⟩
   simp only [slices_Compare_string.l0]
   rw [if_neg (by omega), if_pos c]
  ·rw [show y.drop i = [] from List.drop_of_length_le (by omega)]
   refine Ev.step (f := fun _ => some 0) (fun k => ?_) ⟨0, fun _ _ => rfl⟩
   simp only [slices_Compare_string.l0]
   rw [if_neg (by omega), if_neg c]
 | succ d ih =>
  intro i hi hy
  have hxi : i < x.length := by omega
  have w3 : wrap64 ((i : Int) + 1) = ((i + 1 : Nat) : Int) := wrap_succ i x.length (by omega) (by omega)
  rw [List.drop_eq_getElem_cons hxi]
  by_cases c : i < y.length
  ·rw [List.drop_eq_getElem_cons c]
   refine Ev.step (f := fun k => if (if x[i] = y[i] then (0 : Int) else if Op.bytesLess x[i].toList y[i].toList = true then -1 else 1) = 0 then slices_Compare_string.l0 k x y x (x.length : Int) ((i + 1 : Nat) : Int) else some (if x[i] = y[i] then (0 : Int) else if Op.bytesLess x[i].toList y[i].toList = true then -1 else 1)) (fun k => ?_) ?_
   ·simp only [slices_Compare_string.l0]
    rw [if_pos (by omega), if_pos (by omega), if_pos (by omega), if_neg (by omega), if_pos (by omega), rdS_getElem x i hxi, rdS_getElem y i c, cmp_string_eq, Option.bind_some, w3]
   ·unfold cmpR
    by_cases e : x[i] = y[i]
    ·simp only [if_pos e, if_true]
     exact ih (i + 1) (by omega) (by omega)
    ·simp only [if_neg e]
     refine Ev_ifn ?_ ⟨0, fun _ _ => rfl⟩
     split <;> decide
  ·rw [show y.drop i = [] from List.drop_of_length_le (by omega)]
   refine Ev.step (f := fun _ => some 1) (fun k => ?_) ⟨0, fun _ _ => rfl⟩
   simp only [slices_Compare_string.l0]
   rw [if_pos (by omega), if_pos (by omega), if_pos (by omega), if_pos (by omega)]
theorem slices_Compare_eq (x y : List ByteArray) (hx : x.length ≤ 140737488351232) : Ev (fun k => slices_Compare_string.f k x y) (cmpR x y) := by
 have := slices_Compare_loop x y hx x.length 0 (by omega) (by omega)
 unfold slices_Compare_string.f
 simpa using this
theorem rev_mid (l m : List ByteArray) (i j : Nat) (hm : m.length = l.length) (hij : i + j + 1 = l.length) (hle : j ≤ i)
  (h : ∀ p (hp : p < l.length), m[p]'(by omega) = if p < i ∨ j < p then l.reverse[p]'(by simpa using hp) else l[p]) : m = l.reverse := by
 refine List.ext_getElem (by simp [hm]) (fun p h1 h2 => ?_)
 have hp : p < l.length := by omega
 rw [h p hp]
 by_cases c : p < i ∨ j < p
 ·rw [if_pos c]
 ·rw [if_neg c, List.getElem_reverse]
  congr 1
  omega
theorem reverse_loop (l : List ByteArray) (hl : l.length ≤ 140737488351232) : ∀ (d i j : Nat) (m : List ByteArray) (hm : m.length = l.length), i + j + 1 = l.length → j ≤ i + d →
  (∀ p (hp : p < l.length), m[p]'(by omega) = if p < i ∨ j < p then l.reverse[p]'(by simpa using hp) else l[p]) →
  Ev (fun k => slices_Reverse_string.l0 k m (i : Int) (j : Int)) l.reverse := by
 intro d
 induction d using Nat.strongRecOn with
 | _ d ih =>
  intro i j m hm hij hle h
  by_cases c : i < j
  ·have hi : i < m.length := by omega
   have hj : j < m.length := by omega
   have w1 : wrap64 ((i : Int) + 1) = ((i + 1 : Nat) : Int) := wrap_succ i l.length (by omega) (by omega)
   have w2 : wrap64 ((j : Int) - 1) = ((j - 1 : Nat) : Int) := by rw [wrap_id (by omega) (by omega)]; omega
   have := ih (d - 2) (by omega) (i + 1) (j - 1) ((m.set i m[j]).set j m[i]) (by simp [hm]) (by omega) (by omega) (fun p hp => by
    have hi' := h i (by omega)
    have hj' := h j (by omega)
    rw [if_neg (by omega)] at hi' hj'
    rw [List.getElem_set, List.getElem_set]
    by_cases e1 : j = p
    ·subst e1
     rw [if_pos rfl, if_pos (by omega), hi', List.getElem_reverse]
     congr 1
     omega
    ·rw [if_neg e1]
     by_cases e2 : i = p
     ·subst e2
      rw [if_pos rfl, if_pos (by omega), hj', List.getElem_reverse]
      congr 1
      omega
     ·rw [if_neg e2, h p hp]
      by_cases e3 : p < i ∨ j < p
      ·rw [if_pos e3, if_pos (by omega)]
      ·rw [if_neg e3, if_neg (by omega)])
   refine Ev.step (f := fun k => slices_Reverse_string.l0 k ((m.set i m[j]).set j m[i]) ((i + 1 : Nat) : Int) ((j - 1 : Nat) : Int)) (fun k => ?_) this
   simp only [slices_Reverse_string.l0]
   rw [if_pos (by omega), if_pos (by omega), if_pos (by omega), if_pos (by omega), if_pos (by omega), rdS_getElem m i hi, rdS_getElem m j hj, w1, w2, Int.toNat_natCast, Int.toNat_natCast]
  ·have e := rev_mid l m i j hm hij (by omega) h
   refine Ev.step (f := fun _ => some m) (fun k => ?_) ⟨0, fun _ _ => by rw [e]⟩
   simp only [slices_Reverse_string.l0]
   rw [if_neg (by omega)]
theorem slices_Reverse_eq (l : List ByteArray) (hl : l.length ≤ 140737488351232) : Ev (fun k => slices_Reverse_string.f k l) l.reverse := by
 unfold slices_Reverse_string.f
 cases l with
 | nil =>
  refine Ev.step (f := fun _ => some []) (fun k => ?_) ⟨0, fun _ _ => rfl⟩
  simp only [slices_Reverse_string.l0]
  rw [if_neg (by rw [wrap_id (by simp) (by simp)]; simp)]
 | cons a t =>
  have w : wrap64 (((a :: t).length : Int) - 1) = (t.length : Int) := by rw [wrap_id (by simp) (by simp at hl ⊢; omega)]; simp
  rw [w]
  exact reverse_loop (a :: t) hl t.length 0 t.length (a :: t) rfl (by simp) (by omega) (fun p hp => by
   rw [if_neg (by simp at hp; omega)])
theorem sub_idx (n i : Nat) (h : i < n) : n - 1 - i < n := by omega
theorem wrap_sub (n i : Nat) (hn : n ≤ 140737488351232) (h : i < n) : wrap64 ((n : Int) - ((i + 1 : Nat) : Int)) = ((n - 1 - i : Nat) : Int) := by
 rw [wrap_id (by omega) (by omega)]
 omega
theorem wrap_suc2 (n i : Nat) (hn : n ≤ 140737488351232) (h : i < n) : wrap64 (((i + 1 : Nat) : Int) + 1) = ((i + 1 + 1 : Nat) : Int) := wrap_succ (i + 1) (i + 2) (by omega) (by omega)
theorem spec_LessName_j1t (x y : List ByteArray) (t : Int) (p q : Nat) (hp : p < x.length) (hq : q < y.length) (w1 : wrap64 ((x.length : Int) - t) = (p : Int)) (w2 : wrap64 ((y.length : Int) - t) = (q : Int)) (k : Nat) :
  spec_LessName.j1 (k + 1) x y t true = if x[p].toList = y[q].toList then spec_LessName.l0 k x y (wrap64 (t + 1)) else some (Op.bytesLess x[p].toList y[q].toList) := by
 simp only [spec_LessName.j1, if_true]
 rw [w1, w2, if_pos (Int.natCast_nonneg p), if_pos (Int.ofNat_lt.2 hp), if_pos (Int.natCast_nonneg q), if_pos (Int.ofNat_lt.2 hq), rdS_getElem x p hp, rdS_getElem y q hq]
theorem spec_LessName_j1f (x y : List ByteArray) (t : Int) (k : Nat) : spec_LessName.j1 (k + 1) x y t false = some (decide ((x.length : Int) < (y.length : Int))) := by
 simp only [spec_LessName.j1]
 rw [if_neg (by decide)]
theorem spec_LessName_l0p (x y : List ByteArray) (t : Int) (b : Bool) (h : t ≤ (x.length : Int)) (hb : decide (t ≤ (y.length : Int)) = b) (k : Nat) : spec_LessName.l0 (k + 1) x y t = spec_LessName.j1 k x y t b := by
 simp only [spec_LessName.l0]
 rw [if_pos h, hb]
theorem spec_LessName_l0n (x y : List ByteArray) (t : Int) (h : ¬ t ≤ (x.length : Int)) (k : Nat) : spec_LessName.l0 (k + 1) x y t = spec_LessName.j1 k x y t false := by
 simp only [spec_LessName.l0]
 rw [if_neg h]
theorem lessR_nil_left (y : List ByteArray) : lessR [] y = decide (0 < y.length) := by cases y <;> simp [lessR]
theorem lessR_nil_right (x : List ByteArray) : lessR x [] = false := by cases x <;> rfl
theorem spec_LessName_loop (x y : List ByteArray) (hx : x.length ≤ 140737488351232) (hy : y.length ≤ 140737488351232) : ∀ (d i : Nat), i + d = x.length → i ≤ y.length →
  Ev (fun k => spec_LessName.l0 k x y ((i + 1 : Nat) : Int)) (lessR (x.reverse.drop i) (y.reverse.drop i)) := by
 intro d
 induction d with
 | zero =>
  intro i hi hyi
  refine Ev.step (spec_LessName_l0n x y _ (by omega)) (Ev.step (f := fun _ => some (decide ((x.length : Int) < (y.length : Int)))) (spec_LessName_j1f x y _) ⟨0, fun _ _ => ?_⟩)
  rw [show x.reverse.drop i = [] from List.drop_of_length_le (by rw [List.length_reverse]; omega), lessR_nil_left, List.length_drop, List.length_reverse]
  exact congrArg some (decide_eq_decide.2 (by omega))
 | succ d ih =>
  intro i hi hyi
  have hxl : i < x.length := by omega
  have hxi : i < x.reverse.length := by rw [List.length_reverse]; exact hxl
  by_cases c : i < y.length
  ·have hyi' : i < y.reverse.length := by rw [List.length_reverse]; exact c
   have ex : x.reverse[i] = x[x.length - 1 - i]'(sub_idx x.length i hxl) := List.getElem_reverse _
   have ey : y.reverse[i] = y[y.length - 1 - i]'(sub_idx y.length i c) := List.getElem_reverse _
   have j := ih (i + 1) (by omega) (by omega)
   rw [List.drop_eq_getElem_cons hxi, List.drop_eq_getElem_cons hyi']
   refine Ev.step (spec_LessName_l0p x y _ true (by omega) (decide_eq_true (by omega))) (Ev.step (spec_LessName_j1t x y _ _ _ (sub_idx x.length i hxl) (sub_idx y.length i c) (wrap_sub x.length i hx hxl) (wrap_sub y.length i hy c)) ?_)
   rw [← ex, ← ey, wrap_suc2 x.length i hx hxl]
   unfold lessR
   by_cases e : x.reverse[i] = y.reverse[i]
   ·rw [if_pos e]
    exact Ev_if (congrArg ByteArray.toList e) j
   ·rw [if_neg e]
    exact Ev_ifn (fun h => e (toList_inj.1 h)) ⟨0, fun _ _ => rfl⟩
  ·rw [show y.reverse.drop i = [] from List.drop_of_length_le (by rw [List.length_reverse]; omega), lessR_nil_right]
   refine Ev.step (spec_LessName_l0p x y _ false (by omega) (decide_eq_false (by omega))) (Ev.step (f := fun _ => some (decide ((x.length : Int) < (y.length : Int)))) (spec_LessName_j1f x y _) ⟨0, fun _ _ => ?_⟩)
   exact congrArg some (decide_eq_false (by omega))
def lessN (a b : ByteArray) : Bool := lessR (labelsL a).reverse (labelsL b).reverse
theorem spec_LessName_eq (a b : ByteArray) (ha : a.size ≤ 1048576) (hb : b.size ≤ 1048576) : Ev (fun k => spec_LessName.f k a b) (lessN a b) := by
 have h1 := labelsL_length a
 have h2 := labelsL_length b
 unfold spec_LessName.f lessN
 refine Ev.bind (spec_Labels_eq a ha) (Ev.bind (spec_Labels_eq b hb) ?_)
 have := spec_LessName_loop (labelsL a) (labelsL b) (by omega) (by omega) (labelsL a).length 0 (by omega) (by omega)
 simpa using this
theorem impl_LessName_eq (a b : ByteArray) (ha : a.size ≤ 1048576) (hb : b.size ≤ 1048576) : Ev (fun k => impl_LessName.f k a b) (lessN a b) := by
 have h1 := labelsL_length a
 have h2 := labelsL_length b
 unfold impl_LessName.f lessN
 rw [impl_Labels_eq a (by omega), impl_Labels_eq b (by omega)]
 simp only [Option.bind_some]
 rw [← cmpR_neg]
 refine Ev.bind (slices_Reverse_eq _ (by omega)) (Ev.bind (slices_Reverse_eq _ (by omega)) (Ev.bind (slices_Compare_eq _ _ (by rw [List.length_reverse]; omega)) (Ev.now _)))
theorem mkB_append (a b : List UInt8) : mkB a ++ mkB b = mkB (a ++ b) := by
 apply ByteArray.ext
 rw [ByteArray.data_append]
 simp [mkB]
theorem cutA_ne : ∀ (t acc : List UInt8), cutA acc t ≠ []
 | [], acc => by simp [cutA]
 | c :: t, acc => by
  unfold cutA
  split
  ·simp
  ·exact cutA_ne t _
theorem join_cutA : ∀ (t acc : List UInt8), joinS ((cutA acc t).map mkB) = mkB (acc ++ t)
 | [], acc => by simp [cutA, joinS]
 | c :: t, acc => by
  by_cases h : c = 46
  ·subst h
   simp only [cutA, if_true, List.map_cons]
   rw [joinS_cons _ _ (by simpa using cutA_ne t []), join_cutA t []]
   have e : (⟨#[46]⟩ : ByteArray) = mkB [46] := rfl
   rw [e, mkB_append, mkB_append]
   rfl
  ·simp only [cutA, if_neg h]
   rw [join_cutA t (acc ++ [c])]
   simp
theorem join_labels (s : ByteArray) : joinS (labelsL s) = s := by
 unfold labelsL
 by_cases h : s.data.toList = []
 ·rw [if_pos h]
  have e : mkB s.data.toList = s := mkB_data s
  rw [h] at e
  exact e
 ·rw [if_neg h, join_cutA]
  exact mkB_data s
theorem labelsL_inj {a b : ByteArray} (h : labelsL a = labelsL b) : a = b := by rw [← join_labels a, h, join_labels b]
theorem lessR_irrefl : ∀ x : List ByteArray, lessR x x = false
 | [] => rfl
 | a :: x => by
  unfold lessR
  rw [if_pos rfl]
  exact lessR_irrefl x
theorem lessR_total : ∀ x y : List ByteArray, x ≠ y → lessR x y = false → lessR y x = true
 | [], [], h, _ => absurd rfl h
 | [], _ :: _, _, h => by simp [lessR] at h
 | _ :: _, [], _, _ => by simp [lessR]
 | a :: x, b :: y, hne, h => by
  unfold lessR at h ⊢
  by_cases e : a = b
  ·subst e
   rw [if_pos rfl] at h ⊢
   exact lessR_total x y (fun q => hne (by rw [q])) h
  ·rw [if_neg e] at h
   rw [if_neg (fun q => e q.symm)]
   exact less_total _ _ (fun q => e (toList_inj.1 q)) h
theorem lessN_irrefl (a : ByteArray) : lessN a a = false := lessR_irrefl _
theorem lessN_total (a b : ByteArray) (hne : a ≠ b) (h : lessN a b = false) : lessN b a = true :=
 lessR_total _ _ (fun q => hne (labelsL_inj (List.reverse_inj.1 q))) h
def nameC (a b : ByteArray) : Int := if a = b then 0 else if lessN a b = true then -1 else 1
theorem impl_byName_eq (a b : ByteArray) (ha : a.size ≤ 1048576) (hb : b.size ≤ 1048576) : Ev (fun k => impl_byName.f k a b) (nameC a b) := by
 unfold impl_byName.f nameC
 refine Ev.bind (impl_LessName_eq a b ha hb) ?_
 by_cases e : a = b
 ·subst e
  rw [lessN_irrefl, if_pos rfl]
  refine Ev_ifn (by decide) (Ev.bind (impl_LessName_eq a a ha ha) ?_)
  rw [lessN_irrefl]
  exact Ev_ifn (by decide) ⟨0, fun _ _ => rfl⟩
 ·rw [if_neg e]
  cases h : lessN a b with
  | true =>
   rw [if_pos rfl]
   exact Ev_if rfl ⟨0, fun _ _ => rfl⟩
  | false =>
   rw [if_neg (by decide)]
   refine Ev_ifn (by decide) (Ev.bind (impl_LessName_eq b a hb ha) ?_)
   rw [lessN_total a b e h]
   exact Ev_if rfl ⟨0, fun _ _ => rfl⟩
def intC (a b : Int) : Int := if a < b then -1 else if a > b then 1 else 0
theorem cmp_int_eq (a b : Int) : cmp_Compare_int.f a b = some (intC a b) := by
 unfold cmp_Compare_int.f cmp_isNaN_int.f intC
 simp only [bne_self_eq_false, Option.bind_some, if_neg (show ¬ (false = true) by decide)]
 split
 ·rfl
 ·split <;> rfl
def strC (a b : ByteArray) : Int := if a = b then 0 else if Op.bytesLess a.toList b.toList = true then -1 else 1
def lessRec (a0 : ByteArray) (a1 a2 a3 : Int) (a4 a5 b0 : ByteArray) (b1 b2 b3 : Int) (b4 b5 : ByteArray) : Bool :=
 if a0 = b0 then (if a1 = b1 then (if a3 = b3 then (if a4 = b4 then (if a5 = b5 then decide (a2 < b2) else Op.bytesLess a5.toList b5.toList) else lessN a4 b4) else decide (a3 < b3)) else decide (a1 < b1)) else lessN a0 b0
theorem lessRec_or (a0 : ByteArray) (a1 a2 a3 : Int) (a4 a5 b0 : ByteArray) (b1 b2 b3 : Int) (b4 b5 : ByteArray) :
  decide (orL [nameC a0 b0, intC a1 b1, intC a3 b3, nameC a4 b4, strC a5 b5, intC a2 b2] < 0) = lessRec a0 a1 a2 a3 a4 a5 b0 b1 b2 b3 b4 b5 := by
 have nn (a b : ByteArray) (l : List Int) : orL (nameC a b :: l) = if a = b then orL l else if lessN a b = true then -1 else 1 := by
  rw [orL_cons]
  unfold nameC
  by_cases e : a = b
  ·simp [e]
  ·rw [if_neg e, if_neg e]
   split <;> rfl
 have ss (a b : ByteArray) (l : List Int) : orL (strC a b :: l) = if a = b then orL l else if Op.bytesLess a.toList b.toList = true then -1 else 1 := by
  rw [orL_cons]
  unfold strC
  by_cases e : a = b
  ·simp [e]
  ·rw [if_neg e, if_neg e]
   split <;> rfl
 have ii (a b : Int) (l : List Int) : orL (intC a b :: l) = if a = b then orL l else if a < b then -1 else 1 := by
  rw [orL_cons]
  unfold intC
  by_cases e : a = b
  ·subst e
   simp
  ·rw [if_neg e]
   by_cases q : a < b
   ·simp [q]
   ·simp [q, show b < a by omega]
 have fb (q : Bool) : decide ((if q = true then (-1 : Int) else 1) < 0) = q := by cases q <;> rfl
 have fi (a b : Int) : decide ((if a < b then (-1 : Int) else 1) < 0) = decide (a < b) := by
  by_cases q : a < b
  ·simp [q]
  ·simp [q]
 unfold lessRec
 rw [nn]
 by_cases e0 : a0 = b0
 ·rw [if_pos e0, if_pos e0, ii]
  by_cases e1 : a1 = b1
  ·rw [if_pos e1, if_pos e1, ii]
   by_cases e3 : a3 = b3
   ·rw [if_pos e3, if_pos e3, nn]
    by_cases e4 : a4 = b4
    ·rw [if_pos e4, if_pos e4, ss]
     by_cases e5 : a5 = b5
     ·rw [if_pos e5, if_pos e5, ii]
      by_cases e2 : a2 = b2
      ·subst e2
       simp [orL]
      ·rw [if_neg e2]
       exact fi _ _
     ·rw [if_neg e5, if_neg e5]
      exact fb _
    ·rw [if_neg e4, if_neg e4]
     exact fb _
   ·rw [if_neg e3, if_neg e3]
    exact fi _ _
  ·rw [if_neg e1, if_neg e1]
   exact fi _ _
 ·rw [if_neg e0, if_neg e0]
  exact fb _
theorem spec_LessRecord_eq (a0 : ByteArray) (a1 a2 a3 : Int) (a4 a5 b0 : ByteArray) (b1 b2 b3 : Int) (b4 b5 : ByteArray) (h0 : a0.size ≤ 1048576) (h4 : a4.size ≤ 1048576) (h5 : a5.size ≤ 1048576) (k0 : b0.size ≤ 1048576) (k4 : b4.size ≤ 1048576) (k5 : b5.size ≤ 1048576) :
  Ev (fun k => spec_LessRecord.f k a0 a1 a2 a3 a4 a5 b0 b1 b2 b3 b4 b5) (lessRec a0 a1 a2 a3 a4 a5 b0 b1 b2 b3 b4 b5) := by
 unfold spec_LessRecord.f lessRec
 by_cases e0 : a0 = b0
 ·rw [if_pos e0]
  refine Ev_if (toList_inj.2 e0) ?_
  by_cases e1 : a1 = b1
  ·rw [if_pos e1]
   refine Ev_if e1 ?_
   by_cases e3 : a3 = b3
   ·rw [if_pos e3]
    refine Ev_if e3 ?_
    by_cases e4 : a4 = b4
    ·rw [if_pos e4]
     refine Ev_if (toList_inj.2 e4) ?_
     by_cases e5 : a5 = b5
     ·rw [if_pos e5]
      exact Ev_if (toList_inj.2 e5) ⟨0, fun _ _ => rfl⟩
     ·rw [if_neg e5]
      exact Ev_ifn (fun h => e5 (toList_inj.1 h)) ⟨0, fun _ _ => rfl⟩
    ·rw [if_neg e4]
     exact Ev_ifn (fun h => e4 (toList_inj.1 h)) (Ev.bind (spec_LessName_eq a4 b4 h4 k4) ⟨0, fun _ _ => rfl⟩)
   ·rw [if_neg e3]
    exact Ev_ifn e3 ⟨0, fun _ _ => rfl⟩
  ·rw [if_neg e1]
   exact Ev_ifn e1 ⟨0, fun _ _ => rfl⟩
 ·rw [if_neg e0]
  exact Ev_ifn (fun h => e0 (toList_inj.1 h)) (Ev.bind (spec_LessName_eq a0 b0 h0 k0) ⟨0, fun _ _ => rfl⟩)
theorem cmp_string_C (a b : ByteArray) : cmp_Compare_string.f a b = some (strC a b) := cmp_string_eq a b
theorem impl_byRecord_eq (a0 : ByteArray) (a1 a2 a3 : Int) (a4 a5 b0 : ByteArray) (b1 b2 b3 : Int) (b4 b5 : ByteArray) (h0 : a0.size ≤ 1048576) (h4 : a4.size ≤ 1048576) (h5 : a5.size ≤ 1048576) (k0 : b0.size ≤ 1048576) (k4 : b4.size ≤ 1048576) (k5 : b5.size ≤ 1048576) :
  Ev (fun k => impl_byRecord.f k a0 a1 a2 a3 a4 a5 b0 b1 b2 b3 b4 b5) (orL [nameC a0 b0, intC a1 b1, intC a3 b3, nameC a4 b4, strC a5 b5, intC a2 b2]) := by
 unfold impl_byRecord.f
 rw [cmp_int_eq a1 b1, cmp_int_eq a3 b3, cmp_int_eq a2 b2, cmp_string_C a5 b5]
 simp only [Option.bind_some]
 exact Ev.bind (impl_byName_eq a0 b0 h0 k0) (Ev.bind (impl_byName_eq a4 b4 h4 k4) (Ev.bind (cmp_Or_eq _ (by simp)) ⟨0, fun _ _ => rfl⟩))
def cvR (x : S30) : S33 := ⟨x.f0, x.f1, x.f2, x.f3, x.f4, x.f5⟩
theorem rdR_getElem (l : List S33) (i : Nat) (h : i < l.length) : rd_T33 l i = l[i] := by
 unfold rd_T33
 rw [Int.toNat_natCast, List.getD_eq_getElem?_getD, List.getElem?_eq_getElem h, Option.getD_some]
theorem rdL_getElem (l : List S30) (i : Nat) (h : i < l.length) : rd_T30 l i = l[i] := by
 unfold rd_T30
 rw [Int.toNat_natCast, List.getD_eq_getElem?_getD, List.getElem?_eq_getElem h, Option.getD_some]
theorem toRecordS_loop (l : List S30) (hn : l.length ≤ 140737488351232) : ∀ (d i : Nat) (acc : List S33), i + d = l.length → acc.length = l.length → acc.take i = (l.take i).map cvR →
  Ev (fun k => laws_toRecordS.l0 k l acc (i : Int)) (l.map cvR) := by
 intro d
 induction d with
 | zero =>
  intro i acc hi hl ht
  refine Ev.step (f := fun _ => some acc) (fun k => ?_) ⟨0, fun _ _ => ?_⟩
  ·simp only [laws_toRecordS.l0]
   rw [if_neg (by omega)]
  ·rw [List.take_of_length_le (by omega), List.take_of_length_le (by omega)] at ht
   rw [ht]
 | succ d ih =>
  intro i acc hi hl ht
  have hw := wrap_succ i l.length (by omega) (by omega)
  refine Ev.step (f := fun k => laws_toRecordS.l0 k l (acc.set i (cvR (rd_T30 l i))) ((i + 1 : Nat) : Int)) (fun k => ?_) (ih (i + 1) _ (by omega) (by simpa using hl) ?_)
  ·simp only [laws_toRecordS.l0]
   rw [if_pos (by omega), if_pos (by omega)]
   unfold laws_toRecord.f
   simp only [Option.bind_some]
   rw [if_pos (by omega), hw, Int.toNat_natCast]
   rfl
  ·have hil : i < l.length := by omega
   rw [List.take_add_one, List.take_add_one, List.take_set_of_le (Nat.le_refl _), ht, List.getElem?_set_self (by omega), List.getElem?_eq_getElem hil, rdL_getElem l i hil, List.map_append]
   rfl
theorem toRecordS_eq (l : List S30) (hn : l.length ≤ 1048576) : Ev (fun k => laws_toRecordS.f k l) (l.map cvR) := by
 unfold laws_toRecordS.f
 have h0 : 0 ≤ (l.length : Int) := by omega
 have h1 : ((l.length : Int) : Int).toNat ≤ 3909374676536 := by omega
 simp only [if_pos h0, if_pos h1]
 have := toRecordS_loop l (by omega) l.length 0 (List.replicate ((l.length : Int) : Int).toNat z33) (by omega) (by simp) (by simp)
 simpa using this
theorem eqRecord_self (x : S33) : laws_eqRecord.f x.f0 x.f1 x.f2 x.f3 x.f4 x.f5 x.f0 x.f1 x.f2 x.f3 x.f4 x.f5 = some true := by
 unfold laws_eqRecord.f
 simp
theorem eqRecordS_loop (a : List S33) (hn : a.length ≤ 140737488351232) : ∀ (d i : Nat), i + d = a.length → Ev (fun k => laws_eqRecordS.l0 k a a (i : Int)) true := by
 intro d
 induction d with
 | zero =>
  intro i hi
  refine Ev.step (f := fun _ => some true) (fun k => ?_) ⟨0, fun _ _ => rfl⟩
  simp only [laws_eqRecordS.l0]
  rw [if_neg (by omega)]
 | succ d ih =>
  intro i hi
  have hw := wrap_succ i a.length (by omega) (by omega)
  refine Ev.step (f := fun k => laws_eqRecordS.l0 k a a ((i + 1 : Nat) : Int)) (fun k => ?_) (ih (i + 1) (by omega))
  simp only [laws_eqRecordS.l0]
  rw [if_pos (by omega), if_pos (by omega), if_pos (by omega), eqRecord_self, hw]
  rfl
theorem eqRecordS_same (a : List S33) (hn : a.length ≤ 140737488351232) : Ev (fun k => laws_eqRecordS.f k a a) true := by
 unfold laws_eqRecordS.f
 simp only [if_true]
 exact eqRecordS_loop a hn a.length 0 (by omega)
def szR (x : S30) : Nat := x.f0.size + x.f4.size + x.f5.size
def szRs (l : List S30) : Nat := (l.map szR).sum
def okR (x : S30) : Prop := x.f0.size ≤ 140737488351232 ∧ x.f4.size ≤ 140737488351232 ∧ x.f5.size ≤ 140737488351232
theorem g_okR {x : S30} (h : g30 x) : okR x := by
 obtain ⟨h0, _, _, _, h4, h5⟩ := h
 exact ⟨h0, h4, h5⟩
theorem szRecord_eq (x : S30) (h : okR x) (a : Int) (ha : -1 ≤ a ∧ a ≤ 1048576) : ∃ r, laws_szRecord.f x.f0 x.f1 x.f2 x.f3 x.f4 x.f5 a = some r ∧ -1 ≤ r ∧ r ≤ 1048576 ∧ (0 ≤ r → r = a - szR x) := by
 obtain ⟨h0, h4, h5⟩ := h
 unfold laws_szRecord.f szR
 rw [wrap_id (x := a - (x.f0.size : Int)) (by omega) (by omega)]
 by_cases c0 : a - (x.f0.size : Int) < 0
 ·exact ⟨-1, by rw [if_pos c0], by omega, by omega, by omega⟩
 ·rw [if_neg c0, wrap_id (x := a - (x.f0.size : Int) - (x.f4.size : Int)) (by omega) (by omega)]
  by_cases c1 : a - (x.f0.size : Int) - (x.f4.size : Int) < 0
  ·exact ⟨-1, by rw [if_pos c1], by omega, by omega, by omega⟩
  ·rw [if_neg c1, wrap_id (x := a - (x.f0.size : Int) - (x.f4.size : Int) - (x.f5.size : Int)) (by omega) (by omega)]
   by_cases c2 : a - (x.f0.size : Int) - (x.f4.size : Int) - (x.f5.size : Int) < 0
   ·exact ⟨-1, by rw [if_pos c2], by omega, by omega, by omega⟩
   ·exact ⟨_, by rw [if_neg c2], by omega, by omega, by omega⟩
theorem szRecordS_loop (l : List S30) (hn : l.length ≤ 1048576) (hg : ∀ x ∈ l, okR x) : ∀ (d i : Nat) (a : Int), i + d = l.length → 0 ≤ a ∧ a ≤ 1048576 →
  ∃ r, Ev (fun k => laws_szRecordS.l0 k l a (i : Int)) r ∧ -1 ≤ r ∧ r ≤ 1048576 ∧ (0 ≤ r → r = a - szRs (l.drop i)) := by
 intro d
 induction d with
 | zero =>
  intro i a hi ha
  refine ⟨a, Ev.step (f := fun _ => some a) (fun k => ?_) ⟨0, fun _ _ => rfl⟩, by omega, by omega, fun _ => ?_⟩
  ·simp only [laws_szRecordS.l0]
   rw [if_neg (by omega)]
  ·rw [List.drop_of_length_le (by omega)]
   simp [szRs]
 | succ d ih =>
  intro i a hi ha
  have hil : i < l.length := by omega
  have hw := wrap_succ i l.length hil (by omega)
  obtain ⟨r, hr, r0, r1, r2⟩ := szRecord_eq l[i] (hg _ (List.getElem_mem _)) a (by omega)
  have hd : l.drop i = l[i] :: l.drop (i + 1) := List.drop_eq_getElem_cons hil
  by_cases c : r < 0
  ·refine ⟨-1, Ev.step (f := fun _ => some (-1)) (fun k => ?_) ⟨0, fun _ _ => rfl⟩, by omega, by omega, by omega⟩
   simp only [laws_szRecordS.l0]
   rw [if_pos (by omega), if_pos (by omega), rdL_getElem l i hil, hr]
   simp only [Option.bind_some]
   rw [if_pos c]
  ·obtain ⟨q, hq, q0, q1, q2⟩ := ih (i + 1) r (by omega) (by omega)
   refine ⟨q, Ev.step (f := fun k => laws_szRecordS.l0 k l r ((i + 1 : Nat) : Int)) (fun k => ?_) hq, q0, q1, fun z => ?_⟩
   ·simp only [laws_szRecordS.l0]
    rw [if_pos (by omega), if_pos (by omega), rdL_getElem l i hil, hr]
    simp only [Option.bind_some]
    rw [if_neg c, hw]
   ·have e1 := q2 z
    have e2 := r2 (by omega)
    have e3 : szRs (l.drop i) = szR l[i] + szRs (l.drop (i + 1)) := by unfold szRs; rw [hd, List.map_cons, List.sum_cons]
    rw [e3]
    omega
theorem szRecordS_eq (l : List S30) (hm : l.length ≤ 140737488351232) (hg : ∀ x ∈ l, okR x) (a : Int) (ha : 0 ≤ a ∧ a ≤ 1048576) :
  ∃ r, Ev (fun k => laws_szRecordS.f k l a) r ∧ -1 ≤ r ∧ r ≤ 1048576 ∧ (0 ≤ r → r = a - (l.length + szRs l)) := by
 unfold laws_szRecordS.f
 have hw : wrap64 (a - (l.length : Int)) = a - (l.length : Int) := wrap_id (by omega) (by omega)
 simp only [hw]
 by_cases c : a - (l.length : Int) < 0
 ·refine ⟨-1, ?_, by omega, by omega, by omega⟩
  simp only [if_pos c]
  exact Ev.now _
 ·simp only [if_neg c]
  obtain ⟨r, hr, r0, r1, r2⟩ := szRecordS_loop l (by omega) hg l.length 0 (a - (l.length : Int)) (by omega) (by omega)
  refine ⟨r, by simpa using hr, r0, r1, fun z => ?_⟩
  have := r2 z
  rw [List.drop_zero] at this
  omega
def mt (a : Int) : ByteArray := if a ≤ 0 then (⟨#[109, 48]⟩ : ByteArray) else strOfNums (109 :: decZ a.toNat)
theorem markText_loop : ∀ (m : Nat) (s : List Int), m ≤ 4000000000000000000 → (decZ m).length + s.length ≤ 100 → Ev (fun k => laws_markText.l0 k (m : Int) (strOfNums s)) (strOfNums (109 :: (decZ m ++ s))) := by
 intro m
 induction m using Nat.strongRecOn with
 | _ m ih =>
  intro s hm hl
  by_cases hz : m = 0
  ·subst hz
   refine Ev.step (f := fun _ => some (strOfNums (109 :: s))) (fun k => ?_) ⟨0, fun _ _ => by rw [decZ_zero, List.nil_append]⟩
   simp only [laws_markText.l0]
   rw [if_neg (by omega), if_pos (by rw [strOfNums_size]; omega), show (109 :: s) = [109] ++ s from rfl, strOfNums_append]
   rfl
  ·have hd := decZ_pos m hz
   have hl2 : (decZ m).length = (decZ (m / 10)).length + 1 := by rw [hd, List.length_append]; rfl
   have := ih (m / 10) (by omega) ((48 + ((m % 10 : Nat) : Int)) :: s) (by omega) (by rw [List.length_cons]; omega)
   have e : decZ (m / 10) ++ (48 + ((m % 10 : Nat) : Int)) :: s = decZ m ++ s := by rw [hd, List.append_assoc]; rfl
   rw [e] at this
   refine Ev.step (f := fun k => laws_markText.l0 k ((m / 10 : Nat) : Int) (strOfNums ((48 + ((m % 10 : Nat) : Int)) :: s))) (fun k => ?_) this
   simp only [laws_markText.l0]
   rw [if_pos (by omega), tmod_pos, tdiv_pos]
   have w1 : wrap64 (48 + ((m % 10 : Nat) : Int)) % 256 = 48 + ((m % 10 : Nat) : Int) := by rw [wrap_id (by omega) (by omega)]; omega
   have w2 : wrap64 ((m / 10 : Nat) : Int) = ((m / 10 : Nat) : Int) := wrap_id (by omega) (by omega)
   rw [w1, w2]
   simp only [Option.bind_some]
   rw [if_pos (by rw [strOfNums_size, strOfNums_size]; simp; omega), ← strOfNums_append]
   rfl
theorem markText_eq (a : Int) (ha : a ≤ 4000000000000000000) : Ev (fun k => laws_markText.f k a) (mt a) := by
 unfold laws_markText.f mt
 by_cases h : a ≤ 0
 ·simp only [if_pos h]
  exact Ev.now _
 ·simp only [if_neg h]
  have := markText_loop a.toNat [] (by omega) (by have := decZ_le a.toNat (by omega); simp; omega)
  rw [show ((a.toNat : Int)) = a by omega, List.append_nil] at this
  exact this
def recMarks : Nat → Int → List S33
 | 0, _ => []
 | n + 1, a => ⟨mt a, a + 1, a + 1 + 1, a + 1 + 1 + 1, mt (a + 1 + 1 + 1 + 1), mt (a + 1 + 1 + 1 + 1 + 1)⟩ :: recMarks n (a + 6)
theorem recMarks_length : ∀ (n : Nat) (a : Int), (recMarks n a).length = n
 | 0, _ => rfl
 | n + 1, a => by rw [recMarks, List.length_cons, recMarks_length n]
theorem recMarks_snoc : ∀ (n : Nat) (a b : Int), b = a + 6 * n → recMarks (n + 1) a = recMarks n a ++ [⟨mt b, b + 1, b + 1 + 1, b + 1 + 1 + 1, mt (b + 1 + 1 + 1 + 1), mt (b + 1 + 1 + 1 + 1 + 1)⟩]
 | 0, a, b, h => by
  have e : b = a := by omega
  subst e
  rfl
 | n + 1, a, b, h => by
  rw [recMarks, recMarks_snoc n (a + 6) b (by omega), recMarks]
  rfl
theorem recMarks_take (n : Nat) (a : Int) : ∀ i, i ≤ n → (recMarks n a).take i = recMarks i a := by
 induction n generalizing a with
 | zero =>
  intro i hi
  obtain rfl : i = 0 := by omega
  rfl
 | succ n ih =>
  intro i hi
  cases i with
  | zero => rfl
  | succ i => rw [recMarks, List.take_succ_cons, ih (a + 6) i (by omega), recMarks]
theorem recMarks_rd (n : Nat) (a b : Int) (i : Nat) (h : i < n) (hb : b = a + 6 * i) : rd_T33 (recMarks n a) i = ⟨mt b, b + 1, b + 1 + 1, b + 1 + 1 + 1, mt (b + 1 + 1 + 1 + 1), mt (b + 1 + 1 + 1 + 1 + 1)⟩ := by
 rw [rdR_getElem _ _ (by rw [recMarks_length]; exact h)]
 have e : (recMarks n a).take (i + 1) = recMarks (i + 1) a := recMarks_take n a (i + 1) (by omega)
 rw [recMarks_snoc i a b hb] at e
 have hl : i < ((recMarks n a).take (i + 1)).length := by rw [List.length_take, recMarks_length]; omega
 have : ((recMarks n a).take (i + 1))[i]'hl = ⟨mt b, b + 1, b + 1 + 1, b + 1 + 1 + 1, mt (b + 1 + 1 + 1 + 1), mt (b + 1 + 1 + 1 + 1 + 1)⟩ := by
  simp only [e]
  rw [List.getElem_append_right (by rw [recMarks_length]; omega)]
  simp [recMarks_length]
 rw [List.getElem_take] at this
 exact this
theorem rdR_set (m : List S33) (i : Nat) (h : i < m.length) (v : S33) : rd_T33 (m.set i v) i = v := by
 rw [rdR_getElem _ _ (by rw [List.length_set]; exact h), List.getElem_set_self]
theorem markRecordS_loop (a : Int) (ha : 0 ≤ a ∧ a ≤ 1000000000000000000) : ∀ (d i : Nat) (m : List S33) (b : Int), i + d = m.length → m.length ≤ 140737488355328 → b = a + 6 * i → m.take i = recMarks i a →
  Ev (fun k => laws_markRecordS.l0 k m b (i : Int)) (a + 6 * m.length, recMarks m.length a) := by
 intro d
 induction d with
 | zero =>
  intro i m b hi hm hb ht
  rw [List.take_of_length_le (by omega)] at ht
  refine Ev.step (f := fun _ => some (b, m)) (fun k => ?_) ⟨0, fun _ _ => ?_⟩
  ·simp only [laws_markRecordS.l0]
   rw [if_neg (by omega)]
  ·have e : i = m.length := by omega
   rw [← e, ← ht, hb]
 | succ d ih =>
  intro i m b hi hm hb ht
  have him : i < m.length := by omega
  have hw := wrap_succ i m.length him hm
  obtain ⟨v, hv⟩ : ∃ v : S33, v = ⟨mt b, b + 1, b + 1 + 1, b + 1 + 1 + 1, mt (b + 1 + 1 + 1 + 1), mt (b + 1 + 1 + 1 + 1 + 1)⟩ := ⟨_, rfl⟩
  have hl : (m.set i v).length = m.length := List.length_set
  have := ih (i + 1) (m.set i v) (b + 1 + 1 + 1 + 1 + 1 + 1) (by omega) (by omega) (by omega) (by
   rw [List.take_add_one, List.take_set_of_le (Nat.le_refl _), ht, List.getElem?_set_self him, recMarks_snoc i a b hb, hv]
   rfl)
  rw [hl] at this
  have w1 : wrap64 (b + 1) = b + 1 := wrap_id (by omega) (by omega)
  have w2 : wrap64 (b + 1 + 1) = b + 1 + 1 := wrap_id (by omega) (by omega)
  have w3 : wrap64 (b + 1 + 1 + 1) = b + 1 + 1 + 1 := wrap_id (by omega) (by omega)
  have w4 : wrap64 (b + 1 + 1 + 1 + 1) = b + 1 + 1 + 1 + 1 := wrap_id (by omega) (by omega)
  have w5 : wrap64 (b + 1 + 1 + 1 + 1 + 1) = b + 1 + 1 + 1 + 1 + 1 := wrap_id (by omega) (by omega)
  have w6 : wrap64 (b + 1 + 1 + 1 + 1 + 1 + 1) = b + 1 + 1 + 1 + 1 + 1 + 1 := wrap_id (by omega) (by omega)
  have p0 : (0 : Int) ≤ (i : Int) := by omega
  have p1 : (i : Int) < (m.length : Int) := by omega
  refine Ev.step (f := fun k => (laws_markText.f k b).bind fun t1 => (laws_markText.f k (b + 1 + 1 + 1 + 1)).bind fun t2 => (laws_markText.f k (b + 1 + 1 + 1 + 1 + 1)).bind fun t3 => laws_markRecordS.l0 k (m.set i ⟨t1, b + 1, b + 1 + 1, b + 1 + 1 + 1, t2, t3⟩) (b + 1 + 1 + 1 + 1 + 1 + 1) ((i + 1 : Nat) : Int)) (fun k => ?_)
   (Ev.bind (markText_eq b (by omega)) (Ev.bind (markText_eq _ (by omega)) (Ev.bind (markText_eq _ (by omega)) (by rw [← hv]; exact this))))
  simp only [laws_markRecordS.l0, if_pos p0, if_pos p1, w1, w2, w3, w4, w5, w6, hw, Int.toNat_natCast, Option.bind_some, rdR_set m i him, List.set_set]
theorem markRecordS_eq (m : List S33) (hm : m.length ≤ 140737488355328) (a : Int) (ha : 0 ≤ a ∧ a ≤ 1000000000000000000) : Ev (fun k => laws_markRecordS.f k m a) (a + 6 * (m.length : Int), recMarks m.length a) := by
 have := markRecordS_loop a ha m.length 0 m a (by omega) hm (by omega) rfl
 unfold laws_markRecordS.f
 simpa using this
theorem heldRecordS_loop (n : Nat) (hn : n ≤ 140737488355328) (a : Int) (ha : 0 ≤ a ∧ a ≤ 1000000000000000000) : ∀ (d i : Nat) (b : Int), i + d = n → b = a + 6 * i →
  Ev (fun k => laws_heldRecordS.l0 k (recMarks n a) b (i : Int)) (a + 6 * n) := by
 intro d
 have hl := recMarks_length n a
 induction d with
 | zero =>
  intro i b hi hb
  refine Ev.step (f := fun _ => some b) (fun k => ?_) ⟨0, fun _ _ => by rw [hb, show i = n by omega]⟩
  simp only [laws_heldRecordS.l0]
  rw [if_neg (by omega)]
 | succ d ih =>
  intro i b hi hb
  have hw := wrap_succ i n (by omega) hn
  have w1 : wrap64 (b + 1) = b + 1 := wrap_id (by omega) (by omega)
  have w2 : wrap64 (b + 1 + 1) = b + 1 + 1 := wrap_id (by omega) (by omega)
  have w3 : wrap64 (b + 1 + 1 + 1) = b + 1 + 1 + 1 := wrap_id (by omega) (by omega)
  have w4 : wrap64 (b + 1 + 1 + 1 + 1) = b + 1 + 1 + 1 + 1 := wrap_id (by omega) (by omega)
  have w5 : wrap64 (b + 1 + 1 + 1 + 1 + 1) = b + 1 + 1 + 1 + 1 + 1 := wrap_id (by omega) (by omega)
  have w6 : wrap64 (b + 1 + 1 + 1 + 1 + 1 + 1) = b + 1 + 1 + 1 + 1 + 1 + 1 := wrap_id (by omega) (by omega)
  have p0 : (0 : Int) ≤ (i : Int) := by omega
  have p1 : (i : Int) < ((recMarks n a).length : Int) := by omega
  have hr := recMarks_rd n a b i (by omega) hb
  refine Ev.step (f := fun k => (laws_markText.f k b).bind fun t1 => if (mt b).toList = t1.toList then (laws_markText.f k (b + 1 + 1 + 1 + 1)).bind fun t2 => if (mt (b + 1 + 1 + 1 + 1)).toList = t2.toList then (laws_markText.f k (b + 1 + 1 + 1 + 1 + 1)).bind fun t3 => if (mt (b + 1 + 1 + 1 + 1 + 1)).toList = t3.toList then laws_heldRecordS.l0 k (recMarks n a) (b + 1 + 1 + 1 + 1 + 1 + 1) ((i + 1 : Nat) : Int) else some (-1) else some (-1) else some (-1)) (fun k => ?_) ?_
  ·simp only [laws_heldRecordS.l0, if_pos p0, if_pos p1, w1, w2, w3, w4, w5, w6, hw, hr, if_true]
  ·refine Ev.bind (markText_eq b (by omega)) ?_
   simp only [if_true]
   refine Ev.bind (markText_eq _ (by omega)) ?_
   simp only [if_true]
   refine Ev.bind (markText_eq _ (by omega)) ?_
   simp only [if_true]
   exact ih (i + 1) _ (by omega) (by omega)
theorem heldRecordS_eq (n : Nat) (hn : n ≤ 140737488355328) (a : Int) (ha : 0 ≤ a ∧ a ≤ 1000000000000000000) : Ev (fun k => laws_heldRecordS.f k (recMarks n a) a) (a + 6 * (n : Int)) := by
 have := heldRecordS_loop n hn a ha n 0 a (by omega) (by omega)
 unfold laws_heldRecordS.f
 simpa using this
theorem szR_mem : ∀ (l : List S30) (x : S30), x ∈ l → szR x ≤ szRs l
 | [], x, h => by cases h
 | y :: l, x, h => by
  have e : szRs (y :: l) = szR y + szRs l := by unfold szRs; rw [List.map_cons, List.sum_cons]
  rw [e]
  rcases List.mem_cons.1 h with q | h
  ·subst q
   omega
  ·have := szR_mem l x h
   omega
def fitL (l : List S30) : Prop := l.length ≤ 1048576 ∧ ∀ x ∈ l, szR x ≤ 1048576
theorem fitL_of {l : List S30} {r a : Int} (h : r = a - (l.length + szRs l)) (h0 : 0 ≤ r) (ha : a ≤ 1048576) : fitL l := by
 refine ⟨by omega, fun x hx => ?_⟩
 have := szR_mem l x hx
 omega
theorem Ev_some {α : Type} (x : α) : Ev (fun _ => some x) x := ⟨0, fun _ _ => rfl⟩
def fitR (x : S33) : Prop := x.f0.size ≤ 1048576 ∧ x.f4.size ≤ 1048576 ∧ x.f5.size ≤ 1048576
def fitRs (l : List S33) : Prop := l.length ≤ 1048576 ∧ ∀ x ∈ l, fitR x
theorem fitR_cv {x : S30} (h : szR x ≤ 1048576) : fitR (cvR x) := by
 unfold szR at h
 refine ⟨?_, ?_, ?_⟩
 ·show x.f0.size ≤ 1048576
  omega
 ·show x.f4.size ≤ 1048576
  omega
 ·show x.f5.size ≤ 1048576
  omega
theorem fitRs_cv {l : List S30} (h : fitL l) : fitRs (l.map cvR) := by
 refine ⟨by rw [List.length_map]; exact h.1, fun x hx => ?_⟩
 obtain ⟨y, hy, rfl⟩ := List.mem_map.1 hx
 exact fitR_cv (h.2 y hy)
theorem bytes_trans : ∀ a b c : List UInt8, Op.bytesLess a b = true → Op.bytesLess b c = true → Op.bytesLess a c = true
 | [], _, [], h1, h2 => by
  rename_i b
  cases b <;> simp [Op.bytesLess] at h1 h2
 | [], _, _ :: _, _, _ => rfl
 | _ :: _, [], _, h1, _ => by simp [Op.bytesLess] at h1
 | _ :: _, _ :: _, [], _, h2 => by simp [Op.bytesLess] at h2
 | p :: x, q :: y, r :: z, h1, h2 => by
  simp only [Op.bytesLess, Bool.or_eq_true, Bool.and_eq_true, decide_eq_true_eq, beq_iff_eq] at h1 h2 ⊢
  rcases h1 with h1 | ⟨rfl, h1⟩
  ·rcases h2 with h2 | ⟨rfl, h2⟩
   ·left
    rw [UInt8.lt_iff_toNat_lt] at h1 h2 ⊢
    omega
   ·exact .inl h1
  ·rcases h2 with h2 | ⟨rfl, h2⟩
   ·exact .inl h2
   ·exact .inr ⟨rfl, bytes_trans x y z h1 h2⟩
theorem lessR_trans : ∀ x y z : List ByteArray, lessR x y = true → lessR y z = true → lessR x z = true
 | [], _, [], h1, h2 => by
  rename_i y
  cases y <;> simp [lessR] at h1 h2
 | [], _, _ :: _, _, _ => rfl
 | _ :: _, [], _, h1, _ => by cases h1
 | _ :: _, _ :: _, [], _, h2 => by cases h2
 | a :: x, b :: y, c :: z, h1, h2 => by
  unfold lessR at h1 h2 ⊢
  by_cases e1 : a = b
  ·subst e1
   rw [if_pos rfl] at h1
   by_cases e2 : a = c
   ·subst e2
    rw [if_pos rfl] at h2 ⊢
    exact lessR_trans x y z h1 h2
   ·rw [if_neg e2] at h2 ⊢
    exact h2
  ·rw [if_neg e1] at h1
   by_cases e2 : b = c
   ·subst e2
    rw [if_neg e1]
    exact h1
   ·rw [if_neg e2] at h2
    have h3 := bytes_trans _ _ _ h1 h2
    by_cases e3 : a = c
    ·subst e3
     rw [less_irrefl] at h3
     cases h3
    ·rw [if_neg e3]
     exact h3
def SortedBy {α : Type} (lt : α → α → Bool) (l : List α) : Prop := l.Pairwise (fun x y => lt y x = false)
structure OrdOf {α : Type} (lt : α → α → Bool) : Prop where
 irrefl : ∀ x, lt x x = false
 trans : ∀ x y z, lt x y = true → lt y z = true → lt x z = true
 total : ∀ x y, x ≠ y → lt x y = false → lt y x = true
theorem OrdOf.asymm {α : Type} {lt : α → α → Bool} (o : OrdOf lt) (x y : α) (h : lt x y = true) : lt y x = false := by
 cases q : lt y x with
 | false => rfl
 | true =>
  have := o.trans x y x h q
  rw [o.irrefl] at this
  cases this
theorem OrdOf.le_trans {α : Type} {lt : α → α → Bool} (o : OrdOf lt) [DecidableEq α] (x y z : α) (h1 : lt y x = false) (h2 : lt z y = false) : lt z x = false := by
 cases q : lt z x with
 | false => rfl
 | true =>
  by_cases e : x = y
  ·rw [← e] at h2
   rw [h2] at q
   cases q
  ·have h3 := o.total y x (fun z => e z.symm) h1
   have := o.trans z x y q h3
   rw [h2] at this
   cases this
theorem sorted_unique {α : Type} [DecidableEq α] {lt : α → α → Bool} (o : OrdOf lt) : ∀ (l m : List α), l.Perm m → SortedBy lt l → SortedBy lt m → l = m
 | [], m, h, _, _ => (List.Perm.nil_eq h)
 | x :: xs, [], h, _, _ => absurd h.length_eq (by simp)
 | x :: xs, y :: ys, h, h1, h2 => by
  have p1 := List.pairwise_cons.1 h1
  have p2 := List.pairwise_cons.1 h2
  have e : x = y := by
   by_cases e : x = y
   ·exact e
   ·have m1 : x ∈ ys := by
     have := h.mem_iff.1 (List.mem_cons_self (a := x) (l := xs))
     rcases List.mem_cons.1 this with q | q
     ·exact absurd q e
     ·exact q
    have m2 : y ∈ xs := by
     have := h.mem_iff.2 (List.mem_cons_self (a := y) (l := ys))
     rcases List.mem_cons.1 this with q | q
     ·exact absurd q.symm e
     ·exact q
    have a := p2.1 x m1
    have b := o.total x y e a
    rw [p1.1 y m2] at b
    cases b
  subst e
  rw [sorted_unique o xs ys (List.Perm.cons_inv h) p1.2 p2.2]
theorem lex_trans {α β : Type} [DecidableEq β] (k : α → β) (lt : β → β → Bool) (R : α → α → Bool) (h1 : ∀ a b c, lt a b = true → lt b c = true → lt a c = true) (h0 : ∀ a, lt a a = false) (hR : ∀ x y z, R x y = true → R y z = true → R x z = true) :
  ∀ x y z, (if k x = k y then R x y else lt (k x) (k y)) = true → (if k y = k z then R y z else lt (k y) (k z)) = true → (if k x = k z then R x z else lt (k x) (k z)) = true := by
 intro x y z hx hy
 by_cases a : k x = k y
 ·rw [if_pos a] at hx
  by_cases c : k y = k z
  ·rw [if_pos c] at hy
   rw [if_pos (a.trans c)]
   exact hR x y z hx hy
  ·rw [if_neg c] at hy
   rw [a, if_neg c]
   exact hy
 ·rw [if_neg a] at hx
  by_cases c : k y = k z
  ·rw [← c, if_neg a]
   exact hx
  ·rw [if_neg c] at hy
   have h := h1 _ _ _ hx hy
   by_cases e : k x = k z
   ·rw [e, h0] at h
    cases h
   ·rw [if_neg e]
    exact h
theorem lex_total {α β : Type} [DecidableEq β] (k : α → β) (lt : β → β → Bool) (R : α → α → Bool) (x y : α) (h1 : k x ≠ k y → lt (k x) (k y) = false → lt (k y) (k x) = true) (hR : k x = k y → R x y = false → R y x = true) :
  (if k x = k y then R x y else lt (k x) (k y)) = false → (if k y = k x then R y x else lt (k y) (k x)) = true := by
 intro h
 by_cases a : k x = k y
 ·rw [if_pos a] at h
  rw [if_pos a.symm]
  exact hR a h
 ·rw [if_neg a] at h
  rw [if_neg (fun q => a q.symm)]
  exact h1 a h
def rlt (x y : S33) : Bool := lessRec x.f0 x.f1 x.f2 x.f3 x.f4 x.f5 y.f0 y.f1 y.f2 y.f3 y.f4 y.f5
def bytesLt (a b : ByteArray) : Bool := Op.bytesLess a.toList b.toList
def intLt (a b : Int) : Bool := decide (a < b)
theorem intLt_trans (a b c : Int) (h1 : intLt a b = true) (h2 : intLt b c = true) : intLt a c = true := by
 unfold intLt at *
 rw [decide_eq_true_eq] at *
 omega
theorem intLt_irrefl (a : Int) : intLt a a = false := by
 unfold intLt
 exact decide_eq_false (by omega)
theorem intLt_total (a b : Int) (h : a ≠ b) (h1 : intLt a b = false) : intLt b a = true := by
 unfold intLt at *
 rw [decide_eq_false_iff_not] at h1
 exact decide_eq_true (by omega)
theorem lessN_trans (a b c : ByteArray) (h1 : lessN a b = true) (h2 : lessN b c = true) : lessN a c = true := lessR_trans _ _ _ h1 h2
theorem bytesLt_trans (a b c : ByteArray) (h1 : bytesLt a b = true) (h2 : bytesLt b c = true) : bytesLt a c = true := bytes_trans _ _ _ h1 h2
theorem bytesLt_irrefl (a : ByteArray) : bytesLt a a = false := less_irrefl _
theorem bytesLt_total (a b : ByteArray) (h : a ≠ b) (h1 : bytesLt a b = false) : bytesLt b a = true := less_total _ _ (fun q => h (toList_inj.1 q)) h1
def rl5 (x y : S33) : Bool := intLt x.f2 y.f2
def rl4 (x y : S33) : Bool := if x.f5 = y.f5 then rl5 x y else bytesLt x.f5 y.f5
def rl3 (x y : S33) : Bool := if x.f4 = y.f4 then rl4 x y else lessN x.f4 y.f4
def rl2 (x y : S33) : Bool := if x.f3 = y.f3 then rl3 x y else intLt x.f3 y.f3
def rl1 (x y : S33) : Bool := if x.f1 = y.f1 then rl2 x y else intLt x.f1 y.f1
theorem rlt_ord : OrdOf rlt where
 irrefl x := by
  unfold rlt lessRec
  simp
 trans := lex_trans (fun x : S33 => x.f0) lessN _ lessN_trans lessN_irrefl (lex_trans (fun x : S33 => x.f1) intLt _ intLt_trans intLt_irrefl (lex_trans (fun x : S33 => x.f3) intLt _ intLt_trans intLt_irrefl (lex_trans (fun x : S33 => x.f4) lessN _ lessN_trans lessN_irrefl (lex_trans (fun x : S33 => x.f5) bytesLt _ bytesLt_trans bytesLt_irrefl (fun x y z => intLt_trans x.f2 y.f2 z.f2)))))
 total x y hne := lex_total (fun x : S33 => x.f0) lessN rl1 x y (lessN_total _ _) (fun e0 => lex_total (fun x : S33 => x.f1) intLt rl2 x y (intLt_total _ _) (fun e1 => lex_total (fun x : S33 => x.f3) intLt rl3 x y (intLt_total _ _) (fun e3 => lex_total (fun x : S33 => x.f4) lessN rl4 x y (lessN_total _ _) (fun e4 => lex_total (fun x : S33 => x.f5) bytesLt rl5 x y (bytesLt_total _ _) (fun e5 => intLt_total x.f2 y.f2 (fun e2 => hne (by
  obtain ⟨x0, x1, x2, x3, x4, x5⟩ := x
  obtain ⟨y0, y1, y2, y3, y4, y5⟩ := y
  simp only at e0 e1 e2 e3 e4 e5
  subst e0 e1 e2 e3 e4 e5
  rfl)))))))
theorem ins_sorted {α : Type} [DecidableEq α] {lt : α → α → Bool} (o : OrdOf lt) (out : List α) (x : α) (k : Nat) (hk : k ≤ out.length) (hs : SortedBy lt out) (hB : ∀ y, y ∈ out.drop k → lt x y = true) (hA : ∀ j (h : j < out.length), j + 1 = k → lt x out[j] = false) :
  SortedBy lt ((out.take k ++ [x]) ++ out.drop k) := by
 unfold SortedBy at *
 have hp : (out.take k ++ out.drop k).Pairwise (fun x y => lt y x = false) := by rw [List.take_append_drop]; exact hs
 obtain ⟨p1, p2, p3⟩ := List.pairwise_append.1 hp
 have ha : ∀ a, a ∈ out.take k → lt x a = false := by
  intro a ha
  obtain ⟨j, hj, e⟩ := List.mem_take_iff_getElem.1 ha
  have hj1 : j < k := by omega
  have hj2 : j < out.length := by omega
  by_cases c : j + 1 = k
  ·rw [← e]
   exact hA j hj2 c
  ·have q := hA (k - 1) (by omega) (by omega)
   have z := List.pairwise_iff_getElem.1 hs j (k - 1) hj2 (by omega) (by omega)
   rw [← e]
   exact OrdOf.le_trans o _ _ _ z q
 rw [List.append_assoc]
 refine List.pairwise_append.2 ⟨p1, List.pairwise_append.2 ⟨List.pairwise_singleton _ _, p2, ?_⟩, ?_⟩
 ·intro a h1 b h2
  rw [List.mem_singleton] at h1
  rw [h1]
  exact OrdOf.asymm o _ _ (hB b h2)
 ·intro a h1 b h2
  rcases List.mem_append.1 h2 with h2 | h2
  ·rw [List.mem_singleton] at h2
   rw [h2]
   exact ha a h1
  ·exact p3 a h1 b h2
theorem ins_perm {α : Type} (out : List α) (x : α) (k : Nat) : ((out.take k ++ [x]) ++ out.drop k).Perm (x :: out) := by
 have h := List.perm_middle (a := x) (l₁ := out.take k) (l₂ := out.drop k)
 rw [List.take_append_drop] at h
 rw [List.append_assoc, List.singleton_append]
 exact h
theorem rlt_eq (x y : S33) (hx : fitR x) (hy : fitR y) : Ev (fun k => spec_LessRecord.f k x.f0 x.f1 x.f2 x.f3 x.f4 x.f5 y.f0 y.f1 y.f2 y.f3 y.f4 y.f5) (rlt x y) :=
 spec_LessRecord_eq x.f0 x.f1 x.f2 x.f3 x.f4 x.f5 y.f0 y.f1 y.f2 y.f3 y.f4 y.f5 hx.1 hx.2.1 hx.2.2 hy.1 hy.2.1 hy.2.2
theorem sortS_in (l : List S33) (hn : l.length ≤ 1048576) (hf : ∀ y ∈ l, fitR y) (i : Nat) (hi : i < l.length) (out : List S33) (ho : out.length = i) (hs : SortedBy rlt out) (hm : ∀ y ∈ out, fitR y) :
  ∀ k, k ≤ out.length → (∀ y, y ∈ out.drop k → rlt l[i] y = true) → ∃ out', SortedBy rlt out' ∧ out'.Perm (l[i] :: out) ∧ ∀ r, Ev (fun q => spec_SortRecords.l0 q l out' ((i + 1 : Nat) : Int)) r → Ev (fun q => spec_SortRecords.l1 q l out (i : Int) (k : Int)) r := by
 classical
 have wi : wrap64 ((i : Int) + 1) = ((i + 1 : Nat) : Int) := by rw [wrap_id (by omega) (by omega)]; omega
 have rl := rdR_getElem l i hi
 intro k
 induction k with
 | zero =>
  intro hk hB
  refine ⟨(out.take 0 ++ [l[i]]) ++ out.drop 0, ins_sorted rlt_ord out l[i] 0 (by omega) hs hB (fun j _ h => by omega), ins_perm out l[i] 0, fun r hr => ?_⟩
  refine Ev.step (fun q => ?_) hr
  simp only [spec_SortRecords.l1, rl]
  rw [if_neg (by omega)]
  simp only [Option.bind_some, List.nil_append]
  rw [if_pos (by omega), if_pos (by omega), if_pos (by simp), if_pos (by omega), if_pos (by omega), if_pos (by simp), if_pos (by simp; omega), wi]
  rfl
 | succ k ih =>
  intro hk hB
  have hko : k < out.length := by omega
  have wk : wrap64 (((k + 1 : Nat) : Int) - 1) = (k : Int) := by rw [wrap_id (by omega) (by omega)]; omega
  have ro := rdR_getElem out k hko
  have el := rlt_eq l[i] out[k] (hf _ (List.getElem_mem _)) (hm _ (List.getElem_mem _))
  have hd : out.drop k = out[k] :: out.drop (k + 1) := List.drop_eq_getElem_cons hko
  by_cases c : rlt l[i] out[k] = true
  ·obtain ⟨out', a1, a2, a3⟩ := ih (by omega) (fun y hy => by
    rw [hd] at hy
    rcases List.mem_cons.1 hy with e | e
    ·rw [e]; exact c
    ·exact hB y e)
   refine ⟨out', a1, a2, fun r hr => ?_⟩
   apply Ev.step
   ·intro q
    simp only [spec_SortRecords.l1, wk, rl, ro]
    rw [if_pos (by omega), if_pos (by omega), if_pos (by omega), if_pos (by omega), if_pos (by omega)]
   ·exact Ev.bind el (Ev_if c (a3 r hr))
  ·refine ⟨(out.take (k + 1) ++ [l[i]]) ++ out.drop (k + 1), ins_sorted rlt_ord out l[i] (k + 1) hk hs hB (fun j _ h => ?_), ins_perm out l[i] (k + 1), fun r hr => ?_⟩
   ·have e : j = k := by omega
    subst e
    simpa using c
   ·apply Ev.step
    ·intro q
     simp only [spec_SortRecords.l1, wk, rl, ro]
     rw [if_pos (by omega), if_pos (by omega), if_pos (by omega), if_pos (by omega), if_pos (by omega)]
    ·refine Ev.bind el (Ev_ifn c ?_)
     simp only [Option.bind_some, List.nil_append, wi]
     exact Ev_if (by omega) (Ev_if (by omega) (Ev_if (by simp; omega) (Ev_if (by simp; omega) (Ev_if (by simp; omega) hr))))
theorem sortS_loop (l : List S33) (hn : l.length ≤ 1048576) (hf : ∀ y ∈ l, fitR y) : ∀ (d i : Nat) (out : List S33), i + d = l.length → out.length = i → SortedBy rlt out → out.Perm (l.take i) → ∃ r, Ev (fun q => spec_SortRecords.l0 q l out (i : Int)) r ∧ SortedBy rlt r ∧ r.Perm l := by
 intro d
 induction d with
 | zero =>
  intro i out hi ho hs hp
  refine ⟨out, Ev.step (f := fun _ => some out) (fun q => ?_) (Ev_some _), hs, ?_⟩
  ·simp only [spec_SortRecords.l0]
   rw [if_neg (by omega)]
  ·rw [List.take_of_length_le (by omega)] at hp
   exact hp
 | succ d ih =>
  intro i out hi ho hs hp
  have hil : i < l.length := by omega
  obtain ⟨out', a1, a2, a3⟩ := sortS_in l hn hf i hil out ho hs (fun y hy => hf y (List.mem_of_mem_take (hp.mem_iff.1 hy))) out.length (Nat.le_refl _) (fun y hy => by rw [List.drop_length] at hy; cases hy)
  have e : l.take (i + 1) = l.take i ++ [l[i]] := List.take_succ_eq_append_getElem hil
  obtain ⟨r, b1, b2, b3⟩ := ih (i + 1) out' (by omega) (by rw [a2.length_eq, List.length_cons]; omega) a1 (by
   rw [e]
   exact a2.trans ((List.Perm.cons _ hp).trans (List.perm_append_singleton _ _).symm))
  refine ⟨r, Ev.step (fun q => ?_) (a3 r b1), b2, b3⟩
  simp only [spec_SortRecords.l0]
  rw [if_pos (by omega)]
theorem spec_SortRecords_eq (l : List S33) (hn : l.length ≤ 1048576) (hf : ∀ y ∈ l, fitR y) : ∃ r, Ev (fun k => spec_SortRecords.f k l) r ∧ SortedBy rlt r ∧ r.Perm l := by
 unfold spec_SortRecords.f
 exact sortS_loop l hn hf l.length 0 [] (by omega) rfl List.Pairwise.nil (by simp)
theorem ev_all {α β : Type} (F : α → Nat → Option β) (c : α → β) : ∀ (l : List α), (∀ x ∈ l, Ev (F x) (c x)) → ∃ k0, ∀ k, k0 ≤ k → ∀ x ∈ l, F x k = some (c x) := by
 intro l
 induction l with
 | nil => intro _; exact ⟨0, fun _ _ x hx => by cases hx⟩
 | cons a l ih =>
  intro h
  obtain ⟨k1, h1⟩ := ih (fun x hx => h x (List.mem_cons_of_mem _ hx))
  obtain ⟨k2, h2⟩ := h a (List.mem_cons_self ..)
  refine ⟨max k1 k2, fun k hk x hx => ?_⟩
  rcases List.mem_cons.1 hx with e | e
  ·rw [e]
   exact h2 k (by omega)
  ·exact h1 k (by omega) x e
def recC (x y : S33) : Int := orL [nameC x.f0 y.f0, intC x.f1 y.f1, intC x.f3 y.f3, nameC x.f4 y.f4, strC x.f5 y.f5, intC x.f2 y.f2]
theorem recC_lt (x y : S33) : Go.Proofs.ltOf recC x y = rlt x y := lessRec_or x.f0 x.f1 x.f2 x.f3 x.f4 x.f5 y.f0 y.f1 y.f2 y.f3 y.f4 y.f5
theorem rlt_swo : Go.Sort.SWO rlt where
 irrefl := rlt_ord.irrefl
 trans := rlt_ord.trans
 ntrans x y z h1 h2 := by
  classical
  exact OrdOf.le_trans rlt_ord z y x h2 h1
theorem impl_SortRecords_eq (l : List S33) (hn : l.length ≤ 1048576) (hf : ∀ y ∈ l, fitR y) : ∃ r, Ev (fun k => impl_SortRecords.f k l) r ∧ SortedBy rlt r ∧ r.Perm l := by
 classical
 have ee : Go.Proofs.ltOf recC = rlt := funext fun x => funext fun y => recC_lt x y
 obtain ⟨k0, hk0⟩ := ev_all (fun (p : S33 × S33) k => impl_byRecord.f k p.1.f0 p.1.f1 p.1.f2 p.1.f3 p.1.f4 p.1.f5 p.2.f0 p.2.f1 p.2.f2 p.2.f3 p.2.f4 p.2.f5) (fun p => recC p.1 p.2) (l.flatMap fun x => l.map fun y => (x, y)) (fun p hp => by
  obtain ⟨x, hx, hp⟩ := List.mem_flatMap.1 hp
  obtain ⟨y, hy, rfl⟩ := List.mem_map.1 hp
  have fx := hf x hx
  have fy := hf y hy
  exact impl_byRecord_eq x.f0 x.f1 x.f2 x.f3 x.f4 x.f5 y.f0 y.f1 y.f2 y.f3 y.f4 y.f5 fx.1 fx.2.1 fx.2.2 fy.1 fy.2.1 fy.2.2)
 have pr : ∀ k, k0 ≤ k → ∀ x, x ∈ l → ∀ y, y ∈ l → impl_byRecord.f k x.f0 x.f1 x.f2 x.f3 x.f4 x.f5 y.f0 y.f1 y.f2 y.f3 y.f4 y.f5 = some (recC x y) := fun k hk x hx y hy => hk0 k hk (x, y) (List.mem_flatMap.2 ⟨x, hx, List.mem_map.2 ⟨y, hy, rfl⟩⟩)
 obtain ⟨r, hr, cf, c1, c2, ⟨k1, c3⟩, c4, c5⟩ := slices_SortStableFunc_impl_Record.some_ (l := l) (r := l.mergeSort (fun x y => !Go.Proofs.ltOf recC y x)) (cf := recC) ⟨(by rw [ee]; exact rlt_swo), (by
  rw [ee]
  intro x y h1 h2
  by_cases e : x = y
  ·exact e
  ·rw [rlt_ord.total x y e h1] at h2
   exact absurd h2 (by simp)), ⟨k0, pr⟩, (by omega), rfl⟩
 have same : ∀ x, x ∈ l → ∀ y, y ∈ l → cf x y = recC x y := fun x hx y hy => by
  have a := c3 (max k0 k1) (by omega) x hx y hy
  rw [pr (max k0 k1) (by omega) x hx y hy] at a
  exact (Option.some.inj a).symm
 have hp : r.Perm l := by rw [c5]; exact List.mergeSort_perm _ _
 have hs : SortedBy rlt r := by
  have z : r.Pairwise (fun x y => (!Go.Proofs.ltOf cf y x) = true) := by
   rw [c5]
   refine List.pairwise_mergeSort ?_ ?_ _
   ·intro a b c h1 h2
    simp only [Bool.not_eq_true'] at h1 h2 ⊢
    exact c1.ntrans c b a h2 h1
   ·intro a b
    cases h : Go.Proofs.ltOf cf b a with
    | false => simp
    | true =>
     cases h' : Go.Proofs.ltOf cf a b with
     | false => simp
     | true =>
      have q := c1.trans a b a h' h
      rw [c1.irrefl] at q
      cases q
  refine List.Pairwise.imp_of_mem ?_ z
  intro a b ha hb h
  have e : Go.Proofs.ltOf cf b a = rlt b a := by
   rw [← recC_lt]
   show decide (cf b a < 0) = decide (recC b a < 0)
   rw [same b (hp.mem_iff.1 hb) a (hp.mem_iff.1 ha)]
  rw [← e]
  simpa using h
 have hc : slices_Clone_impl_Record.f l = some l := by
  unfold slices_Clone_impl_Record.f
  simp only [Option.bind_some, List.nil_append]
  rw [if_pos (by simp; omega)]
 refine ⟨r, ?_, hs, hp⟩
 unfold impl_SortRecords.f
 rw [hc]
 simp only [Option.bind_some, hr]
 exact Ev_some _
theorem SortRecords_eq (l : List S33) (hn : l.length ≤ 1048576) (hf : ∀ y ∈ l, fitR y) : ∃ r, Ev (fun k => spec_SortRecords.f k l) r ∧ Ev (fun k => impl_SortRecords.f k l) r ∧ SortedBy rlt r ∧ r.Perm l := by
 classical
 obtain ⟨r, a1, a2, a3⟩ := spec_SortRecords_eq l hn hf
 obtain ⟨s, b1, b2, b3⟩ := impl_SortRecords_eq l hn hf
 have e := sorted_unique rlt_ord r s (a3.trans b3.symm) a2 b2
 subst e
 exact ⟨r, a1, b1, a2, a3⟩

end Go.Proofs.YtfmnofjijodgcaaDoor.Lem
