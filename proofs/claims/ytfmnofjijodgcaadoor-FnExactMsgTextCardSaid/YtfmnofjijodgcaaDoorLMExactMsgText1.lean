/- Lemmas on the printed functions, of this session. -/
import Derived.Test.YtfmnofjijodgcaaDoorY
import Derived.Test.YtfmnofjijodgcaaDoorPrx0
import Derived.Test.YtfmnofjijodgcaaDoorPrx1
import Derived.Test.YtfmnofjijodgcaaDoorPrx10
import Derived.Test.YtfmnofjijodgcaaDoorPrx11
import Derived.Test.YtfmnofjijodgcaaDoorPrx12
import Derived.Test.YtfmnofjijodgcaaDoorPrx2
import Derived.Test.YtfmnofjijodgcaaDoorPrx3
import Derived.Test.YtfmnofjijodgcaaDoorPrx4
import Derived.Test.YtfmnofjijodgcaaDoorPrx5
import Derived.Test.YtfmnofjijodgcaaDoorPrx6
import Derived.Test.YtfmnofjijodgcaaDoorPrx7
import Derived.Test.YtfmnofjijodgcaaDoorPrx8
import Derived.Test.YtfmnofjijodgcaaDoorPrx9
namespace Go.Proofs.YtfmnofjijodgcaaDoor.Lem
open Go.RowKit Go.Proofs.YtfmnofjijodgcaaDoor.Pr Go.Proofs.YtfmnofjijodgcaaDoor.X Go.Proofs.YtfmnofjijodgcaaDoor.Y Go.Proofs.YtfmnofjijodgcaaDoorW.PrintWords Go.Proofs.YtfmnofjijodgcaaDoorW.PrintLast Go.Proofs.YtfmnofjijodgcaaDoorW.PrintMore
set_option linter.unusedVariables false
set_option linter.unusedSimpArgs false
theorem Ev_if {α : Type} {c : Prop} [Decidable c] {f g : Nat → Option α} {x : α} (h : c) (h1 : Ev f x) : Ev (fun k => if c then f k else g k) x := by
  simp only [if_pos h]
  exact h1
theorem Ev_ifn {α : Type} {c : Prop} [Decidable c] {f g : Nat → Option α} {x : α} (h : ¬ c) (h1 : Ev g x) : Ev (fun k => if c then f k else g k) x := by
  simp only [if_neg h]
  exact h1
/-- A byte of a label. -/
def okB (c : Int) : Bool := (decide (97 ≤ c) && decide (c ≤ 122)) || (decide (48 ≤ c) && decide (c ≤ 57)) || decide (c = 45) || decide (c = 95)
/-- A label: what LabelOk answers. -/
def labelOk (s : ByteArray) : Bool := (bytesOf s).all okB && (decide (1 ≤ s.size) && decide (s.size ≤ 12))
theorem l1In_dec (a b c : Int) : spec_l1In.f a b c = some (decide (b ≤ a) && decide (a ≤ c)) := by
  unfold spec_l1In.f
  by_cases h : a ≥ b
  · rw [if_pos h]
    have h' : b ≤ a := h
    simp [h']
  · rw [if_neg h]
    have h' : ¬ b ≤ a := h
    simp [h']
theorem l2Byte_eq (c : Int) (h0 : 0 ≤ c) (h1 : c ≤ 255) : spec_l2Byte.f c = some (okB c) := by
  unfold spec_l2Byte.f okB
  rw [wrap_id (x := c) (by omega) (by omega), l1In_dec, l1In_dec]
  simp only [Option.bind_some]
  by_cases a : (decide (97 ≤ c) && decide (c ≤ 122)) = true
  · simp [a]
  · by_cases b : (decide (48 ≤ c) && decide (c ≤ 57)) = true
    · simp [a, b]
    · by_cases d : c = 45
      · simp [a, b, d]
      · simp only [Bool.not_eq_true] at a b
        have e : (c == 95) = decide (c = 95) := by by_cases z : c = 95 <;> simp [z]
        simp [a, b, d, e]
theorem drop_bytesOf (s : ByteArray) (i : Nat) (h : i < s.size) : (bytesOf s).drop i = bt s i :: (bytesOf s).drop (i + 1) := by
  rw [rd_drop _ i (by rw [bytesOf_length]; exact h), rd_bytesOf]
theorem spec_LabelOk_loop (s : ByteArray) (hn : s.size ≤ 140737488355328) : ∀ (d i : Nat), i + d = s.size →
    Ev (fun k => spec_LabelOk.l0 k s (i : Int)) (((bytesOf s).drop i).all okB && (decide (1 ≤ s.size) && decide (s.size ≤ 12))) := by
  intro d
  induction d with
  | zero =>
    intro i hi
    refine Ev.step (f := fun _ => some (decide (1 ≤ s.size) && decide (s.size ≤ 12))) (fun k => ?_) ⟨0, fun _ _ => by rw [List.drop_of_length_le (by rw [bytesOf_length]; omega)]; rfl⟩
    simp only [spec_LabelOk.l0]
    rw [if_neg (by omega), l1In_dec]
    have e1 : decide ((1 : Int) ≤ (s.size : Int)) = decide (1 ≤ s.size) := decide_eq_decide.2 (by omega)
    have e2 : decide ((s.size : Int) ≤ 12) = decide (s.size ≤ 12) := decide_eq_decide.2 (by omega)
    rw [e1, e2]
    rfl
  | succ d ih =>
    intro i hi
    have hb := bt_range s i
    have hw := wrap_succ i s.size (by omega) hn
    rw [drop_bytesOf s i (by omega), List.all_cons]
    cases h : okB (bt s i) with
    | true =>
      rw [Bool.true_and]
      refine Ev.step (f := fun k => spec_LabelOk.l0 k s ((i + 1 : Nat) : Int)) (fun k => ?_) (ih (i + 1) (by omega))
      simp only [spec_LabelOk.l0]
      rw [if_pos (by omega), if_pos (by omega), l2Byte_eq _ hb.1 hb.2, h, hw]
      rfl
    | false =>
      refine Ev.step (f := fun _ => some false) (fun k => ?_) ⟨0, fun _ _ => rfl⟩
      simp only [spec_LabelOk.l0]
      rw [if_pos (by omega), if_pos (by omega), l2Byte_eq _ hb.1 hb.2, h]
      rfl
theorem impl_LabelOk_body (c : Int) (x : Option Bool) :
    (if c < 97 then (if c < 48 then (if c = 45 then x else (if c = 95 then x else (some false))) else (if c > 57 then (if c = 45 then x else (if c = 95 then x else (some false))) else x))
      else (if c > 122 then (if c < 48 then (if c = 45 then x else (if c = 95 then x else (some false))) else (if c > 57 then (if c = 45 then x else (if c = 95 then x else (some false))) else x)) else x)) = if okB c = true then x else some false := by
  have hk : okB c = true ↔ (97 ≤ c ∧ c ≤ 122) ∨ (48 ≤ c ∧ c ≤ 57) ∨ c = 45 ∨ c = 95 := by simp [okB, or_assoc]
  by_cases h : okB c = true
  · have h' := hk.1 h
    rw [show (if okB c = true then x else some false) = x from if_pos h]
    repeat' split
    all_goals first | rfl | (exfalso; omega)
  · have h' : ¬ ((97 ≤ c ∧ c ≤ 122) ∨ (48 ≤ c ∧ c ≤ 57) ∨ c = 45 ∨ c = 95) := fun z => h (hk.2 z)
    rw [show (if okB c = true then x else some false) = some false from if_neg h]
    repeat' split
    all_goals first | rfl | (exfalso; omega)
theorem impl_LabelOk_loop (s : ByteArray) (hn : s.size ≤ 140737488355328) : ∀ (d i : Nat), i + d = s.size →
    Ev (fun k => impl_LabelOk.l0 k s (s.size : Int) (i : Int)) (((bytesOf s).drop i).all okB && (decide (1 ≤ s.size) && decide (s.size ≤ 12))) := by
  intro d
  induction d with
  | zero =>
    intro i hi
    refine Ev.step (f := fun _ => some (decide (1 ≤ s.size) && decide (s.size ≤ 12))) (fun k => ?_) ⟨0, fun _ _ => by rw [List.drop_of_length_le (by rw [bytesOf_length]; omega)]; rfl⟩
    simp only [impl_LabelOk.l0]
    rw [if_neg (by omega)]
    have e2 : decide ((s.size : Int) ≤ 12) = decide (s.size ≤ 12) := decide_eq_decide.2 (by omega)
    by_cases h : (s.size : Int) ≥ 1
    · rw [if_pos h, e2, decide_eq_true (show 1 ≤ s.size by omega), Bool.true_and]
    · rw [if_neg h, decide_eq_false (show ¬ 1 ≤ s.size by omega), Bool.false_and]
  | succ d ih =>
    intro i hi
    have hw := wrap_succ i s.size (by omega) hn
    rw [drop_bytesOf s i (by omega), List.all_cons]
    refine Ev.step (f := fun k => if okB (bt s i) = true then impl_LabelOk.l0 k s (s.size : Int) ((i + 1 : Nat) : Int) else some false) (fun k => ?_) ?_
    · simp only [impl_LabelOk.l0]
      rw [if_pos (by omega), if_pos (by omega), if_pos (by omega), hw]
      exact impl_LabelOk_body _ _
    · cases h : okB (bt s i) with
      | true =>
        have := ih (i + 1) (by omega)
        simpa using this
      | false => exact ⟨0, fun _ _ => by simp⟩
theorem spec_LabelOk_eq (s : ByteArray) (hn : s.size ≤ 140737488355328) : Ev (fun k => spec_LabelOk.f k s) (labelOk s) := by
  have := spec_LabelOk_loop s hn s.size 0 (by omega)
  unfold spec_LabelOk.f labelOk
  simpa using this
theorem impl_LabelOk_eq (s : ByteArray) (hn : s.size ≤ 140737488355328) : Ev (fun k => impl_LabelOk.f k s) (labelOk s) := by
  have := impl_LabelOk_loop s hn s.size 0 (by omega)
  unfold impl_LabelOk.f labelOk
  simpa using this
/-- What stands between the dots of a list of bytes; 'acc' stands ahead of it. -/
def cutA : List UInt8 → List UInt8 → List (List UInt8)
  | acc, [] => [acc]
  | acc, c :: t => if c = 46 then acc :: cutA [] t else cutA (acc ++ [c]) t
def mkB (l : List UInt8) : ByteArray := ⟨l.toArray⟩
theorem mkB_data (s : ByteArray) : mkB s.data.toList = s := rfl
/-- The labels of a name. -/
def labelsL (s : ByteArray) : List ByteArray := if s.data.toList = [] then [] else (cutA [] s.data.toList).map mkB
theorem cutA_acc : ∀ (t acc : List UInt8), cutA acc t = match cutA [] t with | [] => [] | x :: r => (acc ++ x) :: r
  | [], acc => by simp [cutA]
  | c :: t, acc => by
    by_cases h : c = 46
    · simp [cutA, h]
    · have e1 := cutA_acc t (acc ++ [c])
      have e2 := cutA_acc t ([] ++ [c])
      simp only [cutA, if_neg h]
      rw [e1, e2]
      cases cutA [] t with
      | nil => rfl
      | cons x r => simp [List.append_assoc]
theorem split_cut : ∀ (l : List UInt8), Lib.splitK [46] 0 (l.count 46) l = cutA [] l
  | [] => rfl
  | c :: t => by
    have ih := split_cut t
    by_cases h : c = 46
    · subst h
      rw [List.count_cons_self]
      simp only [Lib.splitK, cutA, if_true]
      rw [Lib.index_one]
      simp only [Lib.indexByte]
      simp [ih]
    · rw [List.count_cons_of_ne (by simpa using h)]
      have e2 := cutA_acc t ([] ++ [c])
      simp only [cutA, if_neg h]
      rw [e2, ← ih]
      have hb : (c == 46) = false := by simpa using h
      cases hk : t.count 46 with
      | zero => simp [Lib.splitK]
      | succ k =>
        simp only [Lib.splitK]
        rw [Lib.index_one, Lib.index_one]
        simp only [Lib.indexByte, hb]
        have hge := Lib.indexByte_ge t 46
        by_cases hi : Lib.indexByte t 46 = -1
        · simp [hi]
        · have h1 : (Lib.indexByte t 46 == -1) = false := by simpa using hi
          have h2 : (Lib.indexByte t 46 + 1 == -1) = false := by simp; omega
          have h3 : (Lib.indexByte t 46 + 1).toNat = (Lib.indexByte t 46).toNat + 1 := by omega
          simp only [h1, h2, h3, Bool.false_eq_true, if_false]
          simp [List.take_succ_cons, Nat.add_right_comm]
theorem impl_Labels_eq (s : ByteArray) (hs : s.size < 4294967281) : impl_Labels.f s = some (labelsL s) := by
  unfold impl_Labels.f labelsL
  rw [ByteArray.toList_eq]
  by_cases h : s.data.toList = []
  · rw [if_pos h, if_pos h]
  · rw [if_neg h, if_neg h]
    have e : strings_Split.f s (⟨#[46]⟩ : ByteArray) = some (Lib.splitB ⟨#[46]⟩ 0 (Lib.countB s ⟨#[46]⟩) s) := by
      unfold strings_Split.f
      exact if_pos ⟨rfl, hs⟩
    rw [e]
    simp only [Option.bind_some]
    congr 1
    have d := Lib.splitB_data ⟨#[46]⟩ 0 (Lib.countB s ⟨#[46]⟩) s
    have k : Lib.countB s ⟨#[46]⟩ = s.data.toList.count 46 := Lib.count_one 46 s.data.toList
    rw [k] at d ⊢
    have d2 : (Lib.splitB ⟨#[46]⟩ 0 (s.data.toList.count 46) s).map (·.data.toList) = cutA [] s.data.toList := d.trans (split_cut _)
    rw [← d2, List.map_map]
    exact (List.map_id'' (fun x => mkB_data x) _).symm
theorem extract_mkB (s : ByteArray) (f i : Nat) : s.extract f i = mkB ((s.data.toList.take i).drop f) := by
  have h : (s.extract f i).data.toList = (s.data.toList.take i).drop f := by
    rw [ByteArray.data_extract, Array.toList_extract, List.extract_eq_take_drop, List.drop_take]
  rw [← mkB_data (s.extract f i), h]
theorem bt_data (s : ByteArray) (i : Nat) (h : i < s.data.toList.length) : (bt s (i : Int) = 46) ↔ s.data.toList[i] = 46 := by
  have h' : (i : Int).toNat < s.size := by simpa using h
  have e := bt_at s (i : Int) h'
  have e2 : s[(i : Int).toNat]'h' = s.data.toList[i] := by
    rw [Array.getElem_toList]
    rfl
  rw [← e, e2, ← UInt8.toNat_inj]
  have t : UInt8.toNat 46 = 46 := rfl
  generalize s.data.toList[i].toNat = z
  generalize UInt8.toNat 46 = z' at t ⊢
  omega
theorem size_data (s : ByteArray) : s.size = s.data.toList.length := rfl
theorem spec_Labels_loop (s : ByteArray) (hn : s.size ≤ 1048576) (hne : s.toList ≠ []) : ∀ (d i f : Nat) (out : List ByteArray), i + d = s.size → f ≤ i → out.length ≤ i →
    Ev (fun k => spec_Labels.l0 k s out (f : Int) (i : Int)) (out ++ (cutA ((s.data.toList.take i).drop f) (s.data.toList.drop i)).map mkB) := by
  have hz := size_data s
  have hb : (s.toList != ([] : List UInt8)) = true := bne_iff_ne.2 hne
  intro d
  induction d with
  | zero =>
    intro i f out hi hf ho
    have w : wrap64 ((i : Int) + 1) = ((i + 1 : Nat) : Int) := wrap_succ i 1048577 (by omega) (by omega)
    have hx : s.extract f i = mkB ((s.data.toList.take i).drop f) := extract_mkB s f i
    refine Ev.step (f := fun k => spec_Labels.j1 k s out (f : Int) (i : Int) true) (fun k => ?_) ?_
    · simp only [spec_Labels.l0]
      rw [if_pos (by omega), hb]
    refine Ev.step (f := fun k => spec_Labels.l0 k s (out ++ [mkB ((s.data.toList.take i).drop f)]) ((i + 1 : Nat) : Int) ((i + 1 : Nat) : Int)) (fun k => ?_) ?_
    · simp only [spec_Labels.j1, if_true]
      rw [if_pos (by omega), if_pos (by omega), if_pos (by omega), if_pos (by omega), if_pos (by omega), w, Int.toNat_natCast, Int.toNat_natCast, hx]
    refine Ev.step (f := fun k => spec_Labels.j1 k s (out ++ [mkB ((s.data.toList.take i).drop f)]) ((i + 1 : Nat) : Int) ((i + 1 : Nat) : Int) false) (fun k => ?_) ?_
    · simp only [spec_Labels.l0]
      rw [if_neg (by omega)]
    refine Ev.step (f := fun _ => some (out ++ [mkB ((s.data.toList.take i).drop f)])) (fun k => ?_) ⟨0, fun _ _ => ?_⟩
    · simp only [spec_Labels.j1]
      rw [if_neg (by decide)]
    · rw [show s.data.toList.drop i = [] from List.drop_of_length_le (by omega)]
      rfl
  | succ d ih =>
    intro i f out hi hf ho
    have hil : i < s.data.toList.length := by omega
    have w : wrap64 ((i : Int) + 1) = ((i + 1 : Nat) : Int) := wrap_succ i 1048577 (by omega) (by omega)
    have hx : s.extract f i = mkB ((s.data.toList.take i).drop f) := extract_mkB s f i
    rw [List.drop_eq_getElem_cons hil]
    refine Ev.step (f := fun k => spec_Labels.j1 k s out (f : Int) (i : Int) true) (fun k => ?_) ?_
    · simp only [spec_Labels.l0]
      rw [if_pos (by omega), hb]
    by_cases c : s.data.toList[i] = 46
    · have cb := (bt_data s i hil).2 c
      have := ih (i + 1) (i + 1) (out ++ [mkB ((s.data.toList.take i).drop f)]) (by omega) (by omega) (by simp; omega)
      have e0 : (s.data.toList.take (i + 1)).drop (i + 1) = [] := List.drop_of_length_le (by rw [List.length_take]; omega)
      rw [e0] at this
      refine Ev.step (f := fun k => spec_Labels.l0 k s (out ++ [mkB ((s.data.toList.take i).drop f)]) ((i + 1 : Nat) : Int) ((i + 1 : Nat) : Int)) (fun k => ?_) ?_
      · simp only [spec_Labels.j1, if_true]
        rw [if_neg (by omega), if_pos (by omega), if_pos (by omega), if_pos cb, if_pos (by omega), if_pos (by omega), if_pos (by omega), if_pos (by omega), w, Int.toNat_natCast, Int.toNat_natCast, hx]
      · simp only [cutA, if_pos c, List.map_cons]
        rw [List.append_assoc] at this
        exact this
    · have cb : ¬ bt s (i : Int) = 46 := fun e => c ((bt_data s i hil).1 e)
      have := ih (i + 1) f out (by omega) (by omega) (by omega)
      have e0 : (s.data.toList.take (i + 1)).drop f = (s.data.toList.take i).drop f ++ [s.data.toList[i]] := by
        rw [← List.take_append_getElem hil, List.drop_append_of_le_length (by rw [List.length_take]; omega)]
      rw [e0] at this
      refine Ev.step (f := fun k => spec_Labels.l0 k s out (f : Int) ((i + 1 : Nat) : Int)) (fun k => ?_) ?_
      · simp only [spec_Labels.j1, if_true]
        rw [if_neg (by omega), if_pos (by omega), if_pos (by omega), if_neg cb, w]
      · simp only [cutA, if_neg c]
        exact this
theorem spec_Labels_eq (s : ByteArray) (hn : s.size ≤ 1048576) : Ev (fun k => spec_Labels.f k s) (labelsL s) := by
  unfold spec_Labels.f labelsL
  by_cases h : s.data.toList = []
  · rw [if_pos h]
    have hb : (s.toList != ([] : List UInt8)) = false := by rw [ByteArray.toList_eq, h]; rfl
    refine Ev.step (f := fun k => spec_Labels.j1 k s [] 0 0 false) (fun k => ?_) ?_
    · simp only [spec_Labels.l0]
      rw [if_pos (by omega), hb]
    refine Ev.step (f := fun _ => some []) (fun k => ?_) ⟨0, fun _ _ => rfl⟩
    simp only [spec_Labels.j1]
    rw [if_neg (by decide)]
  · rw [if_neg h]
    have := spec_Labels_loop s hn (by rw [ByteArray.toList_eq]; exact h) s.size 0 0 [] (by omega) (by omega) (by simp)
    simpa using this
theorem cutA_length : ∀ (t acc : List UInt8), (cutA acc t).length ≤ t.length + 1
  | [], _ => Nat.le_refl _
  | c :: t, acc => by
    unfold cutA
    split
    · have := cutA_length t []
      simp only [List.length_cons]
      omega
    · have := cutA_length t (acc ++ [c])
      simp only [List.length_cons]
      omega
theorem labelsL_length (s : ByteArray) : (labelsL s).length ≤ s.size + 1 := by
  unfold labelsL
  split
  · simp
  · rw [List.length_map, size_data]
    exact cutA_length _ _
/-- What a claim reads as a record, as the program's own type. -/
def cvR (x : S30) : S33 := ⟨x.f0, x.f1, x.f2, x.f3, x.f4, x.f5⟩
theorem rdR_getElem (l : List S33) (i : Nat) (h : i < l.length) : rd_T33 l i = l[i] := by
  unfold rd_T33
  rw [Int.toNat_natCast, List.getD_eq_getElem?_getD, List.getElem?_eq_getElem h, Option.getD_some]
theorem rdL_getElem (l : List S30) (i : Nat) (h : i < l.length) : rd_T30 l i = l[i] := by
  unfold rd_T30
  rw [Int.toNat_natCast, List.getD_eq_getElem?_getD, List.getElem?_eq_getElem h, Option.getD_some]
theorem toRecordS_loop (l : List S30) (hn : l.length ≤ 140737488351232) : ∀ (d i : Nat) (acc : List S33), i + d = l.length → acc.length = l.length → acc.take i = (l.take i).map cvR →
    Ev (fun k => laws_toRecordS.l0 k l acc (i : Int)) (l.map cvR) := by
  intro d
  induction d with
  | zero =>
    intro i acc hi hl ht
    refine Ev.step (f := fun _ => some acc) (fun k => ?_) ⟨0, fun _ _ => ?_⟩
    · simp only [laws_toRecordS.l0]
      rw [if_neg (by omega)]
    · rw [List.take_of_length_le (by omega), List.take_of_length_le (by omega)] at ht
      rw [ht]
  | succ d ih =>
    intro i acc hi hl ht
    have hw := wrap_succ i l.length (by omega) (by omega)
    refine Ev.step (f := fun k => laws_toRecordS.l0 k l (acc.set i (cvR (rd_T30 l i))) ((i + 1 : Nat) : Int)) (fun k => ?_) (ih (i + 1) _ (by omega) (by simpa using hl) ?_)
    · simp only [laws_toRecordS.l0]
      rw [if_pos (by omega), if_pos (by omega)]
      unfold laws_toRecord.f
      simp only [Option.bind_some]
      rw [if_pos (by omega), hw, Int.toNat_natCast]
      rfl
    · have hil : i < l.length := by omega
      rw [List.take_add_one, List.take_add_one, List.take_set_of_le (Nat.le_refl _), ht, List.getElem?_set_self (by omega), List.getElem?_eq_getElem hil, rdL_getElem l i hil, List.map_append]
      rfl
theorem toRecordS_eq (l : List S30) (hn : l.length ≤ 1048576) : Ev (fun k => laws_toRecordS.f k l) (l.map cvR) := by
  unfold laws_toRecordS.f
  have h0 : 0 ≤ (l.length : Int) := by omega
  have h1 : ((l.length : Int) : Int).toNat ≤ 3909374676536 := by omega
  simp only [if_pos h0, if_pos h1]
  have := toRecordS_loop l (by omega) l.length 0 (List.replicate ((l.length : Int) : Int).toNat z33) (by omega) (by simp) (by simp)
  simpa using this
theorem eqRecord_self (x : S33) : laws_eqRecord.f x.f0 x.f1 x.f2 x.f3 x.f4 x.f5 x.f0 x.f1 x.f2 x.f3 x.f4 x.f5 = some true := by
  unfold laws_eqRecord.f
  simp
theorem eqRecordS_loop (a : List S33) (hn : a.length ≤ 140737488351232) : ∀ (d i : Nat), i + d = a.length → Ev (fun k => laws_eqRecordS.l0 k a a (i : Int)) true := by
  intro d
  induction d with
  | zero =>
    intro i hi
    refine Ev.step (f := fun _ => some true) (fun k => ?_) ⟨0, fun _ _ => rfl⟩
    simp only [laws_eqRecordS.l0]
    rw [if_neg (by omega)]
  | succ d ih =>
    intro i hi
    have hw := wrap_succ i a.length (by omega) (by omega)
    refine Ev.step (f := fun k => laws_eqRecordS.l0 k a a ((i + 1 : Nat) : Int)) (fun k => ?_) (ih (i + 1) (by omega))
    simp only [laws_eqRecordS.l0]
    rw [if_pos (by omega), if_pos (by omega), if_pos (by omega), eqRecord_self, hw]
    rfl
theorem eqRecordS_same (a : List S33) (hn : a.length ≤ 140737488351232) : Ev (fun k => laws_eqRecordS.f k a a) true := by
  unfold laws_eqRecordS.f
  simp only [if_true]
  exact eqRecordS_loop a hn a.length 0 (by omega)
/-- How much a record takes, as the laws count it. -/
def szR (x : S30) : Nat := x.f0.size + x.f4.size + x.f5.size
def szRs (l : List S30) : Nat := (l.map szR).sum
/-- What is known of a record's strings. -/
def okR (x : S30) : Prop := x.f0.size ≤ 140737488351232 ∧ x.f4.size ≤ 140737488351232 ∧ x.f5.size ≤ 140737488351232
theorem g_okR {x : S30} (h : g30 x) : okR x := by
  obtain ⟨h0, _, _, _, h4, h5⟩ := h
  exact ⟨h0, h4, h5⟩
theorem szRecord_eq (x : S30) (h : okR x) (a : Int) (ha : -1 ≤ a ∧ a ≤ 1048576) : ∃ r, laws_szRecord.f x.f0 x.f1 x.f2 x.f3 x.f4 x.f5 a = some r ∧ -1 ≤ r ∧ r ≤ 1048576 ∧ (0 ≤ r → r = a - szR x) := by
  obtain ⟨h0, h4, h5⟩ := h
  unfold laws_szRecord.f szR
  rw [wrap_id (x := a - (x.f0.size : Int)) (by omega) (by omega)]
  by_cases c0 : a - (x.f0.size : Int) < 0
  · exact ⟨-1, by rw [if_pos c0], by omega, by omega, by omega⟩
  · rw [if_neg c0, wrap_id (x := a - (x.f0.size : Int) - (x.f4.size : Int)) (by omega) (by omega)]
    by_cases c1 : a - (x.f0.size : Int) - (x.f4.size : Int) < 0
    · exact ⟨-1, by rw [if_pos c1], by omega, by omega, by omega⟩
    · rw [if_neg c1, wrap_id (x := a - (x.f0.size : Int) - (x.f4.size : Int) - (x.f5.size : Int)) (by omega) (by omega)]
      by_cases c2 : a - (x.f0.size : Int) - (x.f4.size : Int) - (x.f5.size : Int) < 0
      · exact ⟨-1, by rw [if_pos c2], by omega, by omega, by omega⟩
      · exact ⟨_, by rw [if_neg c2], by omega, by omega, by omega⟩
theorem szRecordS_loop (l : List S30) (hn : l.length ≤ 1048576) (hg : ∀ x ∈ l, okR x) : ∀ (d i : Nat) (a : Int), i + d = l.length → 0 ≤ a ∧ a ≤ 1048576 →
    ∃ r, Ev (fun k => laws_szRecordS.l0 k l a (i : Int)) r ∧ -1 ≤ r ∧ r ≤ 1048576 ∧ (0 ≤ r → r = a - szRs (l.drop i)) := by
  intro d
  induction d with
  | zero =>
    intro i a hi ha
    refine ⟨a, Ev.step (f := fun _ => some a) (fun k => ?_) ⟨0, fun _ _ => rfl⟩, by omega, by omega, fun _ => ?_⟩
    · simp only [laws_szRecordS.l0]
      rw [if_neg (by omega)]
    · rw [List.drop_of_length_le (by omega)]
      simp [szRs]
  | succ d ih =>
    intro i a hi ha
    have hil : i < l.length := by omega
    have hw := wrap_succ i l.length hil (by omega)
    obtain ⟨r, hr, r0, r1, r2⟩ := szRecord_eq l[i] (hg _ (List.getElem_mem _)) a (by omega)
    have hd : l.drop i = l[i] :: l.drop (i + 1) := List.drop_eq_getElem_cons hil
    by_cases c : r < 0
    · refine ⟨-1, Ev.step (f := fun _ => some (-1)) (fun k => ?_) ⟨0, fun _ _ => rfl⟩, by omega, by omega, by omega⟩
      simp only [laws_szRecordS.l0]
      rw [if_pos (by omega), if_pos (by omega), rdL_getElem l i hil, hr]
      simp only [Option.bind_some]
      rw [if_pos c]
    · obtain ⟨q, hq, q0, q1, q2⟩ := ih (i + 1) r (by omega) (by omega)
      refine ⟨q, Ev.step (f := fun k => laws_szRecordS.l0 k l r ((i + 1 : Nat) : Int)) (fun k => ?_) hq, q0, q1, fun z => ?_⟩
      · simp only [laws_szRecordS.l0]
        rw [if_pos (by omega), if_pos (by omega), rdL_getElem l i hil, hr]
        simp only [Option.bind_some]
        rw [if_neg c, hw]
      · have e1 := q2 z
        have e2 := r2 (by omega)
        have e3 : szRs (l.drop i) = szR l[i] + szRs (l.drop (i + 1)) := by unfold szRs; rw [hd, List.map_cons, List.sum_cons]
        rw [e3]
        omega
theorem szRecordS_eq (l : List S30) (hm : l.length ≤ 140737488351232) (hg : ∀ x ∈ l, okR x) (a : Int) (ha : 0 ≤ a ∧ a ≤ 1048576) :
    ∃ r, Ev (fun k => laws_szRecordS.f k l a) r ∧ -1 ≤ r ∧ r ≤ 1048576 ∧ (0 ≤ r → r = a - (l.length + szRs l)) := by
  unfold laws_szRecordS.f
  have hw : wrap64 (a - (l.length : Int)) = a - (l.length : Int) := wrap_id (by omega) (by omega)
  simp only [hw]
  by_cases c : a - (l.length : Int) < 0
  · refine ⟨-1, ?_, by omega, by omega, by omega⟩
    simp only [if_pos c]
    exact Ev.now _
  · simp only [if_neg c]
    obtain ⟨r, hr, r0, r1, r2⟩ := szRecordS_loop l (by omega) hg l.length 0 (a - (l.length : Int)) (by omega) (by omega)
    refine ⟨r, by simpa using hr, r0, r1, fun z => ?_⟩
    have := r2 z
    rw [List.drop_zero] at this
    omega
theorem eqQuest_self (a : ByteArray) (b : Int) : laws_eqQuest.f a b a b = some true := by
  unfold laws_eqQuest.f
  simp
theorem eqMsg_same (a0 : Int) (a1 a2 a3 a4 a5 : Bool) (a6 : Int) (a7 : ByteArray) (a8 : Int) (l9 l10 l11 : List S33) (h9 : l9.length ≤ 140737488351232) (h10 : l10.length ≤ 140737488351232) (h11 : l11.length ≤ 140737488351232) :
    Ev (fun k => laws_eqMsg.f k a0 a1 a2 a3 a4 a5 a6 a7 a8 l9 l10 l11 a0 a1 a2 a3 a4 a5 a6 a7 a8 l9 l10 l11) true := by
  unfold laws_eqMsg.f
  simp only [if_true, bne_self_eq_false, if_neg (show ¬ (false = true) by decide), eqQuest_self, Option.bind_some]
  refine Ev.bind (eqRecordS_same l9 h9) ?_
  simp only [if_true]
  refine Ev.bind (eqRecordS_same l10 h10) ?_
  simp only [if_true]
  refine Ev.bind (eqRecordS_same l11 h11) ?_
  simp only [if_true]
  exact Ev.now _
theorem toMsg_eq (a0 : Int) (a1 a2 a3 a4 a5 : Bool) (a6 : Int) (a7 : ByteArray) (a8 : Int) (l9 l10 l11 : List S30) (h9 : l9.length ≤ 1048576) (h10 : l10.length ≤ 1048576) (h11 : l11.length ≤ 1048576) :
    Ev (fun k => laws_toMsg.f k a0 a1 a2 a3 a4 a5 a6 a7 a8 l9 l10 l11) (a0, a1, a2, a3, a4, a5, a6, a7, a8, l9.map cvR, l10.map cvR, l11.map cvR) := by
  unfold laws_toMsg.f laws_toQuest.f
  simp only [Option.bind_some]
  refine Ev.bind (toRecordS_eq l9 h9) (Ev.bind (toRecordS_eq l10 h10) (Ev.bind (toRecordS_eq l11 h11) ?_))
  exact Ev.now _
/-- What a claim says of a list of records. -/
def okRs (l : List S30) : Prop := l.length ≤ 140737488351232 ∧ ∀ x ∈ l, okR x
theorem g_okM {a0 : Int} {a1 a2 a3 a4 a5 : Bool} {a6 : Int} {a7 : ByteArray} {a8 : Int} {l9 l10 l11 : List S30} (h : g42 (⟨a0, a1, a2, a3, a4, a5, a6, (⟨a7, a8⟩ : S39), l9, l10, l11⟩ : S42)) :
    a7.size ≤ 140737488351232 ∧ okRs l9 ∧ okRs l10 ∧ okRs l11 := by
  obtain ⟨_, _, _, _, _, _, _, q, ⟨_, m9, w9⟩, ⟨_, m10, w10⟩, ⟨_, m11, w11⟩⟩ := h
  have n9 : l9.length * 72 ≤ 140737488351232 := m9
  have n10 : l10.length * 72 ≤ 140737488351232 := m10
  have n11 : l11.length * 72 ≤ 140737488351232 := m11
  exact ⟨q.1, ⟨by omega, fun x hx => g_okR (w9 x hx)⟩, ⟨by omega, fun x hx => g_okR (w10 x hx)⟩, ⟨by omega, fun x hx => g_okR (w11 x hx)⟩⟩
theorem rdS_getElem (l : List ByteArray) (i : Nat) (h : i < l.length) : rdOf ByteArray.empty l i = l[i] := by
  unfold rdOf
  rw [Int.toNat_natCast, List.getD_eq_getElem?_getD, List.getElem?_eq_getElem h, Option.getD_some]
/-- How many bytes a list of strings holds. -/
def szSs (l : List ByteArray) : Nat := (l.map ByteArray.size).sum
theorem szSs_cons (x : ByteArray) (l : List ByteArray) : szSs (x :: l) = x.size + szSs l := by
  unfold szSs
  rw [List.map_cons, List.sum_cons]
theorem szSs_nil : szSs [] = 0 := rfl
theorem cutA_size : ∀ (t acc : List UInt8), szSs ((cutA acc t).map mkB) ≤ acc.length + t.length
  | [], acc => by
    have e : (mkB acc).size = acc.length := rfl
    simp only [cutA, List.map_cons, List.map_nil, szSs_cons, szSs_nil, e, List.length_nil]
    omega
  | c :: t, acc => by
    unfold cutA
    split
    · have := cutA_size t []
      have e : (mkB acc).size = acc.length := rfl
      simp only [List.length_nil] at this
      simp only [List.map_cons, szSs_cons, e, List.length_cons]
      omega
    · have := cutA_size t (acc ++ [c])
      simp only [List.length_append, List.length_cons, List.length_nil] at this ⊢
      omega
theorem labelsL_size (s : ByteArray) : szSs (labelsL s) ≤ s.size := by
  unfold labelsL
  split
  · rw [szSs_nil]
    omega
  · have := cutA_size s.data.toList []
    rw [size_data]
    simpa using this
theorem szSs_mem : ∀ (l : List ByteArray) (x : ByteArray), x ∈ l → x.size ≤ szSs l
  | [], x, h => by cases h
  | y :: l, x, h => by
    rw [szSs_cons]
    rcases List.mem_cons.1 h with e | h
    · subst e
      omega
    · have := szSs_mem l x h
      omega
theorem labels_mem_size (s x : ByteArray) (h : x ∈ labelsL s) : x.size ≤ s.size := Nat.le_trans (szSs_mem _ x h) (labelsL_size s)
/-- What NameOk answers. -/
def nameOk (s : ByteArray) : Bool := (labelsL s).all labelOk && (decide (s.size ≤ 50) && decide ((labelsL s).length ≤ 6))
theorem spec_NameOk_loop (s : ByteArray) (l : List ByteArray) (hn : l.length ≤ 140737488351232) (hz : ∀ x ∈ l, x.size ≤ 1048576) : ∀ (d i : Nat), i + d = l.length →
    Ev (fun k => spec_NameOk.l0 k s l (i : Int)) ((l.drop i).all labelOk && (decide (s.size ≤ 50) && decide (l.length ≤ 6))) := by
  intro d
  induction d with
  | zero =>
    intro i hi
    rw [show l.drop i = [] from List.drop_of_length_le (by omega)]
    refine Ev.step (f := fun _ => some (decide (s.size ≤ 50) && decide (l.length ≤ 6))) (fun k => ?_) ⟨0, fun _ _ => rfl⟩
    simp only [spec_NameOk.l0]
    rw [if_neg (by omega)]
    by_cases c : s.size ≤ 50
    · rw [if_pos (by omega), decide_eq_true c, Bool.true_and]
      congr 1
      exact decide_eq_decide.2 (by omega)
    · rw [if_neg (by omega), decide_eq_false c, Bool.false_and]
  | succ d ih =>
    intro i hi
    have hil : i < l.length := by omega
    have w := wrap_succ i l.length hil (by omega)
    rw [List.drop_eq_getElem_cons hil, List.all_cons]
    have hx := hz _ (List.getElem_mem hil)
    refine Ev.step (f := fun k => (spec_LabelOk.f k l[i]).bind fun t => if t = true then spec_NameOk.l0 k s l ((i + 1 : Nat) : Int) else some false) (fun k => ?_) ?_
    · simp only [spec_NameOk.l0]
      rw [if_pos (by omega), if_pos (by omega), rdS_getElem l i hil, w]
    · refine Ev.bind (spec_LabelOk_eq l[i] (by omega)) ?_
      cases h : labelOk l[i] with
      | true =>
        rw [Bool.true_and]
        exact Ev_if rfl (ih (i + 1) (by omega))
      | false => exact Ev_ifn (by decide) ⟨0, fun _ _ => rfl⟩
theorem spec_NameOk_eq (s : ByteArray) (hs : s.size ≤ 1048576) : Ev (fun k => spec_NameOk.f k s) (nameOk s) := by
  unfold spec_NameOk.f nameOk
  have h1 := labelsL_length s
  refine Ev.bind (spec_Labels_eq s hs) ?_
  have := spec_NameOk_loop s (labelsL s) (by omega) (fun x hx => Nat.le_trans (labels_mem_size s x hx) hs) (labelsL s).length 0 (by omega)
  simpa using this
theorem impl_NameOk_1_eq (s : ByteArray) (hs : s.size ≤ 1048576) : Ev (fun k => impl_NameOk_1.f k s) (!labelOk s) := by
  unfold impl_NameOk_1.f
  exact Ev.bind (impl_LabelOk_eq s (by omega)) ⟨0, fun _ _ => rfl⟩
theorem slices_IndexFunc_string_loop (l : List ByteArray) (hn : l.length ≤ 140737488351232) (hz : ∀ x ∈ l, x.size ≤ 1048576) : ∀ (d i : Nat), i + d = l.length →
    ∃ r : Int, Ev (fun k => slices_IndexFunc_string.l0 k l (l.length : Int) (i : Int)) r ∧ decide (r ≥ 0) = !(l.drop i).all labelOk := by
  intro d
  induction d with
  | zero =>
    intro i hi
    rw [show l.drop i = [] from List.drop_of_length_le (by omega)]
    refine ⟨-1, Ev.step (f := fun _ => some (-1)) (fun k => ?_) ⟨0, fun _ _ => rfl⟩, rfl⟩
    simp only [slices_IndexFunc_string.l0]
    rw [if_neg (by omega)]
  | succ d ih =>
    intro i hi
    have hil : i < l.length := by omega
    have w := wrap_succ i l.length hil (by omega)
    rw [List.drop_eq_getElem_cons hil, List.all_cons]
    have hx := hz _ (List.getElem_mem hil)
    obtain ⟨r, hr, hd⟩ := ih (i + 1) (by omega)
    have hs : ∀ k, slices_IndexFunc_string.l0 (k + 1) l (l.length : Int) (i : Int) = (impl_NameOk_1.f k l[i]).bind fun t => if t = true then some (i : Int) else slices_IndexFunc_string.l0 k l (l.length : Int) ((i + 1 : Nat) : Int) := by
      intro k
      simp only [slices_IndexFunc_string.l0]
      rw [if_pos (by omega), if_pos (by omega), if_pos (by omega), rdS_getElem l i hil, w]
    cases h : labelOk l[i] with
    | true =>
      refine ⟨r, Ev.step hs (Ev.bind (impl_NameOk_1_eq l[i] hx) ?_), by rw [hd, Bool.true_and]⟩
      rw [h]
      exact Ev_ifn (by decide) hr
    | false =>
      refine ⟨(i : Int), Ev.step hs (Ev.bind (impl_NameOk_1_eq l[i] hx) ?_), by rw [decide_eq_true (by omega)]; rfl⟩
      rw [h]
      exact Ev_if rfl ⟨0, fun _ _ => rfl⟩
theorem slices_ContainsFunc_string_eq (l : List ByteArray) (hn : l.length ≤ 140737488351232) (hz : ∀ x ∈ l, x.size ≤ 1048576) : Ev (fun k => slices_ContainsFunc_string.f k l) (!l.all labelOk) := by
  unfold slices_ContainsFunc_string.f slices_IndexFunc_string.f
  obtain ⟨r, hr, hd⟩ := slices_IndexFunc_string_loop l hn hz l.length 0 (by omega)
  rw [List.drop_zero] at hd
  rw [← hd]
  exact Ev.bind hr ⟨0, fun _ _ => rfl⟩
theorem impl_NameOk_eq (s : ByteArray) (hs : s.size ≤ 1048576) : Ev (fun k => impl_NameOk.f k s) (nameOk s) := by
  unfold impl_NameOk.f nameOk
  have h1 := labelsL_length s
  rw [impl_Labels_eq s (by omega)]
  simp only [Option.bind_some]
  by_cases c1 : s.size ≤ 50
  · refine Ev_if (by omega) ?_
    rw [decide_eq_true c1, Bool.true_and]
    by_cases c2 : (labelsL s).length ≤ 6
    · refine Ev_if (by omega) ?_
      rw [decide_eq_true c2, Bool.and_true]
      refine Ev.bind (slices_ContainsFunc_string_eq _ (by omega) (fun x hx => Nat.le_trans (labels_mem_size s x hx) hs)) ⟨0, fun _ _ => ?_⟩
      rw [Bool.not_not]
    · refine Ev_ifn (by omega) ?_
      rw [decide_eq_false c2, Bool.and_false]
      exact ⟨0, fun _ _ => rfl⟩
  · refine Ev_ifn (by omega) ?_
    rw [decide_eq_false c1, Bool.false_and, Bool.and_false]
    exact ⟨0, fun _ _ => rfl⟩
/-- The bytes of a text. -/
def textOk (s : ByteArray) : Bool := (bytesOf s).all (fun c => decide (33 ≤ c) && decide (c ≤ 126)) && decide (s.size ≤ 12)
theorem spec_l5Text_loop (s : ByteArray) (hn : s.size ≤ 140737488355328) : ∀ (d i : Nat), i + d = s.size →
    Ev (fun k => spec_l5Text.l0 k s (i : Int)) (((bytesOf s).drop i).all (fun c => decide (33 ≤ c) && decide (c ≤ 126)) && decide (s.size ≤ 12)) := by
  intro d
  induction d with
  | zero =>
    intro i hi
    refine Ev.step (f := fun _ => some (decide (s.size ≤ 12))) (fun k => ?_) ⟨0, fun _ _ => by rw [List.drop_of_length_le (by rw [bytesOf_length]; omega)]; rfl⟩
    simp only [spec_l5Text.l0]
    rw [if_neg (by omega)]
    congr 1
    exact decide_eq_decide.2 (by omega)
  | succ d ih =>
    intro i hi
    have hb := bt_range s i
    have hw := wrap_succ i s.size (by omega) hn
    rw [drop_bytesOf s i (by omega), List.all_cons]
    have hs : ∀ k, spec_l5Text.l0 (k + 1) s (i : Int) = if (decide (33 ≤ bt s i) && decide (bt s i ≤ 126)) = true then spec_l5Text.l0 k s ((i + 1 : Nat) : Int) else some false := by
      intro k
      simp only [spec_l5Text.l0]
      rw [if_pos (by omega), if_pos (by omega), wrap_id (x := bt s i) (by omega) (by omega), l1In_dec, Option.bind_some, hw]
    refine Ev.step hs ?_
    cases h : (decide (33 ≤ bt s i) && decide (bt s i ≤ 126)) with
    | true => exact Ev_if rfl (by rw [Bool.true_and]; exact ih (i + 1) (by omega))
    | false => exact Ev_ifn (by decide) ⟨0, fun _ _ => rfl⟩
theorem spec_l5Text_eq (s : ByteArray) (hn : s.size ≤ 140737488355328) : Ev (fun k => spec_l5Text.f k s) (textOk s) := by
  have := spec_l5Text_loop s hn s.size 0 (by omega)
  unfold spec_l5Text.f textOk
  simpa using this
theorem impl_isText_loop (s : ByteArray) (hn : s.size ≤ 140737488355328) : ∀ (d i : Nat), i + d = s.size →
    Ev (fun k => impl_isText.l0 k s (s.size : Int) (i : Int)) (((bytesOf s).drop i).all (fun c => decide (33 ≤ c) && decide (c ≤ 126)) && decide (s.size ≤ 12)) := by
  intro d
  induction d with
  | zero =>
    intro i hi
    refine Ev.step (f := fun _ => some (decide (s.size ≤ 12))) (fun k => ?_) ⟨0, fun _ _ => by rw [List.drop_of_length_le (by rw [bytesOf_length]; omega)]; rfl⟩
    simp only [impl_isText.l0]
    rw [if_neg (by omega)]
    congr 1
    exact decide_eq_decide.2 (by omega)
  | succ d ih =>
    intro i hi
    have hb := bt_range s i
    have hw := wrap_succ i s.size (by omega) hn
    rw [drop_bytesOf s i (by omega), List.all_cons]
    have hs : ∀ k, impl_isText.l0 (k + 1) s (s.size : Int) (i : Int) = if bt s i < 33 then some false else if bt s i > 126 then some false else impl_isText.l0 k s (s.size : Int) ((i + 1 : Nat) : Int) := by
      intro k
      simp only [impl_isText.l0]
      rw [if_pos (by omega), if_pos (by omega), if_pos (by omega), hw]
    refine Ev.step hs ?_
    by_cases c1 : bt s i < 33
    · refine Ev_if c1 ⟨0, fun _ _ => ?_⟩
      rw [decide_eq_false (show ¬ 33 ≤ bt s i by omega)]
      rfl
    · refine Ev_ifn c1 ?_
      rw [decide_eq_true (show 33 ≤ bt s i by omega), Bool.true_and]
      by_cases c2 : bt s i > 126
      · refine Ev_if c2 ⟨0, fun _ _ => ?_⟩
        rw [decide_eq_false (show ¬ bt s i ≤ 126 by omega)]
        rfl
      · refine Ev_ifn c2 ?_
        rw [decide_eq_true (show bt s i ≤ 126 by omega), Bool.true_and]
        exact ih (i + 1) (by omega)
theorem impl_isText_eq (s : ByteArray) (hn : s.size ≤ 140737488355328) : Ev (fun k => impl_isText.f k s) (textOk s) := by
  have := impl_isText_loop s hn s.size 0 (by omega)
  unfold impl_isText.f textOk
  simpa using this
/-- A number from 0 to m. -/
def inTo (x m : Int) : Bool := decide (0 ≤ x) && decide (x ≤ m)
theorem l1In_to (x m : Int) : spec_l1In.f x 0 m = some (inTo x m) := l1In_dec x 0 m
theorem isTtl_eq (x : Int) : impl_isTtl.f x = some (inTo x 100000) := by
  unfold impl_isTtl.f inTo
  by_cases h : x ≥ 0
  · rw [if_pos h, decide_eq_true (show 0 ≤ x by omega), Bool.true_and]
  · rw [if_neg h, decide_eq_false (show ¬ 0 ≤ x by omega), Bool.false_and]
theorem isFour_eq (x : Int) : impl_isFour.f x = some (inTo x 2147483647) := by
  unfold impl_isFour.f inTo
  by_cases h : x ≥ 0
  · rw [if_pos h, decide_eq_true (show 0 ≤ x by omega), Bool.true_and]
  · rw [if_neg h, decide_eq_false (show ¬ 0 ≤ x by omega), Bool.false_and]
def isE (s : ByteArray) : Bool := s.toList == ([] : List UInt8)
/-- What RecordOk answers. -/
def recOk (a0 : ByteArray) (a1 a2 a3 : Int) (a4 a5 : ByteArray) : Bool :=
  nameOk a0 && (inTo a2 100000 && (if a1 = 1 then inTo a3 2147483647 && (isE a4 && isE a5) else if a1 = 2 ∨ a1 = 5 then decide (a3 = 0) && (nameOk a4 && isE a5) else if a1 = 6 then inTo a3 100000 && (nameOk a4 && isE a5) else if a1 = 16 then decide (a3 = 0) && (isE a4 && textOk a5) else false))
theorem Ev_and {f : Nat → Option Bool} {a b : Bool} {g : Nat → Option Bool} (h : Ev f a) (h2 : a = true → Ev g b) : Ev (fun k => (f k).bind fun t => if t = true then g k else some false) (a && b) := by
  refine Ev.bind h ?_
  cases a with
  | true => exact Ev_if rfl (by rw [Bool.true_and]; exact h2 rfl)
  | false => exact Ev_ifn (by decide) ⟨0, fun _ _ => rfl⟩
theorem Ev_andp {p : Prop} [Decidable p] {b : Bool} {g : Nat → Option Bool} (h2 : p → Ev g b) : Ev (fun k => if p then g k else some false) (decide p && b) := by
  by_cases h : p
  · rw [decide_eq_true h, Bool.true_and]
    exact Ev_if h (h2 h)
  · rw [decide_eq_false h, Bool.false_and]
    exact Ev_ifn h ⟨0, fun _ _ => rfl⟩
theorem Ev_andE (s : ByteArray) {b : Bool} {g : Nat → Option Bool} (h2 : Ev g b) : Ev (fun k => if s.toList = ([] : List UInt8) then g k else some false) (isE s && b) := by
  unfold isE
  by_cases h : s.toList = []
  · rw [show (s.toList == ([] : List UInt8)) = true by rw [h]; rfl, Bool.true_and]
    exact Ev_if h h2
  · rw [show (s.toList == ([] : List UInt8)) = false by simpa using h, Bool.false_and]
    exact Ev_ifn h ⟨0, fun _ _ => rfl⟩
theorem Ev_some {α : Type} (x : α) : Ev (fun _ => some x) x := ⟨0, fun _ _ => rfl⟩
theorem Ev_ret {α : Type} {f : Nat → Option α} {x : α} (h : Ev f x) : Ev (fun k => (f k).bind fun t => some t) x := Ev.bind h (Ev_some x)
theorem spec_RecordOk_eq (a0 : ByteArray) (a1 a2 a3 : Int) (a4 a5 : ByteArray) (h0 : a0.size ≤ 1048576) (h4 : a4.size ≤ 1048576) (h5 : a5.size ≤ 1048576) : Ev (fun k => spec_RecordOk.f k a0 a1 a2 a3 a4 a5) (recOk a0 a1 a2 a3 a4 a5) := by
  unfold spec_RecordOk.f recOk
  refine Ev.bind (spec_NameOk_eq a0 h0) ?_
  cases hn : nameOk a0 with
  | false =>
    refine Ev_ifn (by decide) ?_
    refine Ev.step (f := fun _ => some false) (fun k => ?_) (Ev_some _)
    simp only [spec_RecordOk.j0]
    rfl
  | true =>
    rw [Bool.true_and]
    refine Ev_if rfl ?_
    simp only [l1In_to, Option.bind_some]
    cases ht : inTo a2 100000 with
    | false =>
      refine Ev.step (f := fun _ => some false) (fun k => ?_) (Ev_some _)
      simp only [spec_RecordOk.j0]
      rfl
    | true =>
      rw [Bool.true_and]
      have key : ∀ (b : Bool), b = decide (a1 = 2 ∨ a1 = 5) → a1 ≠ 1 → Ev (fun k => spec_RecordOk.j1 k a1 b a0 a1 a2 a3 a4 a5) (if a1 = 2 ∨ a1 = 5 then decide (a3 = 0) && (nameOk a4 && isE a5) else if a1 = 6 then inTo a3 100000 && (nameOk a4 && isE a5) else if a1 = 16 then decide (a3 = 0) && (isE a4 && textOk a5) else false) := by
        intro b hb h1
        by_cases c : a1 = 2 ∨ a1 = 5
        · rw [if_pos c]
          rw [decide_eq_true c] at hb
          subst hb
          refine Ev.step (fun k => ?_) (Ev_andp fun _ => Ev_and (spec_NameOk_eq a4 h4) fun _ => Ev_some _)
          simp only [spec_RecordOk.j1, if_true]
          rfl
        · rw [if_neg c]
          rw [decide_eq_false c] at hb
          subst hb
          by_cases c6 : a1 = 6
          · rw [if_pos c6]
            refine Ev.step (fun k => ?_) (Ev_and (f := fun _ => some (inTo a3 100000)) (Ev_some _) fun _ => Ev_and (spec_NameOk_eq a4 h4) fun _ => Ev_some _)
            simp only [spec_RecordOk.j1]
            rw [if_neg (by decide), if_pos c6, l1In_to]
            rfl
          · rw [if_neg c6]
            by_cases c16 : a1 = 16
            · rw [if_pos c16]
              refine Ev.step (fun k => ?_) (Ev_andp fun _ => Ev_andE a4 (Ev_ret (spec_l5Text_eq a5 (by omega))))
              simp only [spec_RecordOk.j1]
              rw [if_neg (by decide), if_neg c6, if_pos c16]
            · rw [if_neg c16]
              refine Ev.step (f := fun _ => some false) (fun k => ?_) (Ev_some _)
              simp only [spec_RecordOk.j1]
              rw [if_neg (by decide), if_neg c6, if_neg c16]
      by_cases c1 : a1 = 1
      · rw [if_pos c1]
        refine Ev.step (fun k => ?_) (Ev_and (f := fun _ => some (inTo a3 2147483647)) (Ev_some _) fun _ => Ev_andE a4 (Ev_some _))
        simp only [spec_RecordOk.j0]
        rw [if_neg (by decide), if_pos c1, l1In_to]
        rfl
      · rw [if_neg c1]
        by_cases c2 : a1 = 2
        · refine Ev.step (fun k => ?_) (key (a1 == 2) (by rw [decide_eq_true (Or.inl c2)]; simpa using c2) c1)
          simp only [spec_RecordOk.j0]
          rw [if_neg (by decide), if_neg c1, if_pos c2]
        · refine Ev.step (fun k => ?_) (key (a1 == 5) (by by_cases c5 : a1 = 5 <;> simp [c2, c5]) c1)
          simp only [spec_RecordOk.j0]
          rw [if_neg (by decide), if_neg c1, if_neg c2]
theorem impl_RecordOk_eq (a0 : ByteArray) (a1 a2 a3 : Int) (a4 a5 : ByteArray) (h0 : a0.size ≤ 1048576) (h4 : a4.size ≤ 1048576) (h5 : a5.size ≤ 1048576) : Ev (fun k => impl_RecordOk.f k a0 a1 a2 a3 a4 a5) (recOk a0 a1 a2 a3 a4 a5) := by
  unfold impl_RecordOk.f recOk
  refine Ev.bind (impl_NameOk_eq a0 h0) ?_
  cases hn : nameOk a0 with
  | false =>
    refine Ev_ifn (by decide) ?_
    refine Ev.step (f := fun _ => some false) (fun k => ?_) (Ev_some _)
    simp only [impl_RecordOk.j0]
    rfl
  | true =>
    rw [Bool.true_and]
    refine Ev_if rfl ?_
    simp only [isTtl_eq, Option.bind_some]
    cases ht : inTo a2 100000 with
    | false =>
      refine Ev.step (f := fun _ => some false) (fun k => ?_) (Ev_some _)
      simp only [impl_RecordOk.j0]
      rfl
    | true =>
      rw [Bool.true_and]
      have key : ∀ (b : Bool), b = decide (a1 = 2 ∨ a1 = 5) → a1 ≠ 1 → Ev (fun k => impl_RecordOk.j1 k a1 b a0 a1 a2 a3 a4 a5) (if a1 = 2 ∨ a1 = 5 then decide (a3 = 0) && (nameOk a4 && isE a5) else if a1 = 6 then inTo a3 100000 && (nameOk a4 && isE a5) else if a1 = 16 then decide (a3 = 0) && (isE a4 && textOk a5) else false) := by
        intro b hb h1
        by_cases c : a1 = 2 ∨ a1 = 5
        · rw [if_pos c]
          rw [decide_eq_true c] at hb
          subst hb
          refine Ev.step (fun k => ?_) (Ev_andp fun _ => Ev_and (impl_NameOk_eq a4 h4) fun _ => Ev_some _)
          simp only [impl_RecordOk.j1, if_true]
          rfl
        · rw [if_neg c]
          rw [decide_eq_false c] at hb
          subst hb
          by_cases c6 : a1 = 6
          · rw [if_pos c6]
            refine Ev.step (fun k => ?_) (Ev_and (f := fun _ => some (inTo a3 100000)) (Ev_some _) fun _ => Ev_and (impl_NameOk_eq a4 h4) fun _ => Ev_some _)
            simp only [impl_RecordOk.j1]
            rw [if_neg (by decide), if_pos c6, isTtl_eq]
            rfl
          · rw [if_neg c6]
            by_cases c16 : a1 = 16
            · rw [if_pos c16]
              refine Ev.step (fun k => ?_) (Ev_andp fun _ => Ev_andE a4 (Ev_ret (impl_isText_eq a5 (by omega))))
              simp only [impl_RecordOk.j1]
              rw [if_neg (by decide), if_neg c6, if_pos c16]
            · rw [if_neg c16]
              refine Ev.step (f := fun _ => some false) (fun k => ?_) (Ev_some _)
              simp only [impl_RecordOk.j1]
              rw [if_neg (by decide), if_neg c6, if_neg c16]
      by_cases c1 : a1 = 1
      · rw [if_pos c1]
        refine Ev.step (fun k => ?_) (Ev_and (f := fun _ => some (inTo a3 2147483647)) (Ev_some _) fun _ => Ev_andE a4 (Ev_some _))
        simp only [impl_RecordOk.j0]
        rw [if_neg (by decide), if_pos c1, isFour_eq]
        rfl
      · rw [if_neg c1]
        by_cases c2 : a1 = 2
        · refine Ev.step (fun k => ?_) (key (a1 == 2) (by rw [decide_eq_true (Or.inl c2)]; simpa using c2) c1)
          simp only [impl_RecordOk.j0]
          rw [if_neg (by decide), if_neg c1, if_pos c2]
        · refine Ev.step (fun k => ?_) (key (a1 == 5) (by by_cases c5 : a1 = 5 <;> simp [c2, c5]) c1)
          simp only [impl_RecordOk.j0]
          rw [if_neg (by decide), if_neg c1, if_neg c2]
theorem szR_mem : ∀ (l : List S30) (x : S30), x ∈ l → szR x ≤ szRs l
  | [], x, h => by cases h
  | y :: l, x, h => by
    have e : szRs (y :: l) = szR y + szRs l := by unfold szRs; rw [List.map_cons, List.sum_cons]
    rw [e]
    rcases List.mem_cons.1 h with q | h
    · subst q
      omega
    · have := szR_mem l x h
      omega
/-- What a list of records is known to hold, once its size was counted. -/
def fitL (l : List S30) : Prop := l.length ≤ 1048576 ∧ ∀ x ∈ l, szR x ≤ 1048576
theorem fitL_of {l : List S30} {r a : Int} (h : r = a - (l.length + szRs l)) (h0 : 0 ≤ r) (ha : a ≤ 1048576) : fitL l := by
  refine ⟨by omega, fun x hx => ?_⟩
  have := szR_mem l x hx
  omega
theorem szMsgF_eq (a0 : Int) (a1 a2 a3 a4 a5 : Bool) (a6 : Int) (a7 : ByteArray) (a8 : Int) (l9 l10 l11 : List S30) (h7 : a7.size ≤ 140737488351232) (h9 : okRs l9) (h10 : okRs l10) (h11 : okRs l11) :
    ∃ r, Ev (fun k => laws_szMsg.f k a0 a1 a2 a3 a4 a5 a6 a7 a8 l9 l10 l11 1048576) r ∧ -1 ≤ r ∧ r ≤ 1048576 ∧ (0 ≤ r → a7.size ≤ 1048576 ∧ fitL l9 ∧ fitL l10 ∧ fitL l11) := by
  unfold laws_szMsg.f laws_szQuest.f
  rw [wrap_id (x := (1048576 : Int) - (a7.size : Int)) (by omega) (by omega)]
  by_cases c : (1048576 : Int) - (a7.size : Int) < 0
  · refine ⟨-1, ?_, by omega, by omega, fun h => by omega⟩
    rw [if_pos c]
    simp only [Option.bind_some]
    exact Ev_if (by decide) (Ev_some _)
  · rw [if_neg c]
    simp only [Option.bind_some]
    obtain ⟨r, hr, r0, r1, r2⟩ := szRecordS_eq l9 h9.1 h9.2 (1048576 - (a7.size : Int)) (by omega)
    by_cases c1 : r < 0
    · exact ⟨-1, Ev_ifn c (Ev.bind hr (Ev_if c1 (Ev_some _))), by omega, by omega, fun h => by omega⟩
    · obtain ⟨q, hq, q0, q1, q2⟩ := szRecordS_eq l10 h10.1 h10.2 r (by omega)
      by_cases c2 : q < 0
      · exact ⟨-1, Ev_ifn c (Ev.bind hr (Ev_ifn c1 (Ev.bind hq (Ev_if c2 (Ev_some _))))), by omega, by omega, fun h => by omega⟩
      · obtain ⟨p, hp, p0, p1, p2⟩ := szRecordS_eq l11 h11.1 h11.2 q (by omega)
        by_cases c3 : p < 0
        · exact ⟨-1, Ev_ifn c (Ev.bind hr (Ev_ifn c1 (Ev.bind hq (Ev_ifn c2 (Ev.bind hp (Ev_if c3 (Ev_some _))))))), by omega, by omega, fun h => by omega⟩
        · exact ⟨p, Ev_ifn c (Ev.bind hr (Ev_ifn c1 (Ev.bind hq (Ev_ifn c2 (Ev.bind hp (Ev_ifn c3 (Ev_some _))))))), p0, p1, fun h => ⟨by omega, fitL_of (r2 (by omega)) (by omega) (by omega), fitL_of (q2 (by omega)) (by omega) (by omega), fitL_of (p2 (by omega)) (by omega) (by omega)⟩⟩
/-- What TypeOk answers. -/
def typeOk (n : Int) : Bool := decide (n = 1 ∨ n = 2 ∨ n = 5 ∨ n = 6 ∨ n = 16)
theorem spec_TypeOk_eq (n : Int) : spec_TypeOk.f n = some (typeOk n) := by
  unfold spec_TypeOk.f typeOk
  by_cases h1 : n = 1
  · simp [h1]
  · by_cases h2 : n = 2
    · simp [h2]
    · by_cases h5 : n = 5
      · simp [h5]
      · by_cases h6 : n = 6
        · simp [h6]
        · simp [h1, h2, h5, h6]
          by_cases h16 : n = 16 <;> simp [h16]
theorem impl_TypeOk_eq (n : Int) : impl_TypeOk.f n = some (typeOk n) := by
  unfold impl_TypeOk.f impl_TypeText.f typeOk
  by_cases h1 : n = 1
  · simp [h1]
  · by_cases h2 : n = 2
    · simp [h2]
    · by_cases h5 : n = 5
      · simp [h5]
      · by_cases h6 : n = 6
        · simp [h6]
        · by_cases h16 : n = 16
          · simp [h16]
          · simp [h1, h2, h5, h6, h16]
/-- A record, as RecordOk sees it. -/
def recOkR (x : S33) : Bool := recOk x.f0 x.f1 x.f2 x.f3 x.f4 x.f5
/-- Strings that are not too long for the laws. -/
def fitR (x : S33) : Prop := x.f0.size ≤ 1048576 ∧ x.f4.size ≤ 1048576 ∧ x.f5.size ≤ 1048576
def recsOk (l : List S33) : Bool := l.all recOkR && decide (l.length ≤ 8)
theorem spec_recOkR (x : S33) (h : fitR x) : Ev (fun k => spec_RecordOk.f k x.f0 x.f1 x.f2 x.f3 x.f4 x.f5) (recOkR x) := spec_RecordOk_eq _ _ _ _ _ _ h.1 h.2.1 h.2.2
theorem impl_recOkR (x : S33) (h : fitR x) : Ev (fun k => impl_RecordOk.f k x.f0 x.f1 x.f2 x.f3 x.f4 x.f5) (recOkR x) := impl_RecordOk_eq _ _ _ _ _ _ h.1 h.2.1 h.2.2
theorem spec_l7List_loop (l : List S33) (hn : l.length ≤ 1048576) (hz : ∀ x ∈ l, fitR x) : ∀ (d i : Nat), i + d = l.length →
    Ev (fun k => spec_l7List.l0 k l (i : Int)) ((l.drop i).all recOkR && decide (l.length ≤ 8)) := by
  intro d
  induction d with
  | zero =>
    intro i hi
    rw [show l.drop i = [] from List.drop_of_length_le (by omega)]
    refine Ev.step (f := fun _ => some (decide (l.length ≤ 8))) (fun k => ?_) (Ev_some _)
    simp only [spec_l7List.l0]
    rw [if_neg (by omega)]
    exact congrArg some (decide_eq_decide.2 (by omega))
  | succ d ih =>
    intro i hi
    have hil : i < l.length := by omega
    have w := wrap_succ i l.length hil (by omega)
    rw [List.drop_eq_getElem_cons hil, List.all_cons, Bool.and_assoc]
    refine Ev.step (fun k => ?_) (Ev_and (spec_recOkR l[i] (hz _ (List.getElem_mem hil))) fun _ => ih (i + 1) (by omega))
    simp only [spec_l7List.l0]
    rw [if_pos (by omega), if_pos (by omega), rdR_getElem l i hil, w]
theorem spec_l7List_eq (l : List S33) (hn : l.length ≤ 1048576) (hz : ∀ x ∈ l, fitR x) : Ev (fun k => spec_l7List.f k l) (recsOk l) := by
  have := spec_l7List_loop l hn hz l.length 0 (by omega)
  unfold spec_l7List.f recsOk
  simpa using this
theorem impl_allOk_1_eq (x : S33) (h : fitR x) : Ev (fun k => impl_allOk_1.f k x.f0 x.f1 x.f2 x.f3 x.f4 x.f5) (!recOkR x) := by
  unfold impl_allOk_1.f
  exact Ev.bind (impl_recOkR x h) (Ev_some _)
theorem slices_IndexFunc_rec_loop (l : List S33) (hn : l.length ≤ 1048576) (hz : ∀ x ∈ l, fitR x) : ∀ (d i : Nat), i + d = l.length →
    ∃ r : Int, Ev (fun k => slices_IndexFunc_impl_Record.l0 k l (l.length : Int) (i : Int)) r ∧ decide (r ≥ 0) = !(l.drop i).all recOkR := by
  intro d
  induction d with
  | zero =>
    intro i hi
    rw [show l.drop i = [] from List.drop_of_length_le (by omega)]
    refine ⟨-1, Ev.step (f := fun _ => some (-1)) (fun k => ?_) (Ev_some _), rfl⟩
    simp only [slices_IndexFunc_impl_Record.l0]
    rw [if_neg (by omega)]
  | succ d ih =>
    intro i hi
    have hil : i < l.length := by omega
    have w := wrap_succ i l.length hil (by omega)
    rw [List.drop_eq_getElem_cons hil, List.all_cons]
    have hx := hz _ (List.getElem_mem hil)
    obtain ⟨r, hr, hd⟩ := ih (i + 1) (by omega)
    have hs : ∀ k, slices_IndexFunc_impl_Record.l0 (k + 1) l (l.length : Int) (i : Int) = (impl_allOk_1.f k l[i].f0 l[i].f1 l[i].f2 l[i].f3 l[i].f4 l[i].f5).bind fun t => if t = true then some (i : Int) else slices_IndexFunc_impl_Record.l0 k l (l.length : Int) ((i + 1 : Nat) : Int) := by
      intro k
      simp only [slices_IndexFunc_impl_Record.l0]
      rw [if_pos (by omega), if_pos (by omega), if_pos (by omega), rdR_getElem l i hil, w]
    cases h : recOkR l[i] with
    | true =>
      refine ⟨r, Ev.step hs (Ev.bind (impl_allOk_1_eq l[i] hx) ?_), by rw [hd, Bool.true_and]⟩
      rw [h]
      exact Ev_ifn (by decide) hr
    | false =>
      refine ⟨(i : Int), Ev.step hs (Ev.bind (impl_allOk_1_eq l[i] hx) ?_), by rw [decide_eq_true (by omega)]; rfl⟩
      rw [h]
      exact Ev_if rfl (Ev_some _)
theorem slices_ContainsFunc_rec_eq (l : List S33) (hn : l.length ≤ 1048576) (hz : ∀ x ∈ l, fitR x) : Ev (fun k => slices_ContainsFunc_impl_Record.f k l) (!l.all recOkR) := by
  unfold slices_ContainsFunc_impl_Record.f slices_IndexFunc_impl_Record.f
  obtain ⟨r, hr, hd⟩ := slices_IndexFunc_rec_loop l hn hz l.length 0 (by omega)
  rw [List.drop_zero] at hd
  rw [← hd]
  exact Ev.bind hr (Ev_some _)
theorem impl_allOk_eq (l : List S33) (hn : l.length ≤ 1048576) (hz : ∀ x ∈ l, fitR x) : Ev (fun k => impl_allOk.f k l 8) (recsOk l) := by
  unfold impl_allOk.f recsOk
  by_cases c : l.length ≤ 8
  · refine Ev_if (by omega) ?_
    rw [decide_eq_true c, Bool.and_true]
    refine Ev.bind (slices_ContainsFunc_rec_eq l hn hz) ⟨0, fun _ _ => ?_⟩
    rw [Bool.not_not]
  · refine Ev_ifn (by omega) ?_
    rw [decide_eq_false c, Bool.and_false]
    exact Ev_some _
/-- What MsgOk answers. -/
def msgOk (a0 a6 : Int) (a7 : ByteArray) (a8 : Int) (l9 l10 l11 : List S33) : Bool :=
  inTo a0 65535 && (inTo a6 15 && ((nameOk a7 && typeOk a8) && (recsOk l9 && (recsOk l10 && recsOk l11))))
theorem spec_QuestOk_eq (a : ByteArray) (n : Int) (h : a.size ≤ 1048576) : Ev (fun k => spec_QuestOk.f k a n) (nameOk a && typeOk n) := by
  unfold spec_QuestOk.f
  rw [spec_TypeOk_eq n]
  exact Ev_and (spec_NameOk_eq a h) fun _ => Ev_some _
theorem impl_QuestOk_eq (a : ByteArray) (n : Int) (h : a.size ≤ 1048576) : Ev (fun k => impl_QuestOk.f k a n) (nameOk a && typeOk n) := by
  unfold impl_QuestOk.f
  rw [impl_TypeOk_eq n]
  exact Ev_and (impl_NameOk_eq a h) fun _ => Ev_some _
def fitRs (l : List S33) : Prop := l.length ≤ 1048576 ∧ ∀ x ∈ l, fitR x
theorem spec_MsgOk_eq (a0 : Int) (a1 a2 a3 a4 a5 : Bool) (a6 : Int) (a7 : ByteArray) (a8 : Int) (l9 l10 l11 : List S33) (h7 : a7.size ≤ 1048576) (h9 : fitRs l9) (h10 : fitRs l10) (h11 : fitRs l11) :
    Ev (fun k => spec_MsgOk.f k a0 a1 a2 a3 a4 a5 a6 a7 a8 l9 l10 l11) (msgOk a0 a6 a7 a8 l9 l10 l11) := by
  unfold spec_MsgOk.f msgOk
  rw [l1In_to, l1In_to]
  exact Ev_and (f := fun _ => some (inTo a0 65535)) (Ev_some _) fun _ => Ev_and (f := fun _ => some (inTo a6 15)) (Ev_some _) fun _ => Ev_and (spec_QuestOk_eq a7 a8 h7) fun _ => Ev_and (spec_l7List_eq l9 h9.1 h9.2) fun _ => Ev_and (spec_l7List_eq l10 h10.1 h10.2) fun _ => Ev_ret (spec_l7List_eq l11 h11.1 h11.2)
theorem Ev_inTo {x m : Int} {b : Bool} {g : Nat → Option Bool} (h2 : Ev g b) : Ev (fun k => if x ≥ 0 then (if x ≤ m then g k else some false) else some false) (inTo x m && b) := by
  unfold inTo
  rw [Bool.and_assoc]
  exact Ev_andp (p := 0 ≤ x) fun _ => Ev_andp fun _ => h2
theorem impl_MsgOk_eq (a0 : Int) (a1 a2 a3 a4 a5 : Bool) (a6 : Int) (a7 : ByteArray) (a8 : Int) (l9 l10 l11 : List S33) (h7 : a7.size ≤ 1048576) (h9 : fitRs l9) (h10 : fitRs l10) (h11 : fitRs l11) :
    Ev (fun k => impl_MsgOk.f k a0 a1 a2 a3 a4 a5 a6 a7 a8 l9 l10 l11) (msgOk a0 a6 a7 a8 l9 l10 l11) := by
  unfold impl_MsgOk.f msgOk
  exact Ev_inTo (Ev_inTo (Ev_and (impl_QuestOk_eq a7 a8 h7) fun _ => Ev_and (impl_allOk_eq l9 h9.1 h9.2) fun _ => Ev_and (impl_allOk_eq l10 h10.1 h10.2) fun _ => Ev_ret (impl_allOk_eq l11 h11.1 h11.2)))
theorem fitR_cv {x : S30} (h : szR x ≤ 1048576) : fitR (cvR x) := by
  unfold szR at h
  refine ⟨?_, ?_, ?_⟩
  · show x.f0.size ≤ 1048576
    omega
  · show x.f4.size ≤ 1048576
    omega
  · show x.f5.size ≤ 1048576
    omega
theorem fitRs_cv {l : List S30} (h : fitL l) : fitRs (l.map cvR) := by
  refine ⟨by rw [List.length_map]; exact h.1, fun x hx => ?_⟩
  obtain ⟨y, hy, rfl⟩ := List.mem_map.1 hx
  exact fitR_cv (h.2 y hy)
theorem spec_NumText_pos (x0 : Int) (hx : ¬ x0 < 0) : ∀ (m : Nat) (s : List Int), m ≤ 9223372036854775808 → (decZ m).length + s.length ≤ 100 →
    m ≤ 9223372036854775807 → Ev (fun k => spec_NumText.l0 k x0 (strOfNums s) (m : Int)) (strOfNums (decZ m ++ s)) := by
  intro m
  induction m using Nat.strongRecOn with
  | _ m ih =>
    intro s hm hl hm2
    by_cases hz : m = 0
    · subst hz
      refine Ev.step (f := fun _ => some (strOfNums s)) (fun k => ?_) ⟨0, fun _ _ => by rw [decZ_zero, List.nil_append]⟩
      simp only [spec_NumText.l0]
      rw [if_pos (by simp), if_neg hx]
    · have hd := decZ_pos m hz
      have hl2 : (decZ m).length = (decZ (m / 10)).length + 1 := by rw [hd, List.length_append]; rfl
      have := ih (m / 10) (by omega) ((48 + ((m % 10 : Nat) : Int)) :: s) (by omega) (by rw [List.length_cons]; omega) (by omega)
      have e : decZ (m / 10) ++ (48 + ((m % 10 : Nat) : Int)) :: s = decZ m ++ s := by rw [hd, List.append_assoc]; rfl
      rw [e] at this
      refine Ev.step (f := fun k => spec_NumText.l0 k x0 (strOfNums ((48 + ((m % 10 : Nat) : Int)) :: s)) ((m / 10 : Nat) : Int)) (fun k => ?_) this
      simp only [spec_NumText.l0]
      rw [if_neg (by omega), tmod_pos, tdiv_pos, if_neg (by omega)]
      have w1 : wrap64 (48 + ((m % 10 : Nat) : Int)) % 256 = 48 + ((m % 10 : Nat) : Int) := by rw [wrap_id (by omega) (by omega)]; omega
      have w2 : wrap64 ((m / 10 : Nat) : Int) = ((m / 10 : Nat) : Int) := wrap_id (by omega) (by omega)
      rw [w1, w2]
      simp only [Option.bind_some]
      rw [if_pos (by rw [strOfNums_size, strOfNums_size]; simp; omega), ← strOfNums_append]
      rfl
theorem spec_NumText_neg (x0 : Int) (hx : x0 < 0) : ∀ (m : Nat) (s : List Int), m ≤ 9223372036854775808 → (decZ m).length + s.length ≤ 100 →
    Ev (fun k => spec_NumText.l0 k x0 (strOfNums s) (-(m : Int))) (strOfNums (45 :: (decZ m ++ s))) := by
  intro m
  induction m using Nat.strongRecOn with
  | _ m ih =>
    intro s hm hl
    by_cases hz : m = 0
    · subst hz
      refine Ev.step (f := fun _ => some (strOfNums (45 :: s))) (fun k => ?_) ⟨0, fun _ _ => by rw [decZ_zero, List.nil_append]⟩
      simp only [spec_NumText.l0]
      rw [if_pos (by simp), if_pos hx, if_pos (by rw [strOfNums_size]; omega)]
      rw [show (45 :: s) = [45] ++ s from rfl, strOfNums_append]
      rfl
    · have hd := decZ_pos m hz
      have hl2 : (decZ m).length = (decZ (m / 10)).length + 1 := by rw [hd, List.length_append]; rfl
      have := ih (m / 10) (by omega) ((48 + ((m % 10 : Nat) : Int)) :: s) (by omega) (by rw [List.length_cons]; omega)
      have e : decZ (m / 10) ++ (48 + ((m % 10 : Nat) : Int)) :: s = decZ m ++ s := by rw [hd, List.append_assoc]; rfl
      rw [e] at this
      refine Ev.step (f := fun k => spec_NumText.l0 k x0 (strOfNums ((48 + ((m % 10 : Nat) : Int)) :: s)) (-((m / 10 : Nat) : Int))) (fun k => ?_) this
      simp only [spec_NumText.l0]
      rw [if_neg (by omega), tmod_neg, tdiv_neg]
      have w2 : wrap64 (-((m / 10 : Nat) : Int)) = -((m / 10 : Nat) : Int) := wrap_id (by omega) (by omega)
      have w3 : wrap64 (-(-((m % 10 : Nat) : Int))) = ((m % 10 : Nat) : Int) := by rw [Int.neg_neg]; exact wrap_id (by omega) (by omega)
      have w1 : wrap64 (48 + ((m % 10 : Nat) : Int)) % 256 = 48 + ((m % 10 : Nat) : Int) := by rw [wrap_id (by omega) (by omega)]; omega
      rw [w2, w3, w1]
      by_cases hn : -((m % 10 : Nat) : Int) < 0
      · rw [if_pos hn]
        simp only [Option.bind_some]
        rw [if_pos (by rw [strOfNums_size, strOfNums_size]; simp; omega), ← strOfNums_append]
        rfl
      · rw [if_neg hn]
        have hz : ((m % 10 : Nat) : Int) = 0 := by omega
        rw [hz]
        have w4 : wrap64 (48 + (-0 : Int)) % 256 = 48 + 0 := by unfold wrap64; omega
        rw [w4]
        simp only [Option.bind_some]
        rw [if_pos (by rw [strOfNums_size, strOfNums_size]; simp; omega), ← strOfNums_append]
        rfl
theorem spec_NumText_eq (n : Int) (h : -9223372036854775808 ≤ n ∧ n ≤ 9223372036854775807) : Ev (fun k => spec_NumText.f k n) (numText n) := by
  unfold spec_NumText.f numText numL
  by_cases hz : n = 0
  · subst hz
    simp only [if_true]
    rw [if_neg (by decide)]
    refine ⟨0, fun _ _ => ?_⟩
    rw [show (0 : Int).natAbs = 0 from rfl, decN_small 0 (by decide)]
    rfl
  · simp only [if_neg hz]
    by_cases hn : n < 0
    · rw [if_pos hn, decN_pos _ (by omega)]
      have := spec_NumText_neg n hn n.natAbs [] (by omega) (by have := decZ_le n.natAbs (by omega); simp; omega)
      rw [show (-(n.natAbs : Int)) = n by omega, List.append_nil] at this
      exact this
    · rw [if_neg hn, decN_pos _ (by omega)]
      have := spec_NumText_pos n hn n.natAbs [] (by omega) (by have := decZ_le n.natAbs (by omega); simp; omega) (by omega)
      rw [show ((n.natAbs : Int)) = n by omega, List.append_nil] at this
      exact this
theorem impl_NumText_pos : ∀ (m : Nat), m ≤ 9223372036854775807 → Ev (fun k => impl_NumText.f k (m : Int)) (strOfNums (decN m)) := by
  intro m
  induction m using Nat.strongRecOn with
  | _ m ih =>
    intro hm
    refine Ev.step (f := fun k => impl_NumText.j0 k (m : Int) false) (fun k => ?_) ?_
    · simp only [impl_NumText.f]
      rw [if_neg (by omega)]
    · by_cases hs : m < 10
      · refine Ev.step (f := fun _ => some (strOfNums (decN m))) (fun k => ?_) ⟨0, fun _ _ => rfl⟩
        simp only [impl_NumText.j0]
        rw [if_neg (by decide), if_neg (by omega), if_pos (by omega), wrap_id (by omega) (by omega), wrap32_id (by omega) (by omega), encode_digit _ (by omega) (by omega), decN_small m hs]
      · have hq := ih (m / 10) (by omega) (by omega)
        refine Ev.step (f := fun k => (impl_NumText.f k ((m / 10 : Nat) : Int)).bind fun t => if t.size + (strOfNums [48 + ((m % 10 : Nat) : Int)]).size ≤ 9223372036854775807 then some (t ++ strOfNums [48 + ((m % 10 : Nat) : Int)]) else none) (fun k => ?_) (Ev.bind hq ?_)
        · simp only [impl_NumText.j0]
          rw [if_neg (by decide), if_neg (by omega), if_neg (by omega), tdiv_pos, tmod_pos, wrap_id (x := ((m / 10 : Nat) : Int)) (by omega) (by omega), wrap_id (x := 48 + ((m % 10 : Nat) : Int)) (by omega) (by omega), wrap32_id (by omega) (by omega), encode_digit _ (by omega) (by omega)]
        · refine ⟨0, fun _ _ => ?_⟩
          have := decN_le (m / 10) (by omega)
          rw [if_pos (by rw [strOfNums_size, strOfNums_size]; simp; omega), ← strOfNums_append, ← decN_step m (by omega)]
theorem impl_NumText_neg : ∀ (m : Nat), m ≠ 0 → m ≤ 9223372036854775808 → Ev (fun k => impl_NumText.f k (-(m : Int))) (strOfNums (45 :: decN m)) := by
  intro m
  induction m using Nat.strongRecOn with
  | _ m ih =>
    intro hz hm
    by_cases hs : m < 10
    · refine Ev.step (f := fun k => impl_NumText.j0 k (-(m : Int)) true) (fun k => ?_) ?_
      · simp only [impl_NumText.f]
        rw [if_pos (by omega)]
        have : -(m : Int) > -10 := by omega
        rw [decide_eq_true this]
      · refine Ev.step (f := fun k => (impl_NumText.f k (m : Int)).bind fun t => if 1 + t.size ≤ 9223372036854775807 then some ((⟨#[45]⟩ : ByteArray) ++ t) else none) (fun k => ?_) (Ev.bind (impl_NumText_pos m (by omega)) ?_)
        · simp only [impl_NumText.j0]
          rw [if_pos trivial, Int.neg_neg, wrap_id (by omega) (by omega)]
        · refine ⟨0, fun _ _ => ?_⟩
          have := decN_le m (by omega)
          rw [if_pos (by rw [strOfNums_size]; omega), show (45 :: decN m) = [45] ++ decN m from rfl, strOfNums_append]
          rfl
    · refine Ev.step (f := fun k => impl_NumText.j0 k (-(m : Int)) false) (fun k => ?_) ?_
      · simp only [impl_NumText.f]
        rw [if_pos (by omega)]
        have : ¬ -(m : Int) > -10 := by omega
        rw [decide_eq_false this]
      · refine Ev.step (f := fun k => (impl_NumText.f k (-((m / 10 : Nat) : Int))).bind fun t => (impl_NumText.f k ((m % 10 : Nat) : Int)).bind fun u => if t.size + u.size ≤ 9223372036854775807 then some (t ++ u) else none) (fun k => ?_)
          (Ev.bind (ih (m / 10) (by omega) (by omega) (by omega)) (Ev.bind (impl_NumText_pos (m % 10) (by omega)) ?_))
        · simp only [impl_NumText.j0]
          rw [if_neg (by decide), if_pos (by omega), tdiv_neg, tmod_neg, Int.neg_neg, wrap_id (x := -((m / 10 : Nat) : Int)) (by omega) (by omega), wrap_id (x := ((m % 10 : Nat) : Int)) (by omega) (by omega)]
        · refine ⟨0, fun _ _ => ?_⟩
          have h1 := decN_le (m / 10) (by omega)
          have h2 := decN_le (m % 10) (by omega)
          rw [if_pos (by rw [strOfNums_size, strOfNums_size, List.length_cons]; omega), ← strOfNums_append, decN_small (m % 10) (by omega), decN_step m (by omega)]
          rfl
theorem impl_NumText_eq (n : Int) (h : -9223372036854775808 ≤ n ∧ n ≤ 9223372036854775807) : Ev (fun k => impl_NumText.f k n) (numText n) := by
  unfold numText numL
  by_cases hn : n < 0
  · rw [if_pos hn]
    have := impl_NumText_neg n.natAbs (by omega) (by omega)
    rw [show (-(n.natAbs : Int)) = n by omega] at this
    exact this
  · rw [if_neg hn]
    have := impl_NumText_pos n.natAbs (by omega)
    rw [show ((n.natAbs : Int)) = n by omega] at this
    exact this
theorem recOk_type {a0 : ByteArray} {a1 a2 a3 : Int} {a4 a5 : ByteArray} (h : recOk a0 a1 a2 a3 a4 a5 = true) : a1 = 1 ∨ a1 = 2 ∨ a1 = 5 ∨ a1 = 6 ∨ a1 = 16 := by
  unfold recOk at h
  simp only [Bool.and_eq_true] at h
  have h3 := h.2.2
  by_cases c1 : a1 = 1
  · exact .inl c1
  · rw [if_neg c1] at h3
    by_cases c2 : a1 = 2 ∨ a1 = 5
    · omega
    · rw [if_neg c2] at h3
      by_cases c6 : a1 = 6
      · omega
      · rw [if_neg c6] at h3
        by_cases c16 : a1 = 16
        · omega
        · rw [if_neg c16] at h3
          cases h3
def spB : ByteArray := ⟨#[32]⟩
/-- A space and a word, for each word. -/
def tailSp : List ByteArray → List UInt8
  | [] => []
  | x :: l => 32 :: (x.data.toList ++ tailSp l)
theorem join_tail : ∀ (l : List ByteArray) (x : ByteArray), Lib.join ((x :: l).map (·.data.toList)) [32] = x.data.toList ++ tailSp l
  | [], x => by simp [Lib.join, List.intercalate, tailSp]
  | y :: l, x => by
    have ih := join_tail l y
    rw [tailSp, ← ih]
    simp [Lib.join, List.intercalate]
/-- Words behind each other, a space between. -/
def catSp : ByteArray → List ByteArray → ByteArray
  | a, [] => a
  | a, x :: l => catSp ((a ++ spB) ++ x) l
theorem catSp_data : ∀ (l : List ByteArray) (a : ByteArray), (catSp a l).data.toList = a.data.toList ++ tailSp l
  | [], a => by simp [catSp, tailSp]
  | x :: l, a => by
    rw [catSp, catSp_data l, ByteArray.data_append, ByteArray.data_append, Array.toList_append, Array.toList_append, tailSp]
    simp [spB]
theorem join_sp (x : ByteArray) (l : List ByteArray) (h : (catSp x l).size ≤ 140737488355328) (hl : l.length ≤ 1000) : strings_Join.f (x :: l) spB = some (catSp x l) := by
  unfold strings_Join.f
  have e : spB.data.toList = [32] := rfl
  have d := (join_tail l x).trans (catSp_data l x).symm
  rw [e, d, if_pos ⟨by rw [data_length]; exact h, by rw [List.length_cons]; omega⟩]
/-- A name as text: '.' for the root. -/
def dotS (a : ByteArray) : ByteArray := if a.toList = ([] : List UInt8) then (⟨#[46]⟩ : ByteArray) else a
theorem spec_l5Dot_eq (a : ByteArray) : spec_l5Dot.f a = some (dotS a) := by
  unfold spec_l5Dot.f dotS
  split <;> rfl
theorem impl_nameText_eq (a : ByteArray) : impl_nameText.f a = some (dotS a) := by
  unfold impl_nameText.f dotS
  split <;> rfl
theorem dotS_size (a : ByteArray) : (dotS a).size ≤ a.size + 1 := by
  unfold dotS
  split
  · have : (⟨#[46]⟩ : ByteArray).size = 1 := rfl
    omega
  · omega
theorem typeText_both (n : Int) : ∃ t : ByteArray, spec_TypeText.f n = some t ∧ impl_TypeText.f n = some t ∧ t.size ≤ 6 := by
  unfold spec_TypeText.f impl_TypeText.f
  by_cases h1 : n = 1
  · exact ⟨_, by rw [if_pos h1], by rw [if_pos h1], by decide⟩
  · by_cases h2 : n = 2
    · exact ⟨_, by rw [if_neg h1, if_pos h2], by rw [if_neg h1, if_pos h2], by decide⟩
    · by_cases h5 : n = 5
      · exact ⟨_, by rw [if_neg h1, if_neg h2, if_pos h5], by rw [if_neg h1, if_neg h2, if_pos h5], by decide⟩
      · by_cases h6 : n = 6
        · exact ⟨_, by rw [if_neg h1, if_neg h2, if_neg h5, if_pos h6], by rw [if_neg h1, if_neg h2, if_neg h5, if_pos h6], by decide⟩
        · by_cases h16 : n = 16
          · exact ⟨_, by rw [if_neg h1, if_neg h2, if_neg h5, if_neg h6, if_pos h16], by rw [if_neg h1, if_neg h2, if_neg h5, if_neg h6, if_pos h16], by decide⟩
          · exact ⟨_, by rw [if_neg h1, if_neg h2, if_neg h5, if_neg h6, if_neg h16], by rw [if_neg h1, if_neg h2, if_neg h5, if_neg h6, if_neg h16], by decide⟩
theorem numText_size (n : Int) (h : -9223372036854775808 ≤ n ∧ n ≤ 9223372036854775807) : (numText n).size ≤ 22 := by
  unfold numText
  rw [strOfNums_size]
  exact numL_le n h
theorem spB_size : spB.size = 1 := rfl
theorem cat_size (a b : ByteArray) : (a ++ b).size = a.size + b.size := ByteArray.size_append
theorem catSp_size : ∀ (l : List ByteArray) (a : ByteArray), (catSp a l).size = a.size + szSs l + l.length
  | [], a => by simp [catSp, szSs]
  | x :: l, a => by
    rw [catSp, catSp_size l, cat_size, cat_size, spB_size, szSs_cons, List.length_cons]
    omega
/-- A record's text out of its words. -/
def rtextW (A B ty N H : ByteArray) (a1 : Int) (a5 : ByteArray) : ByteArray :=
  if a1 = 1 then catSp A [B, ty, N] else if a1 = 6 then catSp A [B, ty, H, N] else if a1 = 16 then catSp A [B, ty, (⟨#[39]⟩ : ByteArray) ++ a5] else catSp A [B, ty, H]
theorem rtextW_size (A B ty N H : ByteArray) (a1 : Int) (a5 : ByteArray) (hA : A.size ≤ 1048577) (hB : B.size ≤ 22) (ht : ty.size ≤ 6) (hN : N.size ≤ 22) (hH : H.size ≤ 1048577) (h5 : a5.size ≤ 1048576) : 3 ≤ (rtextW A B ty N H a1 a5).size ∧ (rtextW A B ty N H a1 a5).size ≤ 3000000 := by
  have e39 : (⟨#[39]⟩ : ByteArray).size = 1 := rfl
  unfold rtextW
  split
  · rw [catSp_size]
    simp only [szSs_cons, szSs_nil, List.length_cons, List.length_nil]
    omega
  · split
    · rw [catSp_size]
      simp only [szSs_cons, szSs_nil, List.length_cons, List.length_nil]
      omega
    · split
      · rw [catSp_size]
        simp only [szSs_cons, szSs_nil, List.length_cons, List.length_nil, cat_size, e39]
        omega
      · rw [catSp_size]
        simp only [szSs_cons, szSs_nil, List.length_cons, List.length_nil]
        omega
/-- What RecordText returns: one text, by the reference and by the program; none for a record that is not right. -/
theorem recText_both (a0 : ByteArray) (a1 a2 a3 : Int) (a4 a5 : ByteArray) (h0 : a0.size ≤ 1048576) (h4 : a4.size ≤ 1048576) (h5 : a5.size ≤ 1048576) (h2 : -9223372036854775808 ≤ a2 ∧ a2 ≤ 9223372036854775807) (h3 : -9223372036854775808 ≤ a3 ∧ a3 ≤ 9223372036854775807) :
    ∃ t : ByteArray, Ev (fun k => spec_RecordText.f k a0 a1 a2 a3 a4 a5) t ∧ Ev (fun k => impl_RecordText.f k a0 a1 a2 a3 a4 a5) t ∧ t.size ≤ 3000000 ∧ (t.size = 0 ↔ recOk a0 a1 a2 a3 a4 a5 = false) := by
  unfold spec_RecordText.f impl_RecordText.f
  have hs := spec_RecordOk_eq a0 a1 a2 a3 a4 a5 h0 h4 h5
  have hi := impl_RecordOk_eq a0 a1 a2 a3 a4 a5 h0 h4 h5
  cases h : recOk a0 a1 a2 a3 a4 a5 with
  | false =>
    rw [h] at hs hi
    exact ⟨_, Ev.bind hs (Ev_ifn (by decide) (Ev_some _)), Ev.bind hi (Ev_ifn (by decide) (Ev_some _)), by decide, ⟨fun _ => rfl, fun _ => rfl⟩⟩
  | true =>
    rw [h] at hs hi
    have ht := recOk_type h
    obtain ⟨ty, t1, t2, t3⟩ := typeText_both a1
    have d0 := dotS_size a0
    have d4 := dotS_size a4
    have n2 := numText_size a2 h2
    have n3 := numText_size a3 h3
    have sn2 := spec_NumText_eq a2 h2
    have sn3 := spec_NumText_eq a3 h3
    have in2 := impl_NumText_eq a2 h2
    have in3 := impl_NumText_eq a3 h3
    have e32 : (⟨#[32]⟩ : ByteArray) = spB := rfl
    have zs := spB_size
    have e39 : (⟨#[39]⟩ : ByteArray).size = 1 := rfl
    rw [t1, t2, spec_l5Dot_eq, spec_l5Dot_eq, impl_nameText_eq]
    simp only [Option.bind_some, e32]
    have j0 : ∀ (k : Nat) (b : Bool), impl_RecordText.j0 (k + 1) [dotS a0, numText a2, ty] a1 b a0 a1 a2 a3 a4 a5 = if b = true then strings_Join.f [dotS a0, numText a2, ty, dotS a4] spB else if a1 = 6 then (impl_NumText.f k a3).bind (fun t => strings_Join.f [dotS a0, numText a2, ty, dotS a4, t] spB) else if a1 = 16 then strings_Join.f [dotS a0, numText a2, ty, (⟨#[39]⟩ : ByteArray) ++ a5] spB else strings_Join.f [dotS a0, numText a2, ty] spB := by
      intro k b
      simp only [impl_RecordText.j0]
      rw [impl_nameText_eq]
      have o : ∀ x : Option ByteArray, (x.bind fun t => some t) = x := fun x => by cases x <;> rfl
      simp only [Option.bind_some, o, e32]
      rw [if_pos (show [dotS a0, numText a2, ty].length < 8796093022208 by simp), if_pos (show 1 + a5.size ≤ 9223372036854775807 by omega)]
      simp
    have z : (rtextW (dotS a0) (numText a2) ty (numText a3) (dotS a4) a1 a5).size ≤ 3000000 := (rtextW_size _ _ _ _ _ a1 a5 (by omega) n2 t3 n3 (by omega) h5).2
    have z3 := (rtextW_size (dotS a0) (numText a2) ty (numText a3) (dotS a4) a1 a5 (by omega) n2 t3 n3 (by omega) h5).1
    refine ⟨rtextW (dotS a0) (numText a2) ty (numText a3) (dotS a4) a1 a5, Ev.bind hs (Ev_if rfl ?_), Ev.bind hi (Ev_if rfl (Ev.bind in2 ?_)), z, ⟨fun q => by omega, fun q => by cases q⟩⟩
    · refine Ev_if (by omega) (Ev.bind sn2 (Ev_if (by simp only [cat_size]; omega) (Ev_if (by simp only [cat_size]; omega) (Ev_if (by simp only [cat_size]; omega) (Ev_if (by simp only [cat_size]; omega) ?_)))))
      by_cases c1 : a1 = 1
      · have e : rtextW (dotS a0) (numText a2) ty (numText a3) (dotS a4) a1 a5 = catSp (dotS a0) [numText a2, ty, numText a3] := by unfold rtextW; rw [if_pos c1]
        rw [e]
        exact Ev_if c1 (Ev.bind sn3 (Ev_if (by simp only [cat_size]; omega) (Ev_some _)))
      · refine Ev_ifn c1 ?_
        by_cases c6 : a1 = 6
        · have e : rtextW (dotS a0) (numText a2) ty (numText a3) (dotS a4) a1 a5 = catSp (dotS a0) [numText a2, ty, dotS a4, numText a3] := by unfold rtextW; rw [if_neg c1, if_pos c6]
          rw [e]
          exact Ev_if c6 (Ev_if (by simp only [cat_size]; omega) (Ev_if (by simp only [cat_size]; omega) (Ev.bind sn3 (Ev_if (by simp only [cat_size]; omega) (Ev_some _)))))
        · refine Ev_ifn c6 ?_
          by_cases c16 : a1 = 16
          · have e : rtextW (dotS a0) (numText a2) ty (numText a3) (dotS a4) a1 a5 = catSp (dotS a0) [numText a2, ty, (⟨#[39]⟩ : ByteArray) ++ a5] := by unfold rtextW; rw [if_neg c1, if_neg c6, if_pos c16]
            rw [e]
            refine Ev_if c16 (Ev_if (by simp only [cat_size]; omega) (Ev_if (by simp only [cat_size]; omega) ⟨0, fun _ _ => ?_⟩))
            rw [ByteArray.append_assoc]
            rfl
          · have e : rtextW (dotS a0) (numText a2) ty (numText a3) (dotS a4) a1 a5 = catSp (dotS a0) [numText a2, ty, dotS a4] := by unfold rtextW; rw [if_neg c1, if_neg c6, if_neg c16]
            rw [e]
            exact Ev_ifn c16 (Ev_if (by simp only [cat_size]; omega) (Ev_some _))
    · unfold rtextW at z ⊢
      by_cases c1 : a1 = 1
      · rw [if_pos c1] at z ⊢
        refine Ev_if c1 (Ev.bind in3 (Ev_if (by simp) ?_))
        rw [show [dotS a0, numText a2, ty] ++ [numText a3] = dotS a0 :: [numText a2, ty, numText a3] from rfl, join_sp _ _ (by omega) (by simp)]
        exact Ev_some _
      · rw [if_neg c1] at z ⊢
        refine Ev_ifn c1 ?_
        have key : ∀ b : Bool, b = decide (a1 = 2 ∨ a1 = 5) → Ev (fun k => impl_RecordText.j0 k [dotS a0, numText a2, ty] a1 b a0 a1 a2 a3 a4 a5) (if a1 = 6 then catSp (dotS a0) [numText a2, ty, dotS a4, numText a3] else if a1 = 16 then catSp (dotS a0) [numText a2, ty, (⟨#[39]⟩ : ByteArray) ++ a5] else catSp (dotS a0) [numText a2, ty, dotS a4]) := by
          intro b hb
          by_cases c : a1 = 2 ∨ a1 = 5
          · rw [decide_eq_true c] at hb
            subst hb
            rw [if_neg (by omega), if_neg (by omega)] at z ⊢
            refine Ev.step (f := fun _ => some (catSp (dotS a0) [numText a2, ty, dotS a4])) (fun k => ?_) (Ev_some _)
            rw [j0, if_pos rfl, join_sp _ _ (by omega) (by simp)]
          · rw [decide_eq_false c] at hb
            subst hb
            by_cases c6 : a1 = 6
            · rw [if_pos c6] at z ⊢
              refine Ev.step (f := fun k => (impl_NumText.f k a3).bind (fun t => strings_Join.f [dotS a0, numText a2, ty, dotS a4, t] spB)) (fun k => ?_) (Ev.bind in3 ⟨0, fun _ _ => ?_⟩)
              · rw [j0, if_neg (by decide), if_pos c6]
              · exact join_sp _ _ (by omega) (by simp)
            · rw [if_neg c6, if_pos (by omega)] at z ⊢
              refine Ev.step (f := fun _ => some (catSp (dotS a0) [numText a2, ty, (⟨#[39]⟩ : ByteArray) ++ a5])) (fun k => ?_) (Ev_some _)
              rw [j0, if_neg (by decide), if_neg c6, if_pos (by omega), join_sp _ _ (by omega) (by simp)]
        by_cases c2 : a1 = 2
        · exact Ev_if c2 (key _ (by rw [decide_eq_true (Or.inl c2)]; simpa using c2))
        · exact Ev_ifn c2 (key _ (by by_cases c5 : a1 = 5 <;> simp [c2, c5]))
theorem grow_eq (n : Int) (h0 : 0 ≤ n) (h1 : n ≤ 100000000) : slices_Grow_impl_Record.f n = some ([] : List S33) := by
  unfold slices_Grow_impl_Record.f
  rw [if_pos ⟨h0, by omega⟩]
theorem concat_eq (a b c : List S33) (h : a.length + b.length + c.length ≤ 4000000) : Ev (fun k => slices_Concat_impl_Record.f k [a, b, c]) (a ++ b ++ c) := by
  unfold slices_Concat_impl_Record.f
  have w0 : wrap64 (0 + (a.length : Int)) = (a.length : Int) := by rw [wrap_id (by omega) (by omega)]; omega
  have w1 : wrap64 ((a.length : Int) + (b.length : Int)) = (a.length : Int) + (b.length : Int) := wrap_id (by omega) (by omega)
  have w2 : wrap64 ((a.length : Int) + (b.length : Int) + (c.length : Int)) = (a.length : Int) + (b.length : Int) + (c.length : Int) := wrap_id (by omega) (by omega)
  have i1 : wrap64 (0 + 1) = 1 := by rw [wrap_id (by omega) (by omega)]; rfl
  have i2 : wrap64 (1 + 1) = 2 := by rw [wrap_id (by omega) (by omega)]; rfl
  have i3 : wrap64 (2 + 1) = 3 := by rw [wrap_id (by omega) (by omega)]; rfl
  have l3 : (([a, b, c] : List (List S33)).length : Int) = 3 := rfl
  rw [l3]
  refine Ev.step (f := fun k => slices_Concat_impl_Record.l0 k [a, b, c] (a.length : Int) [a, b, c] 3 1) (fun k => ?_) (Ev.step (f := fun k => slices_Concat_impl_Record.l0 k [a, b, c] ((a.length : Int) + (b.length : Int)) [a, b, c] 3 2) (fun k => ?_) (Ev.step (f := fun k => slices_Concat_impl_Record.l0 k [a, b, c] ((a.length : Int) + (b.length : Int) + (c.length : Int)) [a, b, c] 3 3) (fun k => ?_) (Ev.step (f := fun k => slices_Concat_impl_Record.l1 k [] [a, b, c] 3 0) (fun k => ?_) (Ev.step (f := fun k => slices_Concat_impl_Record.l1 k a [a, b, c] 3 1) (fun k => ?_) (Ev.step (f := fun k => slices_Concat_impl_Record.l1 k (a ++ b) [a, b, c] 3 2) (fun k => ?_) (Ev.step (f := fun k => slices_Concat_impl_Record.l1 k (a ++ b ++ c) [a, b, c] 3 3) (fun k => ?_) (Ev.step (f := fun _ => some (a ++ b ++ c)) (fun k => ?_) (Ev_some _))))))))
  · simp only [slices_Concat_impl_Record.l0]
    rw [if_pos (by decide), if_pos (by decide), if_pos (by rw [l3]; decide)]
    show (if wrap64 (0 + (a.length : Int)) < 0 then none else slices_Concat_impl_Record.l0 k [a, b, c] (wrap64 (0 + (a.length : Int))) [a, b, c] 3 (wrap64 (0 + 1))) = _
    rw [w0, i1, if_neg (by omega)]
  · simp only [slices_Concat_impl_Record.l0]
    rw [if_pos (by decide), if_pos (by decide), if_pos (by rw [l3]; decide)]
    show (if wrap64 ((a.length : Int) + (b.length : Int)) < 0 then none else slices_Concat_impl_Record.l0 k [a, b, c] (wrap64 ((a.length : Int) + (b.length : Int))) [a, b, c] 3 (wrap64 (1 + 1))) = _
    rw [w1, i2, if_neg (by omega)]
  · simp only [slices_Concat_impl_Record.l0]
    rw [if_pos (by decide), if_pos (by decide), if_pos (by rw [l3]; decide)]
    show (if wrap64 ((a.length : Int) + (b.length : Int) + (c.length : Int)) < 0 then none else slices_Concat_impl_Record.l0 k [a, b, c] (wrap64 ((a.length : Int) + (b.length : Int) + (c.length : Int))) [a, b, c] 3 (wrap64 (2 + 1))) = _
    rw [w2, i3, if_neg (by omega)]
  · simp only [slices_Concat_impl_Record.l0]
    rw [if_neg (by decide), grow_eq _ (by omega) (by omega)]
    rfl
  · simp only [slices_Concat_impl_Record.l1]
    rw [if_pos (by decide), if_pos (by decide), if_pos (by rw [l3]; decide)]
    show (if ([] : List S33).length + a.length < 1954687338268 then slices_Concat_impl_Record.l1 k ([] ++ a) [a, b, c] 3 (wrap64 (0 + 1)) else none) = _
    rw [i1, if_pos (by simp; omega), List.nil_append]
  · simp only [slices_Concat_impl_Record.l1]
    rw [if_pos (by decide), if_pos (by decide), if_pos (by rw [l3]; decide)]
    show (if a.length + b.length < 1954687338268 then slices_Concat_impl_Record.l1 k (a ++ b) [a, b, c] 3 (wrap64 (1 + 1)) else none) = _
    rw [i2, if_pos (by omega)]
  · simp only [slices_Concat_impl_Record.l1]
    rw [if_pos (by decide), if_pos (by decide), if_pos (by rw [l3]; decide)]
    show (if (a ++ b).length + c.length < 1954687338268 then slices_Concat_impl_Record.l1 k (a ++ b ++ c) [a, b, c] 3 (wrap64 (2 + 1)) else none) = _
    rw [i3, if_pos (by rw [List.length_append]; omega)]
  · simp only [slices_Concat_impl_Record.l1]
    rw [if_neg (by decide)]
/-- What RecordText says of a record that is right, by both. -/
def TextOf (x : S33) (t : ByteArray) : Prop := Ev (fun k => spec_RecordText.f k x.f0 x.f1 x.f2 x.f3 x.f4 x.f5) t ∧ Ev (fun k => impl_RecordText.f k x.f0 x.f1 x.f2 x.f3 x.f4 x.f5) t ∧ t.size ≤ 3000000
theorem recOk_ints {a0 : ByteArray} {a1 a2 a3 : Int} {a4 a5 : ByteArray} (h : recOk a0 a1 a2 a3 a4 a5 = true) : (0 ≤ a2 ∧ a2 ≤ 100000) ∧ (0 ≤ a3 ∧ a3 ≤ 2147483647) := by
  unfold recOk at h
  simp only [Bool.and_eq_true] at h
  obtain ⟨_, h2, hr⟩ := h
  unfold inTo at h2
  rw [Bool.and_eq_true, decide_eq_true_eq, decide_eq_true_eq] at h2
  refine ⟨h2, ?_⟩
  split at hr
  · simp only [Bool.and_eq_true] at hr
    obtain ⟨r1, _⟩ := hr
    unfold inTo at r1
    rw [Bool.and_eq_true, decide_eq_true_eq, decide_eq_true_eq] at r1
    exact r1
  · split at hr
    · simp only [Bool.and_eq_true, decide_eq_true_eq] at hr
      omega
    · split at hr
      · simp only [Bool.and_eq_true] at hr
        obtain ⟨r1, _⟩ := hr
        unfold inTo at r1
        rw [Bool.and_eq_true, decide_eq_true_eq, decide_eq_true_eq] at r1
        omega
      · split at hr
        · simp only [Bool.and_eq_true, decide_eq_true_eq] at hr
          omega
        · cases hr
theorem tx_exists : ∃ tx : S33 → ByteArray, ∀ x, fitR x → recOkR x = true → TextOf x (tx x) := by
  have : ∀ x : S33, ∃ t : ByteArray, fitR x → recOkR x = true → TextOf x t := by
    intro x
    by_cases c : fitR x ∧ recOkR x = true
    · obtain ⟨i2, i3⟩ := recOk_ints c.2
      obtain ⟨t, h1, h2, h3, _⟩ := recText_both x.f0 x.f1 x.f2 x.f3 x.f4 x.f5 c.1.1 c.1.2.1 c.1.2.2 (by omega) (by omega)
      exact ⟨t, fun _ _ => ⟨h1, h2, h3⟩⟩
    · exact ⟨⟨#[]⟩, fun a b => absurd ⟨a, b⟩ c⟩
  exact Classical.axiomOfChoice this
def sepT : ByteArray := ⟨#[59, 32]⟩
def catT : ByteArray → List ByteArray → ByteArray
  | s, [] => s
  | s, t :: ts => catT ((s ++ sepT) ++ t) ts
theorem catT_app : ∀ (ts us : List ByteArray) (s : ByteArray), catT s (ts ++ us) = catT (catT s ts) us
  | [], _, _ => rfl
  | t :: ts, us, s => by
    rw [List.cons_append, catT, catT]
    exact catT_app ts us _
theorem catT_pre : ∀ (ts : List ByteArray) (p s : ByteArray), catT (p ++ s) ts = p ++ catT s ts
  | [], _, _ => rfl
  | t :: ts, p, s => by
    rw [catT, catT, show p ++ s ++ sepT ++ t = p ++ (s ++ sepT ++ t) by simp only [ByteArray.append_assoc]]
    exact catT_pre ts p _
theorem catT_nil (ts : List ByteArray) (s : ByteArray) : catT s ts = s ++ catT (⟨#[]⟩ : ByteArray) ts := by
  have := catT_pre ts s (⟨#[]⟩ : ByteArray)
  rw [show s ++ (⟨#[]⟩ : ByteArray) = s from ByteArray.append_empty] at this
  exact this
theorem catT_size : ∀ (ts : List ByteArray) (s : ByteArray), (∀ t ∈ ts, t.size ≤ 3000000) → (catT s ts).size ≤ s.size + 3000002 * ts.length
  | [], s, _ => by simp [catT]
  | t :: ts, s, h => by
    rw [catT]
    have := catT_size ts ((s ++ sepT) ++ t) (fun x hx => h x (List.mem_cons_of_mem _ hx))
    have h0 := h t List.mem_cons_self
    rw [ByteArray.size_append, ByteArray.size_append, show sepT.size = 2 from rfl] at this
    rw [List.length_cons]
    omega
theorem drop_map_cons {β : Type} (f : S33 → β) (l : List S33) (i : Nat) (h : i < l.length) : (l.drop i).map f = f l[i] :: (l.drop (i + 1)).map f := by
  rw [List.drop_eq_getElem_cons h, List.map_cons]
theorem spec_texts_loop (tx : S33 → ByteArray) (l : List S33) (hl : l.length ≤ 4000000) (ok : ∀ x ∈ l, TextOf x (tx x)) : ∀ (d i : Nat) (s : ByteArray), i + d = l.length → s.size + 3000002 * d ≤ 100000000000000 →
    Ev (fun k => spec_l7Texts.l0 k l s (i : Int)) (catT s ((l.drop i).map tx)) := by
  intro d
  induction d with
  | zero =>
    intro i s hi hs
    rw [List.drop_of_length_le (by omega)]
    refine Ev.step (f := fun _ => some s) (fun k => ?_) (Ev_some _)
    simp only [spec_l7Texts.l0]
    rw [if_neg (by omega)]
  | succ d ih =>
    intro i s hi hs
    have h : i < l.length := by omega
    have w : wrap64 ((i : Int) + 1) = ((i + 1 : Nat) : Int) := by rw [wrap_id (by omega) (by omega)]; omega
    have hx := ok l[i] (List.getElem_mem h)
    have h3 := hx.2.2
    have er : rd_T33 l (i : Int) = l[i] := by unfold rd_T33; simp [h]
    rw [drop_map_cons tx l i h, catT]
    have z : sepT.size = 2 := rfl
    refine Ev.step (f := fun k => (spec_RecordText.f k l[i].f0 l[i].f1 l[i].f2 l[i].f3 l[i].f4 l[i].f5).bind fun t => if (s ++ sepT).size + t.size ≤ 9223372036854775807 then spec_l7Texts.l0 k l ((s ++ sepT) ++ t) ((i + 1 : Nat) : Int) else none) (fun k => ?_) (Ev.bind hx.1 (Ev_if (by rw [ByteArray.size_append, z]; omega) (ih (i + 1) _ (by omega) (by rw [ByteArray.size_append, ByteArray.size_append, z]; omega))))
    simp only [spec_l7Texts.l0]
    rw [if_pos (by omega), if_pos (by omega), if_pos (by omega), w, er]
    rfl
theorem spec_texts_eq (tx : S33 → ByteArray) (l : List S33) (hl : l.length ≤ 4000000) (ok : ∀ x ∈ l, TextOf x (tx x)) : Ev (fun k => spec_l7Texts.f k l) (catT (⟨#[]⟩ : ByteArray) (l.map tx)) := by
  have := spec_texts_loop tx l hl ok l.length 0 (⟨#[]⟩ : ByteArray) (by omega) (by show 0 + _ ≤ _; omega)
  unfold spec_l7Texts.f
  simpa using this
theorem impl_texts_loop (tx : S33 → ByteArray) (l : List S33) (hl : l.length ≤ 4000000) (ok : ∀ x ∈ l, TextOf x (tx x)) : ∀ (d i : Nat) (s : ByteArray), i + d = l.length → s.size + 3000002 * d ≤ 100000000000000 →
    Ev (fun k => impl_MsgText.l0 k s l (l.length : Int) (i : Int)) (catT s ((l.drop i).map tx)) := by
  intro d
  induction d with
  | zero =>
    intro i s hi hs
    rw [List.drop_of_length_le (by omega)]
    refine Ev.step (f := fun _ => some s) (fun k => ?_) (Ev_some _)
    simp only [impl_MsgText.l0]
    rw [if_neg (by omega)]
  | succ d ih =>
    intro i s hi hs
    have h : i < l.length := by omega
    have w : wrap64 ((i : Int) + 1) = ((i + 1 : Nat) : Int) := by rw [wrap_id (by omega) (by omega)]; omega
    have hx := ok l[i] (List.getElem_mem h)
    have h3 := hx.2.2
    have er : rd_T33 l (i : Int) = l[i] := by unfold rd_T33; simp [h]
    rw [drop_map_cons tx l i h, catT, ByteArray.append_assoc]
    have z : sepT.size = 2 := rfl
    refine Ev.step (f := fun k => (impl_RecordText.f k l[i].f0 l[i].f1 l[i].f2 l[i].f3 l[i].f4 l[i].f5).bind fun t => if 2 + t.size ≤ 9223372036854775807 then (if s.size + (sepT ++ t).size ≤ 9223372036854775807 then impl_MsgText.l0 k (s ++ (sepT ++ t)) l (l.length : Int) ((i + 1 : Nat) : Int) else none) else none) (fun k => ?_) (Ev.bind hx.2.1 (Ev_if (by omega) (Ev_if (by rw [ByteArray.size_append, z]; omega) (ih (i + 1) _ (by omega) (by rw [ByteArray.size_append, ByteArray.size_append, z]; omega)))))
    simp only [impl_MsgText.l0]
    rw [if_pos (by omega), if_pos (by omega), if_pos (by omega), w, er]
    rfl
theorem texts3 (tx : S33 → ByteArray) (C : ByteArray) (l9 l10 l11 : List S33) : catT C ((l9 ++ l10 ++ l11).map tx) = ((C ++ catT (⟨#[]⟩ : ByteArray) (l9.map tx)) ++ catT (⟨#[]⟩ : ByteArray) (l10.map tx)) ++ catT (⟨#[]⟩ : ByteArray) (l11.map tx) := by
  rw [List.map_append, List.map_append, catT_app, catT_app, catT_nil (l9.map tx) C, catT_nil (l10.map tx) (C ++ catT (⟨#[]⟩ : ByteArray) (l9.map tx)), catT_nil (l11.map tx) ((C ++ catT (⟨#[]⟩ : ByteArray) (l9.map tx)) ++ catT (⟨#[]⟩ : ByteArray) (l10.map tx))]
def headT (p N0 N6 D T : ByteArray) : ByteArray := ((((((p ++ N0) ++ (⟨#[32]⟩ : ByteArray)) ++ N6) ++ (⟨#[32]⟩ : ByteArray)) ++ D) ++ (⟨#[32]⟩ : ByteArray)) ++ T
def flagT (s : ByteArray) (a2 a3 : Bool) : ByteArray :=
  if a3 = true then (if a2 = true then s ++ (⟨#[32, 97, 117, 116, 104]⟩ : ByteArray) else s) ++ (⟨#[32, 99, 117, 116]⟩ : ByteArray) else (if a2 = true then s ++ (⟨#[32, 97, 117, 116, 104]⟩ : ByteArray) else s)
theorem spec_msg_j1 (tx : S33 → ByteArray) (s : ByteArray) (hs : s.size ≤ 3000000) (a0 : Int) (a1 a2 a3 a4 a5 : Bool) (a6 : Int) (a7 : ByteArray) (a8 : Int) (l9 l10 l11 : List S33) (h9 : l9.length ≤ 1048576) (h10 : l10.length ≤ 1048576) (h11 : l11.length ≤ 1048576) (o9 : ∀ x ∈ l9, TextOf x (tx x)) (o10 : ∀ x ∈ l10, TextOf x (tx x)) (o11 : ∀ x ∈ l11, TextOf x (tx x)) :
    Ev (fun k => spec_MsgText.j1 k s a0 a1 a2 a3 a4 a5 a6 a7 a8 l9 l10 l11) (catT (if a3 = true then s ++ (⟨#[32, 99, 117, 116]⟩ : ByteArray) else s) ((l9 ++ l10 ++ l11).map tx)) := by
  have z4 : (⟨#[32, 99, 117, 116]⟩ : ByteArray).size = 4 := rfl
  have z0 : (⟨#[]⟩ : ByteArray).size = 0 := rfl
  have e9 := spec_texts_eq tx l9 (by omega) o9
  have e10 := spec_texts_eq tx l10 (by omega) o10
  have e11 := spec_texts_eq tx l11 (by omega) o11
  have q : ∀ l : List S33, l.length ≤ 1048576 → (∀ x ∈ l, TextOf x (tx x)) → (catT (⟨#[]⟩ : ByteArray) (l.map tx)).size ≤ 4000000000000 := by
    intro l hl ho
    have := catT_size (l.map tx) (⟨#[]⟩ : ByteArray) (fun t ht => by
      obtain ⟨x, hx, rfl⟩ := List.mem_map.1 ht
      exact (ho x hx).2.2)
    rw [List.length_map] at this
    omega
  have q9 := q l9 h9 o9
  have q10 := q l10 h10 o10
  have q11 := q l11 h11 o11
  rw [texts3]
  generalize catT (⟨#[]⟩ : ByteArray) (l9.map tx) = t9 at e9 q9
  generalize catT (⟨#[]⟩ : ByteArray) (l10.map tx) = t10 at e10 q10
  generalize catT (⟨#[]⟩ : ByteArray) (l11.map tx) = t11 at e11 q11
  cases a3 with
  | true =>
    refine Ev.step (f := fun k => if s.size + 4 ≤ 9223372036854775807 then ((spec_l7Texts.f k l9).bind fun u => if (s ++ (⟨#[32, 99, 117, 116]⟩ : ByteArray)).size + u.size ≤ 9223372036854775807 then ((spec_l7Texts.f k l10).bind fun v => if ((s ++ (⟨#[32, 99, 117, 116]⟩ : ByteArray)) ++ u).size + v.size ≤ 9223372036854775807 then ((spec_l7Texts.f k l11).bind fun x => if (((s ++ (⟨#[32, 99, 117, 116]⟩ : ByteArray)) ++ u) ++ v).size + x.size ≤ 9223372036854775807 then some ((((s ++ (⟨#[32, 99, 117, 116]⟩ : ByteArray)) ++ u) ++ v) ++ x) else none) else none) else none) else none) (fun k => ?_) (Ev_if (by omega) (Ev.bind e9 (Ev_if ?_ (Ev.bind e10 (Ev_if ?_ (Ev.bind e11 (Ev_if ?_ (Ev_some _))))))))
    · simp only [spec_MsgText.j1]
      rw [if_pos (by first | trivial | rfl)]
    all_goals simp only [ByteArray.size_append]; omega
  | false =>
    refine Ev.step (f := fun k => (spec_l7Texts.f k l9).bind fun u => if s.size + u.size ≤ 9223372036854775807 then ((spec_l7Texts.f k l10).bind fun v => if (s ++ u).size + v.size ≤ 9223372036854775807 then ((spec_l7Texts.f k l11).bind fun x => if ((s ++ u) ++ v).size + x.size ≤ 9223372036854775807 then some (((s ++ u) ++ v) ++ x) else none) else none) else none) (fun k => ?_) (Ev.bind e9 (Ev_if (by omega) (Ev.bind e10 (Ev_if ?_ (Ev.bind e11 (Ev_if ?_ (Ev_some _)))))))
    · simp only [spec_MsgText.j1]
      rw [if_neg (by decide)]
    all_goals simp only [ByteArray.size_append]; omega
theorem impl_msg_j1 (tx : S33 → ByteArray) (s : ByteArray) (hs : s.size ≤ 3000000) (a0 : Int) (a1 a2 a3 a4 a5 : Bool) (a6 : Int) (a7 : ByteArray) (a8 : Int) (l9 l10 l11 : List S33) (h9 : l9.length ≤ 1048576) (h10 : l10.length ≤ 1048576) (h11 : l11.length ≤ 1048576) (o9 : ∀ x ∈ l9, TextOf x (tx x)) (o10 : ∀ x ∈ l10, TextOf x (tx x)) (o11 : ∀ x ∈ l11, TextOf x (tx x)) :
    Ev (fun k => impl_MsgText.j1 k s a0 a1 a2 a3 a4 a5 a6 a7 a8 l9 l10 l11) (catT (if a3 = true then s ++ (⟨#[32, 99, 117, 116]⟩ : ByteArray) else s) ((l9 ++ l10 ++ l11).map tx)) := by
  have z4 : (⟨#[32, 99, 117, 116]⟩ : ByteArray).size = 4 := rfl
  have cc := concat_eq l9 l10 l11 (by omega)
  have ol : ∀ x ∈ l9 ++ l10 ++ l11, TextOf x (tx x) := by
    intro x hx
    rcases List.mem_append.1 hx with hx | hx
    · rcases List.mem_append.1 hx with hx | hx
      · exact o9 x hx
      · exact o10 x hx
    · exact o11 x hx
  have hl : (l9 ++ l10 ++ l11).length ≤ 3145728 := by rw [List.length_append, List.length_append]; omega
  have j2 : ∀ t : ByteArray, t.size ≤ 4000000 → Ev (fun k => impl_MsgText.j2 k t a0 a1 a2 a3 a4 a5 a6 a7 a8 l9 l10 l11) (catT t ((l9 ++ l10 ++ l11).map tx)) := by
    intro t ht
    have lp := impl_texts_loop tx (l9 ++ l10 ++ l11) (by omega) ol (l9 ++ l10 ++ l11).length 0 t (by omega) (by omega)
    rw [List.drop_zero] at lp
    refine Ev.step (f := fun k => (slices_Concat_impl_Record.f k [l9, l10, l11]).bind fun u => impl_MsgText.l0 k t u (u.length : Int) 0) (fun k => ?_) (Ev.bind cc lp)
    simp only [impl_MsgText.j2]
  cases a3 with
  | true =>
    refine Ev.step (f := fun k => if s.size + 4 ≤ 9223372036854775807 then impl_MsgText.j2 k (s ++ (⟨#[32, 99, 117, 116]⟩ : ByteArray)) a0 a1 a2 true a4 a5 a6 a7 a8 l9 l10 l11 else none) (fun k => ?_) (Ev_if (by omega) (j2 _ (by rw [ByteArray.size_append]; omega)))
    simp only [impl_MsgText.j1]
    rw [if_pos (by first | trivial | rfl)]
  | false =>
    refine Ev.step (fun k => ?_) (j2 s (by omega))
    simp only [impl_MsgText.j1]
    rw [if_neg (by decide)]
theorem msg_texts (tx : S33 → ByteArray) (p : ByteArray) (hp : p.size ≤ 10) (a0 : Int) (a1 a2 a3 a4 a5 : Bool) (a6 : Int) (a7 : ByteArray) (a8 : Int) (l9 l10 l11 : List S33) (i0 : 0 ≤ a0 ∧ a0 ≤ 65535) (i6 : 0 ≤ a6 ∧ a6 ≤ 15) (h7 : a7.size ≤ 1048576) (h9 : l9.length ≤ 1048576) (h10 : l10.length ≤ 1048576) (h11 : l11.length ≤ 1048576) (o9 : ∀ x ∈ l9, TextOf x (tx x)) (o10 : ∀ x ∈ l10, TextOf x (tx x)) (o11 : ∀ x ∈ l11, TextOf x (tx x)) :
    ∃ r : ByteArray, Ev (fun k => spec_MsgText.j0 k p a0 a1 a2 a3 a4 a5 a6 a7 a8 l9 l10 l11) r ∧ Ev (fun k => impl_MsgText.j0 k p a0 a1 a2 a3 a4 a5 a6 a7 a8 l9 l10 l11) r := by
  obtain ⟨T, t1, t2, t3⟩ := typeText_both a8
  have n0 := spec_NumText_eq a0 (by omega)
  have m0 := impl_NumText_eq a0 (by omega)
  have z0 := numText_size a0 (by omega)
  have n6 := spec_NumText_eq a6 (by omega)
  have m6 := impl_NumText_eq a6 (by omega)
  have z6 := numText_size a6 (by omega)
  have d1 := spec_l5Dot_eq a7
  have d2 := impl_nameText_eq a7
  have zd := dotS_size a7
  generalize numText a0 = N0 at n0 m0 z0
  generalize numText a6 = N6 at n6 m6 z6
  generalize dotS a7 = D at d1 d2 zd
  have z1 : (⟨#[32]⟩ : ByteArray).size = 1 := rfl
  have z5 : (⟨#[32, 97, 117, 116, 104]⟩ : ByteArray).size = 5 := rfl
  have S1 := fun s hs => spec_msg_j1 tx s hs a0 a1 a2 a3 a4 a5 a6 a7 a8 l9 l10 l11 h9 h10 h11 o9 o10 o11
  have I1 := fun s hs => impl_msg_j1 tx s hs a0 a1 a2 a3 a4 a5 a6 a7 a8 l9 l10 l11 h9 h10 h11 o9 o10 o11
  have hz : (headT p N0 N6 D T).size ≤ 2000000 := by unfold headT; simp only [ByteArray.size_append]; omega
  have fin : ∀ g : Nat → ByteArray → Option ByteArray, (∀ s : ByteArray, s.size ≤ 3000000 → Ev (fun k => g k s) (catT (if a3 = true then s ++ (⟨#[32, 99, 117, 116]⟩ : ByteArray) else s) ((l9 ++ l10 ++ l11).map tx))) → Ev (fun k => if a2 = true then (if (headT p N0 N6 D T).size + 5 ≤ 9223372036854775807 then g k (headT p N0 N6 D T ++ (⟨#[32, 97, 117, 116, 104]⟩ : ByteArray)) else none) else g k (headT p N0 N6 D T)) (catT (flagT (headT p N0 N6 D T) a2 a3) ((l9 ++ l10 ++ l11).map tx)) := by
    intro g hg
    unfold flagT
    cases a2 with
    | true => exact Ev_if rfl (Ev_if (by omega) (hg _ (by rw [ByteArray.size_append]; omega)))
    | false => exact Ev_ifn (by decide) (hg _ (by omega))
  refine ⟨catT (flagT (headT p N0 N6 D T) a2 a3) ((l9 ++ l10 ++ l11).map tx), ?_, ?_⟩
  · have f1 := fin (fun k s => spec_MsgText.j1 k s a0 a1 a2 a3 a4 a5 a6 a7 a8 l9 l10 l11) S1
    refine Ev.step (f := fun k => (spec_NumText.f k a0).bind fun u => if p.size + u.size ≤ 9223372036854775807 then (if (p ++ u).size + 1 ≤ 9223372036854775807 then ((spec_NumText.f k a6).bind fun v => if ((p ++ u) ++ (⟨#[32]⟩ : ByteArray)).size + v.size ≤ 9223372036854775807 then (if (((p ++ u) ++ (⟨#[32]⟩ : ByteArray)) ++ v).size + 1 ≤ 9223372036854775807 then (if ((((p ++ u) ++ (⟨#[32]⟩ : ByteArray)) ++ v) ++ (⟨#[32]⟩ : ByteArray)).size + D.size ≤ 9223372036854775807 then (if (((((p ++ u) ++ (⟨#[32]⟩ : ByteArray)) ++ v) ++ (⟨#[32]⟩ : ByteArray)) ++ D).size + 1 ≤ 9223372036854775807 then (if ((((((p ++ u) ++ (⟨#[32]⟩ : ByteArray)) ++ v) ++ (⟨#[32]⟩ : ByteArray)) ++ D) ++ (⟨#[32]⟩ : ByteArray)).size + T.size ≤ 9223372036854775807 then (if a2 = true then (if (headT p u v D T).size + 5 ≤ 9223372036854775807 then spec_MsgText.j1 k (headT p u v D T ++ (⟨#[32, 97, 117, 116, 104]⟩ : ByteArray)) a0 a1 a2 a3 a4 a5 a6 a7 a8 l9 l10 l11 else none) else spec_MsgText.j1 k (headT p u v D T) a0 a1 a2 a3 a4 a5 a6 a7 a8 l9 l10 l11) else none) else none) else none) else none) else none) else none) else none) (fun k => ?_) (Ev.bind n0 (Ev_if (by omega) (Ev_if ?_ (Ev.bind n6 (Ev_if ?_ (Ev_if ?_ (Ev_if ?_ (Ev_if ?_ (Ev_if ?_ f1)))))))))
    · simp only [spec_MsgText.j0, d1, t1, Option.bind_some]
      rfl
    all_goals simp only [ByteArray.size_append]; omega
  · have f2 := fin (fun k s => impl_MsgText.j1 k s a0 a1 a2 a3 a4 a5 a6 a7 a8 l9 l10 l11) I1
    have hh : ∀ u v : ByteArray, p ++ ((((((u ++ (⟨#[32]⟩ : ByteArray)) ++ v) ++ (⟨#[32]⟩ : ByteArray)) ++ D) ++ (⟨#[32]⟩ : ByteArray)) ++ T) = headT p u v D T := fun u v => by unfold headT; simp only [ByteArray.append_assoc]
    refine Ev.step (f := fun k => (impl_NumText.f k a0).bind fun u => if u.size + 1 ≤ 9223372036854775807 then ((impl_NumText.f k a6).bind fun v => if (u ++ (⟨#[32]⟩ : ByteArray)).size + v.size ≤ 9223372036854775807 then (if ((u ++ (⟨#[32]⟩ : ByteArray)) ++ v).size + 1 ≤ 9223372036854775807 then (if (((u ++ (⟨#[32]⟩ : ByteArray)) ++ v) ++ (⟨#[32]⟩ : ByteArray)).size + D.size ≤ 9223372036854775807 then (if ((((u ++ (⟨#[32]⟩ : ByteArray)) ++ v) ++ (⟨#[32]⟩ : ByteArray)) ++ D).size + 1 ≤ 9223372036854775807 then (if (((((u ++ (⟨#[32]⟩ : ByteArray)) ++ v) ++ (⟨#[32]⟩ : ByteArray)) ++ D) ++ (⟨#[32]⟩ : ByteArray)).size + T.size ≤ 9223372036854775807 then (if p.size + ((((((u ++ (⟨#[32]⟩ : ByteArray)) ++ v) ++ (⟨#[32]⟩ : ByteArray)) ++ D) ++ (⟨#[32]⟩ : ByteArray)) ++ T).size ≤ 9223372036854775807 then (if a2 = true then (if (headT p u v D T).size + 5 ≤ 9223372036854775807 then impl_MsgText.j1 k (headT p u v D T ++ (⟨#[32, 97, 117, 116, 104]⟩ : ByteArray)) a0 a1 a2 a3 a4 a5 a6 a7 a8 l9 l10 l11 else none) else impl_MsgText.j1 k (headT p u v D T) a0 a1 a2 a3 a4 a5 a6 a7 a8 l9 l10 l11) else none) else none) else none) else none) else none) else none) else none) (fun k => ?_) (Ev.bind m0 (Ev_if (by omega) (Ev.bind m6 (Ev_if ?_ (Ev_if ?_ (Ev_if ?_ (Ev_if ?_ (Ev_if ?_ (Ev_if ?_ f2)))))))))
    · simp only [impl_MsgText.j0, d2, t2, Option.bind_some, hh]
    all_goals simp only [ByteArray.size_append]; omega
theorem recsOk_all (l : List S33) (h : recsOk l = true) : ∀ x ∈ l, recOkR x = true := by
  unfold recsOk at h
  rw [Bool.and_eq_true] at h
  exact List.all_eq_true.1 h.1
theorem msgText_both (a0 : Int) (a1 a2 a3 a4 a5 : Bool) (a6 : Int) (a7 : ByteArray) (a8 : Int) (l9 l10 l11 : List S33) (h7 : a7.size ≤ 1048576) (h9 : fitRs l9) (h10 : fitRs l10) (h11 : fitRs l11) :
    ∃ r : ByteArray, Ev (fun k => spec_MsgText.f k a0 a1 a2 a3 a4 a5 a6 a7 a8 l9 l10 l11) r ∧ Ev (fun k => impl_MsgText.f k a0 a1 a2 a3 a4 a5 a6 a7 a8 l9 l10 l11) r := by
  unfold spec_MsgText.f impl_MsgText.f
  have s := spec_MsgOk_eq a0 a1 a2 a3 a4 a5 a6 a7 a8 l9 l10 l11 h7 h9 h10 h11
  have i := impl_MsgOk_eq a0 a1 a2 a3 a4 a5 a6 a7 a8 l9 l10 l11 h7 h9 h10 h11
  cases h : msgOk a0 a6 a7 a8 l9 l10 l11 with
  | false =>
    rw [h] at s i
    exact ⟨⟨#[]⟩, Ev.bind s (Ev_ifn (by decide) (Ev_some _)), Ev.bind i (Ev_ifn (by decide) (Ev_some _))⟩
  | true =>
    rw [h] at s i
    obtain ⟨tx, htx⟩ := tx_exists
    unfold msgOk at h
    simp only [Bool.and_eq_true] at h
    obtain ⟨i0, i6, _, r9, r10, r11⟩ := h
    unfold inTo at i0 i6
    rw [Bool.and_eq_true, decide_eq_true_eq, decide_eq_true_eq] at i0 i6
    have o9 : ∀ x ∈ l9, TextOf x (tx x) := fun x hx => htx x (h9.2 x hx) (recsOk_all l9 r9 x hx)
    have o10 : ∀ x ∈ l10, TextOf x (tx x) := fun x hx => htx x (h10.2 x hx) (recsOk_all l10 r10 x hx)
    have o11 : ∀ x ∈ l11, TextOf x (tx x) := fun x hx => htx x (h11.2 x hx) (recsOk_all l11 r11 x hx)
    cases a1 with
    | true =>
      obtain ⟨r, e1, e2⟩ := msg_texts tx (⟨#[114, 101, 112, 108, 121, 32]⟩ : ByteArray) (by decide) a0 true a2 a3 a4 a5 a6 a7 a8 l9 l10 l11 i0 i6 h7 h9.1 h10.1 h11.1 o9 o10 o11
      exact ⟨r, Ev.bind s (Ev_if rfl (Ev_if rfl e1)), Ev.bind i (Ev_if rfl (Ev_if rfl e2))⟩
    | false =>
      obtain ⟨r, e1, e2⟩ := msg_texts tx (⟨#[97, 115, 107, 32]⟩ : ByteArray) (by decide) a0 false a2 a3 a4 a5 a6 a7 a8 l9 l10 l11 i0 i6 h7 h9.1 h10.1 h11.1 o9 o10 o11
      exact ⟨r, Ev.bind s (Ev_if rfl (Ev_ifn (by decide) e1)), Ev.bind i (Ev_if rfl (Ev_ifn (by decide) e2))⟩

end Go.Proofs.YtfmnofjijodgcaaDoor.Lem
