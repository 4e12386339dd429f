/- Lemmas on the printed functions, of this session. -/
import Derived.Test.YtdigilidomimdaaDoorY
import Derived.Test.YtdigilidomimdaaDoorPrx0
import Derived.Test.YtdigilidomimdaaDoorPrx10
import Derived.Test.YtdigilidomimdaaDoorPrx11
import Derived.Test.YtdigilidomimdaaDoorPrx12
import Derived.Test.YtdigilidomimdaaDoorPrx13
import Derived.Test.YtdigilidomimdaaDoorPrx14
import Derived.Test.YtdigilidomimdaaDoorPrx15
import Derived.Test.YtdigilidomimdaaDoorPrx16
import Derived.Test.YtdigilidomimdaaDoorPrx17
import Derived.Test.YtdigilidomimdaaDoorPrx18
import Derived.Test.YtdigilidomimdaaDoorPrx19
import Derived.Test.YtdigilidomimdaaDoorPrx20
import Derived.Test.YtdigilidomimdaaDoorPrx3
import Derived.Test.YtdigilidomimdaaDoorPrx4
import Derived.Test.YtdigilidomimdaaDoorPrx5
import Derived.Test.YtdigilidomimdaaDoorPrx6
import Derived.Test.YtdigilidomimdaaDoorPrx7
import Derived.Test.YtdigilidomimdaaDoorPrx8
import Derived.Test.YtdigilidomimdaaDoorPrx9
namespace Go.Proofs.YtdigilidomimdaaDoor.Lem
open Go.RowKit Go.Proofs.YtdigilidomimdaaDoor.Pr Go.Proofs.YtdigilidomimdaaDoor.X Go.Proofs.YtdigilidomimdaaDoor.Y Go.Proofs.YtdigilidomimdaaDoorW.PrintWords Go.Proofs.YtdigilidomimdaaDoorW.PrintLast Go.Proofs.YtdigilidomimdaaDoorW.PrintMore
set_option linter.unusedVariables false
set_option linter.unusedSimpArgs false
theorem rdS_getElem (l : List ByteArray) (i : Nat) (h : i < l.length) : rdOf ByteArray.empty l i = l[i] := by
  unfold rdOf
  rw [Int.toNat_natCast, List.getD_eq_getElem?_getD, List.getElem?_eq_getElem h, Option.getD_some]
/-- How many bytes a list of strings holds. -/
def szSs (l : List ByteArray) : Nat := (l.map ByteArray.size).sum
/-- What stands between the dots of a list of bytes; 'acc' stands ahead of it. -/
def cutA : List UInt8 → List UInt8 → List (List UInt8)
  | acc, [] => [acc]
  | acc, c :: t => if c = 46 then acc :: cutA [] t else cutA (acc ++ [c]) t
def mkB (l : List UInt8) : ByteArray := ⟨l.toArray⟩
theorem mkB_data (s : ByteArray) : mkB s.data.toList = s := rfl
/-- The labels of a name. -/
def labelsL (s : ByteArray) : List ByteArray := if s.data.toList = [] then [] else (cutA [] s.data.toList).map mkB
theorem cutA_acc : ∀ (t acc : List UInt8), cutA acc t = match cutA [] t with | [] => [] | x :: r => (acc ++ x) :: r
  | [], acc => by simp [cutA]
  | c :: t, acc => by
    by_cases h : c = 46
    · simp [cutA, h]
    · have e1 := cutA_acc t (acc ++ [c])
      have e2 := cutA_acc t ([] ++ [c])
      simp only [cutA, if_neg h]
      rw [e1, e2]
      cases cutA [] t with
      | nil => rfl
      | cons x r => simp [List.append_assoc]
theorem split_cut : ∀ (l : List UInt8), Lib.splitK [46] 0 (l.count 46) l = cutA [] l
  | [] => rfl
  | c :: t => by
    have ih := split_cut t
    by_cases h : c = 46
    · subst h
      rw [List.count_cons_self]
      simp only [Lib.splitK, cutA, if_true]
      rw [Lib.index_one]
      simp only [Lib.indexByte]
      simp [ih]
    · rw [List.count_cons_of_ne (by simpa using h)]
      have e2 := cutA_acc t ([] ++ [c])
      simp only [cutA, if_neg h]
      rw [e2, ← ih]
      have hb : (c == 46) = false := by simpa using h
      cases hk : t.count 46 with
      | zero => simp [Lib.splitK]
      | succ k =>
        simp only [Lib.splitK]
        rw [Lib.index_one, Lib.index_one]
        simp only [Lib.indexByte, hb]
        have hge := Lib.indexByte_ge t 46
        by_cases hi : Lib.indexByte t 46 = -1
        · simp [hi]
        · have h1 : (Lib.indexByte t 46 == -1) = false := by simpa using hi
          have h2 : (Lib.indexByte t 46 + 1 == -1) = false := by simp; omega
          have h3 : (Lib.indexByte t 46 + 1).toNat = (Lib.indexByte t 46).toNat + 1 := by omega
          simp only [h1, h2, h3, Bool.false_eq_true, if_false]
          simp [List.take_succ_cons, Nat.add_right_comm]
theorem impl_Labels_eq (s : ByteArray) (hs : s.size < 4294967281) : impl_Labels.f s = some (labelsL s) := by
  unfold impl_Labels.f labelsL
  rw [ByteArray.toList_eq]
  by_cases h : s.data.toList = []
  · rw [if_pos h, if_pos h]
  · rw [if_neg h, if_neg h]
    have e : strings_Split.f s (⟨#[46]⟩ : ByteArray) = some (Lib.splitB ⟨#[46]⟩ 0 (Lib.countB s ⟨#[46]⟩) s) := by
      unfold strings_Split.f
      exact if_pos ⟨rfl, hs⟩
    rw [e]
    simp only [Option.bind_some]
    congr 1
    have d := Lib.splitB_data ⟨#[46]⟩ 0 (Lib.countB s ⟨#[46]⟩) s
    have k : Lib.countB s ⟨#[46]⟩ = s.data.toList.count 46 := Lib.count_one 46 s.data.toList
    rw [k] at d ⊢
    have d2 : (Lib.splitB ⟨#[46]⟩ 0 (s.data.toList.count 46) s).map (·.data.toList) = cutA [] s.data.toList := d.trans (split_cut _)
    rw [← d2, List.map_map]
    exact (List.map_id'' (fun x => mkB_data x) _).symm
theorem extract_mkB (s : ByteArray) (f i : Nat) : s.extract f i = mkB ((s.data.toList.take i).drop f) := by
  have h : (s.extract f i).data.toList = (s.data.toList.take i).drop f := by
    rw [ByteArray.data_extract, Array.toList_extract, List.extract_eq_take_drop, List.drop_take]
  rw [← mkB_data (s.extract f i), h]
theorem bt_data (s : ByteArray) (i : Nat) (h : i < s.data.toList.length) : (bt s (i : Int) = 46) ↔ s.data.toList[i] = 46 := by
  have h' : (i : Int).toNat < s.size := by simpa using h
  have e := bt_at s (i : Int) h'
  have e2 : s[(i : Int).toNat]'h' = s.data.toList[i] := by
    rw [Array.getElem_toList]
    rfl
  rw [← e, e2, ← UInt8.toNat_inj]
  have t : UInt8.toNat 46 = 46 := rfl
  generalize s.data.toList[i].toNat = z
  generalize UInt8.toNat 46 = z' at t ⊢
  omega
theorem size_data (s : ByteArray) : s.size = s.data.toList.length := rfl
theorem spec_Labels_loop (s : ByteArray) (hn : s.size ≤ 1048576) (hne : s.toList ≠ []) : ∀ (d i f : Nat) (out : List ByteArray), i + d = s.size → f ≤ i → out.length ≤ i →
    Ev (fun k => spec_Labels.l0 k s out (f : Int) (i : Int)) (out ++ (cutA ((s.data.toList.take i).drop f) (s.data.toList.drop i)).map mkB) := by
  have hz := size_data s
  have hb : (s.toList != ([] : List UInt8)) = true := bne_iff_ne.2 hne
  intro d
  induction d with
  | zero =>
    intro i f out hi hf ho
    have w : wrap64 ((i : Int) + 1) = ((i + 1 : Nat) : Int) := wrap_succ i 1048577 (by omega) (by omega)
    have hx : s.extract f i = mkB ((s.data.toList.take i).drop f) := extract_mkB s f i
    refine Ev.step (f := fun k => spec_Labels.j1 k s out (f : Int) (i : Int) true) (fun k => ?_) ?_
    · simp only [spec_Labels.l0]
      rw [if_pos (by omega), hb]
    refine Ev.step (f := fun k => spec_Labels.l0 k s (out ++ [mkB ((s.data.toList.take i).drop f)]) ((i + 1 : Nat) : Int) ((i + 1 : Nat) : Int)) (fun k => ?_) ?_
    · simp only [spec_Labels.j1, if_true]
      rw [if_pos (by omega), if_pos (by omega), if_pos (by omega), if_pos (by omega), if_pos (by omega), w, Int.toNat_natCast, Int.toNat_natCast, hx]
    refine Ev.step (f := fun k => spec_Labels.j1 k s (out ++ [mkB ((s.data.toList.take i).drop f)]) ((i + 1 : Nat) : Int) ((i + 1 : Nat) : Int) false) (fun k => ?_) ?_
    · simp only [spec_Labels.l0]
      rw [if_neg (by omega)]
    refine Ev.step (f := fun _ => some (out ++ [mkB ((s.data.toList.take i).drop f)])) (fun k => ?_) ⟨0, fun _ _ => ?_⟩
    · simp only [spec_Labels.j1]
      rw [if_neg (by decide)]
    · rw [show s.data.toList.drop i = [] from List.drop_of_length_le (by omega)]
      rfl
  | succ d ih =>
    intro i f out hi hf ho
    have hil : i < s.data.toList.length := by omega
    have w : wrap64 ((i : Int) + 1) = ((i + 1 : Nat) : Int) := wrap_succ i 1048577 (by omega) (by omega)
    have hx : s.extract f i = mkB ((s.data.toList.take i).drop f) := extract_mkB s f i
    rw [List.drop_eq_getElem_cons hil]
    refine Ev.step (f := fun k => spec_Labels.j1 k s out (f : Int) (i : Int) true) (fun k => ?_) ?_
    · simp only [spec_Labels.l0]
      rw [if_pos (by omega), hb]
    by_cases c : s.data.toList[i] = 46
    · have cb := (bt_data s i hil).2 c
      have := ih (i + 1) (i + 1) (out ++ [mkB ((s.data.toList.take i).drop f)]) (by omega) (by omega) (by simp; omega)
      have e0 : (s.data.toList.take (i + 1)).drop (i + 1) = [] := List.drop_of_length_le (by rw [List.length_take]; omega)
      rw [e0] at this
      refine Ev.step (f := fun k => spec_Labels.l0 k s (out ++ [mkB ((s.data.toList.take i).drop f)]) ((i + 1 : Nat) : Int) ((i + 1 : Nat) : Int)) (fun k => ?_) ?_
      · simp only [spec_Labels.j1, if_true]
        rw [if_neg (by omega), if_pos (by omega), if_pos (by omega), if_pos cb, if_pos (by omega), if_pos (by omega), if_pos (by omega), if_pos (by omega), w, Int.toNat_natCast, Int.toNat_natCast, hx]
      · simp only [cutA, if_pos c, List.map_cons]
        rw [List.append_assoc] at this
        exact this
    · have cb : ¬ bt s (i : Int) = 46 := fun e => c ((bt_data s i hil).1 e)
      have := ih (i + 1) f out (by omega) (by omega) (by omega)
      have e0 : (s.data.toList.take (i + 1)).drop f = (s.data.toList.take i).drop f ++ [s.data.toList[i]] := by
        rw [← List.take_append_getElem hil, List.drop_append_of_le_length (by rw [List.length_take]; omega)]
      rw [e0] at this
      refine Ev.step (f := fun k => spec_Labels.l0 k s out (f : Int) ((i + 1 : Nat) : Int)) (fun k => ?_) ?_
      · simp only [spec_Labels.j1, if_true]
        rw [if_neg (by omega), if_pos (by omega), if_pos (by omega), if_neg cb, w]
      · simp only [cutA, if_neg c]
        exact this
theorem spec_Labels_eq (s : ByteArray) (hn : s.size ≤ 1048576) : Ev (fun k => spec_Labels.f k s) (labelsL s) := by
  unfold spec_Labels.f labelsL
  by_cases h : s.data.toList = []
  · rw [if_pos h]
    have hb : (s.toList != ([] : List UInt8)) = false := by rw [ByteArray.toList_eq, h]; rfl
    refine Ev.step (f := fun k => spec_Labels.j1 k s [] 0 0 false) (fun k => ?_) ?_
    · simp only [spec_Labels.l0]
      rw [if_pos (by omega), hb]
    refine Ev.step (f := fun _ => some []) (fun k => ?_) ⟨0, fun _ _ => rfl⟩
    simp only [spec_Labels.j1]
    rw [if_neg (by decide)]
  · rw [if_neg h]
    have := spec_Labels_loop s hn (by rw [ByteArray.toList_eq]; exact h) s.size 0 0 [] (by omega) (by omega) (by simp)
    simpa using this
theorem cutA_length : ∀ (t acc : List UInt8), (cutA acc t).length ≤ t.length + 1
  | [], _ => Nat.le_refl _
  | c :: t, acc => by
    unfold cutA
    split
    · have := cutA_length t []
      simp only [List.length_cons]
      omega
    · have := cutA_length t (acc ++ [c])
      simp only [List.length_cons]
      omega
theorem labelsL_length (s : ByteArray) : (labelsL s).length ≤ s.size + 1 := by
  unfold labelsL
  split
  · simp
  · rw [List.length_map, size_data]
    exact cutA_length _ _
theorem Ev_if {α : Type} {c : Prop} [Decidable c] {f g : Nat → Option α} {x : α} (h : c) (h1 : Ev f x) : Ev (fun k => if c then f k else g k) x := by
  simp only [if_pos h]
  exact h1
theorem Ev_ifn {α : Type} {c : Prop} [Decidable c] {f g : Nat → Option α} {x : α} (h : ¬ c) (h1 : Ev g x) : Ev (fun k => if c then f k else g k) x := by
  simp only [if_neg h]
  exact h1
/-- A byte of a label. -/
def okB (c : Int) : Bool := (decide (97 ≤ c) && decide (c ≤ 122)) || (decide (48 ≤ c) && decide (c ≤ 57)) || decide (c = 45) || decide (c = 95)
/-- A label: what LabelOk answers. -/
def labelOk (s : ByteArray) : Bool := (bytesOf s).all okB && (decide (1 ≤ s.size) && decide (s.size ≤ 12))
theorem l1In_dec (a b c : Int) : spec_l1In.f a b c = some (decide (b ≤ a) && decide (a ≤ c)) := by
  unfold spec_l1In.f
  by_cases h : a ≥ b
  · rw [if_pos h]
    have h' : b ≤ a := h
    simp [h']
  · rw [if_neg h]
    have h' : ¬ b ≤ a := h
    simp [h']
theorem l2Byte_eq (c : Int) (h0 : 0 ≤ c) (h1 : c ≤ 255) : spec_l2Byte.f c = some (okB c) := by
  unfold spec_l2Byte.f okB
  rw [wrap_id (x := c) (by omega) (by omega), l1In_dec, l1In_dec]
  simp only [Option.bind_some]
  by_cases a : (decide (97 ≤ c) && decide (c ≤ 122)) = true
  · simp [a]
  · by_cases b : (decide (48 ≤ c) && decide (c ≤ 57)) = true
    · simp [a, b]
    · by_cases d : c = 45
      · simp [a, b, d]
      · simp only [Bool.not_eq_true] at a b
        have e : (c == 95) = decide (c = 95) := by by_cases z : c = 95 <;> simp [z]
        simp [a, b, d, e]
theorem drop_bytesOf (s : ByteArray) (i : Nat) (h : i < s.size) : (bytesOf s).drop i = bt s i :: (bytesOf s).drop (i + 1) := by
  rw [rd_drop _ i (by rw [bytesOf_length]; exact h), rd_bytesOf]
theorem spec_LabelOk_loop (s : ByteArray) (hn : s.size ≤ 140737488355328) : ∀ (d i : Nat), i + d = s.size →
    Ev (fun k => spec_LabelOk.l0 k s (i : Int)) (((bytesOf s).drop i).all okB && (decide (1 ≤ s.size) && decide (s.size ≤ 12))) := by
  intro d
  induction d with
  | zero =>
    intro i hi
    refine Ev.step (f := fun _ => some (decide (1 ≤ s.size) && decide (s.size ≤ 12))) (fun k => ?_) ⟨0, fun _ _ => by rw [List.drop_of_length_le (by rw [bytesOf_length]; omega)]; rfl⟩
    simp only [spec_LabelOk.l0]
    rw [if_neg (by omega), l1In_dec]
    have e1 : decide ((1 : Int) ≤ (s.size : Int)) = decide (1 ≤ s.size) := decide_eq_decide.2 (by omega)
    have e2 : decide ((s.size : Int) ≤ 12) = decide (s.size ≤ 12) := decide_eq_decide.2 (by omega)
    rw [e1, e2]
    rfl
  | succ d ih =>
    intro i hi
    have hb := bt_range s i
    have hw := wrap_succ i s.size (by omega) hn
    rw [drop_bytesOf s i (by omega), List.all_cons]
    cases h : okB (bt s i) with
    | true =>
      rw [Bool.true_and]
      refine Ev.step (f := fun k => spec_LabelOk.l0 k s ((i + 1 : Nat) : Int)) (fun k => ?_) (ih (i + 1) (by omega))
      simp only [spec_LabelOk.l0]
      rw [if_pos (by omega), if_pos (by omega), l2Byte_eq _ hb.1 hb.2, h, hw]
      rfl
    | false =>
      refine Ev.step (f := fun _ => some false) (fun k => ?_) ⟨0, fun _ _ => rfl⟩
      simp only [spec_LabelOk.l0]
      rw [if_pos (by omega), if_pos (by omega), l2Byte_eq _ hb.1 hb.2, h]
      rfl
theorem impl_LabelOk_body (c : Int) (x : Option Bool) :
    (if c < 97 then (if c < 48 then (if c = 45 then x else (if c = 95 then x else (some false))) else (if c > 57 then (if c = 45 then x else (if c = 95 then x else (some false))) else x))
      else (if c > 122 then (if c < 48 then (if c = 45 then x else (if c = 95 then x else (some false))) else (if c > 57 then (if c = 45 then x else (if c = 95 then x else (some false))) else x)) else x)) = if okB c = true then x else some false := by
  have hk : okB c = true ↔ (97 ≤ c ∧ c ≤ 122) ∨ (48 ≤ c ∧ c ≤ 57) ∨ c = 45 ∨ c = 95 := by simp [okB, or_assoc]
  by_cases h : okB c = true
  · have h' := hk.1 h
    rw [show (if okB c = true then x else some false) = x from if_pos h]
    repeat' split
    all_goals first | rfl | (exfalso; omega)
  · have h' : ¬ ((97 ≤ c ∧ c ≤ 122) ∨ (48 ≤ c ∧ c ≤ 57) ∨ c = 45 ∨ c = 95) := fun z => h (hk.2 z)
    rw [show (if okB c = true then x else some false) = some false from if_neg h]
    repeat' split
    all_goals first | rfl | (exfalso; omega)
theorem impl_LabelOk_loop (s : ByteArray) (hn : s.size ≤ 140737488355328) : ∀ (d i : Nat), i + d = s.size →
    Ev (fun k => impl_LabelOk.l0 k s (s.size : Int) (i : Int)) (((bytesOf s).drop i).all okB && (decide (1 ≤ s.size) && decide (s.size ≤ 12))) := by
  intro d
  induction d with
  | zero =>
    intro i hi
    refine Ev.step (f := fun _ => some (decide (1 ≤ s.size) && decide (s.size ≤ 12))) (fun k => ?_) ⟨0, fun _ _ => by rw [List.drop_of_length_le (by rw [bytesOf_length]; omega)]; rfl⟩
    simp only [impl_LabelOk.l0]
    rw [if_neg (by omega)]
    have e2 : decide ((s.size : Int) ≤ 12) = decide (s.size ≤ 12) := decide_eq_decide.2 (by omega)
    by_cases h : (s.size : Int) ≥ 1
    · rw [if_pos h, e2, decide_eq_true (show 1 ≤ s.size by omega), Bool.true_and]
    · rw [if_neg h, decide_eq_false (show ¬ 1 ≤ s.size by omega), Bool.false_and]
  | succ d ih =>
    intro i hi
    have hw := wrap_succ i s.size (by omega) hn
    rw [drop_bytesOf s i (by omega), List.all_cons]
    refine Ev.step (f := fun k => if okB (bt s i) = true then impl_LabelOk.l0 k s (s.size : Int) ((i + 1 : Nat) : Int) else some false) (fun k => ?_) ?_
    · simp only [impl_LabelOk.l0]
      rw [if_pos (by omega), if_pos (by omega), if_pos (by omega), hw]
      exact impl_LabelOk_body _ _
    · cases h : okB (bt s i) with
      | true =>
        have := ih (i + 1) (by omega)
        simpa using this
      | false => exact ⟨0, fun _ _ => by simp⟩
theorem spec_LabelOk_eq (s : ByteArray) (hn : s.size ≤ 140737488355328) : Ev (fun k => spec_LabelOk.f k s) (labelOk s) := by
  have := spec_LabelOk_loop s hn s.size 0 (by omega)
  unfold spec_LabelOk.f labelOk
  simpa using this
theorem impl_LabelOk_eq (s : ByteArray) (hn : s.size ≤ 140737488355328) : Ev (fun k => impl_LabelOk.f k s) (labelOk s) := by
  have := impl_LabelOk_loop s hn s.size 0 (by omega)
  unfold impl_LabelOk.f labelOk
  simpa using this
theorem szSs_cons (x : ByteArray) (l : List ByteArray) : szSs (x :: l) = x.size + szSs l := by
  unfold szSs
  rw [List.map_cons, List.sum_cons]
theorem szSs_nil : szSs [] = 0 := rfl
theorem cutA_size : ∀ (t acc : List UInt8), szSs ((cutA acc t).map mkB) ≤ acc.length + t.length
  | [], acc => by
    have e : (mkB acc).size = acc.length := rfl
    simp only [cutA, List.map_cons, List.map_nil, szSs_cons, szSs_nil, e, List.length_nil]
    omega
  | c :: t, acc => by
    unfold cutA
    split
    · have := cutA_size t []
      have e : (mkB acc).size = acc.length := rfl
      simp only [List.length_nil] at this
      simp only [List.map_cons, szSs_cons, e, List.length_cons]
      omega
    · have := cutA_size t (acc ++ [c])
      simp only [List.length_append, List.length_cons, List.length_nil] at this ⊢
      omega
theorem labelsL_size (s : ByteArray) : szSs (labelsL s) ≤ s.size := by
  unfold labelsL
  split
  · rw [szSs_nil]
    omega
  · have := cutA_size s.data.toList []
    rw [size_data]
    simpa using this
theorem szSs_mem : ∀ (l : List ByteArray) (x : ByteArray), x ∈ l → x.size ≤ szSs l
  | [], x, h => by cases h
  | y :: l, x, h => by
    rw [szSs_cons]
    rcases List.mem_cons.1 h with e | h
    · subst e
      omega
    · have := szSs_mem l x h
      omega
theorem labels_mem_size (s x : ByteArray) (h : x ∈ labelsL s) : x.size ≤ s.size := Nat.le_trans (szSs_mem _ x h) (labelsL_size s)
/-- What NameOk answers. -/
def nameOk (s : ByteArray) : Bool := (labelsL s).all labelOk && (decide (s.size ≤ 50) && decide ((labelsL s).length ≤ 6))
theorem spec_NameOk_loop (s : ByteArray) (l : List ByteArray) (hn : l.length ≤ 140737488351232) (hz : ∀ x ∈ l, x.size ≤ 1048576) : ∀ (d i : Nat), i + d = l.length →
    Ev (fun k => spec_NameOk.l0 k s l (i : Int)) ((l.drop i).all labelOk && (decide (s.size ≤ 50) && decide (l.length ≤ 6))) := by
  intro d
  induction d with
  | zero =>
    intro i hi
    rw [show l.drop i = [] from List.drop_of_length_le (by omega)]
    refine Ev.step (f := fun _ => some (decide (s.size ≤ 50) && decide (l.length ≤ 6))) (fun k => ?_) ⟨0, fun _ _ => rfl⟩
    simp only [spec_NameOk.l0]
    rw [if_neg (by omega)]
    by_cases c : s.size ≤ 50
    · rw [if_pos (by omega), decide_eq_true c, Bool.true_and]
      congr 1
      exact decide_eq_decide.2 (by omega)
    · rw [if_neg (by omega), decide_eq_false c, Bool.false_and]
  | succ d ih =>
    intro i hi
    have hil : i < l.length := by omega
    have w := wrap_succ i l.length hil (by omega)
    rw [List.drop_eq_getElem_cons hil, List.all_cons]
    have hx := hz _ (List.getElem_mem hil)
    refine Ev.step (f := fun k => (spec_LabelOk.f k l[i]).bind fun t => if t = true then spec_NameOk.l0 k s l ((i + 1 : Nat) : Int) else some false) (fun k => ?_) ?_
    · simp only [spec_NameOk.l0]
      rw [if_pos (by omega), if_pos (by omega), rdS_getElem l i hil, w]
    · refine Ev.bind (spec_LabelOk_eq l[i] (by omega)) ?_
      cases h : labelOk l[i] with
      | true =>
        rw [Bool.true_and]
        exact Ev_if rfl (ih (i + 1) (by omega))
      | false => exact Ev_ifn (by decide) ⟨0, fun _ _ => rfl⟩
theorem spec_NameOk_eq (s : ByteArray) (hs : s.size ≤ 1048576) : Ev (fun k => spec_NameOk.f k s) (nameOk s) := by
  unfold spec_NameOk.f nameOk
  have h1 := labelsL_length s
  refine Ev.bind (spec_Labels_eq s hs) ?_
  have := spec_NameOk_loop s (labelsL s) (by omega) (fun x hx => Nat.le_trans (labels_mem_size s x hx) hs) (labelsL s).length 0 (by omega)
  simpa using this
theorem impl_NameOk_1_eq (s : ByteArray) (hs : s.size ≤ 1048576) : Ev (fun k => impl_NameOk_1.f k s) (!labelOk s) := by
  unfold impl_NameOk_1.f
  exact Ev.bind (impl_LabelOk_eq s (by omega)) ⟨0, fun _ _ => rfl⟩
theorem slices_IndexFunc_string_loop (l : List ByteArray) (hn : l.length ≤ 140737488351232) (hz : ∀ x ∈ l, x.size ≤ 1048576) : ∀ (d i : Nat), i + d = l.length →
    ∃ r : Int, Ev (fun k => slices_IndexFunc_string.l0 k l (l.length : Int) (i : Int)) r ∧ decide (r ≥ 0) = !(l.drop i).all labelOk := by
  intro d
  induction d with
  | zero =>
    intro i hi
    rw [show l.drop i = [] from List.drop_of_length_le (by omega)]
    refine ⟨-1, Ev.step (f := fun _ => some (-1)) (fun k => ?_) ⟨0, fun _ _ => rfl⟩, rfl⟩
    simp only [slices_IndexFunc_string.l0]
    rw [if_neg (by omega)]
  | succ d ih =>
    intro i hi
    have hil : i < l.length := by omega
    have w := wrap_succ i l.length hil (by omega)
    rw [List.drop_eq_getElem_cons hil, List.all_cons]
    have hx := hz _ (List.getElem_mem hil)
    obtain ⟨r, hr, hd⟩ := ih (i + 1) (by omega)
    have hs : ∀ k, slices_IndexFunc_string.l0 (k + 1) l (l.length : Int) (i : Int) = (impl_NameOk_1.f k l[i]).bind fun t => if t = true then some (i : Int) else slices_IndexFunc_string.l0 k l (l.length : Int) ((i + 1 : Nat) : Int) := by
      intro k
      simp only [slices_IndexFunc_string.l0]
      rw [if_pos (by omega), if_pos (by omega), if_pos (by omega), rdS_getElem l i hil, w]
    cases h : labelOk l[i] with
    | true =>
      refine ⟨r, Ev.step hs (Ev.bind (impl_NameOk_1_eq l[i] hx) ?_), by rw [hd, Bool.true_and]⟩
      rw [h]
      exact Ev_ifn (by decide) hr
    | false =>
      refine ⟨(i : Int), Ev.step hs (Ev.bind (impl_NameOk_1_eq l[i] hx) ?_), by rw [decide_eq_true (by omega)]; rfl⟩
      rw [h]
      exact Ev_if rfl ⟨0, fun _ _ => rfl⟩
theorem slices_ContainsFunc_string_eq (l : List ByteArray) (hn : l.length ≤ 140737488351232) (hz : ∀ x ∈ l, x.size ≤ 1048576) : Ev (fun k => slices_ContainsFunc_string.f k l) (!l.all labelOk) := by
  unfold slices_ContainsFunc_string.f slices_IndexFunc_string.f
  obtain ⟨r, hr, hd⟩ := slices_IndexFunc_string_loop l hn hz l.length 0 (by omega)
  rw [List.drop_zero] at hd
  rw [← hd]
  exact Ev.bind hr ⟨0, fun _ _ => rfl⟩
theorem impl_NameOk_eq (s : ByteArray) (hs : s.size ≤ 1048576) : Ev (fun k => impl_NameOk.f k s) (nameOk s) := by
  unfold impl_NameOk.f nameOk
  have h1 := labelsL_length s
  rw [impl_Labels_eq s (by omega)]
  simp only [Option.bind_some]
  by_cases c1 : s.size ≤ 50
  · refine Ev_if (by omega) ?_
    rw [decide_eq_true c1, Bool.true_and]
    by_cases c2 : (labelsL s).length ≤ 6
    · refine Ev_if (by omega) ?_
      rw [decide_eq_true c2, Bool.and_true]
      refine Ev.bind (slices_ContainsFunc_string_eq _ (by omega) (fun x hx => Nat.le_trans (labels_mem_size s x hx) hs)) ⟨0, fun _ _ => ?_⟩
      rw [Bool.not_not]
    · refine Ev_ifn (by omega) ?_
      rw [decide_eq_false c2, Bool.and_false]
      exact ⟨0, fun _ _ => rfl⟩
  · refine Ev_ifn (by omega) ?_
    rw [decide_eq_false c1, Bool.false_and, Bool.and_false]
    exact ⟨0, fun _ _ => rfl⟩
/-- The bytes of a text. -/
def textOk (s : ByteArray) : Bool := (bytesOf s).all (fun c => decide (33 ≤ c) && decide (c ≤ 126)) && decide (s.size ≤ 12)
theorem spec_l5Text_loop (s : ByteArray) (hn : s.size ≤ 140737488355328) : ∀ (d i : Nat), i + d = s.size →
    Ev (fun k => spec_l5Text.l0 k s (i : Int)) (((bytesOf s).drop i).all (fun c => decide (33 ≤ c) && decide (c ≤ 126)) && decide (s.size ≤ 12)) := by
  intro d
  induction d with
  | zero =>
    intro i hi
    refine Ev.step (f := fun _ => some (decide (s.size ≤ 12))) (fun k => ?_) ⟨0, fun _ _ => by rw [List.drop_of_length_le (by rw [bytesOf_length]; omega)]; rfl⟩
    simp only [spec_l5Text.l0]
    rw [if_neg (by omega)]
    congr 1
    exact decide_eq_decide.2 (by omega)
  | succ d ih =>
    intro i hi
    have hb := bt_range s i
    have hw := wrap_succ i s.size (by omega) hn
    rw [drop_bytesOf s i (by omega), List.all_cons]
    have hs : ∀ k, spec_l5Text.l0 (k + 1) s (i : Int) = if (decide (33 ≤ bt s i) && decide (bt s i ≤ 126)) = true then spec_l5Text.l0 k s ((i + 1 : Nat) : Int) else some false := by
      intro k
      simp only [spec_l5Text.l0]
      rw [if_pos (by omega), if_pos (by omega), wrap_id (x := bt s i) (by omega) (by omega), l1In_dec, Option.bind_some, hw]
    refine Ev.step hs ?_
    cases h : (decide (33 ≤ bt s i) && decide (bt s i ≤ 126)) with
    | true => exact Ev_if rfl (by rw [Bool.true_and]; exact ih (i + 1) (by omega))
    | false => exact Ev_ifn (by decide) ⟨0, fun _ _ => rfl⟩
theorem spec_l5Text_eq (s : ByteArray) (hn : s.size ≤ 140737488355328) : Ev (fun k => spec_l5Text.f k s) (textOk s) := by
  have := spec_l5Text_loop s hn s.size 0 (by omega)
  unfold spec_l5Text.f textOk
  simpa using this
theorem impl_isText_loop (s : ByteArray) (hn : s.size ≤ 140737488355328) : ∀ (d i : Nat), i + d = s.size →
    Ev (fun k => impl_isText.l0 k s (s.size : Int) (i : Int)) (((bytesOf s).drop i).all (fun c => decide (33 ≤ c) && decide (c ≤ 126)) && decide (s.size ≤ 12)) := by
  intro d
  induction d with
  | zero =>
    intro i hi
    refine Ev.step (f := fun _ => some (decide (s.size ≤ 12))) (fun k => ?_) ⟨0, fun _ _ => by rw [List.drop_of_length_le (by rw [bytesOf_length]; omega)]; rfl⟩
    simp only [impl_isText.l0]
    rw [if_neg (by omega)]
    congr 1
    exact decide_eq_decide.2 (by omega)
  | succ d ih =>
    intro i hi
    have hb := bt_range s i
    have hw := wrap_succ i s.size (by omega) hn
    rw [drop_bytesOf s i (by omega), List.all_cons]
    have hs : ∀ k, impl_isText.l0 (k + 1) s (s.size : Int) (i : Int) = if bt s i < 33 then some false else if bt s i > 126 then some false else impl_isText.l0 k s (s.size : Int) ((i + 1 : Nat) : Int) := by
      intro k
      simp only [impl_isText.l0]
      rw [if_pos (by omega), if_pos (by omega), if_pos (by omega), hw]
    refine Ev.step hs ?_
    by_cases c1 : bt s i < 33
    · refine Ev_if c1 ⟨0, fun _ _ => ?_⟩
      rw [decide_eq_false (show ¬ 33 ≤ bt s i by omega)]
      rfl
    · refine Ev_ifn c1 ?_
      rw [decide_eq_true (show 33 ≤ bt s i by omega), Bool.true_and]
      by_cases c2 : bt s i > 126
      · refine Ev_if c2 ⟨0, fun _ _ => ?_⟩
        rw [decide_eq_false (show ¬ bt s i ≤ 126 by omega)]
        rfl
      · refine Ev_ifn c2 ?_
        rw [decide_eq_true (show bt s i ≤ 126 by omega), Bool.true_and]
        exact ih (i + 1) (by omega)
theorem impl_isText_eq (s : ByteArray) (hn : s.size ≤ 140737488355328) : Ev (fun k => impl_isText.f k s) (textOk s) := by
  have := impl_isText_loop s hn s.size 0 (by omega)
  unfold impl_isText.f textOk
  simpa using this
/-- A number from 0 to m. -/
def inTo (x m : Int) : Bool := decide (0 ≤ x) && decide (x ≤ m)
theorem l1In_to (x m : Int) : spec_l1In.f x 0 m = some (inTo x m) := l1In_dec x 0 m
theorem isTtl_eq (x : Int) : impl_isTtl.f x = some (inTo x 100000) := by
  unfold impl_isTtl.f inTo
  by_cases h : x ≥ 0
  · rw [if_pos h, decide_eq_true (show 0 ≤ x by omega), Bool.true_and]
  · rw [if_neg h, decide_eq_false (show ¬ 0 ≤ x by omega), Bool.false_and]
theorem isFour_eq (x : Int) : impl_isFour.f x = some (inTo x 2147483647) := by
  unfold impl_isFour.f inTo
  by_cases h : x ≥ 0
  · rw [if_pos h, decide_eq_true (show 0 ≤ x by omega), Bool.true_and]
  · rw [if_neg h, decide_eq_false (show ¬ 0 ≤ x by omega), Bool.false_and]
def isE (s : ByteArray) : Bool := s.toList == ([] : List UInt8)
/-- What RecordOk answers. -/
def recOk (a0 : ByteArray) (a1 a2 a3 : Int) (a4 a5 : ByteArray) : Bool :=
  nameOk a0 && (inTo a2 100000 && (if a1 = 1 then inTo a3 2147483647 && (isE a4 && isE a5) else if a1 = 2 ∨ a1 = 5 then decide (a3 = 0) && (nameOk a4 && isE a5) else if a1 = 6 then inTo a3 100000 && (nameOk a4 && isE a5) else if a1 = 16 then decide (a3 = 0) && (isE a4 && textOk a5) else false))
theorem Ev_and {f : Nat → Option Bool} {a b : Bool} {g : Nat → Option Bool} (h : Ev f a) (h2 : a = true → Ev g b) : Ev (fun k => (f k).bind fun t => if t = true then g k else some false) (a && b) := by
  refine Ev.bind h ?_
  cases a with
  | true => exact Ev_if rfl (by rw [Bool.true_and]; exact h2 rfl)
  | false => exact Ev_ifn (by decide) ⟨0, fun _ _ => rfl⟩
theorem Ev_andp {p : Prop} [Decidable p] {b : Bool} {g : Nat → Option Bool} (h2 : p → Ev g b) : Ev (fun k => if p then g k else some false) (decide p && b) := by
  by_cases h : p
  · rw [decide_eq_true h, Bool.true_and]
    exact Ev_if h (h2 h)
  · rw [decide_eq_false h, Bool.false_and]
    exact Ev_ifn h ⟨0, fun _ _ => rfl⟩
theorem Ev_andE (s : ByteArray) {b : Bool} {g : Nat → Option Bool} (h2 : Ev g b) : Ev (fun k => if s.toList = ([] : List UInt8) then g k else some false) (isE s && b) := by
  unfold isE
  by_cases h : s.toList = []
  · rw [show (s.toList == ([] : List UInt8)) = true by rw [h]; rfl, Bool.true_and]
    exact Ev_if h h2
  · rw [show (s.toList == ([] : List UInt8)) = false by simpa using h, Bool.false_and]
    exact Ev_ifn h ⟨0, fun _ _ => rfl⟩
theorem Ev_some {α : Type} (x : α) : Ev (fun _ => some x) x := ⟨0, fun _ _ => rfl⟩
theorem Ev_ret {α : Type} {f : Nat → Option α} {x : α} (h : Ev f x) : Ev (fun k => (f k).bind fun t => some t) x := Ev.bind h (Ev_some x)
theorem spec_RecordOk_eq (a0 : ByteArray) (a1 a2 a3 : Int) (a4 a5 : ByteArray) (h0 : a0.size ≤ 1048576) (h4 : a4.size ≤ 1048576) (h5 : a5.size ≤ 1048576) : Ev (fun k => spec_RecordOk.f k a0 a1 a2 a3 a4 a5) (recOk a0 a1 a2 a3 a4 a5) := by
  unfold spec_RecordOk.f recOk
  refine Ev.bind (spec_NameOk_eq a0 h0) ?_
  cases hn : nameOk a0 with
  | false =>
    refine Ev_ifn (by decide) ?_
    refine Ev.step (f := fun _ => some false) (fun k => ?_) (Ev_some _)
    simp only [spec_RecordOk.j0]
    rfl
  | true =>
    rw [Bool.true_and]
    refine Ev_if rfl ?_
    simp only [l1In_to, Option.bind_some]
    cases ht : inTo a2 100000 with
    | false =>
      refine Ev.step (f := fun _ => some false) (fun k => ?_) (Ev_some _)
      simp only [spec_RecordOk.j0]
      rfl
    | true =>
      rw [Bool.true_and]
      have key : ∀ (b : Bool), b = decide (a1 = 2 ∨ a1 = 5) → a1 ≠ 1 → Ev (fun k => spec_RecordOk.j1 k a1 b a0 a1 a2 a3 a4 a5) (if a1 = 2 ∨ a1 = 5 then decide (a3 = 0) && (nameOk a4 && isE a5) else if a1 = 6 then inTo a3 100000 && (nameOk a4 && isE a5) else if a1 = 16 then decide (a3 = 0) && (isE a4 && textOk a5) else false) := by
        intro b hb h1
        by_cases c : a1 = 2 ∨ a1 = 5
        · rw [if_pos c]
          rw [decide_eq_true c] at hb
          subst hb
          refine Ev.step (fun k => ?_) (Ev_andp fun _ => Ev_and (spec_NameOk_eq a4 h4) fun _ => Ev_some _)
          simp only [spec_RecordOk.j1, if_true]
          rfl
        · rw [if_neg c]
          rw [decide_eq_false c] at hb
          subst hb
          by_cases c6 : a1 = 6
          · rw [if_pos c6]
            refine Ev.step (fun k => ?_) (Ev_and (f := fun _ => some (inTo a3 100000)) (Ev_some _) fun _ => Ev_and (spec_NameOk_eq a4 h4) fun _ => Ev_some _)
            simp only [spec_RecordOk.j1]
            rw [if_neg (by decide), if_pos c6, l1In_to]
            rfl
          · rw [if_neg c6]
            by_cases c16 : a1 = 16
            · rw [if_pos c16]
              refine Ev.step (fun k => ?_) (Ev_andp fun _ => Ev_andE a4 (Ev_ret (spec_l5Text_eq a5 (by omega))))
              simp only [spec_RecordOk.j1]
              rw [if_neg (by decide), if_neg c6, if_pos c16]
            · rw [if_neg c16]
              refine Ev.step (f := fun _ => some false) (fun k => ?_) (Ev_some _)
              simp only [spec_RecordOk.j1]
              rw [if_neg (by decide), if_neg c6, if_neg c16]
      by_cases c1 : a1 = 1
      · rw [if_pos c1]
        refine Ev.step (fun k => ?_) (Ev_and (f := fun _ => some (inTo a3 2147483647)) (Ev_some _) fun _ => Ev_andE a4 (Ev_some _))
        simp only [spec_RecordOk.j0]
        rw [if_neg (by decide), if_pos c1, l1In_to]
        rfl
      · rw [if_neg c1]
        by_cases c2 : a1 = 2
        · refine Ev.step (fun k => ?_) (key (a1 == 2) (by rw [decide_eq_true (Or.inl c2)]; simpa using c2) c1)
          simp only [spec_RecordOk.j0]
          rw [if_neg (by decide), if_neg c1, if_pos c2]
        · refine Ev.step (fun k => ?_) (key (a1 == 5) (by by_cases c5 : a1 = 5 <;> simp [c2, c5]) c1)
          simp only [spec_RecordOk.j0]
          rw [if_neg (by decide), if_neg c1, if_neg c2]
theorem impl_RecordOk_eq (a0 : ByteArray) (a1 a2 a3 : Int) (a4 a5 : ByteArray) (h0 : a0.size ≤ 1048576) (h4 : a4.size ≤ 1048576) (h5 : a5.size ≤ 1048576) : Ev (fun k => impl_RecordOk.f k a0 a1 a2 a3 a4 a5) (recOk a0 a1 a2 a3 a4 a5) := by
  unfold impl_RecordOk.f recOk
  refine Ev.bind (impl_NameOk_eq a0 h0) ?_
  cases hn : nameOk a0 with
  | false =>
    refine Ev_ifn (by decide) ?_
    refine Ev.step (f := fun _ => some false) (fun k => ?_) (Ev_some _)
    simp only [impl_RecordOk.j0]
    rfl
  | true =>
    rw [Bool.true_and]
    refine Ev_if rfl ?_
    simp only [isTtl_eq, Option.bind_some]
    cases ht : inTo a2 100000 with
    | false =>
      refine Ev.step (f := fun _ => some false) (fun k => ?_) (Ev_some _)
      simp only [impl_RecordOk.j0]
      rfl
    | true =>
      rw [Bool.true_and]
      have key : ∀ (b : Bool), b = decide (a1 = 2 ∨ a1 = 5) → a1 ≠ 1 → Ev (fun k => impl_RecordOk.j1 k a1 b a0 a1 a2 a3 a4 a5) (if a1 = 2 ∨ a1 = 5 then decide (a3 = 0) && (nameOk a4 && isE a5) else if a1 = 6 then inTo a3 100000 && (nameOk a4 && isE a5) else if a1 = 16 then decide (a3 = 0) && (isE a4 && textOk a5) else false) := by
        intro b hb h1
        by_cases c : a1 = 2 ∨ a1 = 5
        · rw [if_pos c]
          rw [decide_eq_true c] at hb
          subst hb
          refine Ev.step (fun k => ?_) (Ev_andp fun _ => Ev_and (impl_NameOk_eq a4 h4) fun _ => Ev_some _)
          simp only [impl_RecordOk.j1, if_true]
          rfl
        · rw [if_neg c]
          rw [decide_eq_false c] at hb
          subst hb
          by_cases c6 : a1 = 6
          · rw [if_pos c6]
            refine Ev.step (fun k => ?_) (Ev_and (f := fun _ => some (inTo a3 100000)) (Ev_some _) fun _ => Ev_and (impl_NameOk_eq a4 h4) fun _ => Ev_some _)
            simp only [impl_RecordOk.j1]
            rw [if_neg (by decide), if_pos c6, isTtl_eq]
            rfl
          · rw [if_neg c6]
            by_cases c16 : a1 = 16
            · rw [if_pos c16]
              refine Ev.step (fun k => ?_) (Ev_andp fun _ => Ev_andE a4 (Ev_ret (impl_isText_eq a5 (by omega))))
              simp only [impl_RecordOk.j1]
              rw [if_neg (by decide), if_neg c6, if_pos c16]
            · rw [if_neg c16]
              refine Ev.step (f := fun _ => some false) (fun k => ?_) (Ev_some _)
              simp only [impl_RecordOk.j1]
              rw [if_neg (by decide), if_neg c6, if_neg c16]
      by_cases c1 : a1 = 1
      · rw [if_pos c1]
        refine Ev.step (fun k => ?_) (Ev_and (f := fun _ => some (inTo a3 2147483647)) (Ev_some _) fun _ => Ev_andE a4 (Ev_some _))
        simp only [impl_RecordOk.j0]
        rw [if_neg (by decide), if_pos c1, isFour_eq]
        rfl
      · rw [if_neg c1]
        by_cases c2 : a1 = 2
        · refine Ev.step (fun k => ?_) (key (a1 == 2) (by rw [decide_eq_true (Or.inl c2)]; simpa using c2) c1)
          simp only [impl_RecordOk.j0]
          rw [if_neg (by decide), if_neg c1, if_pos c2]
        · refine Ev.step (fun k => ?_) (key (a1 == 5) (by by_cases c5 : a1 = 5 <;> simp [c2, c5]) c1)
          simp only [impl_RecordOk.j0]
          rw [if_neg (by decide), if_neg c1, if_neg c2]
theorem Ev_c {α : Type} {o : Option α} {x : α} (h : o = some x) : Ev (fun _ => o) x := ⟨0, fun _ _ => h⟩
theorem and255 (y : Int) : 0 ≤ Go.bits .and .i64 y 255 ∧ Go.bits .and .i64 y 255 ≤ 255 := by
  have h : (BitVec.ofInt 64 y &&& BitVec.ofInt 64 255).toNat ≤ 255 := by
    rw [BitVec.toNat_and]
    exact Nat.le_trans Nat.and_le_right (by decide)
  have e : Go.bits .and .i64 y 255 = IntKind.i64.wrap ((BitVec.ofInt 64 y &&& BitVec.ofInt 64 255).toNat : Int) := rfl
  rw [e, Go.IntKind.wrap_i64]
  omega
/-- A place in a draw's bytes. -/
def CurOk (b : List Int) (i : Int) : Prop := 0 ≤ i ∧ i ≤ (b.length : Int)
/-- A draw that answers: what it draws is so, and the place stays one. -/
def Dr {α : Type} (b : List Int) (f : Option (α × Int × Int)) (P : α → Prop) : Prop := ∃ x j g, f = some (x, j, g) ∧ P x ∧ CurOk b j
theorem l1Byte_dr (b : List Int) (hn : b.length ≤ 140737488351232) (i h : Int) (c : CurOk b i) : Dr b (spec_l1Byte.f b i h) (fun x => 0 ≤ x ∧ x ≤ 255) := by
  unfold spec_l1Byte.f
  obtain ⟨c0, c1⟩ := c
  by_cases q : i < (b.length : Int)
  · rw [if_pos q, if_pos c0]
    have w : wrap64 (i + 1) = i + 1 := wrap_id (by omega) (by omega)
    refine ⟨_, _, _, rfl, and255 _, ?_⟩
    rw [w]
    exact ⟨by omega, by omega⟩
  · rw [if_neg q]
    exact ⟨_, _, _, rfl, and255 _, ⟨c0, c1⟩⟩
theorem tmod_rng (x n : Int) (hx : 0 ≤ x) (hn : 0 < n) : 0 ≤ Int.tmod x n ∧ Int.tmod x n < n := by
  rw [Int.tmod_eq_emod_of_nonneg hx]
  exact ⟨Int.emod_nonneg _ (by omega), Int.emod_lt_of_pos _ hn⟩
theorem l1Below_dr (b : List Int) (hn : b.length ≤ 140737488351232) (i h n : Int) (c : CurOk b i) : Dr b (spec_l1Below.f b i h n) (fun x => 0 ≤ x ∧ (0 < n → x < n) ∧ (n ≤ 0 → x = 0)) := by
  unfold spec_l1Below.f
  by_cases q : n ≤ 0
  · rw [if_pos q]
    exact ⟨_, _, _, rfl, ⟨Int.le_refl _, fun z => by omega, fun _ => rfl⟩, c⟩
  · rw [if_neg q]
    by_cases q2 : n ≤ 256
    · rw [if_pos q2]
      obtain ⟨x, j, g, e, p, c2⟩ := l1Byte_dr b hn i h c
      rw [e]
      simp only [Option.bind_some]
      rw [if_neg (by omega)]
      have t := tmod_rng x n p.1 (by omega)
      exact ⟨_, _, _, rfl, ⟨t.1, fun _ => t.2, fun z => by omega⟩, c2⟩
    · rw [if_neg q2]
      obtain ⟨x, j, g, e, p, c2⟩ := l1Byte_dr b hn i h c
      rw [e]
      simp only [Option.bind_some]
      obtain ⟨x2, j2, g2, e2, p2, c3⟩ := l1Byte_dr b hn j g c2
      rw [e2]
      simp only [Option.bind_some]
      obtain ⟨x3, j3, g3, e3, p3, c4⟩ := l1Byte_dr b hn j2 g2 c3
      rw [e3]
      simp only [Option.bind_some]
      rw [if_neg (by omega)]
      have w1 : wrap64 (x * 65536) = x * 65536 := wrap_id (by omega) (by omega)
      have w2 : wrap64 (x2 * 256) = x2 * 256 := wrap_id (by omega) (by omega)
      have w3 : wrap64 (x * 65536 + x2 * 256) = x * 65536 + x2 * 256 := wrap_id (by omega) (by omega)
      have w4 : wrap64 (x * 65536 + x2 * 256 + x3) = x * 65536 + x2 * 256 + x3 := wrap_id (by omega) (by omega)
      rw [w1, w2, w3, w4]
      have t := tmod_rng (x * 65536 + x2 * 256 + x3) n (by omega) (by omega)
      exact ⟨_, _, _, rfl, ⟨t.1, fun _ => t.2, fun z => by omega⟩, c4⟩
theorem l1Once_dr (b : List Int) (hn : b.length ≤ 140737488351232) (i h n : Int) (c : CurOk b i) : Dr b (spec_l1Once.f b i h n) (fun _ => True) := by
  unfold spec_l1Once.f
  obtain ⟨x, j, g, e, p, c2⟩ := l1Below_dr b hn i h n c
  rw [e]
  exact ⟨_, _, _, rfl, trivial, c2⟩
theorem l1Int_dr (b : List Int) (hn : b.length ≤ 140737488351232) (i h : Int) (l : List Int) (hl : 0 < l.length) (c : CurOk b i) : Dr b (spec_l1Int.f b i h l) (fun x => x ∈ l) := by
  unfold spec_l1Int.f
  obtain ⟨x, j, g, e, p, c2⟩ := l1Below_dr b hn i h (l.length : Int) c
  rw [e]
  simp only [Option.bind_some]
  have := p.2.1 (by omega)
  rw [if_pos p.1, if_pos this]
  exact ⟨_, _, _, rfl, rd_mem l x p.1 this, c2⟩
theorem rdS_mem (l : List ByteArray) (x : Int) (h0 : 0 ≤ x) (h : x < (l.length : Int)) : rdOf ByteArray.empty l x ∈ l := by
  obtain ⟨n, rfl⟩ := Int.eq_ofNat_of_zero_le h0
  rw [rdS_getElem l n (by omega)]
  exact List.getElem_mem _
theorem l1Str_dr (b : List Int) (hn : b.length ≤ 140737488351232) (i h : Int) (l : List ByteArray) (hl : 0 < l.length) (c : CurOk b i) : Dr b (spec_l1Str.f b i h l) (fun x => x ∈ l) := by
  unfold spec_l1Str.f
  obtain ⟨x, j, g, e, p, c2⟩ := l1Below_dr b hn i h (l.length : Int) c
  rw [e]
  simp only [Option.bind_some]
  have := p.2.1 (by omega)
  rw [if_pos p.1, if_pos this]
  exact ⟨_, _, _, rfl, rdS_mem l x p.1 this, c2⟩
def I64 (x : Int) : Prop := -9223372036854775808 ≤ x ∧ x ≤ 9223372036854775807
theorem i64_all (l : List Int) (h : l.all (fun x => decide (-9223372036854775808 ≤ x) && decide (x ≤ 9223372036854775807)) = true) : ∀ x ∈ l, I64 x := by
  intro x hx
  have := List.all_eq_true.1 h x hx
  rw [Bool.and_eq_true, decide_eq_true_eq, decide_eq_true_eq] at this
  exact this
theorem l1New_loop (l : List Int) (hn : l.length ≤ 140737488351232) : ∀ (d i : Nat) (h : Int), i + d = l.length → ∃ g, Ev (fun k => spec_l1New.l0 k l h (i : Int)) (l, 0, g) := by
  intro d
  induction d with
  | zero =>
    intro i h hi
    refine ⟨h, Ev.step (f := fun _ => some (l, 0, h)) (fun k => ?_) (Ev_some _)⟩
    simp only [spec_l1New.l0]
    rw [if_neg (by omega)]
  | succ d ih =>
    intro i h hi
    have w := wrap_succ i l.length (by omega) (by omega)
    by_cases q : i < 4000
    · obtain ⟨g, e⟩ := ih (i + 1) (Go.bits .and .i64 (wrap64 ((wrap64 ((wrap64 (h * 137)) + (wrap64 (rd l (i : Int))))) + 11)) 1073741823) (by omega)
      refine ⟨g, Ev.step (fun k => ?_) e⟩
      simp only [spec_l1New.l0]
      rw [if_pos (by omega), if_pos (by omega), if_pos (by omega), w]
    · refine ⟨h, Ev.step (f := fun _ => some (l, 0, h)) (fun k => ?_) (Ev_some _)⟩
      simp only [spec_l1New.l0]
      rw [if_pos (by omega), if_neg (by omega)]
theorem l1New_ev (l : List Int) (hn : l.length ≤ 140737488351232) : ∃ g, Ev (fun k => spec_l1New.f k l) (l, 0, g) := by
  unfold spec_l1New.f
  exact l1New_loop l hn l.length 0 _ (by omega)
theorem cur0 (l : List Int) : CurOk l 0 := ⟨Int.le_refl _, by omega⟩
theorem big_eq (l : List Int) : laws_big.f l = some (decide ((l.length : Int) > 1048576)) := by
  unfold laws_big.f
  rfl
theorem recOk_type {a0 : ByteArray} {a1 a2 a3 : Int} {a4 a5 : ByteArray} (h : recOk a0 a1 a2 a3 a4 a5 = true) : a1 = 1 ∨ a1 = 2 ∨ a1 = 5 ∨ a1 = 6 ∨ a1 = 16 := by
  unfold recOk at h
  simp only [Bool.and_eq_true] at h
  have h3 := h.2.2
  by_cases c1 : a1 = 1
  · exact .inl c1
  · rw [if_neg c1] at h3
    by_cases c2 : a1 = 2 ∨ a1 = 5
    · omega
    · rw [if_neg c2] at h3
      by_cases c6 : a1 = 6
      · omega
      · rw [if_neg c6] at h3
        by_cases c16 : a1 = 16
        · omega
        · rw [if_neg c16] at h3
          cases h3
theorem small_all (l : List ByteArray) (n : Nat) (h : l.all (fun x => decide (x.size ≤ n)) = true) : ∀ x ∈ l, x.size ≤ n := by
  intro x hx
  have := List.all_eq_true.1 h x hx
  rwa [decide_eq_true_eq] at this
theorem l3Name_dr (b : List Int) (hn : b.length ≤ 140737488351232) (i h : Int) (c : CurOk b i) : Dr b (spec_l3Name.f b i h) (fun s => s.size ≤ 60) := by
  unfold spec_l3Name.f
  obtain ⟨x, j, g, e, p, c2⟩ := l1Str_dr b hn i h [(⟨#[]⟩ : ByteArray), (⟨#[99, 111, 109]⟩ : ByteArray), (⟨#[101, 120, 46, 99, 111, 109]⟩ : ByteArray), (⟨#[119, 119, 119, 46, 101, 120, 46, 99, 111, 109]⟩ : ByteArray), (⟨#[110, 115, 46, 101, 120, 46, 99, 111, 109]⟩ : ByteArray), (⟨#[111, 114, 103]⟩ : ByteArray), (⟨#[97, 46, 111, 114, 103]⟩ : ByteArray), (⟨#[98, 46, 97, 46, 111, 114, 103]⟩ : ByteArray), (⟨#[110, 115, 49, 46, 111, 114, 103]⟩ : ByteArray), (⟨#[120, 46, 121, 46, 122, 46, 101, 120, 46, 99, 111, 109]⟩ : ByteArray)] (by simp) c
  rw [e]
  exact ⟨_, _, _, rfl, small_all _ 60 (by decide) x p, c2⟩
theorem l3Any_dr (b : List Int) (hn : b.length ≤ 140737488351232) (i h : Int) (c : CurOk b i) : Dr b (spec_l3Any.f b i h) (fun s => s.size ≤ 60) := by
  unfold spec_l3Any.f
  obtain ⟨x, j, g, e, p, c2⟩ := l1Once_dr b hn i h 5 c
  rw [e]
  simp only [Option.bind_some]
  by_cases q : x = true
  · rw [if_pos q]
    obtain ⟨y, j2, g2, e2, p2, c3⟩ := l1Str_dr b hn j g [(⟨#[46]⟩ : ByteArray), (⟨#[97, 46]⟩ : ByteArray), (⟨#[65, 46, 99, 111, 109]⟩ : ByteArray), (⟨#[97, 46, 46, 98]⟩ : ByteArray), (⟨#[97, 46, 98, 46, 99, 46, 100, 46, 101, 46, 102]⟩ : ByteArray), (⟨#[97, 46, 98, 46, 99, 46, 100, 46, 101, 46, 102, 46, 103]⟩ : ByteArray), (⟨#[116, 119, 101, 108, 118, 101, 98, 121, 116, 101, 115, 48, 46, 116, 119, 101, 108, 118, 101, 98, 121, 116, 101, 115, 48, 46, 116, 119, 101, 108, 118, 101, 98, 121, 116, 101, 115, 48, 46, 116, 119, 101, 108, 118, 101, 98, 121, 116, 101, 115, 48]⟩ : ByteArray), (⟨#[116, 104, 105, 114, 116, 101, 101, 110, 98, 121, 116, 101, 115, 46, 97]⟩ : ByteArray)] (by simp) c2
    rw [e2]
    exact ⟨_, _, _, rfl, small_all _ 60 (by decide) y p2, c3⟩
  · rw [if_neg q]
    obtain ⟨y, j2, g2, e2, p2, c3⟩ := l3Name_dr b hn j g c2
    rw [e2]
    exact ⟨_, _, _, rfl, p2, c3⟩
theorem l5DrawI_ev (b : List Int) (hn : b.length ≤ 140737488351232) (i h : Int) (c : CurOk b i) : ∃ a0 a1 a2 a3 a4 a5 j g, Ev (fun k => spec_l5Draw.f k b i h) (a0, a1, a2, a3, a4, a5, j, g) ∧ (a0.size ≤ 60 ∧ a4.size ≤ 60 ∧ a5.size ≤ 20) ∧ CurOk b j ∧ I64 a2 ∧ I64 a3 := by
  have z : (⟨#[]⟩ : ByteArray).size = 0 := rfl
  obtain ⟨nm, j1, g1, e1, p1, c1⟩ := l3Name_dr b hn i h c
  obtain ⟨ty, j2, g2, e2, p2, c2⟩ := l1Int_dr b hn j1 g1 [1, 1, 1, 2, 2, 5, 6, 16] (by simp) c1
  obtain ⟨tt, j3, g3, e3, p3, c3⟩ := l1Int_dr b hn j2 g2 [0, 1, 5, 60, 300, 100000] (by simp) c2
  have it := i64_all _ (by decide) tt p3
  have i0 : I64 0 := ⟨by omega, by omega⟩
  have e2' : spec_l5Type.f b j1 g1 = some (ty, j2, g2) := by
    unfold spec_l5Type.f
    rw [e2]
    rfl
  have hj : ∀ f : Bool, ∃ a0 a1 a2 a3 a4 a5 j g, Ev (fun k => spec_l5Draw.j0 k ty f b j3 g3 nm ty tt 0 (⟨#[]⟩ : ByteArray) (⟨#[]⟩ : ByteArray)) (a0, a1, a2, a3, a4, a5, j, g) ∧ (a0.size ≤ 60 ∧ a4.size ≤ 60 ∧ a5.size ≤ 20) ∧ CurOk b j ∧ I64 a2 ∧ I64 a3 := by
    intro f
    by_cases q : f = true
    · obtain ⟨x, j4, g4, e4, p4, c4⟩ := l3Name_dr b hn j3 g3 c3
      refine ⟨nm, ty, tt, 0, x, (⟨#[]⟩ : ByteArray), j4, g4, Ev.step (f := fun _ => some (nm, ty, tt, 0, x, (⟨#[]⟩ : ByteArray), j4, g4)) (fun k => ?_) (Ev_some _), ⟨p1, p4, by omega⟩, c4, it, i0⟩
      simp only [spec_l5Draw.j0]
      rw [if_pos q, e4]
      rfl
    · by_cases q6 : ty = 6
      · obtain ⟨x, j4, g4, e4, p4, c4⟩ := l3Name_dr b hn j3 g3 c3
        obtain ⟨y, j5, g5, e5, p5, c5⟩ := l1Int_dr b hn j4 g4 [0, 5, 60] (by simp) c4
        refine ⟨nm, ty, tt, y, x, (⟨#[]⟩ : ByteArray), j5, g5, Ev.step (f := fun _ => some (nm, ty, tt, y, x, (⟨#[]⟩ : ByteArray), j5, g5)) (fun k => ?_) (Ev_some _), ⟨p1, p4, by omega⟩, c5, it, i64_all _ (by decide) y p5⟩
        simp only [spec_l5Draw.j0]
        rw [if_neg q, if_pos q6, e4]
        simp only [Option.bind_some]
        rw [e5]
        rfl
      · by_cases q16 : ty = 16
        · obtain ⟨x, j4, g4, e4, p4, c4⟩ := l1Str_dr b hn j3 g3 [(⟨#[]⟩ : ByteArray), (⟨#[104, 105]⟩ : ByteArray), (⟨#[116, 119, 101, 108, 118, 101, 98, 121, 116, 101, 115, 33]⟩ : ByteArray)] (by simp) c3
          refine ⟨nm, ty, tt, 0, (⟨#[]⟩ : ByteArray), x, j4, g4, Ev.step (f := fun _ => some (nm, ty, tt, 0, (⟨#[]⟩ : ByteArray), x, j4, g4)) (fun k => ?_) (Ev_some _), ⟨p1, by omega, small_all _ 20 (by decide) x p4⟩, c4, it, i0⟩
          simp only [spec_l5Draw.j0]
          rw [if_neg q, if_neg q6, if_pos q16, e4]
          rfl
        · refine ⟨nm, ty, tt, 0, (⟨#[]⟩ : ByteArray), (⟨#[]⟩ : ByteArray), j3, g3, Ev.step (f := fun _ => some (nm, ty, tt, 0, (⟨#[]⟩ : ByteArray), (⟨#[]⟩ : ByteArray), j3, g3)) (fun k => ?_) (Ev_some _), ⟨p1, by omega, by omega⟩, c3, it, i0⟩
          simp only [spec_l5Draw.j0]
          rw [if_neg q, if_neg q6, if_neg q16]
  unfold spec_l5Draw.f
  rw [e1]
  simp only [Option.bind_some]
  rw [e2']
  simp only [Option.bind_some]
  rw [e3]
  simp only [Option.bind_some]
  by_cases q1 : ty = 1
  · obtain ⟨x, j4, g4, e4, p4, c4⟩ := l1Below_dr b hn j3 g3 9 c3
    refine ⟨nm, ty, tt, wrap64 (1 + x), (⟨#[]⟩ : ByteArray), (⟨#[]⟩ : ByteArray), j4, g4, Ev_if q1 (Ev_c ?_), ⟨p1, by omega, by omega⟩, c4, it, by
      have u := p4.2.1 (by omega)
      have l := p4.1
      rw [wrap_id (by omega) (by omega)]
      exact ⟨by omega, by omega⟩⟩
    rw [e4]
    rfl
  · by_cases q2 : ty = 2
    · obtain ⟨a0, a1, a2, a3, a4, a5, j, g, h1, h2⟩ := hj (ty == 2)
      exact ⟨a0, a1, a2, a3, a4, a5, j, g, Ev_ifn q1 (Ev_if q2 h1), h2⟩
    · obtain ⟨a0, a1, a2, a3, a4, a5, j, g, h1, h2⟩ := hj (ty == 5)
      exact ⟨a0, a1, a2, a3, a4, a5, j, g, Ev_ifn q1 (Ev_ifn q2 h1), h2⟩
theorem l5Draw_ev (b : List Int) (hn : b.length ≤ 140737488351232) (i h : Int) (c : CurOk b i) : ∃ a0 a1 a2 a3 a4 a5 j g, Ev (fun k => spec_l5Draw.f k b i h) (a0, a1, a2, a3, a4, a5, j, g) ∧ (a0.size ≤ 60 ∧ a4.size ≤ 60 ∧ a5.size ≤ 20) ∧ CurOk b j := by
  obtain ⟨a0, a1, a2, a3, a4, a5, j, g, h1, h2, h3, _⟩ := l5DrawI_ev b hn i h c
  exact ⟨a0, a1, a2, a3, a4, a5, j, g, h1, h2, h3⟩
theorem l5AnyI_ev (b : List Int) (hn : b.length ≤ 140737488351232) (i h : Int) (c : CurOk b i) : ∃ a0 a1 a2 a3 a4 a5 j g, Ev (fun k => spec_l5Any.f k b i h) (a0, a1, a2, a3, a4, a5, j, g) ∧ (a0.size ≤ 60 ∧ a4.size ≤ 60 ∧ a5.size ≤ 20) ∧ CurOk b j ∧ I64 a2 ∧ I64 a3 := by
  unfold spec_l5Any.f
  obtain ⟨a0, a1, a2, a3, a4, a5, j1, g1, d1, ⟨p0, p4, p5⟩, c1, k2, k3⟩ := l5DrawI_ev b hn i h c
  obtain ⟨x, j2, g2, e2, p2, c2⟩ := l1Below_dr b hn j1 g1 12 c1
  by_cases q0 : x = 0
  · obtain ⟨s, j3, g3, e3, p3, c3⟩ := l3Any_dr b hn j2 g2 c2
    refine ⟨s, a1, a2, a3, a4, a5, j3, g3, Ev.bind d1 (Ev_c ?_), ⟨p3, p4, p5⟩, c3, k2, k3⟩
    simp only [e2, Option.bind_some]
    rw [if_pos q0, e3]
    rfl
  · by_cases q1 : x = 1
    · obtain ⟨s, j3, g3, e3, p3, c3⟩ := l1Int_dr b hn j2 g2 [0, 3, 15, 1, 2, 6] (by simp) c2
      refine ⟨a0, s, a2, a3, a4, a5, j3, g3, Ev.bind d1 (Ev_c ?_), ⟨p0, p4, p5⟩, c3, k2, k3⟩
      simp only [e2, Option.bind_some]
      rw [if_neg q0, if_pos q1, e3]
      rfl
    · by_cases q2 : x = 2
      · obtain ⟨s, j3, g3, e3, p3, c3⟩ := l1Int_dr b hn j2 g2 [-1, 100000, 100001] (by simp) c2
        refine ⟨a0, a1, s, a3, a4, a5, j3, g3, Ev.bind d1 (Ev_c ?_), ⟨p0, p4, p5⟩, c3, i64_all _ (by decide) s p3, k3⟩
        simp only [e2, Option.bind_some]
        rw [if_neg q0, if_neg q1, if_pos q2, e3]
        rfl
      · by_cases q3 : x = 3
        · obtain ⟨s, j3, g3, e3, p3, c3⟩ := l1Int_dr b hn j2 g2 [-1, 2147483647, 2147483648, 100001, 0] (by simp) c2
          refine ⟨a0, a1, a2, s, a4, a5, j3, g3, Ev.bind d1 (Ev_c ?_), ⟨p0, p4, p5⟩, c3, k2, i64_all _ (by decide) s p3⟩
          simp only [e2, Option.bind_some]
          rw [if_neg q0, if_neg q1, if_neg q2, if_pos q3, e3]
          rfl
        · by_cases q4 : x = 4
          · obtain ⟨s, j3, g3, e3, p3, c3⟩ := l3Any_dr b hn j2 g2 c2
            refine ⟨a0, a1, a2, a3, s, a5, j3, g3, Ev.bind d1 (Ev_c ?_), ⟨p0, p3, p5⟩, c3, k2, k3⟩
            simp only [e2, Option.bind_some]
            rw [if_neg q0, if_neg q1, if_neg q2, if_neg q3, if_pos q4, e3]
            rfl
          · by_cases q5 : x = 5
            · obtain ⟨s, j3, g3, e3, p3, c3⟩ := l1Str_dr b hn j2 g2 [(⟨#[32]⟩ : ByteArray), (⟨#[127]⟩ : ByteArray), (⟨#[116, 104, 105, 114, 116, 101, 101, 110, 98, 121, 116, 101, 115]⟩ : ByteArray), (⟨#[120]⟩ : ByteArray)] (by simp) c2
              refine ⟨a0, a1, a2, a3, a4, s, j3, g3, Ev.bind d1 (Ev_c ?_), ⟨p0, p4, small_all _ 20 (by decide) s p3⟩, c3, k2, k3⟩
              simp only [e2, Option.bind_some]
              rw [if_neg q0, if_neg q1, if_neg q2, if_neg q3, if_neg q4, if_pos q5, e3]
              rfl
            · refine ⟨a0, a1, a2, a3, a4, a5, j2, g2, Ev.bind d1 (Ev_c ?_), ⟨p0, p4, p5⟩, c2, k2, k3⟩
              simp only [e2, Option.bind_some]
              rw [if_neg q0, if_neg q1, if_neg q2, if_neg q3, if_neg q4, if_neg q5]
theorem l5Any_ev (b : List Int) (hn : b.length ≤ 140737488351232) (i h : Int) (c : CurOk b i) : ∃ a0 a1 a2 a3 a4 a5 j g, Ev (fun k => spec_l5Any.f k b i h) (a0, a1, a2, a3, a4, a5, j, g) ∧ (a0.size ≤ 60 ∧ a4.size ≤ 60 ∧ a5.size ≤ 20) ∧ CurOk b j := by
  obtain ⟨a0, a1, a2, a3, a4, a5, j, g, h1, h2, h3, _⟩ := l5AnyI_ev b hn i h c
  exact ⟨a0, a1, a2, a3, a4, a5, j, g, h1, h2, h3⟩
/-- What a drawn record fits into. -/
def smallR (x : S25) : Prop := x.f0.size ≤ 60 ∧ x.f4.size ≤ 60 ∧ x.f5.size ≤ 20
theorem l5List_loop (b : List Int) (hn : b.length ≤ 140737488351232) : ∀ (d : Nat) (acc : List S25) (j g : Int), acc.length + d ≤ 100 → (∀ x ∈ acc, smallR x) → CurOk b j →
    ∃ r j2 g2, Ev (fun k => spec_l5List.l0 k acc (d : Int) b j g) (r, j2, g2) ∧ r.length ≤ acc.length + d ∧ (∀ x ∈ r, smallR x) ∧ CurOk b j2 := by
  intro d
  induction d with
  | zero =>
    intro acc j g h hs c
    refine ⟨acc, j, g, Ev.step (f := fun _ => some (acc, j, g)) (fun k => ?_) (Ev_some _), by omega, hs, c⟩
    simp only [spec_l5List.l0]
    rw [if_neg (by omega)]
  | succ d ih =>
    intro acc j g h hs c
    obtain ⟨a0, a1, a2, a3, a4, a5, j1, g1, d1, p, c1⟩ := l5Draw_ev b hn j g c
    obtain ⟨r, j2, g2, e, p1, p2, c2⟩ := ih (acc ++ [(⟨a0, a1, a2, a3, a4, a5⟩ : S25)]) j1 g1 (by simp; omega) (fun x hx => by
      rcases List.mem_append.1 hx with q | q
      · exact hs x q
      · rw [List.mem_singleton.1 q]
        exact p) c1
    have w : wrap64 (((d + 1 : Nat) : Int) - 1) = (d : Int) := by rw [wrap_id (by omega) (by omega)]; omega
    refine ⟨r, j2, g2, Ev.step (f := fun k => (spec_l5Draw.f k b j g).bind fun t => if acc.length < 1954687338268 then spec_l5List.l0 k (acc ++ [(⟨t.1, t.2.1, t.2.2.1, t.2.2.2.1, t.2.2.2.2.1, t.2.2.2.2.2.1⟩ : S25)]) (d : Int) b t.2.2.2.2.2.2.1 t.2.2.2.2.2.2.2 else none) (fun k => ?_) (Ev.bind d1 (Ev_if (by omega) e)), by simp at p1; omega, p2, c2⟩
    simp only [spec_l5List.l0]
    rw [if_pos (by omega), w]
theorem l5List_ev (b : List Int) (hn : b.length ≤ 140737488351232) (i h : Int) (m : Nat) (hm : m ≤ 20) (c : CurOk b i) : ∃ r j g, Ev (fun k => spec_l5List.f k b i h (m : Int)) (r, j, g) ∧ r.length ≤ m ∧ (∀ x ∈ r, smallR x) ∧ CurOk b j := by
  unfold spec_l5List.f
  have w : wrap64 ((m : Int) + 1) = (m : Int) + 1 := wrap_id (by omega) (by omega)
  rw [w]
  obtain ⟨x, j1, g1, e1, ⟨p1, p2, _⟩, c1⟩ := l1Below_dr b hn i h ((m : Int) + 1) c
  obtain ⟨n, rfl⟩ := Int.eq_ofNat_of_zero_le p1
  have p2 := p2 (by omega)
  rw [e1]
  simp only [Option.bind_some]
  obtain ⟨r, j, g, e, q1, q2, q3⟩ := l5List_loop b hn n [] j1 g1 (by simp; omega) (fun x hx => by cases hx) c1
  exact ⟨r, j, g, e, by simp at q1; omega, q2, q3⟩
/-- What TypeOk answers. -/
def typeOk (n : Int) : Bool := decide (n = 1 ∨ n = 2 ∨ n = 5 ∨ n = 6 ∨ n = 16)
theorem spec_TypeOk_eq (n : Int) : spec_TypeOk.f n = some (typeOk n) := by
  unfold spec_TypeOk.f typeOk
  by_cases h1 : n = 1
  · simp [h1]
  · by_cases h2 : n = 2
    · simp [h2]
    · by_cases h5 : n = 5
      · simp [h5]
      · by_cases h6 : n = 6
        · simp [h6]
        · simp [h1, h2, h5, h6]
          by_cases h16 : n = 16 <;> simp [h16]
theorem impl_TypeOk_eq (n : Int) : impl_TypeOk.f n = some (typeOk n) := by
  unfold impl_TypeOk.f impl_TypeText.f typeOk
  by_cases h1 : n = 1
  · simp [h1]
  · by_cases h2 : n = 2
    · simp [h2]
    · by_cases h5 : n = 5
      · simp [h5]
      · by_cases h6 : n = 6
        · simp [h6]
        · by_cases h16 : n = 16
          · simp [h16]
          · simp [h1, h2, h5, h6, h16]
theorem rdR_getElem (l : List S25) (i : Nat) (h : i < l.length) : rd_T25 l i = l[i] := by
  unfold rd_T25
  rw [Int.toNat_natCast, List.getD_eq_getElem?_getD, List.getElem?_eq_getElem h, Option.getD_some]
/-- A record, as RecordOk sees it. -/
def recOkR (x : S25) : Bool := recOk x.f0 x.f1 x.f2 x.f3 x.f4 x.f5
/-- Strings that are not too long for the laws. -/
def fitR (x : S25) : Prop := x.f0.size ≤ 1048576 ∧ x.f4.size ≤ 1048576 ∧ x.f5.size ≤ 1048576
def recsOk (l : List S25) : Bool := l.all recOkR && decide (l.length ≤ 8)
theorem spec_recOkR (x : S25) (h : fitR x) : Ev (fun k => spec_RecordOk.f k x.f0 x.f1 x.f2 x.f3 x.f4 x.f5) (recOkR x) := spec_RecordOk_eq _ _ _ _ _ _ h.1 h.2.1 h.2.2
theorem impl_recOkR (x : S25) (h : fitR x) : Ev (fun k => impl_RecordOk.f k x.f0 x.f1 x.f2 x.f3 x.f4 x.f5) (recOkR x) := impl_RecordOk_eq _ _ _ _ _ _ h.1 h.2.1 h.2.2
theorem spec_l7List_loop (l : List S25) (hn : l.length ≤ 1048576) (hz : ∀ x ∈ l, fitR x) : ∀ (d i : Nat), i + d = l.length →
    Ev (fun k => spec_l7List.l0 k l (i : Int)) ((l.drop i).all recOkR && decide (l.length ≤ 8)) := by
  intro d
  induction d with
  | zero =>
    intro i hi
    rw [show l.drop i = [] from List.drop_of_length_le (by omega)]
    refine Ev.step (f := fun _ => some (decide (l.length ≤ 8))) (fun k => ?_) (Ev_some _)
    simp only [spec_l7List.l0]
    rw [if_neg (by omega)]
    exact congrArg some (decide_eq_decide.2 (by omega))
  | succ d ih =>
    intro i hi
    have hil : i < l.length := by omega
    have w := wrap_succ i l.length hil (by omega)
    rw [List.drop_eq_getElem_cons hil, List.all_cons, Bool.and_assoc]
    refine Ev.step (fun k => ?_) (Ev_and (spec_recOkR l[i] (hz _ (List.getElem_mem hil))) fun _ => ih (i + 1) (by omega))
    simp only [spec_l7List.l0]
    rw [if_pos (by omega), if_pos (by omega), rdR_getElem l i hil, w]
theorem spec_l7List_eq (l : List S25) (hn : l.length ≤ 1048576) (hz : ∀ x ∈ l, fitR x) : Ev (fun k => spec_l7List.f k l) (recsOk l) := by
  have := spec_l7List_loop l hn hz l.length 0 (by omega)
  unfold spec_l7List.f recsOk
  simpa using this
theorem impl_allOk_1_eq (x : S25) (h : fitR x) : Ev (fun k => impl_allOk_1.f k x.f0 x.f1 x.f2 x.f3 x.f4 x.f5) (!recOkR x) := by
  unfold impl_allOk_1.f
  exact Ev.bind (impl_recOkR x h) (Ev_some _)
theorem slices_IndexFunc_rec_loop (l : List S25) (hn : l.length ≤ 1048576) (hz : ∀ x ∈ l, fitR x) : ∀ (d i : Nat), i + d = l.length →
    ∃ r : Int, Ev (fun k => slices_IndexFunc_impl_Record.l0 k l (l.length : Int) (i : Int)) r ∧ decide (r ≥ 0) = !(l.drop i).all recOkR := by
  intro d
  induction d with
  | zero =>
    intro i hi
    rw [show l.drop i = [] from List.drop_of_length_le (by omega)]
    refine ⟨-1, Ev.step (f := fun _ => some (-1)) (fun k => ?_) (Ev_some _), rfl⟩
    simp only [slices_IndexFunc_impl_Record.l0]
    rw [if_neg (by omega)]
  | succ d ih =>
    intro i hi
    have hil : i < l.length := by omega
    have w := wrap_succ i l.length hil (by omega)
    rw [List.drop_eq_getElem_cons hil, List.all_cons]
    have hx := hz _ (List.getElem_mem hil)
    obtain ⟨r, hr, hd⟩ := ih (i + 1) (by omega)
    have hs : ∀ k, slices_IndexFunc_impl_Record.l0 (k + 1) l (l.length : Int) (i : Int) = (impl_allOk_1.f k l[i].f0 l[i].f1 l[i].f2 l[i].f3 l[i].f4 l[i].f5).bind fun t => if t = true then some (i : Int) else slices_IndexFunc_impl_Record.l0 k l (l.length : Int) ((i + 1 : Nat) : Int) := by
      intro k
      simp only [slices_IndexFunc_impl_Record.l0]
      rw [if_pos (by omega), if_pos (by omega), if_pos (by omega), rdR_getElem l i hil, w]
    cases h : recOkR l[i] with
    | true =>
      refine ⟨r, Ev.step hs (Ev.bind (impl_allOk_1_eq l[i] hx) ?_), by rw [hd, Bool.true_and]⟩
      rw [h]
      exact Ev_ifn (by decide) hr
    | false =>
      refine ⟨(i : Int), Ev.step hs (Ev.bind (impl_allOk_1_eq l[i] hx) ?_), by rw [decide_eq_true (by omega)]; rfl⟩
      rw [h]
      exact Ev_if rfl (Ev_some _)
theorem slices_ContainsFunc_rec_eq (l : List S25) (hn : l.length ≤ 1048576) (hz : ∀ x ∈ l, fitR x) : Ev (fun k => slices_ContainsFunc_impl_Record.f k l) (!l.all recOkR) := by
  unfold slices_ContainsFunc_impl_Record.f slices_IndexFunc_impl_Record.f
  obtain ⟨r, hr, hd⟩ := slices_IndexFunc_rec_loop l hn hz l.length 0 (by omega)
  rw [List.drop_zero] at hd
  rw [← hd]
  exact Ev.bind hr (Ev_some _)
theorem impl_allOk_eq (l : List S25) (hn : l.length ≤ 1048576) (hz : ∀ x ∈ l, fitR x) : Ev (fun k => impl_allOk.f k l 8) (recsOk l) := by
  unfold impl_allOk.f recsOk
  by_cases c : l.length ≤ 8
  · refine Ev_if (by omega) ?_
    rw [decide_eq_true c, Bool.and_true]
    refine Ev.bind (slices_ContainsFunc_rec_eq l hn hz) ⟨0, fun _ _ => ?_⟩
    rw [Bool.not_not]
  · refine Ev_ifn (by omega) ?_
    rw [decide_eq_false c, Bool.and_false]
    exact Ev_some _
/-- What MsgOk answers. -/
def msgOk (a0 a6 : Int) (a7 : ByteArray) (a8 : Int) (l9 l10 l11 : List S25) : Bool :=
  inTo a0 65535 && (inTo a6 15 && ((nameOk a7 && typeOk a8) && (recsOk l9 && (recsOk l10 && recsOk l11))))
theorem spec_QuestOk_eq (a : ByteArray) (n : Int) (h : a.size ≤ 1048576) : Ev (fun k => spec_QuestOk.f k a n) (nameOk a && typeOk n) := by
  unfold spec_QuestOk.f
  rw [spec_TypeOk_eq n]
  exact Ev_and (spec_NameOk_eq a h) fun _ => Ev_some _
theorem impl_QuestOk_eq (a : ByteArray) (n : Int) (h : a.size ≤ 1048576) : Ev (fun k => impl_QuestOk.f k a n) (nameOk a && typeOk n) := by
  unfold impl_QuestOk.f
  rw [impl_TypeOk_eq n]
  exact Ev_and (impl_NameOk_eq a h) fun _ => Ev_some _
def fitRs (l : List S25) : Prop := l.length ≤ 1048576 ∧ ∀ x ∈ l, fitR x
theorem spec_MsgOk_eq (a0 : Int) (a1 a2 a3 a4 a5 : Bool) (a6 : Int) (a7 : ByteArray) (a8 : Int) (l9 l10 l11 : List S25) (h7 : a7.size ≤ 1048576) (h9 : fitRs l9) (h10 : fitRs l10) (h11 : fitRs l11) :
    Ev (fun k => spec_MsgOk.f k a0 a1 a2 a3 a4 a5 a6 a7 a8 l9 l10 l11) (msgOk a0 a6 a7 a8 l9 l10 l11) := by
  unfold spec_MsgOk.f msgOk
  rw [l1In_to, l1In_to]
  exact Ev_and (f := fun _ => some (inTo a0 65535)) (Ev_some _) fun _ => Ev_and (f := fun _ => some (inTo a6 15)) (Ev_some _) fun _ => Ev_and (spec_QuestOk_eq a7 a8 h7) fun _ => Ev_and (spec_l7List_eq l9 h9.1 h9.2) fun _ => Ev_and (spec_l7List_eq l10 h10.1 h10.2) fun _ => Ev_ret (spec_l7List_eq l11 h11.1 h11.2)
theorem Ev_inTo {x m : Int} {b : Bool} {g : Nat → Option Bool} (h2 : Ev g b) : Ev (fun k => if x ≥ 0 then (if x ≤ m then g k else some false) else some false) (inTo x m && b) := by
  unfold inTo
  rw [Bool.and_assoc]
  exact Ev_andp (p := 0 ≤ x) fun _ => Ev_andp fun _ => h2
theorem impl_MsgOk_eq (a0 : Int) (a1 a2 a3 a4 a5 : Bool) (a6 : Int) (a7 : ByteArray) (a8 : Int) (l9 l10 l11 : List S25) (h7 : a7.size ≤ 1048576) (h9 : fitRs l9) (h10 : fitRs l10) (h11 : fitRs l11) :
    Ev (fun k => impl_MsgOk.f k a0 a1 a2 a3 a4 a5 a6 a7 a8 l9 l10 l11) (msgOk a0 a6 a7 a8 l9 l10 l11) := by
  unfold impl_MsgOk.f msgOk
  exact Ev_inTo (Ev_inTo (Ev_and (impl_QuestOk_eq a7 a8 h7) fun _ => Ev_and (impl_allOk_eq l9 h9.1 h9.2) fun _ => Ev_and (impl_allOk_eq l10 h10.1 h10.2) fun _ => Ev_ret (impl_allOk_eq l11 h11.1 h11.2)))
theorem smallR_fit {x : S25} (h : smallR x) : fitR x := ⟨Nat.le_trans h.1 (by decide), Nat.le_trans h.2.1 (by decide), Nat.le_trans h.2.2 (by decide)⟩
/-- Records of a drawn message. -/
def smallL (l : List S25) : Prop := l.length ≤ 20 ∧ ∀ x ∈ l, smallR x
theorem smallL_nil : smallL [] := ⟨by simp, fun x h => by cases h⟩
theorem smallL_fit {l : List S25} (h : smallL l) : fitRs l := ⟨Nat.le_trans h.1 (by decide), fun x hx => smallR_fit (h.2 x hx)⟩
theorem smallL_snoc {l : List S25} (h : smallL l) (hl : l.length < 20) {x : S25} (hx : smallR x) : smallL (l ++ [x]) := by
  refine ⟨by simp; omega, fun y hy => ?_⟩
  rcases List.mem_append.1 hy with q | q
  · exact h.2 y q
  · rw [List.mem_singleton.1 q]
    exact hx
theorem l7Quest_ev (b : List Int) (hn : b.length ≤ 140737488351232) (i h : Int) (c : CurOk b i) : ∃ nm ty j g, spec_l7Quest.f b i h = some (nm, ty, j, g) ∧ nm.size ≤ 60 ∧ CurOk b j := by
  unfold spec_l7Quest.f
  obtain ⟨nm, j1, g1, e1, p1, c1⟩ := l3Name_dr b hn i h c
  obtain ⟨ty, j2, g2, e2, p2, c2⟩ := l1Int_dr b hn j1 g1 [1, 1, 1, 2, 2, 5, 6, 16] (by simp) c1
  refine ⟨nm, ty, j2, g2, ?_, p1, c2⟩
  rw [e1]
  simp only [Option.bind_some]
  unfold spec_l5Type.f
  rw [e2]
  rfl
theorem l7Draw_ev (b : List Int) (hn : b.length ≤ 140737488351232) (i h : Int) (c : CurOk b i) : ∃ a0 a1 a2 a3 a4 a5 a6 a7 a8 a9 a10 a11 j g, Ev (fun k => spec_l7Draw.f k b i h) (a0, a1, a2, a3, a4, a5, a6, a7, a8, a9, a10, a11, j, g) ∧ (a7.size ≤ 60 ∧ (smallL a9 ∧ a9.length ≤ 3) ∧ smallL a10 ∧ (smallL a11 ∧ a11.length ≤ 2)) ∧ CurOk b j := by
  unfold spec_l7Draw.f spec_AskMsg.f
  obtain ⟨n, j1, g1, e1, _, c1⟩ := l1Below_dr b hn i h 70000 c
  obtain ⟨nm, ty, j2, g2, e2, p2, c2⟩ := l7Quest_ev b hn j1 g1 c1
  obtain ⟨x, j3, g3, e3, _, c3⟩ := l1Once_dr b hn j2 g2 3 c2
  by_cases q : x = true
  · exact ⟨_, _, _, _, _, _, _, nm, ty, [], [], [], j3, g3, Ev.bind (Ev_c e1) (Ev.bind (Ev_c e2) (Ev.bind (Ev_some _) (Ev.bind (Ev_c e3) (Ev_if q (Ev_some _))))), ⟨p2, ⟨smallL_nil, by simp⟩, smallL_nil, smallL_nil, by simp⟩, c3⟩
  · obtain ⟨x4, j4, g4, e4, _, c4⟩ := l1Once_dr b hn j3 g3 2 c3
    obtain ⟨x5, j5, g5, e5, _, c5⟩ := l1Once_dr b hn j4 g4 9 c4
    obtain ⟨x6, j6, g6, e6, _, c6⟩ := l1Once_dr b hn j5 g5 5 c5
    obtain ⟨x7, j7, g7, e7, _, c7⟩ := l1Int_dr b hn j6 g6 [0, 0, 0, 3, 2, 5, 15] (by simp) c6
    obtain ⟨r1, j8, g8, d1, p8, s8, c8⟩ := l5List_ev b hn j7 g7 3 (by omega) c7
    obtain ⟨r2, j9, g9, d9, p9, s9, c9⟩ := l5List_ev b hn j8 g8 2 (by omega) c8
    obtain ⟨r3, j10, gA, d10, p10, s10, c10⟩ := l5List_ev b hn j9 g9 2 (by omega) c9
    exact ⟨_, _, _, _, _, _, _, nm, ty, r1, r2, r3, j10, gA, Ev.bind (Ev_c e1) (Ev.bind (Ev_c e2) (Ev.bind (Ev_some _) (Ev.bind (Ev_c e3) (Ev_ifn q (Ev.bind (Ev_c e4) (Ev.bind (Ev_c e5) (Ev.bind (Ev_c e6) (Ev.bind (Ev_c e7) (Ev.bind d1 (Ev.bind d9 (Ev.bind d10 (Ev_some _)))))))))))), ⟨p2, ⟨⟨by omega, s8⟩, p8⟩, ⟨by omega, s9⟩, ⟨by omega, s10⟩, p10⟩, c10⟩
theorem l7Any_loop (b : List Int) (hn : b.length ≤ 140737488351232) (a0 : Int) (a1 a2 a3 a4 a5 : Bool) (a6 : Int) (a7 : ByteArray) (a8 : Int) (a9 a10 : List S25) : ∀ (d : Nat) (l : List S25) (j g : Int), d + l.length = 9 → smallL l → CurOk b j →
    ∃ r j2 g2, Ev (fun k => spec_l7Any.l0 k b j g a0 a1 a2 a3 a4 a5 a6 a7 a8 a9 a10 l) (a0, a1, a2, a3, a4, a5, a6, a7, a8, a9, a10, r, j2, g2) ∧ smallL r ∧ CurOk b j2 := by
  intro d
  induction d with
  | zero =>
    intro l j g hd hl c
    refine ⟨l, j, g, Ev.step (f := fun _ => some (a0, a1, a2, a3, a4, a5, a6, a7, a8, a9, a10, l, j, g)) (fun k => ?_) (Ev_some _), hl, c⟩
    simp only [spec_l7Any.l0]
    rw [if_neg (by omega)]
  | succ d ih =>
    intro l j g hd hl c
    obtain ⟨b0, b1, b2, b3, b4, b5, j1, g1, d1, p, c1⟩ := l5Draw_ev b hn j g c
    obtain ⟨r, j2, g2, e, hr, c2⟩ := ih (l ++ [(⟨b0, b1, b2, b3, b4, b5⟩ : S25)]) j1 g1 (by simp; omega) (smallL_snoc hl (by omega) p) c1
    refine ⟨r, j2, g2, Ev.step (f := fun k => (spec_l5Draw.f k b j g).bind fun t => if l.length < 1954687338268 then spec_l7Any.l0 k b t.2.2.2.2.2.2.1 t.2.2.2.2.2.2.2 a0 a1 a2 a3 a4 a5 a6 a7 a8 a9 a10 (l ++ [(⟨t.1, t.2.1, t.2.2.1, t.2.2.2.1, t.2.2.2.2.1, t.2.2.2.2.2.1⟩ : S25)]) else none) (fun k => ?_) (Ev.bind d1 (Ev_if (by omega) e)), hr, c2⟩
    simp only [spec_l7Any.l0]
    rw [if_pos (by omega)]
theorem l7Any_ev (b : List Int) (hn : b.length ≤ 140737488351232) (i h : Int) (c : CurOk b i) : ∃ a0 a1 a2 a3 a4 a5 a6 a7 a8 a9 a10 a11 j g, Ev (fun k => spec_l7Any.f k b i h) (a0, a1, a2, a3, a4, a5, a6, a7, a8, a9, a10, a11, j, g) ∧ (a7.size ≤ 60 ∧ smallL a9 ∧ smallL a10 ∧ smallL a11) ∧ CurOk b j := by
  unfold spec_l7Any.f
  obtain ⟨a0, a1, a2, a3, a4, a5, a6, a7, a8, a9, a10, a11, j1, g1, d1, ⟨p7, ⟨p9, q9⟩, p10, p11, q11⟩, c1⟩ := l7Draw_ev b hn i h c
  obtain ⟨x, j2, g2, e2, _, c2⟩ := l1Below_dr b hn j1 g1 12 c1
  by_cases q0 : x = 0
  · obtain ⟨s, j3, g3, e3, _, c3⟩ := l1Int_dr b hn j2 g2 [-1, 65535, 65536] (by simp) c2
    exact ⟨_, _, _, _, _, _, _, _, _, _, _, _, _, _, Ev.bind d1 (Ev.bind (Ev_c e2) (Ev_if q0 (Ev.bind (Ev_c e3) (Ev_some _)))), ⟨p7, p9, p10, p11⟩, c3⟩
  · by_cases q1 : x = 1
    · obtain ⟨s, j3, g3, e3, _, c3⟩ := l1Int_dr b hn j2 g2 [-1, 15, 16] (by simp) c2
      exact ⟨_, _, _, _, _, _, _, _, _, _, _, _, _, _, Ev.bind d1 (Ev.bind (Ev_c e2) (Ev_ifn q0 (Ev_if q1 (Ev.bind (Ev_c e3) (Ev_some _))))), ⟨p7, p9, p10, p11⟩, c3⟩
    · by_cases q2 : x = 2
      · obtain ⟨s, j3, g3, e3, p3, c3⟩ := l3Any_dr b hn j2 g2 c2
        exact ⟨_, _, _, _, _, _, _, _, _, _, _, _, _, _, Ev.bind d1 (Ev.bind (Ev_c e2) (Ev_ifn q0 (Ev_ifn q1 (Ev_if q2 (Ev.bind (Ev_c e3) (Ev_some _)))))), ⟨p3, p9, p10, p11⟩, c3⟩
      · by_cases q3 : x = 3
        · obtain ⟨s, j3, g3, e3, _, c3⟩ := l1Int_dr b hn j2 g2 [0, 3, 255] (by simp) c2
          exact ⟨_, _, _, _, _, _, _, _, _, _, _, _, _, _, Ev.bind d1 (Ev.bind (Ev_c e2) (Ev_ifn q0 (Ev_ifn q1 (Ev_ifn q2 (Ev_if q3 (Ev.bind (Ev_c e3) (Ev_some _))))))), ⟨p7, p9, p10, p11⟩, c3⟩
        · by_cases q4 : x = 4
          · obtain ⟨b0, b1, b2, b3, b4, b5, j3, g3, d3, p3, c3⟩ := l5Any_ev b hn j2 g2 c2
            exact ⟨_, _, _, _, _, _, _, _, _, _, _, _, _, _, Ev.bind d1 (Ev.bind (Ev_c e2) (Ev_ifn q0 (Ev_ifn q1 (Ev_ifn q2 (Ev_ifn q3 (Ev_if q4 (Ev.bind d3 (Ev_if (by show a9.length < 1954687338268; omega) (Ev_some _))))))))), ⟨p7, smallL_snoc p9 (by omega) p3, p10, p11⟩, c3⟩
          · by_cases q5 : x = 5
            · obtain ⟨r, j3, g3, e3, hr, c3⟩ := l7Any_loop b hn a0 a1 a2 a3 a4 a5 a6 a7 a8 a9 a10 (9 - a11.length) a11 j2 g2 (by omega) p11 c2
              exact ⟨_, _, _, _, _, _, _, _, _, _, _, _, _, _, Ev.bind d1 (Ev.bind (Ev_c e2) (Ev_ifn q0 (Ev_ifn q1 (Ev_ifn q2 (Ev_ifn q3 (Ev_ifn q4 (Ev_if q5 e3))))))), ⟨p7, p9, p10, hr⟩, c3⟩
            · exact ⟨_, _, _, _, _, _, _, _, _, _, _, _, _, _, Ev.bind d1 (Ev.bind (Ev_c e2) (Ev_ifn q0 (Ev_ifn q1 (Ev_ifn q2 (Ev_ifn q3 (Ev_ifn q4 (Ev_ifn q5 (Ev_some _)))))))), ⟨p7, p9, p10, p11⟩, c2⟩
theorem drawReplyTo_ev (l : List Int) (hn : l.length ≤ 140737488351232) : ∃ a0 a1 a2 a3 a4 a5 a6 a7 a8 a9 a10 a11 co au x y z, Ev (fun k => spec_DrawReplyTo.f k l) (a0, a1, a2, a3, a4, a5, a6, a7, a8, a9, a10, a11, co, au, x, y, z) ∧ x.length ≤ 2 ∧ y.length ≤ 2 ∧ z.length ≤ 2 := by
  unfold spec_DrawReplyTo.f
  obtain ⟨g, e0⟩ := l1New_ev l hn
  obtain ⟨a0, a1, a2, a3, a4, a5, a6, a7, a8, a9, a10, a11, j1, g1, d1, _, c1⟩ := l7Any_ev l hn 0 g (cur0 l)
  obtain ⟨r1, j2, g2, d2, p2, _, c2⟩ := l5List_ev l hn j1 g1 2 (by omega) c1
  obtain ⟨r2, j3, g3, d3, p3, _, c3⟩ := l5List_ev l hn j2 g2 2 (by omega) c2
  obtain ⟨r3, j4, g4, d4, p4, _, c4⟩ := l5List_ev l hn j3 g3 2 (by omega) c3
  obtain ⟨co, j5, g5, e5, _, c5⟩ := l1Below_dr l hn j4 g4 6 c4
  obtain ⟨au, j6, g6, e6, _, c6⟩ := l1Once_dr l hn j5 g5 2 c5
  exact ⟨a0, a1, a2, a3, a4, a5, a6, a7, a8, a9, a10, a11, co, au, r1, r2, r3, Ev.bind e0 (Ev.bind d1 (Ev.bind d2 (Ev.bind d3 (Ev.bind d4 (Ev.bind (Ev_c e5) (Ev.bind (Ev_c e6) (Ev_some _))))))), p2, p3, p4⟩
theorem drawAskMsg_ev (l : List Int) (hn : l.length ≤ 140737488351232) : ∃ n nm ty, Ev (fun k => spec_DrawAskMsg.f k l) (n, nm, ty) := by
  unfold spec_DrawAskMsg.f
  obtain ⟨g, e0⟩ := l1New_ev l hn
  obtain ⟨n, j1, g1, e1, _, c1⟩ := l1Below_dr l hn 0 g 70000 (cur0 l)
  obtain ⟨nm, ty, j2, g2, e2, _, c2⟩ := l7Quest_ev l hn j1 g1 c1
  exact ⟨n, nm, ty, Ev.bind e0 (Ev.bind (Ev_c e1) (Ev.bind (Ev_c e2) (Ev_some _)))⟩
theorem drawSameMsg_ev (l : List Int) (hn : l.length ≤ 140737488351232) : ∃ a0 a1 a2 a3 a4 a5 a6 a7 a8 a9 a10 a11 b0 b1 b2 b3 b4 b5 b6 b7 b8 b9 b10 b11, Ev (fun k => spec_DrawSameMsg.f k l) (a0, a1, a2, a3, a4, a5, a6, a7, a8, a9, a10, a11, b0, b1, b2, b3, b4, b5, b6, b7, b8, b9, b10, b11) ∧ a7.size ≤ 60 ∧ smallL a9 ∧ smallL a10 ∧ smallL a11 := by
  unfold spec_DrawSameMsg.f
  obtain ⟨g, e0⟩ := l1New_ev l hn
  obtain ⟨a0, a1, a2, a3, a4, a5, a6, a7, a8, a9, a10, a11, j1, g1, d1, p1, c1⟩ := l7Any_ev l hn 0 g (cur0 l)
  obtain ⟨x, j2, g2, e2, _, c2⟩ := l1Below_dr l hn j1 g1 4 c1
  by_cases q0 : x = 0
  · obtain ⟨b0, b1, b2, b3, b4, b5, b6, b7, b8, b9, b10, b11, j3, g3, d3, _, c3⟩ := l7Any_ev l hn j2 g2 c2
    exact ⟨a0, a1, a2, a3, a4, a5, a6, a7, a8, a9, a10, a11, b0, b1, b2, b3, b4, b5, b6, b7, b8, b9, b10, b11, Ev.bind e0 (Ev.bind d1 (Ev.bind (Ev_c e2) (Ev_if q0 (Ev.bind d3 (Ev_some _))))), p1⟩
  · by_cases q1 : x = 1
    · exact ⟨a0, a1, a2, a3, a4, a5, a6, a7, a8, a9, a10, a11, a0, a1, !a2, a3, a4, a5, a6, a7, a8, a9, a10, a11, Ev.bind e0 (Ev.bind d1 (Ev.bind (Ev_c e2) (Ev_ifn q0 (Ev_if q1 (Ev_some _))))), p1⟩
    · exact ⟨a0, a1, a2, a3, a4, a5, a6, a7, a8, a9, a10, a11, a0, a1, a2, a3, a4, a5, a6, a7, a8, a9, a10, a11, Ev.bind e0 (Ev.bind d1 (Ev.bind (Ev_c e2) (Ev_ifn q0 (Ev_ifn q1 (Ev_some _))))), p1⟩
/-- Whether two records differ, as '!=' of the struct spells it. -/
def recNe (x y : S25) : Bool := !(x.f0.toList == y.f0.toList) || (!(x.f1 == y.f1) || (!(x.f2 == y.f2) || (!(x.f3 == y.f3) || (!(x.f4.toList == y.f4.toList) || (!(x.f5.toList == y.f5.toList))))))
theorem recNe_iff (x y : S25) : recNe x y = false ↔ x = y := by
  obtain ⟨a0, a1, a2, a3, a4, a5⟩ := x
  obtain ⟨b0, b1, b2, b3, b4, b5⟩ := y
  simp [recNe, toList_inj]
/-- What SameRecords answers. -/
def sameL : List S25 → List S25 → Bool
  | [], [] => true
  | x :: a, y :: b => if recNe x y = true then false else sameL a b
  | _, _ => false
theorem sameL_iff : ∀ (a b : List S25), sameL a b = true ↔ a = b
  | [], [] => by simp [sameL]
  | [], _ :: _ => by simp [sameL]
  | _ :: _, [] => by simp [sameL]
  | x :: a, y :: b => by
    unfold sameL
    have := recNe_iff x y
    cases h : recNe x y with
    | true =>
      have hne : x ≠ y := fun e => by rw [this.2 e] at h; cases h
      simp [hne]
    | false =>
      rw [if_neg (by decide), sameL_iff a b]
      have e := this.1 h
      simp [e]
theorem sameL_len : ∀ (a b : List S25), a.length ≠ b.length → sameL a b = false
  | [], [], h => absurd rfl h
  | [], _ :: _, _ => rfl
  | _ :: _, [], _ => rfl
  | x :: a, y :: b, h => by
    unfold sameL
    rw [sameL_len a b (by simpa using h)]
    split <;> rfl
theorem slices_Equal_loop (a b : List S25) (hab : a.length = b.length) (hn : a.length ≤ 140737488351232) : ∀ (d i : Nat), i + d = a.length →
    Ev (fun k => slices_Equal_impl_Record.l0 k a b (a.length : Int) (i : Int)) (sameL (a.drop i) (b.drop i)) := by
  intro d
  induction d with
  | zero =>
    intro i hi
    rw [List.drop_of_length_le (by omega), List.drop_of_length_le (by omega)]
    refine Ev.step (f := fun _ => some true) (fun k => ?_) ⟨0, fun _ _ => rfl⟩
    simp only [slices_Equal_impl_Record.l0]
    rw [if_neg (by omega)]
  | succ d ih =>
    intro i hi
    have hw := wrap_succ i a.length (by omega) (by omega)
    have ha : i < a.length := by omega
    have hb : i < b.length := by omega
    rw [List.drop_eq_getElem_cons ha, List.drop_eq_getElem_cons hb, sameL]
    refine Ev.step (f := fun k => if recNe a[i] b[i] = true then some false else slices_Equal_impl_Record.l0 k a b (a.length : Int) ((i + 1 : Nat) : Int)) (fun k => ?_) ?_
    · simp only [slices_Equal_impl_Record.l0]
      rw [if_pos (by omega), if_pos (by omega), if_pos (by omega), if_pos (by omega), rdR_getElem a i ha, rdR_getElem b i hb, hw]
      rfl
    · cases h : recNe a[i] b[i] with
      | true => exact ⟨0, fun _ _ => rfl⟩
      | false => simpa using ih (i + 1) (by omega)
theorem impl_SameRecords_eq (a b : List S25) (hn : a.length ≤ 140737488351232) : Ev (fun k => impl_SameRecords.f k a b) (sameL a b) := by
  unfold impl_SameRecords.f
  refine Ev.bind (a := sameL a b) ?_ ⟨0, fun _ _ => rfl⟩
  unfold slices_Equal_impl_Record.f
  by_cases h : a.length = b.length
  · have h' : (a.length : Int) = (b.length : Int) := by omega
    simp only [if_pos h']
    simpa using slices_Equal_loop a b h hn a.length 0 (by omega)
  · have h' : ¬ (a.length : Int) = (b.length : Int) := by omega
    simp only [if_neg h']
    rw [sameL_len a b h]
    exact Ev.now _
theorem Ev_ite {α : Type} {c : Prop} [Decidable c] {f g : Nat → Option α} {x y : α} (h1 : c → Ev f x) (h2 : ¬ c → Ev g y) : Ev (fun k => if c then f k else g k) (if c then x else y) := by
  by_cases h : c
  · simp only [if_pos h]
    exact h1 h
  · simp only [if_neg h]
    exact h2 h
/-- What SameMsg answers. -/
def sameM (a0 : Int) (a1 a2 a3 a4 a5 : Bool) (a6 : Int) (a7 : ByteArray) (a8 : Int) (l9 l10 l11 : List S25) (b0 : Int) (b1 b2 b3 b4 b5 : Bool) (b6 : Int) (b7 : ByteArray) (b8 : Int) (m9 m10 m11 : List S25) : Bool :=
  if a0 = b0 then (if (a1 == b1) = true then (if (a2 == b2) = true then (if (a3 == b3) = true then (if (a4 == b4) = true then (if (a5 == b5) = true then (if a6 = b6 then (if (a7.toList == b7.toList && (a8 == b8)) = true then (if sameL l9 m9 = true then (if sameL l10 m10 = true then sameL l11 m11 else false) else false) else false) else false) else false) else false) else false) else false) else false) else false
theorem impl_SameMsg_eq (a0 : Int) (a1 a2 a3 a4 a5 : Bool) (a6 : Int) (a7 : ByteArray) (a8 : Int) (l9 l10 l11 : List S25) (b0 : Int) (b1 b2 b3 b4 b5 : Bool) (b6 : Int) (b7 : ByteArray) (b8 : Int) (m9 m10 m11 : List S25) (h9 : l9.length ≤ 140737488351232) (h10 : l10.length ≤ 140737488351232) (h11 : l11.length ≤ 140737488351232) :
    Ev (fun k => impl_SameMsg.f k a0 a1 a2 a3 a4 a5 a6 a7 a8 l9 l10 l11 b0 b1 b2 b3 b4 b5 b6 b7 b8 m9 m10 m11) (sameM a0 a1 a2 a3 a4 a5 a6 a7 a8 l9 l10 l11 b0 b1 b2 b3 b4 b5 b6 b7 b8 m9 m10 m11) := by
  unfold impl_SameMsg.f sameM
  refine Ev_ite (fun _ => ?_) (fun _ => Ev.now _)
  refine Ev_ite (fun _ => ?_) (fun _ => Ev.now _)
  refine Ev_ite (fun _ => ?_) (fun _ => Ev.now _)
  refine Ev_ite (fun _ => ?_) (fun _ => Ev.now _)
  refine Ev_ite (fun _ => ?_) (fun _ => Ev.now _)
  refine Ev_ite (fun _ => ?_) (fun _ => Ev.now _)
  refine Ev_ite (fun _ => ?_) (fun _ => Ev.now _)
  refine Ev_ite (fun _ => ?_) (fun _ => Ev.now _)
  refine Ev.bind (impl_SameRecords_eq l9 m9 h9) (Ev_ite (fun _ => ?_) (fun _ => Ev.now _))
  refine Ev.bind (impl_SameRecords_eq l10 m10 h10) (Ev_ite (fun _ => ?_) (fun _ => Ev.now _))
  exact Ev.bind (impl_SameRecords_eq l11 m11 h11) (Ev.now _)
/-- What CountsOf answers. -/
def cntM (l9 l10 l11 : List S25) : Int := wrap64 ((wrap64 ((l9.length : Int) + (l10.length : Int))) + (l11.length : Int))
theorem spec_CountsOf_eq (a0 : Int) (a1 a2 a3 a4 a5 : Bool) (a6 : Int) (a7 : ByteArray) (a8 : Int) (l9 l10 l11 : List S25) : Ev (fun _ => spec_CountsOf.f a0 a1 a2 a3 a4 a5 a6 a7 a8 l9 l10 l11) (cntM l9 l10 l11) := ⟨0, fun _ _ => rfl⟩
theorem impl_CountsOf_eq (a0 : Int) (a1 a2 a3 a4 a5 : Bool) (a6 : Int) (a7 : ByteArray) (a8 : Int) (l9 l10 l11 : List S25) : Ev (fun _ => impl_CountsOf.f a0 a1 a2 a3 a4 a5 a6 a7 a8 l9 l10 l11) (cntM l9 l10 l11) := ⟨0, fun _ _ => rfl⟩
theorem sameRecsG_loop (a b : List S25) (hab : a.length = b.length) (hn : a.length ≤ 1000000) : ∀ (d i : Nat), i + d = a.length →
    Ev (fun k => laws_sameRecs.l0 k a b (i : Int)) (sameL (a.drop i) (b.drop i)) := by
  intro d
  induction d with
  | zero =>
    intro i hi
    rw [List.drop_of_length_le (by omega), List.drop_of_length_le (by omega)]
    refine Ev.step (f := fun _ => some true) (fun k => ?_) ⟨0, fun _ _ => rfl⟩
    simp only [laws_sameRecs.l0]
    rw [if_neg (by omega)]
  | succ d ih =>
    intro i hi
    have hw := wrap_succ i a.length (by omega) (by omega)
    have ha : i < a.length := by omega
    have hb : i < b.length := by omega
    rw [List.drop_eq_getElem_cons ha, List.drop_eq_getElem_cons hb, sameL]
    refine Ev.step (f := fun k => if recNe a[i] b[i] = true then some false else laws_sameRecs.l0 k a b ((i + 1 : Nat) : Int)) (fun k => ?_) ?_
    · simp only [laws_sameRecs.l0]
      rw [if_pos (by omega), if_pos (by omega), if_pos (by omega), rdR_getElem a i ha, rdR_getElem b i hb, hw]
      rfl
    · cases h : recNe a[i] b[i] with
      | true => exact ⟨0, fun _ _ => rfl⟩
      | false => simpa using ih (i + 1) (by omega)
theorem sameRecsG_eq (a b : List S25) (hn : a.length ≤ 1000000) : Ev (fun k => laws_sameRecs.f k a b) (sameL a b) := by
  unfold laws_sameRecs.f
  by_cases h : a.length = b.length
  · have := sameRecsG_loop a b h hn a.length 0 (by omega)
    exact Ev_if (by omega) (by simpa using this)
  · rw [sameL_len a b h]
    exact Ev_ifn (by omega) (Ev_some _)
theorem sameL_self (a : List S25) : sameL a a = true := (sameL_iff a a).2 rfl
theorem sameMsgG_eq (a0 : Int) (a1 a2 a3 a4 a5 : Bool) (a6 : Int) (a7 : ByteArray) (a8 : Int) (l9 l10 l11 : List S25) (b0 : Int) (b1 b2 b3 b4 b5 : Bool) (b6 : Int) (b7 : ByteArray) (b8 : Int) (m9 m10 m11 : List S25) (h9 : l9.length ≤ 1000000) (h10 : l10.length ≤ 1000000) (h11 : l11.length ≤ 1000000) :
    Ev (fun k => laws_sameMsg.f k a0 a1 a2 a3 a4 a5 a6 a7 a8 l9 l10 l11 b0 b1 b2 b3 b4 b5 b6 b7 b8 m9 m10 m11) (sameM a0 a1 a2 a3 a4 a5 a6 a7 a8 l9 l10 l11 b0 b1 b2 b3 b4 b5 b6 b7 b8 m9 m10 m11) := by
  unfold laws_sameMsg.f sameM
  refine Ev_ite (fun _ => ?_) (fun _ => Ev.now _)
  refine Ev_ite (fun _ => ?_) (fun _ => Ev.now _)
  refine Ev_ite (fun _ => ?_) (fun _ => Ev.now _)
  refine Ev_ite (fun _ => ?_) (fun _ => Ev.now _)
  refine Ev_ite (fun _ => ?_) (fun _ => Ev.now _)
  refine Ev_ite (fun _ => ?_) (fun _ => Ev.now _)
  refine Ev_ite (fun _ => ?_) (fun _ => Ev.now _)
  refine Ev_ite (fun _ => ?_) (fun _ => Ev.now _)
  refine Ev.bind (sameRecsG_eq l9 m9 h9) (Ev_ite (fun _ => ?_) (fun _ => Ev.now _))
  refine Ev.bind (sameRecsG_eq l10 m10 h10) (Ev_ite (fun _ => ?_) (fun _ => Ev.now _))
  exact Ev.bind (sameRecsG_eq l11 m11 h11) (Ev.now _)
theorem sameM_self (a0 : Int) (a1 a2 a3 a4 a5 : Bool) (a6 : Int) (a7 : ByteArray) (a8 : Int) (l9 l10 l11 : List S25) : sameM a0 a1 a2 a3 a4 a5 a6 a7 a8 l9 l10 l11 a0 a1 a2 a3 a4 a5 a6 a7 a8 l9 l10 l11 = true := by
  unfold sameM
  simp only [beq_self_eq_true, Bool.and_self, if_true, sameL_self]
theorem replyS_eq (a0 : Int) (a1 a2 a3 a4 a5 : Bool) (a6 : Int) (a7 : ByteArray) (a8 : Int) (x9 x10 x11 : List S25) (q1 : Int) (q2 : Bool) (x3 x4 x5 : List S25) (h3 : x3.length ≤ 1000000) (h4 : x4.length ≤ 1000000) (h5 : x5.length ≤ 1000000) : spec_ReplyTo.f a0 a1 a2 a3 a4 a5 a6 a7 a8 x9 x10 x11 q1 q2 x3 x4 x5 = some (a0, true, q2, false, a4, false, q1, a7, a8, x3, x4, x5) := by
  unfold spec_ReplyTo.f spec_l7Copy.f
  simp only [Option.bind_some, List.length_nil, List.nil_append, Nat.zero_add]
  rw [if_pos (by omega), if_pos (by omega), if_pos (by omega)]
  rfl
theorem replyI_eq (a0 : Int) (a1 a2 a3 a4 a5 : Bool) (a6 : Int) (a7 : ByteArray) (a8 : Int) (x9 x10 x11 : List S25) (q1 : Int) (q2 : Bool) (x3 x4 x5 : List S25) (h3 : x3.length ≤ 1000000) (h4 : x4.length ≤ 1000000) (h5 : x5.length ≤ 1000000) : impl_ReplyTo.f a0 a1 a2 a3 a4 a5 a6 a7 a8 x9 x10 x11 q1 q2 x3 x4 x5 = some (a0, true, q2, false, a4, false, q1, a7, a8, x3, x4, x5) := by
  unfold impl_ReplyTo.f impl_copyMsg.f slices_Clone_impl_Record.f
  simp only [Option.bind_some, List.length_nil, List.nil_append, Nat.zero_add]
  rw [if_pos (by omega), if_pos (by omega), if_pos (by omega)]
  rfl
theorem cntM_nil : (cntM [] [] [] == 0) = true := by
  have z : wrap64 0 = 0 := wrap_id (by omega) (by omega)
  unfold cntM
  simp [z]
theorem spec_NumText_pos (x0 : Int) (hx : ¬ x0 < 0) : ∀ (m : Nat) (s : List Int), m ≤ 9223372036854775808 → (decZ m).length + s.length ≤ 100 →
    m ≤ 9223372036854775807 → Ev (fun k => spec_NumText.l0 k x0 (strOfNums s) (m : Int)) (strOfNums (decZ m ++ s)) := by
  intro m
  induction m using Nat.strongRecOn with
  | _ m ih =>
    intro s hm hl hm2
    by_cases hz : m = 0
    · subst hz
      refine Ev.step (f := fun _ => some (strOfNums s)) (fun k => ?_) ⟨0, fun _ _ => by rw [decZ_zero, List.nil_append]⟩
      simp only [spec_NumText.l0]
      rw [if_pos (by simp), if_neg hx]
    · have hd := decZ_pos m hz
      have hl2 : (decZ m).length = (decZ (m / 10)).length + 1 := by rw [hd, List.length_append]; rfl
      have := ih (m / 10) (by omega) ((48 + ((m % 10 : Nat) : Int)) :: s) (by omega) (by rw [List.length_cons]; omega) (by omega)
      have e : decZ (m / 10) ++ (48 + ((m % 10 : Nat) : Int)) :: s = decZ m ++ s := by rw [hd, List.append_assoc]; rfl
      rw [e] at this
      refine Ev.step (f := fun k => spec_NumText.l0 k x0 (strOfNums ((48 + ((m % 10 : Nat) : Int)) :: s)) ((m / 10 : Nat) : Int)) (fun k => ?_) this
      simp only [spec_NumText.l0]
      rw [if_neg (by omega), tmod_pos, tdiv_pos, if_neg (by omega)]
      have w1 : wrap64 (48 + ((m % 10 : Nat) : Int)) % 256 = 48 + ((m % 10 : Nat) : Int) := by rw [wrap_id (by omega) (by omega)]; omega
      have w2 : wrap64 ((m / 10 : Nat) : Int) = ((m / 10 : Nat) : Int) := wrap_id (by omega) (by omega)
      rw [w1, w2]
      simp only [Option.bind_some]
      rw [if_pos (by rw [strOfNums_size, strOfNums_size]; simp; omega), ← strOfNums_append]
      rfl
theorem spec_NumText_neg (x0 : Int) (hx : x0 < 0) : ∀ (m : Nat) (s : List Int), m ≤ 9223372036854775808 → (decZ m).length + s.length ≤ 100 →
    Ev (fun k => spec_NumText.l0 k x0 (strOfNums s) (-(m : Int))) (strOfNums (45 :: (decZ m ++ s))) := by
  intro m
  induction m using Nat.strongRecOn with
  | _ m ih =>
    intro s hm hl
    by_cases hz : m = 0
    · subst hz
      refine Ev.step (f := fun _ => some (strOfNums (45 :: s))) (fun k => ?_) ⟨0, fun _ _ => by rw [decZ_zero, List.nil_append]⟩
      simp only [spec_NumText.l0]
      rw [if_pos (by simp), if_pos hx, if_pos (by rw [strOfNums_size]; omega)]
      rw [show (45 :: s) = [45] ++ s from rfl, strOfNums_append]
      rfl
    · have hd := decZ_pos m hz
      have hl2 : (decZ m).length = (decZ (m / 10)).length + 1 := by rw [hd, List.length_append]; rfl
      have := ih (m / 10) (by omega) ((48 + ((m % 10 : Nat) : Int)) :: s) (by omega) (by rw [List.length_cons]; omega)
      have e : decZ (m / 10) ++ (48 + ((m % 10 : Nat) : Int)) :: s = decZ m ++ s := by rw [hd, List.append_assoc]; rfl
      rw [e] at this
      refine Ev.step (f := fun k => spec_NumText.l0 k x0 (strOfNums ((48 + ((m % 10 : Nat) : Int)) :: s)) (-((m / 10 : Nat) : Int))) (fun k => ?_) this
      simp only [spec_NumText.l0]
      rw [if_neg (by omega), tmod_neg, tdiv_neg]
      have w2 : wrap64 (-((m / 10 : Nat) : Int)) = -((m / 10 : Nat) : Int) := wrap_id (by omega) (by omega)
      have w3 : wrap64 (-(-((m % 10 : Nat) : Int))) = ((m % 10 : Nat) : Int) := by rw [Int.neg_neg]; exact wrap_id (by omega) (by omega)
      have w1 : wrap64 (48 + ((m % 10 : Nat) : Int)) % 256 = 48 + ((m % 10 : Nat) : Int) := by rw [wrap_id (by omega) (by omega)]; omega
      rw [w2, w3, w1]
      by_cases hn : -((m % 10 : Nat) : Int) < 0
      · rw [if_pos hn]
        simp only [Option.bind_some]
        rw [if_pos (by rw [strOfNums_size, strOfNums_size]; simp; omega), ← strOfNums_append]
        rfl
      · rw [if_neg hn]
        have hz : ((m % 10 : Nat) : Int) = 0 := by omega
        rw [hz]
        have w4 : wrap64 (48 + (-0 : Int)) % 256 = 48 + 0 := by unfold wrap64; omega
        rw [w4]
        simp only [Option.bind_some]
        rw [if_pos (by rw [strOfNums_size, strOfNums_size]; simp; omega), ← strOfNums_append]
        rfl
theorem spec_NumText_eq (n : Int) (h : -9223372036854775808 ≤ n ∧ n ≤ 9223372036854775807) : Ev (fun k => spec_NumText.f k n) (numText n) := by
  unfold spec_NumText.f numText numL
  by_cases hz : n = 0
  · subst hz
    simp only [if_true]
    rw [if_neg (by decide)]
    refine ⟨0, fun _ _ => ?_⟩
    rw [show (0 : Int).natAbs = 0 from rfl, decN_small 0 (by decide)]
    rfl
  · simp only [if_neg hz]
    by_cases hn : n < 0
    · rw [if_pos hn, decN_pos _ (by omega)]
      have := spec_NumText_neg n hn n.natAbs [] (by omega) (by have := decZ_le n.natAbs (by omega); simp; omega)
      rw [show (-(n.natAbs : Int)) = n by omega, List.append_nil] at this
      exact this
    · rw [if_neg hn, decN_pos _ (by omega)]
      have := spec_NumText_pos n hn n.natAbs [] (by omega) (by have := decZ_le n.natAbs (by omega); simp; omega) (by omega)
      rw [show ((n.natAbs : Int)) = n by omega, List.append_nil] at this
      exact this
theorem impl_NumText_pos : ∀ (m : Nat), m ≤ 9223372036854775807 → Ev (fun k => impl_NumText.f k (m : Int)) (strOfNums (decN m)) := by
  intro m
  induction m using Nat.strongRecOn with
  | _ m ih =>
    intro hm
    refine Ev.step (f := fun k => impl_NumText.j0 k (m : Int) false) (fun k => ?_) ?_
    · simp only [impl_NumText.f]
      rw [if_neg (by omega)]
    · by_cases hs : m < 10
      · refine Ev.step (f := fun _ => some (strOfNums (decN m))) (fun k => ?_) ⟨0, fun _ _ => rfl⟩
        simp only [impl_NumText.j0]
        rw [if_neg (by decide), if_neg (by omega), if_pos (by omega), wrap_id (by omega) (by omega), wrap32_id (by omega) (by omega), encode_digit _ (by omega) (by omega), decN_small m hs]
      · have hq := ih (m / 10) (by omega) (by omega)
        refine Ev.step (f := fun k => (impl_NumText.f k ((m / 10 : Nat) : Int)).bind fun t => if t.size + (strOfNums [48 + ((m % 10 : Nat) : Int)]).size ≤ 9223372036854775807 then some (t ++ strOfNums [48 + ((m % 10 : Nat) : Int)]) else none) (fun k => ?_) (Ev.bind hq ?_)
        · simp only [impl_NumText.j0]
          rw [if_neg (by decide), if_neg (by omega), if_neg (by omega), tdiv_pos, tmod_pos, wrap_id (x := ((m / 10 : Nat) : Int)) (by omega) (by omega), wrap_id (x := 48 + ((m % 10 : Nat) : Int)) (by omega) (by omega), wrap32_id (by omega) (by omega), encode_digit _ (by omega) (by omega)]
        · refine ⟨0, fun _ _ => ?_⟩
          have := decN_le (m / 10) (by omega)
          rw [if_pos (by rw [strOfNums_size, strOfNums_size]; simp; omega), ← strOfNums_append, ← decN_step m (by omega)]
theorem impl_NumText_neg : ∀ (m : Nat), m ≠ 0 → m ≤ 9223372036854775808 → Ev (fun k => impl_NumText.f k (-(m : Int))) (strOfNums (45 :: decN m)) := by
  intro m
  induction m using Nat.strongRecOn with
  | _ m ih =>
    intro hz hm
    by_cases hs : m < 10
    · refine Ev.step (f := fun k => impl_NumText.j0 k (-(m : Int)) true) (fun k => ?_) ?_
      · simp only [impl_NumText.f]
        rw [if_pos (by omega)]
        have : -(m : Int) > -10 := by omega
        rw [decide_eq_true this]
      · refine Ev.step (f := fun k => (impl_NumText.f k (m : Int)).bind fun t => if 1 + t.size ≤ 9223372036854775807 then some ((⟨#[45]⟩ : ByteArray) ++ t) else none) (fun k => ?_) (Ev.bind (impl_NumText_pos m (by omega)) ?_)
        · simp only [impl_NumText.j0]
          rw [if_pos trivial, Int.neg_neg, wrap_id (by omega) (by omega)]
        · refine ⟨0, fun _ _ => ?_⟩
          have := decN_le m (by omega)
          rw [if_pos (by rw [strOfNums_size]; omega), show (45 :: decN m) = [45] ++ decN m from rfl, strOfNums_append]
          rfl
    · refine Ev.step (f := fun k => impl_NumText.j0 k (-(m : Int)) false) (fun k => ?_) ?_
      · simp only [impl_NumText.f]
        rw [if_pos (by omega)]
        have : ¬ -(m : Int) > -10 := by omega
        rw [decide_eq_false this]
      · refine Ev.step (f := fun k => (impl_NumText.f k (-((m / 10 : Nat) : Int))).bind fun t => (impl_NumText.f k ((m % 10 : Nat) : Int)).bind fun u => if t.size + u.size ≤ 9223372036854775807 then some (t ++ u) else none) (fun k => ?_)
          (Ev.bind (ih (m / 10) (by omega) (by omega) (by omega)) (Ev.bind (impl_NumText_pos (m % 10) (by omega)) ?_))
        · simp only [impl_NumText.j0]
          rw [if_neg (by decide), if_pos (by omega), tdiv_neg, tmod_neg, Int.neg_neg, wrap_id (x := -((m / 10 : Nat) : Int)) (by omega) (by omega), wrap_id (x := ((m % 10 : Nat) : Int)) (by omega) (by omega)]
        · refine ⟨0, fun _ _ => ?_⟩
          have h1 := decN_le (m / 10) (by omega)
          have h2 := decN_le (m % 10) (by omega)
          rw [if_pos (by rw [strOfNums_size, strOfNums_size, List.length_cons]; omega), ← strOfNums_append, decN_small (m % 10) (by omega), decN_step m (by omega)]
          rfl
theorem impl_NumText_eq (n : Int) (h : -9223372036854775808 ≤ n ∧ n ≤ 9223372036854775807) : Ev (fun k => impl_NumText.f k n) (numText n) := by
  unfold numText numL
  by_cases hn : n < 0
  · rw [if_pos hn]
    have := impl_NumText_neg n.natAbs (by omega) (by omega)
    rw [show (-(n.natAbs : Int)) = n by omega] at this
    exact this
  · rw [if_neg hn]
    have := impl_NumText_pos n.natAbs (by omega)
    rw [show ((n.natAbs : Int)) = n by omega] at this
    exact this
def spB : ByteArray := ⟨#[32]⟩
/-- A space and a word, for each word. -/
def tailSp : List ByteArray → List UInt8
  | [] => []
  | x :: l => 32 :: (x.data.toList ++ tailSp l)
theorem join_tail : ∀ (l : List ByteArray) (x : ByteArray), Lib.join ((x :: l).map (·.data.toList)) [32] = x.data.toList ++ tailSp l
  | [], x => by simp [Lib.join, List.intercalate, tailSp]
  | y :: l, x => by
    have ih := join_tail l y
    rw [tailSp, ← ih]
    simp [Lib.join, List.intercalate]
/-- Words behind each other, a space between. -/
def catSp : ByteArray → List ByteArray → ByteArray
  | a, [] => a
  | a, x :: l => catSp ((a ++ spB) ++ x) l
theorem catSp_data : ∀ (l : List ByteArray) (a : ByteArray), (catSp a l).data.toList = a.data.toList ++ tailSp l
  | [], a => by simp [catSp, tailSp]
  | x :: l, a => by
    rw [catSp, catSp_data l, ByteArray.data_append, ByteArray.data_append, Array.toList_append, Array.toList_append, tailSp]
    simp [spB]
theorem join_sp (x : ByteArray) (l : List ByteArray) (h : (catSp x l).size ≤ 140737488355328) (hl : l.length ≤ 1000) : strings_Join.f (x :: l) spB = some (catSp x l) := by
  unfold strings_Join.f
  have e : spB.data.toList = [32] := rfl
  have d := (join_tail l x).trans (catSp_data l x).symm
  rw [e, d, if_pos ⟨by rw [data_length]; exact h, by rw [List.length_cons]; omega⟩]
/-- A name as text: '.' for the root. -/
def dotS (a : ByteArray) : ByteArray := if a.toList = ([] : List UInt8) then (⟨#[46]⟩ : ByteArray) else a
theorem spec_l5Dot_eq (a : ByteArray) : spec_l5Dot.f a = some (dotS a) := by
  unfold spec_l5Dot.f dotS
  split <;> rfl
theorem impl_nameText_eq (a : ByteArray) : impl_nameText.f a = some (dotS a) := by
  unfold impl_nameText.f dotS
  split <;> rfl
theorem dotS_size (a : ByteArray) : (dotS a).size ≤ a.size + 1 := by
  unfold dotS
  split
  · have : (⟨#[46]⟩ : ByteArray).size = 1 := rfl
    omega
  · omega
theorem typeText_both (n : Int) : ∃ t : ByteArray, spec_TypeText.f n = some t ∧ impl_TypeText.f n = some t ∧ t.size ≤ 6 := by
  unfold spec_TypeText.f impl_TypeText.f
  by_cases h1 : n = 1
  · exact ⟨_, by rw [if_pos h1], by rw [if_pos h1], by decide⟩
  · by_cases h2 : n = 2
    · exact ⟨_, by rw [if_neg h1, if_pos h2], by rw [if_neg h1, if_pos h2], by decide⟩
    · by_cases h5 : n = 5
      · exact ⟨_, by rw [if_neg h1, if_neg h2, if_pos h5], by rw [if_neg h1, if_neg h2, if_pos h5], by decide⟩
      · by_cases h6 : n = 6
        · exact ⟨_, by rw [if_neg h1, if_neg h2, if_neg h5, if_pos h6], by rw [if_neg h1, if_neg h2, if_neg h5, if_pos h6], by decide⟩
        · by_cases h16 : n = 16
          · exact ⟨_, by rw [if_neg h1, if_neg h2, if_neg h5, if_neg h6, if_pos h16], by rw [if_neg h1, if_neg h2, if_neg h5, if_neg h6, if_pos h16], by decide⟩
          · exact ⟨_, by rw [if_neg h1, if_neg h2, if_neg h5, if_neg h6, if_neg h16], by rw [if_neg h1, if_neg h2, if_neg h5, if_neg h6, if_neg h16], by decide⟩
theorem numText_size (n : Int) (h : -9223372036854775808 ≤ n ∧ n ≤ 9223372036854775807) : (numText n).size ≤ 22 := by
  unfold numText
  rw [strOfNums_size]
  exact numL_le n h
theorem spB_size : spB.size = 1 := rfl
theorem cat_size (a b : ByteArray) : (a ++ b).size = a.size + b.size := ByteArray.size_append
theorem catSp_size : ∀ (l : List ByteArray) (a : ByteArray), (catSp a l).size = a.size + szSs l + l.length
  | [], a => by simp [catSp, szSs]
  | x :: l, a => by
    rw [catSp, catSp_size l, cat_size, cat_size, spB_size, szSs_cons, List.length_cons]
    omega
/-- A record's text out of its words. -/
def rtextW (A B ty N H : ByteArray) (a1 : Int) (a5 : ByteArray) : ByteArray :=
  if a1 = 1 then catSp A [B, ty, N] else if a1 = 6 then catSp A [B, ty, H, N] else if a1 = 16 then catSp A [B, ty, (⟨#[39]⟩ : ByteArray) ++ a5] else catSp A [B, ty, H]
theorem rtextW_size (A B ty N H : ByteArray) (a1 : Int) (a5 : ByteArray) (hA : A.size ≤ 1048577) (hB : B.size ≤ 22) (ht : ty.size ≤ 6) (hN : N.size ≤ 22) (hH : H.size ≤ 1048577) (h5 : a5.size ≤ 1048576) : 3 ≤ (rtextW A B ty N H a1 a5).size ∧ (rtextW A B ty N H a1 a5).size ≤ 3000000 := by
  have e39 : (⟨#[39]⟩ : ByteArray).size = 1 := rfl
  unfold rtextW
  split
  · rw [catSp_size]
    simp only [szSs_cons, szSs_nil, List.length_cons, List.length_nil]
    omega
  · split
    · rw [catSp_size]
      simp only [szSs_cons, szSs_nil, List.length_cons, List.length_nil]
      omega
    · split
      · rw [catSp_size]
        simp only [szSs_cons, szSs_nil, List.length_cons, List.length_nil, cat_size, e39]
        omega
      · rw [catSp_size]
        simp only [szSs_cons, szSs_nil, List.length_cons, List.length_nil]
        omega
/-- What RecordText returns: one text, by the reference and by the program; none for a record that is not right. -/
theorem recText_both (a0 : ByteArray) (a1 a2 a3 : Int) (a4 a5 : ByteArray) (h0 : a0.size ≤ 1048576) (h4 : a4.size ≤ 1048576) (h5 : a5.size ≤ 1048576) (h2 : -9223372036854775808 ≤ a2 ∧ a2 ≤ 9223372036854775807) (h3 : -9223372036854775808 ≤ a3 ∧ a3 ≤ 9223372036854775807) :
    ∃ t : ByteArray, Ev (fun k => spec_RecordText.f k a0 a1 a2 a3 a4 a5) t ∧ Ev (fun k => impl_RecordText.f k a0 a1 a2 a3 a4 a5) t ∧ t.size ≤ 3000000 ∧ (t.size = 0 ↔ recOk a0 a1 a2 a3 a4 a5 = false) := by
  unfold spec_RecordText.f impl_RecordText.f
  have hs := spec_RecordOk_eq a0 a1 a2 a3 a4 a5 h0 h4 h5
  have hi := impl_RecordOk_eq a0 a1 a2 a3 a4 a5 h0 h4 h5
  cases h : recOk a0 a1 a2 a3 a4 a5 with
  | false =>
    rw [h] at hs hi
    exact ⟨_, Ev.bind hs (Ev_ifn (by decide) (Ev_some _)), Ev.bind hi (Ev_ifn (by decide) (Ev_some _)), by decide, ⟨fun _ => rfl, fun _ => rfl⟩⟩
  | true =>
    rw [h] at hs hi
    have ht := recOk_type h
    obtain ⟨ty, t1, t2, t3⟩ := typeText_both a1
    have d0 := dotS_size a0
    have d4 := dotS_size a4
    have n2 := numText_size a2 h2
    have n3 := numText_size a3 h3
    have sn2 := spec_NumText_eq a2 h2
    have sn3 := spec_NumText_eq a3 h3
    have in2 := impl_NumText_eq a2 h2
    have in3 := impl_NumText_eq a3 h3
    have e32 : (⟨#[32]⟩ : ByteArray) = spB := rfl
    have zs := spB_size
    have e39 : (⟨#[39]⟩ : ByteArray).size = 1 := rfl
    rw [t1, t2, spec_l5Dot_eq, spec_l5Dot_eq, impl_nameText_eq]
    simp only [Option.bind_some, e32]
    have j0 : ∀ (k : Nat) (b : Bool), impl_RecordText.j0 (k + 1) [dotS a0, numText a2, ty] a1 b a0 a1 a2 a3 a4 a5 = if b = true then strings_Join.f [dotS a0, numText a2, ty, dotS a4] spB else if a1 = 6 then (impl_NumText.f k a3).bind (fun t => strings_Join.f [dotS a0, numText a2, ty, dotS a4, t] spB) else if a1 = 16 then strings_Join.f [dotS a0, numText a2, ty, (⟨#[39]⟩ : ByteArray) ++ a5] spB else strings_Join.f [dotS a0, numText a2, ty] spB := by
      intro k b
      simp only [impl_RecordText.j0]
      rw [impl_nameText_eq]
      have o : ∀ x : Option ByteArray, (x.bind fun t => some t) = x := fun x => by cases x <;> rfl
      simp only [Option.bind_some, o, e32]
      rw [if_pos (show [dotS a0, numText a2, ty].length < 8796093022208 by simp), if_pos (show 1 + a5.size ≤ 9223372036854775807 by omega)]
      simp
    have z : (rtextW (dotS a0) (numText a2) ty (numText a3) (dotS a4) a1 a5).size ≤ 3000000 := (rtextW_size _ _ _ _ _ a1 a5 (by omega) n2 t3 n3 (by omega) h5).2
    have z3 := (rtextW_size (dotS a0) (numText a2) ty (numText a3) (dotS a4) a1 a5 (by omega) n2 t3 n3 (by omega) h5).1
    refine ⟨rtextW (dotS a0) (numText a2) ty (numText a3) (dotS a4) a1 a5, Ev.bind hs (Ev_if rfl ?_), Ev.bind hi (Ev_if rfl (Ev.bind in2 ?_)), z, ⟨fun q => by omega, fun q => by cases q⟩⟩
    · refine Ev_if (by omega) (Ev.bind sn2 (Ev_if (by simp only [cat_size]; omega) (Ev_if (by simp only [cat_size]; omega) (Ev_if (by simp only [cat_size]; omega) (Ev_if (by simp only [cat_size]; omega) ?_)))))
      by_cases c1 : a1 = 1
      · have e : rtextW (dotS a0) (numText a2) ty (numText a3) (dotS a4) a1 a5 = catSp (dotS a0) [numText a2, ty, numText a3] := by unfold rtextW; rw [if_pos c1]
        rw [e]
        exact Ev_if c1 (Ev.bind sn3 (Ev_if (by simp only [cat_size]; omega) (Ev_some _)))
      · refine Ev_ifn c1 ?_
        by_cases c6 : a1 = 6
        · have e : rtextW (dotS a0) (numText a2) ty (numText a3) (dotS a4) a1 a5 = catSp (dotS a0) [numText a2, ty, dotS a4, numText a3] := by unfold rtextW; rw [if_neg c1, if_pos c6]
          rw [e]
          exact Ev_if c6 (Ev_if (by simp only [cat_size]; omega) (Ev_if (by simp only [cat_size]; omega) (Ev.bind sn3 (Ev_if (by simp only [cat_size]; omega) (Ev_some _)))))
        · refine Ev_ifn c6 ?_
          by_cases c16 : a1 = 16
          · have e : rtextW (dotS a0) (numText a2) ty (numText a3) (dotS a4) a1 a5 = catSp (dotS a0) [numText a2, ty, (⟨#[39]⟩ : ByteArray) ++ a5] := by unfold rtextW; rw [if_neg c1, if_neg c6, if_pos c16]
            rw [e]
            refine Ev_if c16 (Ev_if (by simp only [cat_size]; omega) (Ev_if (by simp only [cat_size]; omega) ⟨0, fun _ _ => ?_⟩))
            rw [ByteArray.append_assoc]
            rfl
          · have e : rtextW (dotS a0) (numText a2) ty (numText a3) (dotS a4) a1 a5 = catSp (dotS a0) [numText a2, ty, dotS a4] := by unfold rtextW; rw [if_neg c1, if_neg c6, if_neg c16]
            rw [e]
            exact Ev_ifn c16 (Ev_if (by simp only [cat_size]; omega) (Ev_some _))
    · unfold rtextW at z ⊢
      by_cases c1 : a1 = 1
      · rw [if_pos c1] at z ⊢
        refine Ev_if c1 (Ev.bind in3 (Ev_if (by simp) ?_))
        rw [show [dotS a0, numText a2, ty] ++ [numText a3] = dotS a0 :: [numText a2, ty, numText a3] from rfl, join_sp _ _ (by omega) (by simp)]
        exact Ev_some _
      · rw [if_neg c1] at z ⊢
        refine Ev_ifn c1 ?_
        have key : ∀ b : Bool, b = decide (a1 = 2 ∨ a1 = 5) → Ev (fun k => impl_RecordText.j0 k [dotS a0, numText a2, ty] a1 b a0 a1 a2 a3 a4 a5) (if a1 = 6 then catSp (dotS a0) [numText a2, ty, dotS a4, numText a3] else if a1 = 16 then catSp (dotS a0) [numText a2, ty, (⟨#[39]⟩ : ByteArray) ++ a5] else catSp (dotS a0) [numText a2, ty, dotS a4]) := by
          intro b hb
          by_cases c : a1 = 2 ∨ a1 = 5
          · rw [decide_eq_true c] at hb
            subst hb
            rw [if_neg (by omega), if_neg (by omega)] at z ⊢
            refine Ev.step (f := fun _ => some (catSp (dotS a0) [numText a2, ty, dotS a4])) (fun k => ?_) (Ev_some _)
            rw [j0, if_pos rfl, join_sp _ _ (by omega) (by simp)]
          · rw [decide_eq_false c] at hb
            subst hb
            by_cases c6 : a1 = 6
            · rw [if_pos c6] at z ⊢
              refine Ev.step (f := fun k => (impl_NumText.f k a3).bind (fun t => strings_Join.f [dotS a0, numText a2, ty, dotS a4, t] spB)) (fun k => ?_) (Ev.bind in3 ⟨0, fun _ _ => ?_⟩)
              · rw [j0, if_neg (by decide), if_pos c6]
              · exact join_sp _ _ (by omega) (by simp)
            · rw [if_neg c6, if_pos (by omega)] at z ⊢
              refine Ev.step (f := fun _ => some (catSp (dotS a0) [numText a2, ty, (⟨#[39]⟩ : ByteArray) ++ a5])) (fun k => ?_) (Ev_some _)
              rw [j0, if_neg (by decide), if_neg c6, if_pos (by omega), join_sp _ _ (by omega) (by simp)]
        by_cases c2 : a1 = 2
        · exact Ev_if c2 (key _ (by rw [decide_eq_true (Or.inl c2)]; simpa using c2))
        · exact Ev_ifn c2 (key _ (by by_cases c5 : a1 = 5 <;> simp [c2, c5]))
theorem grow_eq (n : Int) (h0 : 0 ≤ n) (h1 : n ≤ 100000000) : slices_Grow_impl_Record.f n = some ([] : List S25) := by
  unfold slices_Grow_impl_Record.f
  rw [if_pos ⟨h0, by omega⟩]
theorem concat_eq (a b c : List S25) (h : a.length + b.length + c.length ≤ 4000000) : Ev (fun k => slices_Concat_impl_Record.f k [a, b, c]) (a ++ b ++ c) := by
  unfold slices_Concat_impl_Record.f
  have w0 : wrap64 (0 + (a.length : Int)) = (a.length : Int) := by rw [wrap_id (by omega) (by omega)]; omega
  have w1 : wrap64 ((a.length : Int) + (b.length : Int)) = (a.length : Int) + (b.length : Int) := wrap_id (by omega) (by omega)
  have w2 : wrap64 ((a.length : Int) + (b.length : Int) + (c.length : Int)) = (a.length : Int) + (b.length : Int) + (c.length : Int) := wrap_id (by omega) (by omega)
  have i1 : wrap64 (0 + 1) = 1 := by rw [wrap_id (by omega) (by omega)]; rfl
  have i2 : wrap64 (1 + 1) = 2 := by rw [wrap_id (by omega) (by omega)]; rfl
  have i3 : wrap64 (2 + 1) = 3 := by rw [wrap_id (by omega) (by omega)]; rfl
  have l3 : (([a, b, c] : List (List S25)).length : Int) = 3 := rfl
  rw [l3]
  refine Ev.step (f := fun k => slices_Concat_impl_Record.l0 k [a, b, c] (a.length : Int) [a, b, c] 3 1) (fun k => ?_) (Ev.step (f := fun k => slices_Concat_impl_Record.l0 k [a, b, c] ((a.length : Int) + (b.length : Int)) [a, b, c] 3 2) (fun k => ?_) (Ev.step (f := fun k => slices_Concat_impl_Record.l0 k [a, b, c] ((a.length : Int) + (b.length : Int) + (c.length : Int)) [a, b, c] 3 3) (fun k => ?_) (Ev.step (f := fun k => slices_Concat_impl_Record.l1 k [] [a, b, c] 3 0) (fun k => ?_) (Ev.step (f := fun k => slices_Concat_impl_Record.l1 k a [a, b, c] 3 1) (fun k => ?_) (Ev.step (f := fun k => slices_Concat_impl_Record.l1 k (a ++ b) [a, b, c] 3 2) (fun k => ?_) (Ev.step (f := fun k => slices_Concat_impl_Record.l1 k (a ++ b ++ c) [a, b, c] 3 3) (fun k => ?_) (Ev.step (f := fun _ => some (a ++ b ++ c)) (fun k => ?_) (Ev_some _))))))))
  · simp only [slices_Concat_impl_Record.l0]
    rw [if_pos (by decide), if_pos (by decide), if_pos (by rw [l3]; decide)]
    show (if wrap64 (0 + (a.length : Int)) < 0 then none else slices_Concat_impl_Record.l0 k [a, b, c] (wrap64 (0 + (a.length : Int))) [a, b, c] 3 (wrap64 (0 + 1))) = _
    rw [w0, i1, if_neg (by omega)]
  · simp only [slices_Concat_impl_Record.l0]
    rw [if_pos (by decide), if_pos (by decide), if_pos (by rw [l3]; decide)]
    show (if wrap64 ((a.length : Int) + (b.length : Int)) < 0 then none else slices_Concat_impl_Record.l0 k [a, b, c] (wrap64 ((a.length : Int) + (b.length : Int))) [a, b, c] 3 (wrap64 (1 + 1))) = _
    rw [w1, i2, if_neg (by omega)]
  · simp only [slices_Concat_impl_Record.l0]
    rw [if_pos (by decide), if_pos (by decide), if_pos (by rw [l3]; decide)]
    show (if wrap64 ((a.length : Int) + (b.length : Int) + (c.length : Int)) < 0 then none else slices_Concat_impl_Record.l0 k [a, b, c] (wrap64 ((a.length : Int) + (b.length : Int) + (c.length : Int))) [a, b, c] 3 (wrap64 (2 + 1))) = _
    rw [w2, i3, if_neg (by omega)]
  · simp only [slices_Concat_impl_Record.l0]
    rw [if_neg (by decide), grow_eq _ (by omega) (by omega)]
    rfl
  · simp only [slices_Concat_impl_Record.l1]
    rw [if_pos (by decide), if_pos (by decide), if_pos (by rw [l3]; decide)]
    show (if ([] : List S25).length + a.length < 1954687338268 then slices_Concat_impl_Record.l1 k ([] ++ a) [a, b, c] 3 (wrap64 (0 + 1)) else none) = _
    rw [i1, if_pos (by simp; omega), List.nil_append]
  · simp only [slices_Concat_impl_Record.l1]
    rw [if_pos (by decide), if_pos (by decide), if_pos (by rw [l3]; decide)]
    show (if a.length + b.length < 1954687338268 then slices_Concat_impl_Record.l1 k (a ++ b) [a, b, c] 3 (wrap64 (1 + 1)) else none) = _
    rw [i2, if_pos (by omega)]
  · simp only [slices_Concat_impl_Record.l1]
    rw [if_pos (by decide), if_pos (by decide), if_pos (by rw [l3]; decide)]
    show (if (a ++ b).length + c.length < 1954687338268 then slices_Concat_impl_Record.l1 k (a ++ b ++ c) [a, b, c] 3 (wrap64 (2 + 1)) else none) = _
    rw [i3, if_pos (by rw [List.length_append]; omega)]
  · simp only [slices_Concat_impl_Record.l1]
    rw [if_neg (by decide)]
/-- What RecordText says of a record that is right, by both. -/
def TextOf (x : S25) (t : ByteArray) : Prop := Ev (fun k => spec_RecordText.f k x.f0 x.f1 x.f2 x.f3 x.f4 x.f5) t ∧ Ev (fun k => impl_RecordText.f k x.f0 x.f1 x.f2 x.f3 x.f4 x.f5) t ∧ t.size ≤ 3000000
theorem recOk_ints {a0 : ByteArray} {a1 a2 a3 : Int} {a4 a5 : ByteArray} (h : recOk a0 a1 a2 a3 a4 a5 = true) : (0 ≤ a2 ∧ a2 ≤ 100000) ∧ (0 ≤ a3 ∧ a3 ≤ 2147483647) := by
  unfold recOk at h
  simp only [Bool.and_eq_true] at h
  obtain ⟨_, h2, hr⟩ := h
  unfold inTo at h2
  rw [Bool.and_eq_true, decide_eq_true_eq, decide_eq_true_eq] at h2
  refine ⟨h2, ?_⟩
  split at hr
  · simp only [Bool.and_eq_true] at hr
    obtain ⟨r1, _⟩ := hr
    unfold inTo at r1
    rw [Bool.and_eq_true, decide_eq_true_eq, decide_eq_true_eq] at r1
    exact r1
  · split at hr
    · simp only [Bool.and_eq_true, decide_eq_true_eq] at hr
      omega
    · split at hr
      · simp only [Bool.and_eq_true] at hr
        obtain ⟨r1, _⟩ := hr
        unfold inTo at r1
        rw [Bool.and_eq_true, decide_eq_true_eq, decide_eq_true_eq] at r1
        omega
      · split at hr
        · simp only [Bool.and_eq_true, decide_eq_true_eq] at hr
          omega
        · cases hr
theorem tx_exists : ∃ tx : S25 → ByteArray, ∀ x, fitR x → recOkR x = true → TextOf x (tx x) := by
  have : ∀ x : S25, ∃ t : ByteArray, fitR x → recOkR x = true → TextOf x t := by
    intro x
    by_cases c : fitR x ∧ recOkR x = true
    · obtain ⟨i2, i3⟩ := recOk_ints c.2
      obtain ⟨t, h1, h2, h3, _⟩ := recText_both x.f0 x.f1 x.f2 x.f3 x.f4 x.f5 c.1.1 c.1.2.1 c.1.2.2 (by omega) (by omega)
      exact ⟨t, fun _ _ => ⟨h1, h2, h3⟩⟩
    · exact ⟨⟨#[]⟩, fun a b => absurd ⟨a, b⟩ c⟩
  exact Classical.axiomOfChoice this
def sepT : ByteArray := ⟨#[59, 32]⟩
def catT : ByteArray → List ByteArray → ByteArray
  | s, [] => s
  | s, t :: ts => catT ((s ++ sepT) ++ t) ts
theorem catT_app : ∀ (ts us : List ByteArray) (s : ByteArray), catT s (ts ++ us) = catT (catT s ts) us
  | [], _, _ => rfl
  | t :: ts, us, s => by
    rw [List.cons_append, catT, catT]
    exact catT_app ts us _
theorem catT_pre : ∀ (ts : List ByteArray) (p s : ByteArray), catT (p ++ s) ts = p ++ catT s ts
  | [], _, _ => rfl
  | t :: ts, p, s => by
    rw [catT, catT, show p ++ s ++ sepT ++ t = p ++ (s ++ sepT ++ t) by simp only [ByteArray.append_assoc]]
    exact catT_pre ts p _
theorem catT_nil (ts : List ByteArray) (s : ByteArray) : catT s ts = s ++ catT (⟨#[]⟩ : ByteArray) ts := by
  have := catT_pre ts s (⟨#[]⟩ : ByteArray)
  rw [show s ++ (⟨#[]⟩ : ByteArray) = s from ByteArray.append_empty] at this
  exact this
theorem catT_size : ∀ (ts : List ByteArray) (s : ByteArray), (∀ t ∈ ts, t.size ≤ 3000000) → (catT s ts).size ≤ s.size + 3000002 * ts.length
  | [], s, _ => by simp [catT]
  | t :: ts, s, h => by
    rw [catT]
    have := catT_size ts ((s ++ sepT) ++ t) (fun x hx => h x (List.mem_cons_of_mem _ hx))
    have h0 := h t List.mem_cons_self
    rw [ByteArray.size_append, ByteArray.size_append, show sepT.size = 2 from rfl] at this
    rw [List.length_cons]
    omega
theorem drop_map_cons {β : Type} (f : S25 → β) (l : List S25) (i : Nat) (h : i < l.length) : (l.drop i).map f = f l[i] :: (l.drop (i + 1)).map f := by
  rw [List.drop_eq_getElem_cons h, List.map_cons]
theorem spec_texts_loop (tx : S25 → ByteArray) (l : List S25) (hl : l.length ≤ 4000000) (ok : ∀ x ∈ l, TextOf x (tx x)) : ∀ (d i : Nat) (s : ByteArray), i + d = l.length → s.size + 3000002 * d ≤ 100000000000000 →
    Ev (fun k => spec_l7Texts.l0 k l s (i : Int)) (catT s ((l.drop i).map tx)) := by
  intro d
  induction d with
  | zero =>
    intro i s hi hs
    rw [List.drop_of_length_le (by omega)]
    refine Ev.step (f := fun _ => some s) (fun k => ?_) (Ev_some _)
    simp only [spec_l7Texts.l0]
    rw [if_neg (by omega)]
  | succ d ih =>
    intro i s hi hs
    have h : i < l.length := by omega
    have w : wrap64 ((i : Int) + 1) = ((i + 1 : Nat) : Int) := by rw [wrap_id (by omega) (by omega)]; omega
    have hx := ok l[i] (List.getElem_mem h)
    have h3 := hx.2.2
    have er : rd_T25 l (i : Int) = l[i] := by unfold rd_T25; simp [h]
    rw [drop_map_cons tx l i h, catT]
    have z : sepT.size = 2 := rfl
    refine Ev.step (f := fun k => (spec_RecordText.f k l[i].f0 l[i].f1 l[i].f2 l[i].f3 l[i].f4 l[i].f5).bind fun t => if (s ++ sepT).size + t.size ≤ 9223372036854775807 then spec_l7Texts.l0 k l ((s ++ sepT) ++ t) ((i + 1 : Nat) : Int) else none) (fun k => ?_) (Ev.bind hx.1 (Ev_if (by rw [ByteArray.size_append, z]; omega) (ih (i + 1) _ (by omega) (by rw [ByteArray.size_append, ByteArray.size_append, z]; omega))))
    simp only [spec_l7Texts.l0]
    rw [if_pos (by omega), if_pos (by omega), if_pos (by omega), w, er]
    rfl
theorem spec_texts_eq (tx : S25 → ByteArray) (l : List S25) (hl : l.length ≤ 4000000) (ok : ∀ x ∈ l, TextOf x (tx x)) : Ev (fun k => spec_l7Texts.f k l) (catT (⟨#[]⟩ : ByteArray) (l.map tx)) := by
  have := spec_texts_loop tx l hl ok l.length 0 (⟨#[]⟩ : ByteArray) (by omega) (by show 0 + _ ≤ _; omega)
  unfold spec_l7Texts.f
  simpa using this
theorem impl_texts_loop (tx : S25 → ByteArray) (l : List S25) (hl : l.length ≤ 4000000) (ok : ∀ x ∈ l, TextOf x (tx x)) : ∀ (d i : Nat) (s : ByteArray), i + d = l.length → s.size + 3000002 * d ≤ 100000000000000 →
    Ev (fun k => impl_MsgText.l0 k s l (l.length : Int) (i : Int)) (catT s ((l.drop i).map tx)) := by
  intro d
  induction d with
  | zero =>
    intro i s hi hs
    rw [List.drop_of_length_le (by omega)]
    refine Ev.step (f := fun _ => some s) (fun k => ?_) (Ev_some _)
    simp only [impl_MsgText.l0]
    rw [if_neg (by omega)]
  | succ d ih =>
    intro i s hi hs
    have h : i < l.length := by omega
    have w : wrap64 ((i : Int) + 1) = ((i + 1 : Nat) : Int) := by rw [wrap_id (by omega) (by omega)]; omega
    have hx := ok l[i] (List.getElem_mem h)
    have h3 := hx.2.2
    have er : rd_T25 l (i : Int) = l[i] := by unfold rd_T25; simp [h]
    rw [drop_map_cons tx l i h, catT, ByteArray.append_assoc]
    have z : sepT.size = 2 := rfl
    refine Ev.step (f := fun k => (impl_RecordText.f k l[i].f0 l[i].f1 l[i].f2 l[i].f3 l[i].f4 l[i].f5).bind fun t => if 2 + t.size ≤ 9223372036854775807 then (if s.size + (sepT ++ t).size ≤ 9223372036854775807 then impl_MsgText.l0 k (s ++ (sepT ++ t)) l (l.length : Int) ((i + 1 : Nat) : Int) else none) else none) (fun k => ?_) (Ev.bind hx.2.1 (Ev_if (by omega) (Ev_if (by rw [ByteArray.size_append, z]; omega) (ih (i + 1) _ (by omega) (by rw [ByteArray.size_append, ByteArray.size_append, z]; omega)))))
    simp only [impl_MsgText.l0]
    rw [if_pos (by omega), if_pos (by omega), if_pos (by omega), w, er]
    rfl
theorem texts3 (tx : S25 → ByteArray) (C : ByteArray) (l9 l10 l11 : List S25) : catT C ((l9 ++ l10 ++ l11).map tx) = ((C ++ catT (⟨#[]⟩ : ByteArray) (l9.map tx)) ++ catT (⟨#[]⟩ : ByteArray) (l10.map tx)) ++ catT (⟨#[]⟩ : ByteArray) (l11.map tx) := by
  rw [List.map_append, List.map_append, catT_app, catT_app, catT_nil (l9.map tx) C, catT_nil (l10.map tx) (C ++ catT (⟨#[]⟩ : ByteArray) (l9.map tx)), catT_nil (l11.map tx) ((C ++ catT (⟨#[]⟩ : ByteArray) (l9.map tx)) ++ catT (⟨#[]⟩ : ByteArray) (l10.map tx))]
def headT (p N0 N6 D T : ByteArray) : ByteArray := ((((((p ++ N0) ++ (⟨#[32]⟩ : ByteArray)) ++ N6) ++ (⟨#[32]⟩ : ByteArray)) ++ D) ++ (⟨#[32]⟩ : ByteArray)) ++ T
def flagT (s : ByteArray) (a2 a3 : Bool) : ByteArray :=
  if a3 = true then (if a2 = true then s ++ (⟨#[32, 97, 117, 116, 104]⟩ : ByteArray) else s) ++ (⟨#[32, 99, 117, 116]⟩ : ByteArray) else (if a2 = true then s ++ (⟨#[32, 97, 117, 116, 104]⟩ : ByteArray) else s)
theorem spec_msg_j1 (tx : S25 → ByteArray) (s : ByteArray) (hs : s.size ≤ 3000000) (a0 : Int) (a1 a2 a3 a4 a5 : Bool) (a6 : Int) (a7 : ByteArray) (a8 : Int) (l9 l10 l11 : List S25) (h9 : l9.length ≤ 1048576) (h10 : l10.length ≤ 1048576) (h11 : l11.length ≤ 1048576) (o9 : ∀ x ∈ l9, TextOf x (tx x)) (o10 : ∀ x ∈ l10, TextOf x (tx x)) (o11 : ∀ x ∈ l11, TextOf x (tx x)) :
    Ev (fun k => spec_MsgText.j1 k s a0 a1 a2 a3 a4 a5 a6 a7 a8 l9 l10 l11) (catT (if a3 = true then s ++ (⟨#[32, 99, 117, 116]⟩ : ByteArray) else s) ((l9 ++ l10 ++ l11).map tx)) := by
  have z4 : (⟨#[32, 99, 117, 116]⟩ : ByteArray).size = 4 := rfl
  have z0 : (⟨#[]⟩ : ByteArray).size = 0 := rfl
  have e9 := spec_texts_eq tx l9 (by omega) o9
  have e10 := spec_texts_eq tx l10 (by omega) o10
  have e11 := spec_texts_eq tx l11 (by omega) o11
  have q : ∀ l : List S25, l.length ≤ 1048576 → (∀ x ∈ l, TextOf x (tx x)) → (catT (⟨#[]⟩ : ByteArray) (l.map tx)).size ≤ 4000000000000 := by
    intro l hl ho
    have := catT_size (l.map tx) (⟨#[]⟩ : ByteArray) (fun t ht => by
      obtain ⟨x, hx, rfl⟩ := List.mem_map.1 ht
      exact (ho x hx).2.2)
    rw [List.length_map] at this
    omega
  have q9 := q l9 h9 o9
  have q10 := q l10 h10 o10
  have q11 := q l11 h11 o11
  rw [texts3]
  generalize catT (⟨#[]⟩ : ByteArray) (l9.map tx) = t9 at e9 q9
  generalize catT (⟨#[]⟩ : ByteArray) (l10.map tx) = t10 at e10 q10
  generalize catT (⟨#[]⟩ : ByteArray) (l11.map tx) = t11 at e11 q11
  cases a3 with
  | true =>
    refine Ev.step (f := fun k => if s.size + 4 ≤ 9223372036854775807 then ((spec_l7Texts.f k l9).bind fun u => if (s ++ (⟨#[32, 99, 117, 116]⟩ : ByteArray)).size + u.size ≤ 9223372036854775807 then ((spec_l7Texts.f k l10).bind fun v => if ((s ++ (⟨#[32, 99, 117, 116]⟩ : ByteArray)) ++ u).size + v.size ≤ 9223372036854775807 then ((spec_l7Texts.f k l11).bind fun x => if (((s ++ (⟨#[32, 99, 117, 116]⟩ : ByteArray)) ++ u) ++ v).size + x.size ≤ 9223372036854775807 then some ((((s ++ (⟨#[32, 99, 117, 116]⟩ : ByteArray)) ++ u) ++ v) ++ x) else none) else none) else none) else none) (fun k => ?_) (Ev_if (by omega) (Ev.bind e9 (Ev_if ?_ (Ev.bind e10 (Ev_if ?_ (Ev.bind e11 (Ev_if ?_ (Ev_some _))))))))
    · simp only [spec_MsgText.j1]
      rw [if_pos (by first | trivial | rfl)]
    all_goals simp only [ByteArray.size_append]; omega
  | false =>
    refine Ev.step (f := fun k => (spec_l7Texts.f k l9).bind fun u => if s.size + u.size ≤ 9223372036854775807 then ((spec_l7Texts.f k l10).bind fun v => if (s ++ u).size + v.size ≤ 9223372036854775807 then ((spec_l7Texts.f k l11).bind fun x => if ((s ++ u) ++ v).size + x.size ≤ 9223372036854775807 then some (((s ++ u) ++ v) ++ x) else none) else none) else none) (fun k => ?_) (Ev.bind e9 (Ev_if (by omega) (Ev.bind e10 (Ev_if ?_ (Ev.bind e11 (Ev_if ?_ (Ev_some _)))))))
    · simp only [spec_MsgText.j1]
      rw [if_neg (by decide)]
    all_goals simp only [ByteArray.size_append]; omega
theorem impl_msg_j1 (tx : S25 → ByteArray) (s : ByteArray) (hs : s.size ≤ 3000000) (a0 : Int) (a1 a2 a3 a4 a5 : Bool) (a6 : Int) (a7 : ByteArray) (a8 : Int) (l9 l10 l11 : List S25) (h9 : l9.length ≤ 1048576) (h10 : l10.length ≤ 1048576) (h11 : l11.length ≤ 1048576) (o9 : ∀ x ∈ l9, TextOf x (tx x)) (o10 : ∀ x ∈ l10, TextOf x (tx x)) (o11 : ∀ x ∈ l11, TextOf x (tx x)) :
    Ev (fun k => impl_MsgText.j1 k s a0 a1 a2 a3 a4 a5 a6 a7 a8 l9 l10 l11) (catT (if a3 = true then s ++ (⟨#[32, 99, 117, 116]⟩ : ByteArray) else s) ((l9 ++ l10 ++ l11).map tx)) := by
  have z4 : (⟨#[32, 99, 117, 116]⟩ : ByteArray).size = 4 := rfl
  have cc := concat_eq l9 l10 l11 (by omega)
  have ol : ∀ x ∈ l9 ++ l10 ++ l11, TextOf x (tx x) := by
    intro x hx
    rcases List.mem_append.1 hx with hx | hx
    · rcases List.mem_append.1 hx with hx | hx
      · exact o9 x hx
      · exact o10 x hx
    · exact o11 x hx
  have hl : (l9 ++ l10 ++ l11).length ≤ 3145728 := by rw [List.length_append, List.length_append]; omega
  have j2 : ∀ t : ByteArray, t.size ≤ 4000000 → Ev (fun k => impl_MsgText.j2 k t a0 a1 a2 a3 a4 a5 a6 a7 a8 l9 l10 l11) (catT t ((l9 ++ l10 ++ l11).map tx)) := by
    intro t ht
    have lp := impl_texts_loop tx (l9 ++ l10 ++ l11) (by omega) ol (l9 ++ l10 ++ l11).length 0 t (by omega) (by omega)
    rw [List.drop_zero] at lp
    refine Ev.step (f := fun k => (slices_Concat_impl_Record.f k [l9, l10, l11]).bind fun u => impl_MsgText.l0 k t u (u.length : Int) 0) (fun k => ?_) (Ev.bind cc lp)
    simp only [impl_MsgText.j2]
  cases a3 with
  | true =>
    refine Ev.step (f := fun k => if s.size + 4 ≤ 9223372036854775807 then impl_MsgText.j2 k (s ++ (⟨#[32, 99, 117, 116]⟩ : ByteArray)) a0 a1 a2 true a4 a5 a6 a7 a8 l9 l10 l11 else none) (fun k => ?_) (Ev_if (by omega) (j2 _ (by rw [ByteArray.size_append]; omega)))
    simp only [impl_MsgText.j1]
    rw [if_pos (by first | trivial | rfl)]
  | false =>
    refine Ev.step (fun k => ?_) (j2 s (by omega))
    simp only [impl_MsgText.j1]
    rw [if_neg (by decide)]
theorem msg_texts (tx : S25 → ByteArray) (p : ByteArray) (hp : p.size ≤ 10) (a0 : Int) (a1 a2 a3 a4 a5 : Bool) (a6 : Int) (a7 : ByteArray) (a8 : Int) (l9 l10 l11 : List S25) (i0 : 0 ≤ a0 ∧ a0 ≤ 65535) (i6 : 0 ≤ a6 ∧ a6 ≤ 15) (h7 : a7.size ≤ 1048576) (h9 : l9.length ≤ 1048576) (h10 : l10.length ≤ 1048576) (h11 : l11.length ≤ 1048576) (o9 : ∀ x ∈ l9, TextOf x (tx x)) (o10 : ∀ x ∈ l10, TextOf x (tx x)) (o11 : ∀ x ∈ l11, TextOf x (tx x)) :
    ∃ r : ByteArray, Ev (fun k => spec_MsgText.j0 k p a0 a1 a2 a3 a4 a5 a6 a7 a8 l9 l10 l11) r ∧ Ev (fun k => impl_MsgText.j0 k p a0 a1 a2 a3 a4 a5 a6 a7 a8 l9 l10 l11) r := by
  obtain ⟨T, t1, t2, t3⟩ := typeText_both a8
  have n0 := spec_NumText_eq a0 (by omega)
  have m0 := impl_NumText_eq a0 (by omega)
  have z0 := numText_size a0 (by omega)
  have n6 := spec_NumText_eq a6 (by omega)
  have m6 := impl_NumText_eq a6 (by omega)
  have z6 := numText_size a6 (by omega)
  have d1 := spec_l5Dot_eq a7
  have d2 := impl_nameText_eq a7
  have zd := dotS_size a7
  generalize numText a0 = N0 at n0 m0 z0
  generalize numText a6 = N6 at n6 m6 z6
  generalize dotS a7 = D at d1 d2 zd
  have z1 : (⟨#[32]⟩ : ByteArray).size = 1 := rfl
  have z5 : (⟨#[32, 97, 117, 116, 104]⟩ : ByteArray).size = 5 := rfl
  have S1 := fun s hs => spec_msg_j1 tx s hs a0 a1 a2 a3 a4 a5 a6 a7 a8 l9 l10 l11 h9 h10 h11 o9 o10 o11
  have I1 := fun s hs => impl_msg_j1 tx s hs a0 a1 a2 a3 a4 a5 a6 a7 a8 l9 l10 l11 h9 h10 h11 o9 o10 o11
  have hz : (headT p N0 N6 D T).size ≤ 2000000 := by unfold headT; simp only [ByteArray.size_append]; omega
  have fin : ∀ g : Nat → ByteArray → Option ByteArray, (∀ s : ByteArray, s.size ≤ 3000000 → Ev (fun k => g k s) (catT (if a3 = true then s ++ (⟨#[32, 99, 117, 116]⟩ : ByteArray) else s) ((l9 ++ l10 ++ l11).map tx))) → Ev (fun k => if a2 = true then (if (headT p N0 N6 D T).size + 5 ≤ 9223372036854775807 then g k (headT p N0 N6 D T ++ (⟨#[32, 97, 117, 116, 104]⟩ : ByteArray)) else none) else g k (headT p N0 N6 D T)) (catT (flagT (headT p N0 N6 D T) a2 a3) ((l9 ++ l10 ++ l11).map tx)) := by
    intro g hg
    unfold flagT
    cases a2 with
    | true => exact Ev_if rfl (Ev_if (by omega) (hg _ (by rw [ByteArray.size_append]; omega)))
    | false => exact Ev_ifn (by decide) (hg _ (by omega))
  refine ⟨catT (flagT (headT p N0 N6 D T) a2 a3) ((l9 ++ l10 ++ l11).map tx), ?_, ?_⟩
  · have f1 := fin (fun k s => spec_MsgText.j1 k s a0 a1 a2 a3 a4 a5 a6 a7 a8 l9 l10 l11) S1
    refine Ev.step (f := fun k => (spec_NumText.f k a0).bind fun u => if p.size + u.size ≤ 9223372036854775807 then (if (p ++ u).size + 1 ≤ 9223372036854775807 then ((spec_NumText.f k a6).bind fun v => if ((p ++ u) ++ (⟨#[32]⟩ : ByteArray)).size + v.size ≤ 9223372036854775807 then (if (((p ++ u) ++ (⟨#[32]⟩ : ByteArray)) ++ v).size + 1 ≤ 9223372036854775807 then (if ((((p ++ u) ++ (⟨#[32]⟩ : ByteArray)) ++ v) ++ (⟨#[32]⟩ : ByteArray)).size + D.size ≤ 9223372036854775807 then (if (((((p ++ u) ++ (⟨#[32]⟩ : ByteArray)) ++ v) ++ (⟨#[32]⟩ : ByteArray)) ++ D).size + 1 ≤ 9223372036854775807 then (if ((((((p ++ u) ++ (⟨#[32]⟩ : ByteArray)) ++ v) ++ (⟨#[32]⟩ : ByteArray)) ++ D) ++ (⟨#[32]⟩ : ByteArray)).size + T.size ≤ 9223372036854775807 then (if a2 = true then (if (headT p u v D T).size + 5 ≤ 9223372036854775807 then spec_MsgText.j1 k (headT p u v D T ++ (⟨#[32, 97, 117, 116, 104]⟩ : ByteArray)) a0 a1 a2 a3 a4 a5 a6 a7 a8 l9 l10 l11 else none) else spec_MsgText.j1 k (headT p u v D T) a0 a1 a2 a3 a4 a5 a6 a7 a8 l9 l10 l11) else none) else none) else none) else none) else none) else none) else none) (fun k => ?_) (Ev.bind n0 (Ev_if (by omega) (Ev_if ?_ (Ev.bind n6 (Ev_if ?_ (Ev_if ?_ (Ev_if ?_ (Ev_if ?_ (Ev_if ?_ f1)))))))))
    · simp only [spec_MsgText.j0, d1, t1, Option.bind_some]
      rfl
    all_goals simp only [ByteArray.size_append]; omega
  · have f2 := fin (fun k s => impl_MsgText.j1 k s a0 a1 a2 a3 a4 a5 a6 a7 a8 l9 l10 l11) I1
    have hh : ∀ u v : ByteArray, p ++ ((((((u ++ (⟨#[32]⟩ : ByteArray)) ++ v) ++ (⟨#[32]⟩ : ByteArray)) ++ D) ++ (⟨#[32]⟩ : ByteArray)) ++ T) = headT p u v D T := fun u v => by unfold headT; simp only [ByteArray.append_assoc]
    refine Ev.step (f := fun k => (impl_NumText.f k a0).bind fun u => if u.size + 1 ≤ 9223372036854775807 then ((impl_NumText.f k a6).bind fun v => if (u ++ (⟨#[32]⟩ : ByteArray)).size + v.size ≤ 9223372036854775807 then (if ((u ++ (⟨#[32]⟩ : ByteArray)) ++ v).size + 1 ≤ 9223372036854775807 then (if (((u ++ (⟨#[32]⟩ : ByteArray)) ++ v) ++ (⟨#[32]⟩ : ByteArray)).size + D.size ≤ 9223372036854775807 then (if ((((u ++ (⟨#[32]⟩ : ByteArray)) ++ v) ++ (⟨#[32]⟩ : ByteArray)) ++ D).size + 1 ≤ 9223372036854775807 then (if (((((u ++ (⟨#[32]⟩ : ByteArray)) ++ v) ++ (⟨#[32]⟩ : ByteArray)) ++ D) ++ (⟨#[32]⟩ : ByteArray)).size + T.size ≤ 9223372036854775807 then (if p.size + ((((((u ++ (⟨#[32]⟩ : ByteArray)) ++ v) ++ (⟨#[32]⟩ : ByteArray)) ++ D) ++ (⟨#[32]⟩ : ByteArray)) ++ T).size ≤ 9223372036854775807 then (if a2 = true then (if (headT p u v D T).size + 5 ≤ 9223372036854775807 then impl_MsgText.j1 k (headT p u v D T ++ (⟨#[32, 97, 117, 116, 104]⟩ : ByteArray)) a0 a1 a2 a3 a4 a5 a6 a7 a8 l9 l10 l11 else none) else impl_MsgText.j1 k (headT p u v D T) a0 a1 a2 a3 a4 a5 a6 a7 a8 l9 l10 l11) else none) else none) else none) else none) else none) else none) else none) (fun k => ?_) (Ev.bind m0 (Ev_if (by omega) (Ev.bind m6 (Ev_if ?_ (Ev_if ?_ (Ev_if ?_ (Ev_if ?_ (Ev_if ?_ (Ev_if ?_ f2)))))))))
    · simp only [impl_MsgText.j0, d2, t2, Option.bind_some, hh]
    all_goals simp only [ByteArray.size_append]; omega
theorem recsOk_all (l : List S25) (h : recsOk l = true) : ∀ x ∈ l, recOkR x = true := by
  unfold recsOk at h
  rw [Bool.and_eq_true] at h
  exact List.all_eq_true.1 h.1
theorem msgText_both (a0 : Int) (a1 a2 a3 a4 a5 : Bool) (a6 : Int) (a7 : ByteArray) (a8 : Int) (l9 l10 l11 : List S25) (h7 : a7.size ≤ 1048576) (h9 : fitRs l9) (h10 : fitRs l10) (h11 : fitRs l11) :
    ∃ r : ByteArray, Ev (fun k => spec_MsgText.f k a0 a1 a2 a3 a4 a5 a6 a7 a8 l9 l10 l11) r ∧ Ev (fun k => impl_MsgText.f k a0 a1 a2 a3 a4 a5 a6 a7 a8 l9 l10 l11) r := by
  unfold spec_MsgText.f impl_MsgText.f
  have s := spec_MsgOk_eq a0 a1 a2 a3 a4 a5 a6 a7 a8 l9 l10 l11 h7 h9 h10 h11
  have i := impl_MsgOk_eq a0 a1 a2 a3 a4 a5 a6 a7 a8 l9 l10 l11 h7 h9 h10 h11
  cases h : msgOk a0 a6 a7 a8 l9 l10 l11 with
  | false =>
    rw [h] at s i
    exact ⟨⟨#[]⟩, Ev.bind s (Ev_ifn (by decide) (Ev_some _)), Ev.bind i (Ev_ifn (by decide) (Ev_some _))⟩
  | true =>
    rw [h] at s i
    obtain ⟨tx, htx⟩ := tx_exists
    unfold msgOk at h
    simp only [Bool.and_eq_true] at h
    obtain ⟨i0, i6, _, r9, r10, r11⟩ := h
    unfold inTo at i0 i6
    rw [Bool.and_eq_true, decide_eq_true_eq, decide_eq_true_eq] at i0 i6
    have o9 : ∀ x ∈ l9, TextOf x (tx x) := fun x hx => htx x (h9.2 x hx) (recsOk_all l9 r9 x hx)
    have o10 : ∀ x ∈ l10, TextOf x (tx x) := fun x hx => htx x (h10.2 x hx) (recsOk_all l10 r10 x hx)
    have o11 : ∀ x ∈ l11, TextOf x (tx x) := fun x hx => htx x (h11.2 x hx) (recsOk_all l11 r11 x hx)
    cases a1 with
    | true =>
      obtain ⟨r, e1, e2⟩ := msg_texts tx (⟨#[114, 101, 112, 108, 121, 32]⟩ : ByteArray) (by decide) a0 true a2 a3 a4 a5 a6 a7 a8 l9 l10 l11 i0 i6 h7 h9.1 h10.1 h11.1 o9 o10 o11
      exact ⟨r, Ev.bind s (Ev_if rfl (Ev_if rfl e1)), Ev.bind i (Ev_if rfl (Ev_if rfl e2))⟩
    | false =>
      obtain ⟨r, e1, e2⟩ := msg_texts tx (⟨#[97, 115, 107, 32]⟩ : ByteArray) (by decide) a0 false a2 a3 a4 a5 a6 a7 a8 l9 l10 l11 i0 i6 h7 h9.1 h10.1 h11.1 o9 o10 o11
      exact ⟨r, Ev.bind s (Ev_if rfl (Ev_ifn (by decide) e1)), Ev.bind i (Ev_if rfl (Ev_ifn (by decide) e2))⟩

end Go.Proofs.YtdigilidomimdaaDoor.Lem
