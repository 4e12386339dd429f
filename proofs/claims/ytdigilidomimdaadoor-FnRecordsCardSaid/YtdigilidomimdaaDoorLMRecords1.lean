/- Lemmas on the printed functions, of this session. -/
import Derived.Test.YtdigilidomimdaaDoorY
import Derived.Test.YtdigilidomimdaaDoorPrx0
import Derived.Test.YtdigilidomimdaaDoorPrx11
import Derived.Test.YtdigilidomimdaaDoorPrx12
import Derived.Test.YtdigilidomimdaaDoorPrx13
import Derived.Test.YtdigilidomimdaaDoorPrx14
import Derived.Test.YtdigilidomimdaaDoorPrx15
import Derived.Test.YtdigilidomimdaaDoorPrx16
import Derived.Test.YtdigilidomimdaaDoorPrx17
import Derived.Test.YtdigilidomimdaaDoorPrx18
import Derived.Test.YtdigilidomimdaaDoorPrx19
import Derived.Test.YtdigilidomimdaaDoorPrx2
import Derived.Test.YtdigilidomimdaaDoorPrx3
import Derived.Test.YtdigilidomimdaaDoorPrx4
import Derived.Test.YtdigilidomimdaaDoorPrx5
import Derived.Test.YtdigilidomimdaaDoorPrx6
import Derived.Test.YtdigilidomimdaaDoorPrx7
namespace Go.Proofs.YtdigilidomimdaaDoor.Lem
open Go.RowKit Go.Proofs.YtdigilidomimdaaDoor.Pr Go.Proofs.YtdigilidomimdaaDoor.X Go.Proofs.YtdigilidomimdaaDoor.Y Go.Proofs.YtdigilidomimdaaDoorW.PrintWords Go.Proofs.YtdigilidomimdaaDoorW.PrintLast Go.Proofs.YtdigilidomimdaaDoorW.PrintMore
set_option linter.unusedVariables false
set_option linter.unusedSimpArgs false
theorem rdS_getElem (l : List ByteArray) (i : Nat) (h : i < l.length) : rdOf ByteArray.empty l i = l[i] := by
  unfold rdOf
  rw [Int.toNat_natCast, List.getD_eq_getElem?_getD, List.getElem?_eq_getElem h, Option.getD_some]
/-- How many bytes a list of strings holds. -/
def szSs (l : List ByteArray) : Nat := (l.map ByteArray.size).sum
/-- Strings with a dot between them. -/
def joinS : List ByteArray → ByteArray
  | [] => (⟨#[]⟩ : ByteArray)
  | [x] => x
  | x :: y :: l => x ++ ((⟨#[46]⟩ : ByteArray) ++ joinS (y :: l))
theorem joinS_cons (x : ByteArray) (l : List ByteArray) (h : l ≠ []) : joinS (x :: l) = x ++ ((⟨#[46]⟩ : ByteArray) ++ joinS l) := by
  cases l with
  | nil => exact absurd rfl h
  | cons y l => rfl
/-- What stands between the dots of a list of bytes; 'acc' stands ahead of it. -/
def cutA : List UInt8 → List UInt8 → List (List UInt8)
  | acc, [] => [acc]
  | acc, c :: t => if c = 46 then acc :: cutA [] t else cutA (acc ++ [c]) t
def mkB (l : List UInt8) : ByteArray := ⟨l.toArray⟩
theorem mkB_data (s : ByteArray) : mkB s.data.toList = s := rfl
/-- The labels of a name. -/
def labelsL (s : ByteArray) : List ByteArray := if s.data.toList = [] then [] else (cutA [] s.data.toList).map mkB
theorem cutA_acc : ∀ (t acc : List UInt8), cutA acc t = match cutA [] t with | [] => [] | x :: r => (acc ++ x) :: r
  | [], acc => by simp [cutA]
  | c :: t, acc => by
    by_cases h : c = 46
    · simp [cutA, h]
    · have e1 := cutA_acc t (acc ++ [c])
      have e2 := cutA_acc t ([] ++ [c])
      simp only [cutA, if_neg h]
      rw [e1, e2]
      cases cutA [] t with
      | nil => rfl
      | cons x r => simp [List.append_assoc]
theorem split_cut : ∀ (l : List UInt8), Lib.splitK [46] 0 (l.count 46) l = cutA [] l
  | [] => rfl
  | c :: t => by
    have ih := split_cut t
    by_cases h : c = 46
    · subst h
      rw [List.count_cons_self]
      simp only [Lib.splitK, cutA, if_true]
      rw [Lib.index_one]
      simp only [Lib.indexByte]
      simp [ih]
    · rw [List.count_cons_of_ne (by simpa using h)]
      have e2 := cutA_acc t ([] ++ [c])
      simp only [cutA, if_neg h]
      rw [e2, ← ih]
      have hb : (c == 46) = false := by simpa using h
      cases hk : t.count 46 with
      | zero => simp [Lib.splitK]
      | succ k =>
        simp only [Lib.splitK]
        rw [Lib.index_one, Lib.index_one]
        simp only [Lib.indexByte, hb]
        have hge := Lib.indexByte_ge t 46
        by_cases hi : Lib.indexByte t 46 = -1
        · simp [hi]
        · have h1 : (Lib.indexByte t 46 == -1) = false := by simpa using hi
          have h2 : (Lib.indexByte t 46 + 1 == -1) = false := by simp; omega
          have h3 : (Lib.indexByte t 46 + 1).toNat = (Lib.indexByte t 46).toNat + 1 := by omega
          simp only [h1, h2, h3, Bool.false_eq_true, if_false]
          simp [List.take_succ_cons, Nat.add_right_comm]
theorem impl_Labels_eq (s : ByteArray) (hs : s.size < 4294967281) : impl_Labels.f s = some (labelsL s) := by
  unfold impl_Labels.f labelsL
  rw [ByteArray.toList_eq]
  by_cases h : s.data.toList = []
  · rw [if_pos h, if_pos h]
  · rw [if_neg h, if_neg h]
    have e : strings_Split.f s (⟨#[46]⟩ : ByteArray) = some (Lib.splitB ⟨#[46]⟩ 0 (Lib.countB s ⟨#[46]⟩) s) := by
      unfold strings_Split.f
      exact if_pos ⟨rfl, hs⟩
    rw [e]
    simp only [Option.bind_some]
    congr 1
    have d := Lib.splitB_data ⟨#[46]⟩ 0 (Lib.countB s ⟨#[46]⟩) s
    have k : Lib.countB s ⟨#[46]⟩ = s.data.toList.count 46 := Lib.count_one 46 s.data.toList
    rw [k] at d ⊢
    have d2 : (Lib.splitB ⟨#[46]⟩ 0 (s.data.toList.count 46) s).map (·.data.toList) = cutA [] s.data.toList := d.trans (split_cut _)
    rw [← d2, List.map_map]
    exact (List.map_id'' (fun x => mkB_data x) _).symm
theorem extract_mkB (s : ByteArray) (f i : Nat) : s.extract f i = mkB ((s.data.toList.take i).drop f) := by
  have h : (s.extract f i).data.toList = (s.data.toList.take i).drop f := by
    rw [ByteArray.data_extract, Array.toList_extract, List.extract_eq_take_drop, List.drop_take]
  rw [← mkB_data (s.extract f i), h]
theorem bt_data (s : ByteArray) (i : Nat) (h : i < s.data.toList.length) : (bt s (i : Int) = 46) ↔ s.data.toList[i] = 46 := by
  have h' : (i : Int).toNat < s.size := by simpa using h
  have e := bt_at s (i : Int) h'
  have e2 : s[(i : Int).toNat]'h' = s.data.toList[i] := by
    rw [Array.getElem_toList]
    rfl
  rw [← e, e2, ← UInt8.toNat_inj]
  have t : UInt8.toNat 46 = 46 := rfl
  generalize s.data.toList[i].toNat = z
  generalize UInt8.toNat 46 = z' at t ⊢
  omega
theorem size_data (s : ByteArray) : s.size = s.data.toList.length := rfl
theorem spec_Labels_loop (s : ByteArray) (hn : s.size ≤ 1048576) (hne : s.toList ≠ []) : ∀ (d i f : Nat) (out : List ByteArray), i + d = s.size → f ≤ i → out.length ≤ i →
    Ev (fun k => spec_Labels.l0 k s out (f : Int) (i : Int)) (out ++ (cutA ((s.data.toList.take i).drop f) (s.data.toList.drop i)).map mkB) := by
  have hz := size_data s
  have hb : (s.toList != ([] : List UInt8)) = true := bne_iff_ne.2 hne
  intro d
  induction d with
  | zero =>
    intro i f out hi hf ho
    have w : wrap64 ((i : Int) + 1) = ((i + 1 : Nat) : Int) := wrap_succ i 1048577 (by omega) (by omega)
    have hx : s.extract f i = mkB ((s.data.toList.take i).drop f) := extract_mkB s f i
    refine Ev.step (f := fun k => spec_Labels.j1 k s out (f : Int) (i : Int) true) (fun k => ?_) ?_
    · simp only [spec_Labels.l0]
      rw [if_pos (by omega), hb]
    refine Ev.step (f := fun k => spec_Labels.l0 k s (out ++ [mkB ((s.data.toList.take i).drop f)]) ((i + 1 : Nat) : Int) ((i + 1 : Nat) : Int)) (fun k => ?_) ?_
    · simp only [spec_Labels.j1, if_true]
      rw [if_pos (by omega), if_pos (by omega), if_pos (by omega), if_pos (by omega), if_pos (by omega), w, Int.toNat_natCast, Int.toNat_natCast, hx]
    refine Ev.step (f := fun k => spec_Labels.j1 k s (out ++ [mkB ((s.data.toList.take i).drop f)]) ((i + 1 : Nat) : Int) ((i + 1 : Nat) : Int) false) (fun k => ?_) ?_
    · simp only [spec_Labels.l0]
      rw [if_neg (by omega)]
    refine Ev.step (f := fun _ => some (out ++ [mkB ((s.data.toList.take i).drop f)])) (fun k => ?_) ⟨0, fun _ _ => ?_⟩
    · simp only [spec_Labels.j1]
      rw [if_neg (by decide)]
    · rw [show s.data.toList.drop i = [] from List.drop_of_length_le (by omega)]
      rfl
  | succ d ih =>
    intro i f out hi hf ho
    have hil : i < s.data.toList.length := by omega
    have w : wrap64 ((i : Int) + 1) = ((i + 1 : Nat) : Int) := wrap_succ i 1048577 (by omega) (by omega)
    have hx : s.extract f i = mkB ((s.data.toList.take i).drop f) := extract_mkB s f i
    rw [List.drop_eq_getElem_cons hil]
    refine Ev.step (f := fun k => spec_Labels.j1 k s out (f : Int) (i : Int) true) (fun k => ?_) ?_
    · simp only [spec_Labels.l0]
      rw [if_pos (by omega), hb]
    by_cases c : s.data.toList[i] = 46
    · have cb := (bt_data s i hil).2 c
      have := ih (i + 1) (i + 1) (out ++ [mkB ((s.data.toList.take i).drop f)]) (by omega) (by omega) (by simp; omega)
      have e0 : (s.data.toList.take (i + 1)).drop (i + 1) = [] := List.drop_of_length_le (by rw [List.length_take]; omega)
      rw [e0] at this
      refine Ev.step (f := fun k => spec_Labels.l0 k s (out ++ [mkB ((s.data.toList.take i).drop f)]) ((i + 1 : Nat) : Int) ((i + 1 : Nat) : Int)) (fun k => ?_) ?_
      · simp only [spec_Labels.j1, if_true]
        rw [if_neg (by omega), if_pos (by omega), if_pos (by omega), if_pos cb, if_pos (by omega), if_pos (by omega), if_pos (by omega), if_pos (by omega), w, Int.toNat_natCast, Int.toNat_natCast, hx]
      · simp only [cutA, if_pos c, List.map_cons]
        rw [List.append_assoc] at this
        exact this
    · have cb : ¬ bt s (i : Int) = 46 := fun e => c ((bt_data s i hil).1 e)
      have := ih (i + 1) f out (by omega) (by omega) (by omega)
      have e0 : (s.data.toList.take (i + 1)).drop f = (s.data.toList.take i).drop f ++ [s.data.toList[i]] := by
        rw [← List.take_append_getElem hil, List.drop_append_of_le_length (by rw [List.length_take]; omega)]
      rw [e0] at this
      refine Ev.step (f := fun k => spec_Labels.l0 k s out (f : Int) ((i + 1 : Nat) : Int)) (fun k => ?_) ?_
      · simp only [spec_Labels.j1, if_true]
        rw [if_neg (by omega), if_pos (by omega), if_pos (by omega), if_neg cb, w]
      · simp only [cutA, if_neg c]
        exact this
theorem spec_Labels_eq (s : ByteArray) (hn : s.size ≤ 1048576) : Ev (fun k => spec_Labels.f k s) (labelsL s) := by
  unfold spec_Labels.f labelsL
  by_cases h : s.data.toList = []
  · rw [if_pos h]
    have hb : (s.toList != ([] : List UInt8)) = false := by rw [ByteArray.toList_eq, h]; rfl
    refine Ev.step (f := fun k => spec_Labels.j1 k s [] 0 0 false) (fun k => ?_) ?_
    · simp only [spec_Labels.l0]
      rw [if_pos (by omega), hb]
    refine Ev.step (f := fun _ => some []) (fun k => ?_) ⟨0, fun _ _ => rfl⟩
    simp only [spec_Labels.j1]
    rw [if_neg (by decide)]
  · rw [if_neg h]
    have := spec_Labels_loop s hn (by rw [ByteArray.toList_eq]; exact h) s.size 0 0 [] (by omega) (by omega) (by simp)
    simpa using this
theorem cutA_length : ∀ (t acc : List UInt8), (cutA acc t).length ≤ t.length + 1
  | [], _ => Nat.le_refl _
  | c :: t, acc => by
    unfold cutA
    split
    · have := cutA_length t []
      simp only [List.length_cons]
      omega
    · have := cutA_length t (acc ++ [c])
      simp only [List.length_cons]
      omega
theorem labelsL_length (s : ByteArray) : (labelsL s).length ≤ s.size + 1 := by
  unfold labelsL
  split
  · simp
  · rw [List.length_map, size_data]
    exact cutA_length _ _
/-- The first number that is not 0. -/
def orL : List Int → Int
  | [] => 0
  | x :: l => if x = 0 then orL l else x
theorem orL_cons (x : Int) (l : List Int) : orL (x :: l) = if x = 0 then orL l else x := rfl
theorem cmp_Or_loop (l : List Int) (hn : l.length ≤ 1000) : ∀ (d i : Nat), i + d = l.length → Ev (fun k => cmp_Or_int.l0 k 0 l (l.length : Int) (i : Int)) (orL (l.drop i)) := by
  intro d
  induction d with
  | zero =>
    intro i hi
    rw [show l.drop i = [] from List.drop_of_length_le (by omega)]
    refine Ev.step (f := fun _ => some 0) (fun k => ?_) ⟨0, fun _ _ => rfl⟩
    simp only [cmp_Or_int.l0]
    rw [if_neg (by omega)]
  | succ d ih =>
    intro i hi
    have hw := wrap_succ i l.length (by omega) (by omega)
    rw [rd_drop l i (by omega)]
    by_cases c : rd l i = 0
    · refine Ev.step (f := fun k => cmp_Or_int.l0 k 0 l (l.length : Int) ((i + 1 : Nat) : Int)) (fun k => ?_) ?_
      · simp only [cmp_Or_int.l0]
        rw [if_pos (by omega), if_pos (by omega), if_pos (by omega), if_pos c, hw]
      · unfold orL
        rw [if_pos c]
        exact ih (i + 1) (by omega)
    · refine Ev.step (f := fun _ => some (rd l i)) (fun k => ?_) ⟨0, fun _ _ => ?_⟩
      · simp only [cmp_Or_int.l0]
        rw [if_pos (by omega), if_pos (by omega), if_pos (by omega), if_neg c]
      · unfold orL
        rw [if_neg c]
theorem cmp_Or_eq (l : List Int) (hn : l.length ≤ 1000) : Ev (fun k => cmp_Or_int.f k l) (orL l) := by
  have := cmp_Or_loop l hn l.length 0 (by omega)
  unfold cmp_Or_int.f
  simpa using this
theorem Ev_if {α : Type} {c : Prop} [Decidable c] {f g : Nat → Option α} {x : α} (h : c) (h1 : Ev f x) : Ev (fun k => if c then f k else g k) x := by
  simp only [if_pos h]
  exact h1
theorem Ev_ifn {α : Type} {c : Prop} [Decidable c] {f g : Nat → Option α} {x : α} (h : ¬ c) (h1 : Ev g x) : Ev (fun k => if c then f k else g k) x := by
  simp only [if_neg h]
  exact h1
/-- A byte of a label. -/
def okB (c : Int) : Bool := (decide (97 ≤ c) && decide (c ≤ 122)) || (decide (48 ≤ c) && decide (c ≤ 57)) || decide (c = 45) || decide (c = 95)
/-- A label: what LabelOk answers. -/
def labelOk (s : ByteArray) : Bool := (bytesOf s).all okB && (decide (1 ≤ s.size) && decide (s.size ≤ 12))
theorem l1In_dec (a b c : Int) : spec_l1In.f a b c = some (decide (b ≤ a) && decide (a ≤ c)) := by
  unfold spec_l1In.f
  by_cases h : a ≥ b
  · rw [if_pos h]
    have h' : b ≤ a := h
    simp [h']
  · rw [if_neg h]
    have h' : ¬ b ≤ a := h
    simp [h']
theorem l2Byte_eq (c : Int) (h0 : 0 ≤ c) (h1 : c ≤ 255) : spec_l2Byte.f c = some (okB c) := by
  unfold spec_l2Byte.f okB
  rw [wrap_id (x := c) (by omega) (by omega), l1In_dec, l1In_dec]
  simp only [Option.bind_some]
  by_cases a : (decide (97 ≤ c) && decide (c ≤ 122)) = true
  · simp [a]
  · by_cases b : (decide (48 ≤ c) && decide (c ≤ 57)) = true
    · simp [a, b]
    · by_cases d : c = 45
      · simp [a, b, d]
      · simp only [Bool.not_eq_true] at a b
        have e : (c == 95) = decide (c = 95) := by by_cases z : c = 95 <;> simp [z]
        simp [a, b, d, e]
theorem drop_bytesOf (s : ByteArray) (i : Nat) (h : i < s.size) : (bytesOf s).drop i = bt s i :: (bytesOf s).drop (i + 1) := by
  rw [rd_drop _ i (by rw [bytesOf_length]; exact h), rd_bytesOf]
theorem spec_LabelOk_loop (s : ByteArray) (hn : s.size ≤ 140737488355328) : ∀ (d i : Nat), i + d = s.size →
    Ev (fun k => spec_LabelOk.l0 k s (i : Int)) (((bytesOf s).drop i).all okB && (decide (1 ≤ s.size) && decide (s.size ≤ 12))) := by
  intro d
  induction d with
  | zero =>
    intro i hi
    refine Ev.step (f := fun _ => some (decide (1 ≤ s.size) && decide (s.size ≤ 12))) (fun k => ?_) ⟨0, fun _ _ => by rw [List.drop_of_length_le (by rw [bytesOf_length]; omega)]; rfl⟩
    simp only [spec_LabelOk.l0]
    rw [if_neg (by omega), l1In_dec]
    have e1 : decide ((1 : Int) ≤ (s.size : Int)) = decide (1 ≤ s.size) := decide_eq_decide.2 (by omega)
    have e2 : decide ((s.size : Int) ≤ 12) = decide (s.size ≤ 12) := decide_eq_decide.2 (by omega)
    rw [e1, e2]
    rfl
  | succ d ih =>
    intro i hi
    have hb := bt_range s i
    have hw := wrap_succ i s.size (by omega) hn
    rw [drop_bytesOf s i (by omega), List.all_cons]
    cases h : okB (bt s i) with
    | true =>
      rw [Bool.true_and]
      refine Ev.step (f := fun k => spec_LabelOk.l0 k s ((i + 1 : Nat) : Int)) (fun k => ?_) (ih (i + 1) (by omega))
      simp only [spec_LabelOk.l0]
      rw [if_pos (by omega), if_pos (by omega), l2Byte_eq _ hb.1 hb.2, h, hw]
      rfl
    | false =>
      refine Ev.step (f := fun _ => some false) (fun k => ?_) ⟨0, fun _ _ => rfl⟩
      simp only [spec_LabelOk.l0]
      rw [if_pos (by omega), if_pos (by omega), l2Byte_eq _ hb.1 hb.2, h]
      rfl
theorem impl_LabelOk_body (c : Int) (x : Option Bool) :
    (if c < 97 then (if c < 48 then (if c = 45 then x else (if c = 95 then x else (some false))) else (if c > 57 then (if c = 45 then x else (if c = 95 then x else (some false))) else x))
      else (if c > 122 then (if c < 48 then (if c = 45 then x else (if c = 95 then x else (some false))) else (if c > 57 then (if c = 45 then x else (if c = 95 then x else (some false))) else x)) else x)) = if okB c = true then x else some false := by
  have hk : okB c = true ↔ (97 ≤ c ∧ c ≤ 122) ∨ (48 ≤ c ∧ c ≤ 57) ∨ c = 45 ∨ c = 95 := by simp [okB, or_assoc]
  by_cases h : okB c = true
  · have h' := hk.1 h
    rw [show (if okB c = true then x else some false) = x from if_pos h]
    repeat' split
    all_goals first | rfl | (exfalso; omega)
  · have h' : ¬ ((97 ≤ c ∧ c ≤ 122) ∨ (48 ≤ c ∧ c ≤ 57) ∨ c = 45 ∨ c = 95) := fun z => h (hk.2 z)
    rw [show (if okB c = true then x else some false) = some false from if_neg h]
    repeat' split
    all_goals first | rfl | (exfalso; omega)
theorem impl_LabelOk_loop (s : ByteArray) (hn : s.size ≤ 140737488355328) : ∀ (d i : Nat), i + d = s.size →
    Ev (fun k => impl_LabelOk.l0 k s (s.size : Int) (i : Int)) (((bytesOf s).drop i).all okB && (decide (1 ≤ s.size) && decide (s.size ≤ 12))) := by
  intro d
  induction d with
  | zero =>
    intro i hi
    refine Ev.step (f := fun _ => some (decide (1 ≤ s.size) && decide (s.size ≤ 12))) (fun k => ?_) ⟨0, fun _ _ => by rw [List.drop_of_length_le (by rw [bytesOf_length]; omega)]; rfl⟩
    simp only [impl_LabelOk.l0]
    rw [if_neg (by omega)]
    have e2 : decide ((s.size : Int) ≤ 12) = decide (s.size ≤ 12) := decide_eq_decide.2 (by omega)
    by_cases h : (s.size : Int) ≥ 1
    · rw [if_pos h, e2, decide_eq_true (show 1 ≤ s.size by omega), Bool.true_and]
    · rw [if_neg h, decide_eq_false (show ¬ 1 ≤ s.size by omega), Bool.false_and]
  | succ d ih =>
    intro i hi
    have hw := wrap_succ i s.size (by omega) hn
    rw [drop_bytesOf s i (by omega), List.all_cons]
    refine Ev.step (f := fun k => if okB (bt s i) = true then impl_LabelOk.l0 k s (s.size : Int) ((i + 1 : Nat) : Int) else some false) (fun k => ?_) ?_
    · simp only [impl_LabelOk.l0]
      rw [if_pos (by omega), if_pos (by omega), if_pos (by omega), hw]
      exact impl_LabelOk_body _ _
    · cases h : okB (bt s i) with
      | true =>
        have := ih (i + 1) (by omega)
        simpa using this
      | false => exact ⟨0, fun _ _ => by simp⟩
theorem spec_LabelOk_eq (s : ByteArray) (hn : s.size ≤ 140737488355328) : Ev (fun k => spec_LabelOk.f k s) (labelOk s) := by
  have := spec_LabelOk_loop s hn s.size 0 (by omega)
  unfold spec_LabelOk.f labelOk
  simpa using this
theorem impl_LabelOk_eq (s : ByteArray) (hn : s.size ≤ 140737488355328) : Ev (fun k => impl_LabelOk.f k s) (labelOk s) := by
  have := impl_LabelOk_loop s hn s.size 0 (by omega)
  unfold impl_LabelOk.f labelOk
  simpa using this
theorem szSs_cons (x : ByteArray) (l : List ByteArray) : szSs (x :: l) = x.size + szSs l := by
  unfold szSs
  rw [List.map_cons, List.sum_cons]
theorem szSs_nil : szSs [] = 0 := rfl
theorem cutA_size : ∀ (t acc : List UInt8), szSs ((cutA acc t).map mkB) ≤ acc.length + t.length
  | [], acc => by
    have e : (mkB acc).size = acc.length := rfl
    simp only [cutA, List.map_cons, List.map_nil, szSs_cons, szSs_nil, e, List.length_nil]
    omega
  | c :: t, acc => by
    unfold cutA
    split
    · have := cutA_size t []
      have e : (mkB acc).size = acc.length := rfl
      simp only [List.length_nil] at this
      simp only [List.map_cons, szSs_cons, e, List.length_cons]
      omega
    · have := cutA_size t (acc ++ [c])
      simp only [List.length_append, List.length_cons, List.length_nil] at this ⊢
      omega
theorem labelsL_size (s : ByteArray) : szSs (labelsL s) ≤ s.size := by
  unfold labelsL
  split
  · rw [szSs_nil]
    omega
  · have := cutA_size s.data.toList []
    rw [size_data]
    simpa using this
theorem szSs_mem : ∀ (l : List ByteArray) (x : ByteArray), x ∈ l → x.size ≤ szSs l
  | [], x, h => by cases h
  | y :: l, x, h => by
    rw [szSs_cons]
    rcases List.mem_cons.1 h with e | h
    · subst e
      omega
    · have := szSs_mem l x h
      omega
theorem labels_mem_size (s x : ByteArray) (h : x ∈ labelsL s) : x.size ≤ s.size := Nat.le_trans (szSs_mem _ x h) (labelsL_size s)
/-- What NameOk answers. -/
def nameOk (s : ByteArray) : Bool := (labelsL s).all labelOk && (decide (s.size ≤ 50) && decide ((labelsL s).length ≤ 6))
theorem spec_NameOk_loop (s : ByteArray) (l : List ByteArray) (hn : l.length ≤ 140737488351232) (hz : ∀ x ∈ l, x.size ≤ 1048576) : ∀ (d i : Nat), i + d = l.length →
    Ev (fun k => spec_NameOk.l0 k s l (i : Int)) ((l.drop i).all labelOk && (decide (s.size ≤ 50) && decide (l.length ≤ 6))) := by
  intro d
  induction d with
  | zero =>
    intro i hi
    rw [show l.drop i = [] from List.drop_of_length_le (by omega)]
    refine Ev.step (f := fun _ => some (decide (s.size ≤ 50) && decide (l.length ≤ 6))) (fun k => ?_) ⟨0, fun _ _ => rfl⟩
    simp only [spec_NameOk.l0]
    rw [if_neg (by omega)]
    by_cases c : s.size ≤ 50
    · rw [if_pos (by omega), decide_eq_true c, Bool.true_and]
      congr 1
      exact decide_eq_decide.2 (by omega)
    · rw [if_neg (by omega), decide_eq_false c, Bool.false_and]
  | succ d ih =>
    intro i hi
    have hil : i < l.length := by omega
    have w := wrap_succ i l.length hil (by omega)
    rw [List.drop_eq_getElem_cons hil, List.all_cons]
    have hx := hz _ (List.getElem_mem hil)
    refine Ev.step (f := fun k => (spec_LabelOk.f k l[i]).bind fun t => if t = true then spec_NameOk.l0 k s l ((i + 1 : Nat) : Int) else some false) (fun k => ?_) ?_
    · simp only [spec_NameOk.l0]
      rw [if_pos (by omega), if_pos (by omega), rdS_getElem l i hil, w]
    · refine Ev.bind (spec_LabelOk_eq l[i] (by omega)) ?_
      cases h : labelOk l[i] with
      | true =>
        rw [Bool.true_and]
        exact Ev_if rfl (ih (i + 1) (by omega))
      | false => exact Ev_ifn (by decide) ⟨0, fun _ _ => rfl⟩
theorem spec_NameOk_eq (s : ByteArray) (hs : s.size ≤ 1048576) : Ev (fun k => spec_NameOk.f k s) (nameOk s) := by
  unfold spec_NameOk.f nameOk
  have h1 := labelsL_length s
  refine Ev.bind (spec_Labels_eq s hs) ?_
  have := spec_NameOk_loop s (labelsL s) (by omega) (fun x hx => Nat.le_trans (labels_mem_size s x hx) hs) (labelsL s).length 0 (by omega)
  simpa using this
theorem impl_NameOk_1_eq (s : ByteArray) (hs : s.size ≤ 1048576) : Ev (fun k => impl_NameOk_1.f k s) (!labelOk s) := by
  unfold impl_NameOk_1.f
  exact Ev.bind (impl_LabelOk_eq s (by omega)) ⟨0, fun _ _ => rfl⟩
theorem slices_IndexFunc_string_loop (l : List ByteArray) (hn : l.length ≤ 140737488351232) (hz : ∀ x ∈ l, x.size ≤ 1048576) : ∀ (d i : Nat), i + d = l.length →
    ∃ r : Int, Ev (fun k => slices_IndexFunc_string.l0 k l (l.length : Int) (i : Int)) r ∧ decide (r ≥ 0) = !(l.drop i).all labelOk := by
  intro d
  induction d with
  | zero =>
    intro i hi
    rw [show l.drop i = [] from List.drop_of_length_le (by omega)]
    refine ⟨-1, Ev.step (f := fun _ => some (-1)) (fun k => ?_) ⟨0, fun _ _ => rfl⟩, rfl⟩
    simp only [slices_IndexFunc_string.l0]
    rw [if_neg (by omega)]
  | succ d ih =>
    intro i hi
    have hil : i < l.length := by omega
    have w := wrap_succ i l.length hil (by omega)
    rw [List.drop_eq_getElem_cons hil, List.all_cons]
    have hx := hz _ (List.getElem_mem hil)
    obtain ⟨r, hr, hd⟩ := ih (i + 1) (by omega)
    have hs : ∀ k, slices_IndexFunc_string.l0 (k + 1) l (l.length : Int) (i : Int) = (impl_NameOk_1.f k l[i]).bind fun t => if t = true then some (i : Int) else slices_IndexFunc_string.l0 k l (l.length : Int) ((i + 1 : Nat) : Int) := by
      intro k
      simp only [slices_IndexFunc_string.l0]
      rw [if_pos (by omega), if_pos (by omega), if_pos (by omega), rdS_getElem l i hil, w]
    cases h : labelOk l[i] with
    | true =>
      refine ⟨r, Ev.step hs (Ev.bind (impl_NameOk_1_eq l[i] hx) ?_), by rw [hd, Bool.true_and]⟩
      rw [h]
      exact Ev_ifn (by decide) hr
    | false =>
      refine ⟨(i : Int), Ev.step hs (Ev.bind (impl_NameOk_1_eq l[i] hx) ?_), by rw [decide_eq_true (by omega)]; rfl⟩
      rw [h]
      exact Ev_if rfl ⟨0, fun _ _ => rfl⟩
theorem slices_ContainsFunc_string_eq (l : List ByteArray) (hn : l.length ≤ 140737488351232) (hz : ∀ x ∈ l, x.size ≤ 1048576) : Ev (fun k => slices_ContainsFunc_string.f k l) (!l.all labelOk) := by
  unfold slices_ContainsFunc_string.f slices_IndexFunc_string.f
  obtain ⟨r, hr, hd⟩ := slices_IndexFunc_string_loop l hn hz l.length 0 (by omega)
  rw [List.drop_zero] at hd
  rw [← hd]
  exact Ev.bind hr ⟨0, fun _ _ => rfl⟩
theorem impl_NameOk_eq (s : ByteArray) (hs : s.size ≤ 1048576) : Ev (fun k => impl_NameOk.f k s) (nameOk s) := by
  unfold impl_NameOk.f nameOk
  have h1 := labelsL_length s
  rw [impl_Labels_eq s (by omega)]
  simp only [Option.bind_some]
  by_cases c1 : s.size ≤ 50
  · refine Ev_if (by omega) ?_
    rw [decide_eq_true c1, Bool.true_and]
    by_cases c2 : (labelsL s).length ≤ 6
    · refine Ev_if (by omega) ?_
      rw [decide_eq_true c2, Bool.and_true]
      refine Ev.bind (slices_ContainsFunc_string_eq _ (by omega) (fun x hx => Nat.le_trans (labels_mem_size s x hx) hs)) ⟨0, fun _ _ => ?_⟩
      rw [Bool.not_not]
    · refine Ev_ifn (by omega) ?_
      rw [decide_eq_false c2, Bool.and_false]
      exact ⟨0, fun _ _ => rfl⟩
  · refine Ev_ifn (by omega) ?_
    rw [decide_eq_false c1, Bool.false_and, Bool.and_false]
    exact ⟨0, fun _ _ => rfl⟩
/-- The bytes of a text. -/
def textOk (s : ByteArray) : Bool := (bytesOf s).all (fun c => decide (33 ≤ c) && decide (c ≤ 126)) && decide (s.size ≤ 12)
theorem spec_l5Text_loop (s : ByteArray) (hn : s.size ≤ 140737488355328) : ∀ (d i : Nat), i + d = s.size →
    Ev (fun k => spec_l5Text.l0 k s (i : Int)) (((bytesOf s).drop i).all (fun c => decide (33 ≤ c) && decide (c ≤ 126)) && decide (s.size ≤ 12)) := by
  intro d
  induction d with
  | zero =>
    intro i hi
    refine Ev.step (f := fun _ => some (decide (s.size ≤ 12))) (fun k => ?_) ⟨0, fun _ _ => by rw [List.drop_of_length_le (by rw [bytesOf_length]; omega)]; rfl⟩
    simp only [spec_l5Text.l0]
    rw [if_neg (by omega)]
    congr 1
    exact decide_eq_decide.2 (by omega)
  | succ d ih =>
    intro i hi
    have hb := bt_range s i
    have hw := wrap_succ i s.size (by omega) hn
    rw [drop_bytesOf s i (by omega), List.all_cons]
    have hs : ∀ k, spec_l5Text.l0 (k + 1) s (i : Int) = if (decide (33 ≤ bt s i) && decide (bt s i ≤ 126)) = true then spec_l5Text.l0 k s ((i + 1 : Nat) : Int) else some false := by
      intro k
      simp only [spec_l5Text.l0]
      rw [if_pos (by omega), if_pos (by omega), wrap_id (x := bt s i) (by omega) (by omega), l1In_dec, Option.bind_some, hw]
    refine Ev.step hs ?_
    cases h : (decide (33 ≤ bt s i) && decide (bt s i ≤ 126)) with
    | true => exact Ev_if rfl (by rw [Bool.true_and]; exact ih (i + 1) (by omega))
    | false => exact Ev_ifn (by decide) ⟨0, fun _ _ => rfl⟩
theorem spec_l5Text_eq (s : ByteArray) (hn : s.size ≤ 140737488355328) : Ev (fun k => spec_l5Text.f k s) (textOk s) := by
  have := spec_l5Text_loop s hn s.size 0 (by omega)
  unfold spec_l5Text.f textOk
  simpa using this
theorem impl_isText_loop (s : ByteArray) (hn : s.size ≤ 140737488355328) : ∀ (d i : Nat), i + d = s.size →
    Ev (fun k => impl_isText.l0 k s (s.size : Int) (i : Int)) (((bytesOf s).drop i).all (fun c => decide (33 ≤ c) && decide (c ≤ 126)) && decide (s.size ≤ 12)) := by
  intro d
  induction d with
  | zero =>
    intro i hi
    refine Ev.step (f := fun _ => some (decide (s.size ≤ 12))) (fun k => ?_) ⟨0, fun _ _ => by rw [List.drop_of_length_le (by rw [bytesOf_length]; omega)]; rfl⟩
    simp only [impl_isText.l0]
    rw [if_neg (by omega)]
    congr 1
    exact decide_eq_decide.2 (by omega)
  | succ d ih =>
    intro i hi
    have hb := bt_range s i
    have hw := wrap_succ i s.size (by omega) hn
    rw [drop_bytesOf s i (by omega), List.all_cons]
    have hs : ∀ k, impl_isText.l0 (k + 1) s (s.size : Int) (i : Int) = if bt s i < 33 then some false else if bt s i > 126 then some false else impl_isText.l0 k s (s.size : Int) ((i + 1 : Nat) : Int) := by
      intro k
      simp only [impl_isText.l0]
      rw [if_pos (by omega), if_pos (by omega), if_pos (by omega), hw]
    refine Ev.step hs ?_
    by_cases c1 : bt s i < 33
    · refine Ev_if c1 ⟨0, fun _ _ => ?_⟩
      rw [decide_eq_false (show ¬ 33 ≤ bt s i by omega)]
      rfl
    · refine Ev_ifn c1 ?_
      rw [decide_eq_true (show 33 ≤ bt s i by omega), Bool.true_and]
      by_cases c2 : bt s i > 126
      · refine Ev_if c2 ⟨0, fun _ _ => ?_⟩
        rw [decide_eq_false (show ¬ bt s i ≤ 126 by omega)]
        rfl
      · refine Ev_ifn c2 ?_
        rw [decide_eq_true (show bt s i ≤ 126 by omega), Bool.true_and]
        exact ih (i + 1) (by omega)
theorem impl_isText_eq (s : ByteArray) (hn : s.size ≤ 140737488355328) : Ev (fun k => impl_isText.f k s) (textOk s) := by
  have := impl_isText_loop s hn s.size 0 (by omega)
  unfold impl_isText.f textOk
  simpa using this
/-- A number from 0 to m. -/
def inTo (x m : Int) : Bool := decide (0 ≤ x) && decide (x ≤ m)
theorem l1In_to (x m : Int) : spec_l1In.f x 0 m = some (inTo x m) := l1In_dec x 0 m
theorem isTtl_eq (x : Int) : impl_isTtl.f x = some (inTo x 100000) := by
  unfold impl_isTtl.f inTo
  by_cases h : x ≥ 0
  · rw [if_pos h, decide_eq_true (show 0 ≤ x by omega), Bool.true_and]
  · rw [if_neg h, decide_eq_false (show ¬ 0 ≤ x by omega), Bool.false_and]
theorem isFour_eq (x : Int) : impl_isFour.f x = some (inTo x 2147483647) := by
  unfold impl_isFour.f inTo
  by_cases h : x ≥ 0
  · rw [if_pos h, decide_eq_true (show 0 ≤ x by omega), Bool.true_and]
  · rw [if_neg h, decide_eq_false (show ¬ 0 ≤ x by omega), Bool.false_and]
def isE (s : ByteArray) : Bool := s.toList == ([] : List UInt8)
/-- What RecordOk answers. -/
def recOk (a0 : ByteArray) (a1 a2 a3 : Int) (a4 a5 : ByteArray) : Bool :=
  nameOk a0 && (inTo a2 100000 && (if a1 = 1 then inTo a3 2147483647 && (isE a4 && isE a5) else if a1 = 2 ∨ a1 = 5 then decide (a3 = 0) && (nameOk a4 && isE a5) else if a1 = 6 then inTo a3 100000 && (nameOk a4 && isE a5) else if a1 = 16 then decide (a3 = 0) && (isE a4 && textOk a5) else false))
theorem Ev_and {f : Nat → Option Bool} {a b : Bool} {g : Nat → Option Bool} (h : Ev f a) (h2 : a = true → Ev g b) : Ev (fun k => (f k).bind fun t => if t = true then g k else some false) (a && b) := by
  refine Ev.bind h ?_
  cases a with
  | true => exact Ev_if rfl (by rw [Bool.true_and]; exact h2 rfl)
  | false => exact Ev_ifn (by decide) ⟨0, fun _ _ => rfl⟩
theorem Ev_andp {p : Prop} [Decidable p] {b : Bool} {g : Nat → Option Bool} (h2 : p → Ev g b) : Ev (fun k => if p then g k else some false) (decide p && b) := by
  by_cases h : p
  · rw [decide_eq_true h, Bool.true_and]
    exact Ev_if h (h2 h)
  · rw [decide_eq_false h, Bool.false_and]
    exact Ev_ifn h ⟨0, fun _ _ => rfl⟩
theorem Ev_andE (s : ByteArray) {b : Bool} {g : Nat → Option Bool} (h2 : Ev g b) : Ev (fun k => if s.toList = ([] : List UInt8) then g k else some false) (isE s && b) := by
  unfold isE
  by_cases h : s.toList = []
  · rw [show (s.toList == ([] : List UInt8)) = true by rw [h]; rfl, Bool.true_and]
    exact Ev_if h h2
  · rw [show (s.toList == ([] : List UInt8)) = false by simpa using h, Bool.false_and]
    exact Ev_ifn h ⟨0, fun _ _ => rfl⟩
theorem Ev_some {α : Type} (x : α) : Ev (fun _ => some x) x := ⟨0, fun _ _ => rfl⟩
theorem Ev_ret {α : Type} {f : Nat → Option α} {x : α} (h : Ev f x) : Ev (fun k => (f k).bind fun t => some t) x := Ev.bind h (Ev_some x)
theorem spec_RecordOk_eq (a0 : ByteArray) (a1 a2 a3 : Int) (a4 a5 : ByteArray) (h0 : a0.size ≤ 1048576) (h4 : a4.size ≤ 1048576) (h5 : a5.size ≤ 1048576) : Ev (fun k => spec_RecordOk.f k a0 a1 a2 a3 a4 a5) (recOk a0 a1 a2 a3 a4 a5) := by
  unfold spec_RecordOk.f recOk
  refine Ev.bind (spec_NameOk_eq a0 h0) ?_
  cases hn : nameOk a0 with
  | false =>
    refine Ev_ifn (by decide) ?_
    refine Ev.step (f := fun _ => some false) (fun k => ?_) (Ev_some _)
    simp only [spec_RecordOk.j0]
    rfl
  | true =>
    rw [Bool.true_and]
    refine Ev_if rfl ?_
    simp only [l1In_to, Option.bind_some]
    cases ht : inTo a2 100000 with
    | false =>
      refine Ev.step (f := fun _ => some false) (fun k => ?_) (Ev_some _)
      simp only [spec_RecordOk.j0]
      rfl
    | true =>
      rw [Bool.true_and]
      have key : ∀ (b : Bool), b = decide (a1 = 2 ∨ a1 = 5) → a1 ≠ 1 → Ev (fun k => spec_RecordOk.j1 k a1 b a0 a1 a2 a3 a4 a5) (if a1 = 2 ∨ a1 = 5 then decide (a3 = 0) && (nameOk a4 && isE a5) else if a1 = 6 then inTo a3 100000 && (nameOk a4 && isE a5) else if a1 = 16 then decide (a3 = 0) && (isE a4 && textOk a5) else false) := by
        intro b hb h1
        by_cases c : a1 = 2 ∨ a1 = 5
        · rw [if_pos c]
          rw [decide_eq_true c] at hb
          subst hb
          refine Ev.step (fun k => ?_) (Ev_andp fun _ => Ev_and (spec_NameOk_eq a4 h4) fun _ => Ev_some _)
          simp only [spec_RecordOk.j1, if_true]
          rfl
        · rw [if_neg c]
          rw [decide_eq_false c] at hb
          subst hb
          by_cases c6 : a1 = 6
          · rw [if_pos c6]
            refine Ev.step (fun k => ?_) (Ev_and (f := fun _ => some (inTo a3 100000)) (Ev_some _) fun _ => Ev_and (spec_NameOk_eq a4 h4) fun _ => Ev_some _)
            simp only [spec_RecordOk.j1]
            rw [if_neg (by decide), if_pos c6, l1In_to]
            rfl
          · rw [if_neg c6]
            by_cases c16 : a1 = 16
            · rw [if_pos c16]
              refine Ev.step (fun k => ?_) (Ev_andp fun _ => Ev_andE a4 (Ev_ret (spec_l5Text_eq a5 (by omega))))
              simp only [spec_RecordOk.j1]
              rw [if_neg (by decide), if_neg c6, if_pos c16]
            · rw [if_neg c16]
              refine Ev.step (f := fun _ => some false) (fun k => ?_) (Ev_some _)
              simp only [spec_RecordOk.j1]
              rw [if_neg (by decide), if_neg c6, if_neg c16]
      by_cases c1 : a1 = 1
      · rw [if_pos c1]
        refine Ev.step (fun k => ?_) (Ev_and (f := fun _ => some (inTo a3 2147483647)) (Ev_some _) fun _ => Ev_andE a4 (Ev_some _))
        simp only [spec_RecordOk.j0]
        rw [if_neg (by decide), if_pos c1, l1In_to]
        rfl
      · rw [if_neg c1]
        by_cases c2 : a1 = 2
        · refine Ev.step (fun k => ?_) (key (a1 == 2) (by rw [decide_eq_true (Or.inl c2)]; simpa using c2) c1)
          simp only [spec_RecordOk.j0]
          rw [if_neg (by decide), if_neg c1, if_pos c2]
        · refine Ev.step (fun k => ?_) (key (a1 == 5) (by by_cases c5 : a1 = 5 <;> simp [c2, c5]) c1)
          simp only [spec_RecordOk.j0]
          rw [if_neg (by decide), if_neg c1, if_neg c2]
theorem impl_RecordOk_eq (a0 : ByteArray) (a1 a2 a3 : Int) (a4 a5 : ByteArray) (h0 : a0.size ≤ 1048576) (h4 : a4.size ≤ 1048576) (h5 : a5.size ≤ 1048576) : Ev (fun k => impl_RecordOk.f k a0 a1 a2 a3 a4 a5) (recOk a0 a1 a2 a3 a4 a5) := by
  unfold impl_RecordOk.f recOk
  refine Ev.bind (impl_NameOk_eq a0 h0) ?_
  cases hn : nameOk a0 with
  | false =>
    refine Ev_ifn (by decide) ?_
    refine Ev.step (f := fun _ => some false) (fun k => ?_) (Ev_some _)
    simp only [impl_RecordOk.j0]
    rfl
  | true =>
    rw [Bool.true_and]
    refine Ev_if rfl ?_
    simp only [isTtl_eq, Option.bind_some]
    cases ht : inTo a2 100000 with
    | false =>
      refine Ev.step (f := fun _ => some false) (fun k => ?_) (Ev_some _)
      simp only [impl_RecordOk.j0]
      rfl
    | true =>
      rw [Bool.true_and]
      have key : ∀ (b : Bool), b = decide (a1 = 2 ∨ a1 = 5) → a1 ≠ 1 → Ev (fun k => impl_RecordOk.j1 k a1 b a0 a1 a2 a3 a4 a5) (if a1 = 2 ∨ a1 = 5 then decide (a3 = 0) && (nameOk a4 && isE a5) else if a1 = 6 then inTo a3 100000 && (nameOk a4 && isE a5) else if a1 = 16 then decide (a3 = 0) && (isE a4 && textOk a5) else false) := by
        intro b hb h1
        by_cases c : a1 = 2 ∨ a1 = 5
        · rw [if_pos c]
          rw [decide_eq_true c] at hb
          subst hb
          refine Ev.step (fun k => ?_) (Ev_andp fun _ => Ev_and (impl_NameOk_eq a4 h4) fun _ => Ev_some _)
          simp only [impl_RecordOk.j1, if_true]
          rfl
        · rw [if_neg c]
          rw [decide_eq_false c] at hb
          subst hb
          by_cases c6 : a1 = 6
          · rw [if_pos c6]
            refine Ev.step (fun k => ?_) (Ev_and (f := fun _ => some (inTo a3 100000)) (Ev_some _) fun _ => Ev_and (impl_NameOk_eq a4 h4) fun _ => Ev_some _)
            simp only [impl_RecordOk.j1]
            rw [if_neg (by decide), if_pos c6, isTtl_eq]
            rfl
          · rw [if_neg c6]
            by_cases c16 : a1 = 16
            · rw [if_pos c16]
              refine Ev.step (fun k => ?_) (Ev_andp fun _ => Ev_andE a4 (Ev_ret (impl_isText_eq a5 (by omega))))
              simp only [impl_RecordOk.j1]
              rw [if_neg (by decide), if_neg c6, if_pos c16]
            · rw [if_neg c16]
              refine Ev.step (f := fun _ => some false) (fun k => ?_) (Ev_some _)
              simp only [impl_RecordOk.j1]
              rw [if_neg (by decide), if_neg c6, if_neg c16]
      by_cases c1 : a1 = 1
      · rw [if_pos c1]
        refine Ev.step (fun k => ?_) (Ev_and (f := fun _ => some (inTo a3 2147483647)) (Ev_some _) fun _ => Ev_andE a4 (Ev_some _))
        simp only [impl_RecordOk.j0]
        rw [if_neg (by decide), if_pos c1, isFour_eq]
        rfl
      · rw [if_neg c1]
        by_cases c2 : a1 = 2
        · refine Ev.step (fun k => ?_) (key (a1 == 2) (by rw [decide_eq_true (Or.inl c2)]; simpa using c2) c1)
          simp only [impl_RecordOk.j0]
          rw [if_neg (by decide), if_neg c1, if_pos c2]
        · refine Ev.step (fun k => ?_) (key (a1 == 5) (by by_cases c5 : a1 = 5 <;> simp [c2, c5]) c1)
          simp only [impl_RecordOk.j0]
          rw [if_neg (by decide), if_neg c1, if_neg c2]
theorem Ev_c {α : Type} {o : Option α} {x : α} (h : o = some x) : Ev (fun _ => o) x := ⟨0, fun _ _ => h⟩
theorem and255 (y : Int) : 0 ≤ Go.bits .and .i64 y 255 ∧ Go.bits .and .i64 y 255 ≤ 255 := by
  have h : (BitVec.ofInt 64 y &&& BitVec.ofInt 64 255).toNat ≤ 255 := by
    rw [BitVec.toNat_and]
    exact Nat.le_trans Nat.and_le_right (by decide)
  have e : Go.bits .and .i64 y 255 = IntKind.i64.wrap ((BitVec.ofInt 64 y &&& BitVec.ofInt 64 255).toNat : Int) := rfl
  rw [e, Go.IntKind.wrap_i64]
  omega
/-- A place in a draw's bytes. -/
def CurOk (b : List Int) (i : Int) : Prop := 0 ≤ i ∧ i ≤ (b.length : Int)
/-- A draw that answers: what it draws is so, and the place stays one. -/
def Dr {α : Type} (b : List Int) (f : Option (α × Int × Int)) (P : α → Prop) : Prop := ∃ x j g, f = some (x, j, g) ∧ P x ∧ CurOk b j
theorem l1Byte_dr (b : List Int) (hn : b.length ≤ 140737488351232) (i h : Int) (c : CurOk b i) : Dr b (spec_l1Byte.f b i h) (fun x => 0 ≤ x ∧ x ≤ 255) := by
  unfold spec_l1Byte.f
  obtain ⟨c0, c1⟩ := c
  by_cases q : i < (b.length : Int)
  · rw [if_pos q, if_pos c0]
    have w : wrap64 (i + 1) = i + 1 := wrap_id (by omega) (by omega)
    refine ⟨_, _, _, rfl, and255 _, ?_⟩
    rw [w]
    exact ⟨by omega, by omega⟩
  · rw [if_neg q]
    exact ⟨_, _, _, rfl, and255 _, ⟨c0, c1⟩⟩
theorem tmod_rng (x n : Int) (hx : 0 ≤ x) (hn : 0 < n) : 0 ≤ Int.tmod x n ∧ Int.tmod x n < n := by
  rw [Int.tmod_eq_emod_of_nonneg hx]
  exact ⟨Int.emod_nonneg _ (by omega), Int.emod_lt_of_pos _ hn⟩
theorem l1Below_dr (b : List Int) (hn : b.length ≤ 140737488351232) (i h n : Int) (c : CurOk b i) : Dr b (spec_l1Below.f b i h n) (fun x => 0 ≤ x ∧ (0 < n → x < n) ∧ (n ≤ 0 → x = 0)) := by
  unfold spec_l1Below.f
  by_cases q : n ≤ 0
  · rw [if_pos q]
    exact ⟨_, _, _, rfl, ⟨Int.le_refl _, fun z => by omega, fun _ => rfl⟩, c⟩
  · rw [if_neg q]
    by_cases q2 : n ≤ 256
    · rw [if_pos q2]
      obtain ⟨x, j, g, e, p, c2⟩ := l1Byte_dr b hn i h c
      rw [e]
      simp only [Option.bind_some]
      rw [if_neg (by omega)]
      have t := tmod_rng x n p.1 (by omega)
      exact ⟨_, _, _, rfl, ⟨t.1, fun _ => t.2, fun z => by omega⟩, c2⟩
    · rw [if_neg q2]
      obtain ⟨x, j, g, e, p, c2⟩ := l1Byte_dr b hn i h c
      rw [e]
      simp only [Option.bind_some]
      obtain ⟨x2, j2, g2, e2, p2, c3⟩ := l1Byte_dr b hn j g c2
      rw [e2]
      simp only [Option.bind_some]
      obtain ⟨x3, j3, g3, e3, p3, c4⟩ := l1Byte_dr b hn j2 g2 c3
      rw [e3]
      simp only [Option.bind_some]
      rw [if_neg (by omega)]
      have w1 : wrap64 (x * 65536) = x * 65536 := wrap_id (by omega) (by omega)
      have w2 : wrap64 (x2 * 256) = x2 * 256 := wrap_id (by omega) (by omega)
      have w3 : wrap64 (x * 65536 + x2 * 256) = x * 65536 + x2 * 256 := wrap_id (by omega) (by omega)
      have w4 : wrap64 (x * 65536 + x2 * 256 + x3) = x * 65536 + x2 * 256 + x3 := wrap_id (by omega) (by omega)
      rw [w1, w2, w3, w4]
      have t := tmod_rng (x * 65536 + x2 * 256 + x3) n (by omega) (by omega)
      exact ⟨_, _, _, rfl, ⟨t.1, fun _ => t.2, fun z => by omega⟩, c4⟩
theorem l1Once_dr (b : List Int) (hn : b.length ≤ 140737488351232) (i h n : Int) (c : CurOk b i) : Dr b (spec_l1Once.f b i h n) (fun _ => True) := by
  unfold spec_l1Once.f
  obtain ⟨x, j, g, e, p, c2⟩ := l1Below_dr b hn i h n c
  rw [e]
  exact ⟨_, _, _, rfl, trivial, c2⟩
theorem l1Int_dr (b : List Int) (hn : b.length ≤ 140737488351232) (i h : Int) (l : List Int) (hl : 0 < l.length) (c : CurOk b i) : Dr b (spec_l1Int.f b i h l) (fun x => x ∈ l) := by
  unfold spec_l1Int.f
  obtain ⟨x, j, g, e, p, c2⟩ := l1Below_dr b hn i h (l.length : Int) c
  rw [e]
  simp only [Option.bind_some]
  have := p.2.1 (by omega)
  rw [if_pos p.1, if_pos this]
  exact ⟨_, _, _, rfl, rd_mem l x p.1 this, c2⟩
theorem rdS_mem (l : List ByteArray) (x : Int) (h0 : 0 ≤ x) (h : x < (l.length : Int)) : rdOf ByteArray.empty l x ∈ l := by
  obtain ⟨n, rfl⟩ := Int.eq_ofNat_of_zero_le h0
  rw [rdS_getElem l n (by omega)]
  exact List.getElem_mem _
theorem l1Str_dr (b : List Int) (hn : b.length ≤ 140737488351232) (i h : Int) (l : List ByteArray) (hl : 0 < l.length) (c : CurOk b i) : Dr b (spec_l1Str.f b i h l) (fun x => x ∈ l) := by
  unfold spec_l1Str.f
  obtain ⟨x, j, g, e, p, c2⟩ := l1Below_dr b hn i h (l.length : Int) c
  rw [e]
  simp only [Option.bind_some]
  have := p.2.1 (by omega)
  rw [if_pos p.1, if_pos this]
  exact ⟨_, _, _, rfl, rdS_mem l x p.1 this, c2⟩
def I64 (x : Int) : Prop := -9223372036854775808 ≤ x ∧ x ≤ 9223372036854775807
theorem i64_all (l : List Int) (h : l.all (fun x => decide (-9223372036854775808 ≤ x) && decide (x ≤ 9223372036854775807)) = true) : ∀ x ∈ l, I64 x := by
  intro x hx
  have := List.all_eq_true.1 h x hx
  rw [Bool.and_eq_true, decide_eq_true_eq, decide_eq_true_eq] at this
  exact this
theorem l1New_loop (l : List Int) (hn : l.length ≤ 140737488351232) : ∀ (d i : Nat) (h : Int), i + d = l.length → ∃ g, Ev (fun k => spec_l1New.l0 k l h (i : Int)) (l, 0, g) := by
  intro d
  induction d with
  | zero =>
    intro i h hi
    refine ⟨h, Ev.step (f := fun _ => some (l, 0, h)) (fun k => ?_) (Ev_some _)⟩
    simp only [spec_l1New.l0]
    rw [if_neg (by omega)]
  | succ d ih =>
    intro i h hi
    have w := wrap_succ i l.length (by omega) (by omega)
    by_cases q : i < 4000
    · obtain ⟨g, e⟩ := ih (i + 1) (Go.bits .and .i64 (wrap64 ((wrap64 ((wrap64 (h * 137)) + (wrap64 (rd l (i : Int))))) + 11)) 1073741823) (by omega)
      refine ⟨g, Ev.step (fun k => ?_) e⟩
      simp only [spec_l1New.l0]
      rw [if_pos (by omega), if_pos (by omega), if_pos (by omega), w]
    · refine ⟨h, Ev.step (f := fun _ => some (l, 0, h)) (fun k => ?_) (Ev_some _)⟩
      simp only [spec_l1New.l0]
      rw [if_pos (by omega), if_neg (by omega)]
theorem l1New_ev (l : List Int) (hn : l.length ≤ 140737488351232) : ∃ g, Ev (fun k => spec_l1New.f k l) (l, 0, g) := by
  unfold spec_l1New.f
  exact l1New_loop l hn l.length 0 _ (by omega)
theorem cur0 (l : List Int) : CurOk l 0 := ⟨Int.le_refl _, by omega⟩
theorem big_eq (l : List Int) : laws_big.f l = some (decide ((l.length : Int) > 1048576)) := by
  unfold laws_big.f
  rfl
theorem recOk_type {a0 : ByteArray} {a1 a2 a3 : Int} {a4 a5 : ByteArray} (h : recOk a0 a1 a2 a3 a4 a5 = true) : a1 = 1 ∨ a1 = 2 ∨ a1 = 5 ∨ a1 = 6 ∨ a1 = 16 := by
  unfold recOk at h
  simp only [Bool.and_eq_true] at h
  have h3 := h.2.2
  by_cases c1 : a1 = 1
  · exact .inl c1
  · rw [if_neg c1] at h3
    by_cases c2 : a1 = 2 ∨ a1 = 5
    · omega
    · rw [if_neg c2] at h3
      by_cases c6 : a1 = 6
      · omega
      · rw [if_neg c6] at h3
        by_cases c16 : a1 = 16
        · omega
        · rw [if_neg c16] at h3
          cases h3
theorem small_all (l : List ByteArray) (n : Nat) (h : l.all (fun x => decide (x.size ≤ n)) = true) : ∀ x ∈ l, x.size ≤ n := by
  intro x hx
  have := List.all_eq_true.1 h x hx
  rwa [decide_eq_true_eq] at this
theorem l3Name_dr (b : List Int) (hn : b.length ≤ 140737488351232) (i h : Int) (c : CurOk b i) : Dr b (spec_l3Name.f b i h) (fun s => s.size ≤ 60) := by
  unfold spec_l3Name.f
  obtain ⟨x, j, g, e, p, c2⟩ := l1Str_dr b hn i h [(⟨#[]⟩ : ByteArray), (⟨#[99, 111, 109]⟩ : ByteArray), (⟨#[101, 120, 46, 99, 111, 109]⟩ : ByteArray), (⟨#[119, 119, 119, 46, 101, 120, 46, 99, 111, 109]⟩ : ByteArray), (⟨#[110, 115, 46, 101, 120, 46, 99, 111, 109]⟩ : ByteArray), (⟨#[111, 114, 103]⟩ : ByteArray), (⟨#[97, 46, 111, 114, 103]⟩ : ByteArray), (⟨#[98, 46, 97, 46, 111, 114, 103]⟩ : ByteArray), (⟨#[110, 115, 49, 46, 111, 114, 103]⟩ : ByteArray), (⟨#[120, 46, 121, 46, 122, 46, 101, 120, 46, 99, 111, 109]⟩ : ByteArray)] (by simp) c
  rw [e]
  exact ⟨_, _, _, rfl, small_all _ 60 (by decide) x p, c2⟩
theorem l3Any_dr (b : List Int) (hn : b.length ≤ 140737488351232) (i h : Int) (c : CurOk b i) : Dr b (spec_l3Any.f b i h) (fun s => s.size ≤ 60) := by
  unfold spec_l3Any.f
  obtain ⟨x, j, g, e, p, c2⟩ := l1Once_dr b hn i h 5 c
  rw [e]
  simp only [Option.bind_some]
  by_cases q : x = true
  · rw [if_pos q]
    obtain ⟨y, j2, g2, e2, p2, c3⟩ := l1Str_dr b hn j g [(⟨#[46]⟩ : ByteArray), (⟨#[97, 46]⟩ : ByteArray), (⟨#[65, 46, 99, 111, 109]⟩ : ByteArray), (⟨#[97, 46, 46, 98]⟩ : ByteArray), (⟨#[97, 46, 98, 46, 99, 46, 100, 46, 101, 46, 102]⟩ : ByteArray), (⟨#[97, 46, 98, 46, 99, 46, 100, 46, 101, 46, 102, 46, 103]⟩ : ByteArray), (⟨#[116, 119, 101, 108, 118, 101, 98, 121, 116, 101, 115, 48, 46, 116, 119, 101, 108, 118, 101, 98, 121, 116, 101, 115, 48, 46, 116, 119, 101, 108, 118, 101, 98, 121, 116, 101, 115, 48, 46, 116, 119, 101, 108, 118, 101, 98, 121, 116, 101, 115, 48]⟩ : ByteArray), (⟨#[116, 104, 105, 114, 116, 101, 101, 110, 98, 121, 116, 101, 115, 46, 97]⟩ : ByteArray)] (by simp) c2
    rw [e2]
    exact ⟨_, _, _, rfl, small_all _ 60 (by decide) y p2, c3⟩
  · rw [if_neg q]
    obtain ⟨y, j2, g2, e2, p2, c3⟩ := l3Name_dr b hn j g c2
    rw [e2]
    exact ⟨_, _, _, rfl, p2, c3⟩
theorem l5DrawI_ev (b : List Int) (hn : b.length ≤ 140737488351232) (i h : Int) (c : CurOk b i) : ∃ a0 a1 a2 a3 a4 a5 j g, Ev (fun k => spec_l5Draw.f k b i h) (a0, a1, a2, a3, a4, a5, j, g) ∧ (a0.size ≤ 60 ∧ a4.size ≤ 60 ∧ a5.size ≤ 20) ∧ CurOk b j ∧ I64 a2 ∧ I64 a3 := by
  have z : (⟨#[]⟩ : ByteArray).size = 0 := rfl
  obtain ⟨nm, j1, g1, e1, p1, c1⟩ := l3Name_dr b hn i h c
  obtain ⟨ty, j2, g2, e2, p2, c2⟩ := l1Int_dr b hn j1 g1 [1, 1, 1, 2, 2, 5, 6, 16] (by simp) c1
  obtain ⟨tt, j3, g3, e3, p3, c3⟩ := l1Int_dr b hn j2 g2 [0, 1, 5, 60, 300, 100000] (by simp) c2
  have it := i64_all _ (by decide) tt p3
  have i0 : I64 0 := ⟨by omega, by omega⟩
  have e2' : spec_l5Type.f b j1 g1 = some (ty, j2, g2) := by
    unfold spec_l5Type.f
    rw [e2]
    rfl
  have hj : ∀ f : Bool, ∃ a0 a1 a2 a3 a4 a5 j g, Ev (fun k => spec_l5Draw.j0 k ty f b j3 g3 nm ty tt 0 (⟨#[]⟩ : ByteArray) (⟨#[]⟩ : ByteArray)) (a0, a1, a2, a3, a4, a5, j, g) ∧ (a0.size ≤ 60 ∧ a4.size ≤ 60 ∧ a5.size ≤ 20) ∧ CurOk b j ∧ I64 a2 ∧ I64 a3 := by
    intro f
    by_cases q : f = true
    · obtain ⟨x, j4, g4, e4, p4, c4⟩ := l3Name_dr b hn j3 g3 c3
      refine ⟨nm, ty, tt, 0, x, (⟨#[]⟩ : ByteArray), j4, g4, Ev.step (f := fun _ => some (nm, ty, tt, 0, x, (⟨#[]⟩ : ByteArray), j4, g4)) (fun k => ?_) (Ev_some _), ⟨p1, p4, by omega⟩, c4, it, i0⟩
      simp only [spec_l5Draw.j0]
      rw [if_pos q, e4]
      rfl
    · by_cases q6 : ty = 6
      · obtain ⟨x, j4, g4, e4, p4, c4⟩ := l3Name_dr b hn j3 g3 c3
        obtain ⟨y, j5, g5, e5, p5, c5⟩ := l1Int_dr b hn j4 g4 [0, 5, 60] (by simp) c4
        refine ⟨nm, ty, tt, y, x, (⟨#[]⟩ : ByteArray), j5, g5, Ev.step (f := fun _ => some (nm, ty, tt, y, x, (⟨#[]⟩ : ByteArray), j5, g5)) (fun k => ?_) (Ev_some _), ⟨p1, p4, by omega⟩, c5, it, i64_all _ (by decide) y p5⟩
        simp only [spec_l5Draw.j0]
        rw [if_neg q, if_pos q6, e4]
        simp only [Option.bind_some]
        rw [e5]
        rfl
      · by_cases q16 : ty = 16
        · obtain ⟨x, j4, g4, e4, p4, c4⟩ := l1Str_dr b hn j3 g3 [(⟨#[]⟩ : ByteArray), (⟨#[104, 105]⟩ : ByteArray), (⟨#[116, 119, 101, 108, 118, 101, 98, 121, 116, 101, 115, 33]⟩ : ByteArray)] (by simp) c3
          refine ⟨nm, ty, tt, 0, (⟨#[]⟩ : ByteArray), x, j4, g4, Ev.step (f := fun _ => some (nm, ty, tt, 0, (⟨#[]⟩ : ByteArray), x, j4, g4)) (fun k => ?_) (Ev_some _), ⟨p1, by omega, small_all _ 20 (by decide) x p4⟩, c4, it, i0⟩
          simp only [spec_l5Draw.j0]
          rw [if_neg q, if_neg q6, if_pos q16, e4]
          rfl
        · refine ⟨nm, ty, tt, 0, (⟨#[]⟩ : ByteArray), (⟨#[]⟩ : ByteArray), j3, g3, Ev.step (f := fun _ => some (nm, ty, tt, 0, (⟨#[]⟩ : ByteArray), (⟨#[]⟩ : ByteArray), j3, g3)) (fun k => ?_) (Ev_some _), ⟨p1, by omega, by omega⟩, c3, it, i0⟩
          simp only [spec_l5Draw.j0]
          rw [if_neg q, if_neg q6, if_neg q16]
  unfold spec_l5Draw.f
  rw [e1]
  simp only [Option.bind_some]
  rw [e2']
  simp only [Option.bind_some]
  rw [e3]
  simp only [Option.bind_some]
  by_cases q1 : ty = 1
  · obtain ⟨x, j4, g4, e4, p4, c4⟩ := l1Below_dr b hn j3 g3 9 c3
    refine ⟨nm, ty, tt, wrap64 (1 + x), (⟨#[]⟩ : ByteArray), (⟨#[]⟩ : ByteArray), j4, g4, Ev_if q1 (Ev_c ?_), ⟨p1, by omega, by omega⟩, c4, it, by
      have u := p4.2.1 (by omega)
      have l := p4.1
      rw [wrap_id (by omega) (by omega)]
      exact ⟨by omega, by omega⟩⟩
    rw [e4]
    rfl
  · by_cases q2 : ty = 2
    · obtain ⟨a0, a1, a2, a3, a4, a5, j, g, h1, h2⟩ := hj (ty == 2)
      exact ⟨a0, a1, a2, a3, a4, a5, j, g, Ev_ifn q1 (Ev_if q2 h1), h2⟩
    · obtain ⟨a0, a1, a2, a3, a4, a5, j, g, h1, h2⟩ := hj (ty == 5)
      exact ⟨a0, a1, a2, a3, a4, a5, j, g, Ev_ifn q1 (Ev_ifn q2 h1), h2⟩
theorem l5Draw_ev (b : List Int) (hn : b.length ≤ 140737488351232) (i h : Int) (c : CurOk b i) : ∃ a0 a1 a2 a3 a4 a5 j g, Ev (fun k => spec_l5Draw.f k b i h) (a0, a1, a2, a3, a4, a5, j, g) ∧ (a0.size ≤ 60 ∧ a4.size ≤ 60 ∧ a5.size ≤ 20) ∧ CurOk b j := by
  obtain ⟨a0, a1, a2, a3, a4, a5, j, g, h1, h2, h3, _⟩ := l5DrawI_ev b hn i h c
  exact ⟨a0, a1, a2, a3, a4, a5, j, g, h1, h2, h3⟩
theorem l5AnyI_ev (b : List Int) (hn : b.length ≤ 140737488351232) (i h : Int) (c : CurOk b i) : ∃ a0 a1 a2 a3 a4 a5 j g, Ev (fun k => spec_l5Any.f k b i h) (a0, a1, a2, a3, a4, a5, j, g) ∧ (a0.size ≤ 60 ∧ a4.size ≤ 60 ∧ a5.size ≤ 20) ∧ CurOk b j ∧ I64 a2 ∧ I64 a3 := by
  unfold spec_l5Any.f
  obtain ⟨a0, a1, a2, a3, a4, a5, j1, g1, d1, ⟨p0, p4, p5⟩, c1, k2, k3⟩ := l5DrawI_ev b hn i h c
  obtain ⟨x, j2, g2, e2, p2, c2⟩ := l1Below_dr b hn j1 g1 12 c1
  by_cases q0 : x = 0
  · obtain ⟨s, j3, g3, e3, p3, c3⟩ := l3Any_dr b hn j2 g2 c2
    refine ⟨s, a1, a2, a3, a4, a5, j3, g3, Ev.bind d1 (Ev_c ?_), ⟨p3, p4, p5⟩, c3, k2, k3⟩
    simp only [e2, Option.bind_some]
    rw [if_pos q0, e3]
    rfl
  · by_cases q1 : x = 1
    · obtain ⟨s, j3, g3, e3, p3, c3⟩ := l1Int_dr b hn j2 g2 [0, 3, 15, 1, 2, 6] (by simp) c2
      refine ⟨a0, s, a2, a3, a4, a5, j3, g3, Ev.bind d1 (Ev_c ?_), ⟨p0, p4, p5⟩, c3, k2, k3⟩
      simp only [e2, Option.bind_some]
      rw [if_neg q0, if_pos q1, e3]
      rfl
    · by_cases q2 : x = 2
      · obtain ⟨s, j3, g3, e3, p3, c3⟩ := l1Int_dr b hn j2 g2 [-1, 100000, 100001] (by simp) c2
        refine ⟨a0, a1, s, a3, a4, a5, j3, g3, Ev.bind d1 (Ev_c ?_), ⟨p0, p4, p5⟩, c3, i64_all _ (by decide) s p3, k3⟩
        simp only [e2, Option.bind_some]
        rw [if_neg q0, if_neg q1, if_pos q2, e3]
        rfl
      · by_cases q3 : x = 3
        · obtain ⟨s, j3, g3, e3, p3, c3⟩ := l1Int_dr b hn j2 g2 [-1, 2147483647, 2147483648, 100001, 0] (by simp) c2
          refine ⟨a0, a1, a2, s, a4, a5, j3, g3, Ev.bind d1 (Ev_c ?_), ⟨p0, p4, p5⟩, c3, k2, i64_all _ (by decide) s p3⟩
          simp only [e2, Option.bind_some]
          rw [if_neg q0, if_neg q1, if_neg q2, if_pos q3, e3]
          rfl
        · by_cases q4 : x = 4
          · obtain ⟨s, j3, g3, e3, p3, c3⟩ := l3Any_dr b hn j2 g2 c2
            refine ⟨a0, a1, a2, a3, s, a5, j3, g3, Ev.bind d1 (Ev_c ?_), ⟨p0, p3, p5⟩, c3, k2, k3⟩
            simp only [e2, Option.bind_some]
            rw [if_neg q0, if_neg q1, if_neg q2, if_neg q3, if_pos q4, e3]
            rfl
          · by_cases q5 : x = 5
            · obtain ⟨s, j3, g3, e3, p3, c3⟩ := l1Str_dr b hn j2 g2 [(⟨#[32]⟩ : ByteArray), (⟨#[127]⟩ : ByteArray), (⟨#[116, 104, 105, 114, 116, 101, 101, 110, 98, 121, 116, 101, 115]⟩ : ByteArray), (⟨#[120]⟩ : ByteArray)] (by simp) c2
              refine ⟨a0, a1, a2, a3, a4, s, j3, g3, Ev.bind d1 (Ev_c ?_), ⟨p0, p4, small_all _ 20 (by decide) s p3⟩, c3, k2, k3⟩
              simp only [e2, Option.bind_some]
              rw [if_neg q0, if_neg q1, if_neg q2, if_neg q3, if_neg q4, if_pos q5, e3]
              rfl
            · refine ⟨a0, a1, a2, a3, a4, a5, j2, g2, Ev.bind d1 (Ev_c ?_), ⟨p0, p4, p5⟩, c2, k2, k3⟩
              simp only [e2, Option.bind_some]
              rw [if_neg q0, if_neg q1, if_neg q2, if_neg q3, if_neg q4, if_neg q5]
/-- What a drawn record fits into. -/
def smallR (x : S25) : Prop := x.f0.size ≤ 60 ∧ x.f4.size ≤ 60 ∧ x.f5.size ≤ 20
theorem l5List_loop (b : List Int) (hn : b.length ≤ 140737488351232) : ∀ (d : Nat) (acc : List S25) (j g : Int), acc.length + d ≤ 100 → (∀ x ∈ acc, smallR x) → CurOk b j →
    ∃ r j2 g2, Ev (fun k => spec_l5List.l0 k acc (d : Int) b j g) (r, j2, g2) ∧ r.length ≤ acc.length + d ∧ (∀ x ∈ r, smallR x) ∧ CurOk b j2 := by
  intro d
  induction d with
  | zero =>
    intro acc j g h hs c
    refine ⟨acc, j, g, Ev.step (f := fun _ => some (acc, j, g)) (fun k => ?_) (Ev_some _), by omega, hs, c⟩
    simp only [spec_l5List.l0]
    rw [if_neg (by omega)]
  | succ d ih =>
    intro acc j g h hs c
    obtain ⟨a0, a1, a2, a3, a4, a5, j1, g1, d1, p, c1⟩ := l5Draw_ev b hn j g c
    obtain ⟨r, j2, g2, e, p1, p2, c2⟩ := ih (acc ++ [(⟨a0, a1, a2, a3, a4, a5⟩ : S25)]) j1 g1 (by simp; omega) (fun x hx => by
      rcases List.mem_append.1 hx with q | q
      · exact hs x q
      · rw [List.mem_singleton.1 q]
        exact p) c1
    have w : wrap64 (((d + 1 : Nat) : Int) - 1) = (d : Int) := by rw [wrap_id (by omega) (by omega)]; omega
    refine ⟨r, j2, g2, Ev.step (f := fun k => (spec_l5Draw.f k b j g).bind fun t => if acc.length < 1954687338268 then spec_l5List.l0 k (acc ++ [(⟨t.1, t.2.1, t.2.2.1, t.2.2.2.1, t.2.2.2.2.1, t.2.2.2.2.2.1⟩ : S25)]) (d : Int) b t.2.2.2.2.2.2.1 t.2.2.2.2.2.2.2 else none) (fun k => ?_) (Ev.bind d1 (Ev_if (by omega) e)), by simp at p1; omega, p2, c2⟩
    simp only [spec_l5List.l0]
    rw [if_pos (by omega), w]
theorem l5List_ev (b : List Int) (hn : b.length ≤ 140737488351232) (i h : Int) (m : Nat) (hm : m ≤ 20) (c : CurOk b i) : ∃ r j g, Ev (fun k => spec_l5List.f k b i h (m : Int)) (r, j, g) ∧ r.length ≤ m ∧ (∀ x ∈ r, smallR x) ∧ CurOk b j := by
  unfold spec_l5List.f
  have w : wrap64 ((m : Int) + 1) = (m : Int) + 1 := wrap_id (by omega) (by omega)
  rw [w]
  obtain ⟨x, j1, g1, e1, ⟨p1, p2, _⟩, c1⟩ := l1Below_dr b hn i h ((m : Int) + 1) c
  obtain ⟨n, rfl⟩ := Int.eq_ofNat_of_zero_le p1
  have p2 := p2 (by omega)
  rw [e1]
  simp only [Option.bind_some]
  obtain ⟨r, j, g, e, q1, q2, q3⟩ := l5List_loop b hn n [] j1 g1 (by simp; omega) (fun x hx => by cases hx) c1
  exact ⟨r, j, g, e, by simp at q1; omega, q2, q3⟩
theorem rdR_getElem (l : List S25) (i : Nat) (h : i < l.length) : rd_T25 l i = l[i] := by
  unfold rd_T25
  rw [Int.toNat_natCast, List.getD_eq_getElem?_getD, List.getElem?_eq_getElem h, Option.getD_some]
/-- Strings that are not too long for the laws. -/
def fitR (x : S25) : Prop := x.f0.size ≤ 1048576 ∧ x.f4.size ≤ 1048576 ∧ x.f5.size ≤ 1048576
theorem smallR_fit {x : S25} (h : smallR x) : fitR x := ⟨Nat.le_trans h.1 (by decide), Nat.le_trans h.2.1 (by decide), Nat.le_trans h.2.2 (by decide)⟩
theorem drawLessRecord_ev (l : List Int) (hn : l.length ≤ 140737488351232) : ∃ a b : S25, Ev (fun k => spec_DrawLessRecord.f k l) (a.f0, a.f1, a.f2, a.f3, a.f4, a.f5, b.f0, b.f1, b.f2, b.f3, b.f4, b.f5) ∧ smallR a ∧ smallR b := by
  unfold spec_DrawLessRecord.f
  obtain ⟨g, e0⟩ := l1New_ev l hn
  obtain ⟨a0, a1, a2, a3, a4, a5, j1, g1, d1, ⟨p0, p4, p5⟩, c1⟩ := l5Draw_ev l hn 0 g (cur0 l)
  obtain ⟨b0, b1, b2, b3, b4, b5, j2, g2, d2, ⟨q0, q4, q5⟩, c2⟩ := l5Draw_ev l hn j1 g1 c1
  obtain ⟨x, j3, g3, e3, _, c3⟩ := l1Once_dr l hn j2 g2 2 c2
  by_cases q : x = true
  · obtain ⟨y, j4, g4, e4, _, c4⟩ := l1Once_dr l hn j3 g3 2 c3
    by_cases s : y = true
    · exact ⟨⟨a0, a1, a2, a3, a4, a5⟩, ⟨a0, a1, b2, a3, a4, b5⟩, Ev.bind e0 (Ev.bind d1 (Ev.bind d2 (Ev.bind (Ev_c e3) (Ev_if q (Ev.bind (Ev_c e4) (Ev_if s (Ev_some _))))))), ⟨p0, p4, p5⟩, ⟨p0, p4, q5⟩⟩
    · exact ⟨⟨a0, a1, a2, a3, a4, a5⟩, ⟨a0, a1, b2, b3, b4, b5⟩, Ev.bind e0 (Ev.bind d1 (Ev.bind d2 (Ev.bind (Ev_c e3) (Ev_if q (Ev.bind (Ev_c e4) (Ev_ifn s (Ev_some _))))))), ⟨p0, p4, p5⟩, ⟨p0, q4, q5⟩⟩
  · exact ⟨⟨a0, a1, a2, a3, a4, a5⟩, ⟨b0, b1, b2, b3, b4, b5⟩, Ev.bind e0 (Ev.bind d1 (Ev.bind d2 (Ev.bind (Ev_c e3) (Ev_ifn q (Ev_some _))))), ⟨p0, p4, p5⟩, ⟨q0, q4, q5⟩⟩
theorem drawSortRecords_ev (l : List Int) (hn : l.length ≤ 140737488351232) : ∃ r : List S25, Ev (fun k => spec_DrawSortRecords.f k l) r ∧ r.length ≤ 6 ∧ ∀ x ∈ r, smallR x := by
  unfold spec_DrawSortRecords.f
  obtain ⟨g, e0⟩ := l1New_ev l hn
  obtain ⟨r, j1, g1, e1, p1, p2, c1⟩ := l5List_ev l hn 0 g 5 (by omega) (cur0 l)
  by_cases z : (r.length : Int) > 0
  · obtain ⟨x, j2, g2, e2, _, c2⟩ := l1Once_dr l hn j1 g1 3 c1
    by_cases q : x = true
    · refine ⟨r ++ [⟨(rd_T25 r 0).f0, (rd_T25 r 0).f1, (rd_T25 r 0).f2, (rd_T25 r 0).f3, (rd_T25 r 0).f4, (rd_T25 r 0).f5⟩], Ev.bind e0 (Ev.bind e1 (Ev_if z (Ev.bind (Ev_c e2) (Ev_if q (Ev_if (by show (0 : Int) < (r.length : Int); omega) (Ev_if (by show r.length < 1954687338268; omega) (Ev_some _))))))), by simp; omega, ?_⟩
      intro y hy
      rcases List.mem_append.1 hy with h | h
      · exact p2 y h
      · have e := rdR_getElem r 0 (by omega)
        rw [List.mem_singleton.1 h]
        have k0 : rd_T25 r 0 = r[0]'(by omega) := e
        rw [k0]
        exact p2 _ (List.getElem_mem _)
    · exact ⟨r, Ev.bind e0 (Ev.bind e1 (Ev_if z (Ev.bind (Ev_c e2) (Ev_ifn q (Ev_some _))))), by omega, p2⟩
  · exact ⟨r, Ev.bind e0 (Ev.bind e1 (Ev_ifn z (Ev_some _))), by omega, p2⟩
theorem drawRecordText_ev (l : List Int) (hn : l.length ≤ 140737488351232) : ∃ a : S25, Ev (fun k => spec_DrawRecordText.f k l) (a.f0, a.f1, a.f2, a.f3, a.f4, a.f5) ∧ smallR a ∧ I64 a.f2 ∧ I64 a.f3 := by
  unfold spec_DrawRecordText.f
  obtain ⟨g, e0⟩ := l1New_ev l hn
  obtain ⟨a0, a1, a2, a3, a4, a5, j1, g1, d1, p, c1, k2, k3⟩ := l5AnyI_ev l hn 0 g (cur0 l)
  exact ⟨⟨a0, a1, a2, a3, a4, a5⟩, Ev.bind e0 (Ev.bind d1 (Ev_some _)), p, k2, k3⟩
theorem drawSameRecords_ev (l : List Int) (hn : l.length ≤ 140737488351232) : ∃ a b : List S25, Ev (fun k => spec_DrawSameRecords.f k l) (a, b) ∧ a.length ≤ 3 ∧ b.length ≤ 3 := by
  unfold spec_DrawSameRecords.f
  obtain ⟨g, e0⟩ := l1New_ev l hn
  obtain ⟨r, j1, g1, e1, p1, p2, c1⟩ := l5List_ev l hn 0 g 3 (by omega) (cur0 l)
  obtain ⟨x, j2, g2, e2, _, c2⟩ := l1Once_dr l hn j1 g1 2 c1
  by_cases q : x = true
  · refine ⟨r, [] ++ r, Ev.bind e0 (Ev.bind e1 (Ev.bind (Ev_c e2) (Ev_if q (Ev.bind (Ev_some _) (Ev_if (by show ([] : List S25).length + r.length < 1954687338268; simp; omega) (Ev_some _)))))), p1, by simpa using p1⟩
  · obtain ⟨s, j3, g3, e3, p3, _, c3⟩ := l5List_ev l hn j2 g2 3 (by omega) c2
    exact ⟨r, s, Ev.bind e0 (Ev.bind e1 (Ev.bind (Ev_c e2) (Ev_ifn q (Ev.bind e3 (Ev_some _))))), p1, p3⟩
theorem less_irrefl : ∀ a : List UInt8, Op.bytesLess a a = false
  | [] => rfl
  | c :: t => by simp [Op.bytesLess, less_irrefl t]
theorem less_total : ∀ a b : List UInt8, a ≠ b → Op.bytesLess a b = false → Op.bytesLess b a = true
  | [], [], h, _ => absurd rfl h
  | [], _ :: _, _, h => by simp [Op.bytesLess] at h
  | _ :: _, [], _, _ => by simp [Op.bytesLess]
  | c :: x, e :: y, hne, h => by
    simp only [Op.bytesLess, Bool.or_eq_false_iff, decide_eq_false_iff_not] at h
    obtain ⟨h1, h2⟩ := h
    simp only [Op.bytesLess, Bool.or_eq_true, decide_eq_true_eq]
    by_cases hce : c = e
    · subst hce
      have hxy : x ≠ y := fun e => hne (by rw [e])
      have h3 : Op.bytesLess x y = false := by simpa using h2
      exact Or.inr (by simp [less_total x y hxy h3])
    · left
      rw [UInt8.lt_iff_toNat_lt] at h1 ⊢
      have : c.toNat ≠ e.toNat := fun q => hce (UInt8.toNat_inj.1 q)
      omega
/-- What comes first, of two lists of labels that are read from the end. -/
def lessR : List ByteArray → List ByteArray → Bool
  | [], [] => false
  | [], _ :: _ => true
  | _ :: _, [] => false
  | a :: x, b :: y => if a = b then lessR x y else Op.bytesLess a.toList b.toList
/-- The same, as a number. -/
def cmpR : List ByteArray → List ByteArray → Int
  | [], [] => 0
  | [], _ :: _ => -1
  | _ :: _, [] => 1
  | a :: x, b :: y => if a = b then cmpR x y else if Op.bytesLess a.toList b.toList = true then -1 else 1
theorem cmpR_neg : ∀ x y : List ByteArray, decide (cmpR x y < 0) = lessR x y
  | [], [] => rfl
  | [], _ :: _ => rfl
  | _ :: _, [] => rfl
  | a :: x, b :: y => by
    unfold cmpR lessR
    by_cases h : a = b
    · rw [if_pos h, if_pos h]
      exact cmpR_neg x y
    · rw [if_neg h, if_neg h]
      cases Op.bytesLess a.toList b.toList <;> rfl
theorem cmp_string_eq (a b : ByteArray) : cmp_Compare_string.f a b = some (if a = b then 0 else if Op.bytesLess a.toList b.toList = true then -1 else 1) := by
  unfold cmp_Compare_string.f cmp_isNaN_string.f
  simp only [bne_self_eq_false, Option.bind_some, if_neg (show ¬ (false = true) by decide)]
  by_cases h : a = b
  · subst h
    simp [less_irrefl]
  · rw [if_neg h]
    have hne : a.toList ≠ b.toList := fun e => h (toList_inj.1 e)
    cases hl : Op.bytesLess a.toList b.toList with
    | true => simp
    | false => simp [hne]
theorem slices_Compare_loop (x y : List ByteArray) (hx : x.length ≤ 140737488351232) : ∀ (d i : Nat), i + d = x.length → i ≤ y.length →
    Ev (fun k => slices_Compare_string.l0 k x y x (x.length : Int) (i : Int)) (cmpR (x.drop i) (y.drop i)) := by
  intro d
  induction d with
  | zero =>
    intro i hi hy
    rw [show x.drop i = [] from List.drop_of_length_le (by omega)]
    by_cases c : (x.length : Int) < (y.length : Int)
    · rw [List.drop_eq_getElem_cons (show i < y.length by omega)]
      refine Ev.step (f := fun _ => some (-1)) (fun k => ?_) ⟨0, fun _ _ => rfl⟩
      simp only [slices_Compare_string.l0]
      rw [if_neg (by omega), if_pos c]
    · rw [show y.drop i = [] from List.drop_of_length_le (by omega)]
      refine Ev.step (f := fun _ => some 0) (fun k => ?_) ⟨0, fun _ _ => rfl⟩
      simp only [slices_Compare_string.l0]
      rw [if_neg (by omega), if_neg c]
  | succ d ih =>
    intro i hi hy
    have hxi : i < x.length := by omega
    have w3 : wrap64 ((i : Int) + 1) = ((i + 1 : Nat) : Int) := wrap_succ i x.length (by omega) (by omega)
    rw [List.drop_eq_getElem_cons hxi]
    by_cases c : i < y.length
    · rw [List.drop_eq_getElem_cons c]
      refine Ev.step (f := fun k => if (if x[i] = y[i] then (0 : Int) else if Op.bytesLess x[i].toList y[i].toList = true then -1 else 1) = 0 then slices_Compare_string.l0 k x y x (x.length : Int) ((i + 1 : Nat) : Int) else some (if x[i] = y[i] then (0 : Int) else if Op.bytesLess x[i].toList y[i].toList = true then -1 else 1)) (fun k => ?_) ?_
      · simp only [slices_Compare_string.l0]
        rw [if_pos (by omega), if_pos (by omega), if_pos (by omega), if_neg (by omega), if_pos (by omega), rdS_getElem x i hxi, rdS_getElem y i c, cmp_string_eq, Option.bind_some, w3]
      · unfold cmpR
        by_cases e : x[i] = y[i]
        · simp only [if_pos e, if_true]
          exact ih (i + 1) (by omega) (by omega)
        · simp only [if_neg e]
          refine Ev_ifn ?_ ⟨0, fun _ _ => rfl⟩
          split <;> decide
    · rw [show y.drop i = [] from List.drop_of_length_le (by omega)]
      refine Ev.step (f := fun _ => some 1) (fun k => ?_) ⟨0, fun _ _ => rfl⟩
      simp only [slices_Compare_string.l0]
      rw [if_pos (by omega), if_pos (by omega), if_pos (by omega), if_pos (by omega)]
theorem slices_Compare_eq (x y : List ByteArray) (hx : x.length ≤ 140737488351232) : Ev (fun k => slices_Compare_string.f k x y) (cmpR x y) := by
  have := slices_Compare_loop x y hx x.length 0 (by omega) (by omega)
  unfold slices_Compare_string.f
  simpa using this
theorem rev_mid (l m : List ByteArray) (i j : Nat) (hm : m.length = l.length) (hij : i + j + 1 = l.length) (hle : j ≤ i)
    (h : ∀ p (hp : p < l.length), m[p]'(by omega) = if p < i ∨ j < p then l.reverse[p]'(by simpa using hp) else l[p]) : m = l.reverse := by
  refine List.ext_getElem (by simp [hm]) (fun p h1 h2 => ?_)
  have hp : p < l.length := by omega
  rw [h p hp]
  by_cases c : p < i ∨ j < p
  · rw [if_pos c]
  · rw [if_neg c, List.getElem_reverse]
    congr 1
    omega
theorem reverse_loop (l : List ByteArray) (hl : l.length ≤ 140737488351232) : ∀ (d i j : Nat) (m : List ByteArray) (hm : m.length = l.length), i + j + 1 = l.length → j ≤ i + d →
    (∀ p (hp : p < l.length), m[p]'(by omega) = if p < i ∨ j < p then l.reverse[p]'(by simpa using hp) else l[p]) →
    Ev (fun k => slices_Reverse_string.l0 k m (i : Int) (j : Int)) l.reverse := by
  intro d
  induction d using Nat.strongRecOn with
  | _ d ih =>
    intro i j m hm hij hle h
    by_cases c : i < j
    · have hi : i < m.length := by omega
      have hj : j < m.length := by omega
      have w1 : wrap64 ((i : Int) + 1) = ((i + 1 : Nat) : Int) := wrap_succ i l.length (by omega) (by omega)
      have w2 : wrap64 ((j : Int) - 1) = ((j - 1 : Nat) : Int) := by rw [wrap_id (by omega) (by omega)]; omega
      have := ih (d - 2) (by omega) (i + 1) (j - 1) ((m.set i m[j]).set j m[i]) (by simp [hm]) (by omega) (by omega) (fun p hp => by
        have hi' := h i (by omega)
        have hj' := h j (by omega)
        rw [if_neg (by omega)] at hi' hj'
        rw [List.getElem_set, List.getElem_set]
        by_cases e1 : j = p
        · subst e1
          rw [if_pos rfl, if_pos (by omega), hi', List.getElem_reverse]
          congr 1
          omega
        · rw [if_neg e1]
          by_cases e2 : i = p
          · subst e2
            rw [if_pos rfl, if_pos (by omega), hj', List.getElem_reverse]
            congr 1
            omega
          · rw [if_neg e2, h p hp]
            by_cases e3 : p < i ∨ j < p
            · rw [if_pos e3, if_pos (by omega)]
            · rw [if_neg e3, if_neg (by omega)])
      refine Ev.step (f := fun k => slices_Reverse_string.l0 k ((m.set i m[j]).set j m[i]) ((i + 1 : Nat) : Int) ((j - 1 : Nat) : Int)) (fun k => ?_) this
      simp only [slices_Reverse_string.l0]
      rw [if_pos (by omega), if_pos (by omega), if_pos (by omega), if_pos (by omega), if_pos (by omega), rdS_getElem m i hi, rdS_getElem m j hj, w1, w2, Int.toNat_natCast, Int.toNat_natCast]
    · have e := rev_mid l m i j hm hij (by omega) h
      refine Ev.step (f := fun _ => some m) (fun k => ?_) ⟨0, fun _ _ => by rw [e]⟩
      simp only [slices_Reverse_string.l0]
      rw [if_neg (by omega)]
theorem slices_Reverse_eq (l : List ByteArray) (hl : l.length ≤ 140737488351232) : Ev (fun k => slices_Reverse_string.f k l) l.reverse := by
  unfold slices_Reverse_string.f
  cases l with
  | nil =>
    refine Ev.step (f := fun _ => some []) (fun k => ?_) ⟨0, fun _ _ => rfl⟩
    simp only [slices_Reverse_string.l0]
    rw [if_neg (by rw [wrap_id (by simp) (by simp)]; simp)]
  | cons a t =>
    have w : wrap64 (((a :: t).length : Int) - 1) = (t.length : Int) := by rw [wrap_id (by simp) (by simp at hl ⊢; omega)]; simp
    rw [w]
    exact reverse_loop (a :: t) hl t.length 0 t.length (a :: t) rfl (by simp) (by omega) (fun p hp => by
      rw [if_neg (by simp at hp; omega)])
theorem sub_idx (n i : Nat) (h : i < n) : n - 1 - i < n := by omega
theorem wrap_sub (n i : Nat) (hn : n ≤ 140737488351232) (h : i < n) : wrap64 ((n : Int) - ((i + 1 : Nat) : Int)) = ((n - 1 - i : Nat) : Int) := by
  rw [wrap_id (by omega) (by omega)]
  omega
theorem wrap_suc2 (n i : Nat) (hn : n ≤ 140737488351232) (h : i < n) : wrap64 (((i + 1 : Nat) : Int) + 1) = ((i + 1 + 1 : Nat) : Int) := wrap_succ (i + 1) (i + 2) (by omega) (by omega)
theorem spec_LessName_j1t (x y : List ByteArray) (t : Int) (p q : Nat) (hp : p < x.length) (hq : q < y.length) (w1 : wrap64 ((x.length : Int) - t) = (p : Int)) (w2 : wrap64 ((y.length : Int) - t) = (q : Int)) (k : Nat) :
    spec_LessName.j1 (k + 1) x y t true = if x[p].toList = y[q].toList then spec_LessName.l0 k x y (wrap64 (t + 1)) else some (Op.bytesLess x[p].toList y[q].toList) := by
  simp only [spec_LessName.j1, if_true]
  rw [w1, w2, if_pos (Int.natCast_nonneg p), if_pos (Int.ofNat_lt.2 hp), if_pos (Int.natCast_nonneg q), if_pos (Int.ofNat_lt.2 hq), rdS_getElem x p hp, rdS_getElem y q hq]
theorem spec_LessName_j1f (x y : List ByteArray) (t : Int) (k : Nat) : spec_LessName.j1 (k + 1) x y t false = some (decide ((x.length : Int) < (y.length : Int))) := by
  simp only [spec_LessName.j1]
  rw [if_neg (by decide)]
theorem spec_LessName_l0p (x y : List ByteArray) (t : Int) (b : Bool) (h : t ≤ (x.length : Int)) (hb : decide (t ≤ (y.length : Int)) = b) (k : Nat) : spec_LessName.l0 (k + 1) x y t = spec_LessName.j1 k x y t b := by
  simp only [spec_LessName.l0]
  rw [if_pos h, hb]
theorem spec_LessName_l0n (x y : List ByteArray) (t : Int) (h : ¬ t ≤ (x.length : Int)) (k : Nat) : spec_LessName.l0 (k + 1) x y t = spec_LessName.j1 k x y t false := by
  simp only [spec_LessName.l0]
  rw [if_neg h]
theorem lessR_nil_left (y : List ByteArray) : lessR [] y = decide (0 < y.length) := by cases y <;> simp [lessR]
theorem lessR_nil_right (x : List ByteArray) : lessR x [] = false := by cases x <;> rfl
theorem spec_LessName_loop (x y : List ByteArray) (hx : x.length ≤ 140737488351232) (hy : y.length ≤ 140737488351232) : ∀ (d i : Nat), i + d = x.length → i ≤ y.length →
    Ev (fun k => spec_LessName.l0 k x y ((i + 1 : Nat) : Int)) (lessR (x.reverse.drop i) (y.reverse.drop i)) := by
  intro d
  induction d with
  | zero =>
    intro i hi hyi
    refine Ev.step (spec_LessName_l0n x y _ (by omega)) (Ev.step (f := fun _ => some (decide ((x.length : Int) < (y.length : Int)))) (spec_LessName_j1f x y _) ⟨0, fun _ _ => ?_⟩)
    rw [show x.reverse.drop i = [] from List.drop_of_length_le (by rw [List.length_reverse]; omega), lessR_nil_left, List.length_drop, List.length_reverse]
    exact congrArg some (decide_eq_decide.2 (by omega))
  | succ d ih =>
    intro i hi hyi
    have hxl : i < x.length := by omega
    have hxi : i < x.reverse.length := by rw [List.length_reverse]; exact hxl
    by_cases c : i < y.length
    · have hyi' : i < y.reverse.length := by rw [List.length_reverse]; exact c
      have ex : x.reverse[i] = x[x.length - 1 - i]'(sub_idx x.length i hxl) := List.getElem_reverse _
      have ey : y.reverse[i] = y[y.length - 1 - i]'(sub_idx y.length i c) := List.getElem_reverse _
      have j := ih (i + 1) (by omega) (by omega)
      rw [List.drop_eq_getElem_cons hxi, List.drop_eq_getElem_cons hyi']
      refine Ev.step (spec_LessName_l0p x y _ true (by omega) (decide_eq_true (by omega))) (Ev.step (spec_LessName_j1t x y _ _ _ (sub_idx x.length i hxl) (sub_idx y.length i c) (wrap_sub x.length i hx hxl) (wrap_sub y.length i hy c)) ?_)
      rw [← ex, ← ey, wrap_suc2 x.length i hx hxl]
      unfold lessR
      by_cases e : x.reverse[i] = y.reverse[i]
      · rw [if_pos e]
        exact Ev_if (congrArg ByteArray.toList e) j
      · rw [if_neg e]
        exact Ev_ifn (fun h => e (toList_inj.1 h)) ⟨0, fun _ _ => rfl⟩
    · rw [show y.reverse.drop i = [] from List.drop_of_length_le (by rw [List.length_reverse]; omega), lessR_nil_right]
      refine Ev.step (spec_LessName_l0p x y _ false (by omega) (decide_eq_false (by omega))) (Ev.step (f := fun _ => some (decide ((x.length : Int) < (y.length : Int)))) (spec_LessName_j1f x y _) ⟨0, fun _ _ => ?_⟩)
      exact congrArg some (decide_eq_false (by omega))
/-- What LessName answers. -/
def lessN (a b : ByteArray) : Bool := lessR (labelsL a).reverse (labelsL b).reverse
theorem spec_LessName_eq (a b : ByteArray) (ha : a.size ≤ 1048576) (hb : b.size ≤ 1048576) : Ev (fun k => spec_LessName.f k a b) (lessN a b) := by
  have h1 := labelsL_length a
  have h2 := labelsL_length b
  unfold spec_LessName.f lessN
  refine Ev.bind (spec_Labels_eq a ha) (Ev.bind (spec_Labels_eq b hb) ?_)
  have := spec_LessName_loop (labelsL a) (labelsL b) (by omega) (by omega) (labelsL a).length 0 (by omega) (by omega)
  simpa using this
theorem impl_LessName_eq (a b : ByteArray) (ha : a.size ≤ 1048576) (hb : b.size ≤ 1048576) : Ev (fun k => impl_LessName.f k a b) (lessN a b) := by
  have h1 := labelsL_length a
  have h2 := labelsL_length b
  unfold impl_LessName.f lessN
  rw [impl_Labels_eq a (by omega), impl_Labels_eq b (by omega)]
  simp only [Option.bind_some]
  rw [← cmpR_neg]
  refine Ev.bind (slices_Reverse_eq _ (by omega)) (Ev.bind (slices_Reverse_eq _ (by omega)) (Ev.bind (slices_Compare_eq _ _ (by rw [List.length_reverse]; omega)) (Ev.now _)))
theorem mkB_append (a b : List UInt8) : mkB a ++ mkB b = mkB (a ++ b) := by
  apply ByteArray.ext
  rw [ByteArray.data_append]
  simp [mkB]
theorem cutA_ne : ∀ (t acc : List UInt8), cutA acc t ≠ []
  | [], acc => by simp [cutA]
  | c :: t, acc => by
    unfold cutA
    split
    · simp
    · exact cutA_ne t _
theorem join_cutA : ∀ (t acc : List UInt8), joinS ((cutA acc t).map mkB) = mkB (acc ++ t)
  | [], acc => by simp [cutA, joinS]
  | c :: t, acc => by
    by_cases h : c = 46
    · subst h
      simp only [cutA, if_true, List.map_cons]
      rw [joinS_cons _ _ (by simpa using cutA_ne t []), join_cutA t []]
      have e : (⟨#[46]⟩ : ByteArray) = mkB [46] := rfl
      rw [e, mkB_append, mkB_append]
      rfl
    · simp only [cutA, if_neg h]
      rw [join_cutA t (acc ++ [c])]
      simp
theorem join_labels (s : ByteArray) : joinS (labelsL s) = s := by
  unfold labelsL
  by_cases h : s.data.toList = []
  · rw [if_pos h]
    have e : mkB s.data.toList = s := mkB_data s
    rw [h] at e
    exact e
  · rw [if_neg h, join_cutA]
    exact mkB_data s
theorem labelsL_inj {a b : ByteArray} (h : labelsL a = labelsL b) : a = b := by rw [← join_labels a, h, join_labels b]
theorem lessR_irrefl : ∀ x : List ByteArray, lessR x x = false
  | [] => rfl
  | a :: x => by
    unfold lessR
    rw [if_pos rfl]
    exact lessR_irrefl x
theorem lessR_total : ∀ x y : List ByteArray, x ≠ y → lessR x y = false → lessR y x = true
  | [], [], h, _ => absurd rfl h
  | [], _ :: _, _, h => by simp [lessR] at h
  | _ :: _, [], _, _ => by simp [lessR]
  | a :: x, b :: y, hne, h => by
    unfold lessR at h ⊢
    by_cases e : a = b
    · subst e
      rw [if_pos rfl] at h ⊢
      exact lessR_total x y (fun q => hne (by rw [q])) h
    · rw [if_neg e] at h
      rw [if_neg (fun q => e q.symm)]
      exact less_total _ _ (fun q => e (toList_inj.1 q)) h
theorem lessN_irrefl (a : ByteArray) : lessN a a = false := lessR_irrefl _
theorem lessN_total (a b : ByteArray) (hne : a ≠ b) (h : lessN a b = false) : lessN b a = true :=
  lessR_total _ _ (fun q => hne (labelsL_inj (List.reverse_inj.1 q))) h
/-- A name held against another, as a number. -/
def nameC (a b : ByteArray) : Int := if a = b then 0 else if lessN a b = true then -1 else 1
theorem impl_byName_eq (a b : ByteArray) (ha : a.size ≤ 1048576) (hb : b.size ≤ 1048576) : Ev (fun k => impl_byName.f k a b) (nameC a b) := by
  unfold impl_byName.f nameC
  refine Ev.bind (impl_LessName_eq a b ha hb) ?_
  by_cases e : a = b
  · subst e
    rw [lessN_irrefl, if_pos rfl]
    refine Ev_ifn (by decide) (Ev.bind (impl_LessName_eq a a ha ha) ?_)
    rw [lessN_irrefl]
    exact Ev_ifn (by decide) ⟨0, fun _ _ => rfl⟩
  · rw [if_neg e]
    cases h : lessN a b with
    | true =>
      rw [if_pos rfl]
      exact Ev_if rfl ⟨0, fun _ _ => rfl⟩
    | false =>
      rw [if_neg (by decide)]
      refine Ev_ifn (by decide) (Ev.bind (impl_LessName_eq b a hb ha) ?_)
      rw [lessN_total a b e h]
      exact Ev_if rfl ⟨0, fun _ _ => rfl⟩
def intC (a b : Int) : Int := if a < b then -1 else if a > b then 1 else 0
theorem cmp_int_eq (a b : Int) : cmp_Compare_int.f a b = some (intC a b) := by
  unfold cmp_Compare_int.f cmp_isNaN_int.f intC
  simp only [bne_self_eq_false, Option.bind_some, if_neg (show ¬ (false = true) by decide)]
  split
  · rfl
  · split <;> rfl
def strC (a b : ByteArray) : Int := if a = b then 0 else if Op.bytesLess a.toList b.toList = true then -1 else 1
/-- What LessRecord answers. -/
def lessRec (a0 : ByteArray) (a1 a2 a3 : Int) (a4 a5 b0 : ByteArray) (b1 b2 b3 : Int) (b4 b5 : ByteArray) : Bool :=
  if a0 = b0 then (if a1 = b1 then (if a3 = b3 then (if a4 = b4 then (if a5 = b5 then decide (a2 < b2) else Op.bytesLess a5.toList b5.toList) else lessN a4 b4) else decide (a3 < b3)) else decide (a1 < b1)) else lessN a0 b0
theorem lessRec_or (a0 : ByteArray) (a1 a2 a3 : Int) (a4 a5 b0 : ByteArray) (b1 b2 b3 : Int) (b4 b5 : ByteArray) :
    decide (orL [nameC a0 b0, intC a1 b1, intC a3 b3, nameC a4 b4, strC a5 b5, intC a2 b2] < 0) = lessRec a0 a1 a2 a3 a4 a5 b0 b1 b2 b3 b4 b5 := by
  have nn (a b : ByteArray) (l : List Int) : orL (nameC a b :: l) = if a = b then orL l else if lessN a b = true then -1 else 1 := by
    rw [orL_cons]
    unfold nameC
    by_cases e : a = b
    · simp [e]
    · rw [if_neg e, if_neg e]
      split <;> rfl
  have ss (a b : ByteArray) (l : List Int) : orL (strC a b :: l) = if a = b then orL l else if Op.bytesLess a.toList b.toList = true then -1 else 1 := by
    rw [orL_cons]
    unfold strC
    by_cases e : a = b
    · simp [e]
    · rw [if_neg e, if_neg e]
      split <;> rfl
  have ii (a b : Int) (l : List Int) : orL (intC a b :: l) = if a = b then orL l else if a < b then -1 else 1 := by
    rw [orL_cons]
    unfold intC
    by_cases e : a = b
    · subst e
      simp
    · rw [if_neg e]
      by_cases q : a < b
      · simp [q]
      · simp [q, show b < a by omega]
  have fb (q : Bool) : decide ((if q = true then (-1 : Int) else 1) < 0) = q := by cases q <;> rfl
  have fi (a b : Int) : decide ((if a < b then (-1 : Int) else 1) < 0) = decide (a < b) := by
    by_cases q : a < b
    · simp [q]
    · simp [q]
  unfold lessRec
  rw [nn]
  by_cases e0 : a0 = b0
  · rw [if_pos e0, if_pos e0, ii]
    by_cases e1 : a1 = b1
    · rw [if_pos e1, if_pos e1, ii]
      by_cases e3 : a3 = b3
      · rw [if_pos e3, if_pos e3, nn]
        by_cases e4 : a4 = b4
        · rw [if_pos e4, if_pos e4, ss]
          by_cases e5 : a5 = b5
          · rw [if_pos e5, if_pos e5, ii]
            by_cases e2 : a2 = b2
            · subst e2
              simp [orL]
            · rw [if_neg e2]
              exact fi _ _
          · rw [if_neg e5, if_neg e5]
            exact fb _
        · rw [if_neg e4, if_neg e4]
          exact fb _
      · rw [if_neg e3, if_neg e3]
        exact fi _ _
    · rw [if_neg e1, if_neg e1]
      exact fi _ _
  · rw [if_neg e0, if_neg e0]
    exact fb _
theorem spec_LessRecord_eq (a0 : ByteArray) (a1 a2 a3 : Int) (a4 a5 b0 : ByteArray) (b1 b2 b3 : Int) (b4 b5 : ByteArray) (h0 : a0.size ≤ 1048576) (h4 : a4.size ≤ 1048576) (h5 : a5.size ≤ 1048576) (k0 : b0.size ≤ 1048576) (k4 : b4.size ≤ 1048576) (k5 : b5.size ≤ 1048576) :
    Ev (fun k => spec_LessRecord.f k a0 a1 a2 a3 a4 a5 b0 b1 b2 b3 b4 b5) (lessRec a0 a1 a2 a3 a4 a5 b0 b1 b2 b3 b4 b5) := by
  unfold spec_LessRecord.f lessRec
  by_cases e0 : a0 = b0
  · rw [if_pos e0]
    refine Ev_if (toList_inj.2 e0) ?_
    by_cases e1 : a1 = b1
    · rw [if_pos e1]
      refine Ev_if e1 ?_
      by_cases e3 : a3 = b3
      · rw [if_pos e3]
        refine Ev_if e3 ?_
        by_cases e4 : a4 = b4
        · rw [if_pos e4]
          refine Ev_if (toList_inj.2 e4) ?_
          by_cases e5 : a5 = b5
          · rw [if_pos e5]
            exact Ev_if (toList_inj.2 e5) ⟨0, fun _ _ => rfl⟩
          · rw [if_neg e5]
            exact Ev_ifn (fun h => e5 (toList_inj.1 h)) ⟨0, fun _ _ => rfl⟩
        · rw [if_neg e4]
          exact Ev_ifn (fun h => e4 (toList_inj.1 h)) (Ev.bind (spec_LessName_eq a4 b4 h4 k4) ⟨0, fun _ _ => rfl⟩)
      · rw [if_neg e3]
        exact Ev_ifn e3 ⟨0, fun _ _ => rfl⟩
    · rw [if_neg e1]
      exact Ev_ifn e1 ⟨0, fun _ _ => rfl⟩
  · rw [if_neg e0]
    exact Ev_ifn (fun h => e0 (toList_inj.1 h)) (Ev.bind (spec_LessName_eq a0 b0 h0 k0) ⟨0, fun _ _ => rfl⟩)
theorem cmp_string_C (a b : ByteArray) : cmp_Compare_string.f a b = some (strC a b) := cmp_string_eq a b
theorem impl_byRecord_eq (a0 : ByteArray) (a1 a2 a3 : Int) (a4 a5 b0 : ByteArray) (b1 b2 b3 : Int) (b4 b5 : ByteArray) (h0 : a0.size ≤ 1048576) (h4 : a4.size ≤ 1048576) (h5 : a5.size ≤ 1048576) (k0 : b0.size ≤ 1048576) (k4 : b4.size ≤ 1048576) (k5 : b5.size ≤ 1048576) :
    Ev (fun k => impl_byRecord.f k a0 a1 a2 a3 a4 a5 b0 b1 b2 b3 b4 b5) (orL [nameC a0 b0, intC a1 b1, intC a3 b3, nameC a4 b4, strC a5 b5, intC a2 b2]) := by
  unfold impl_byRecord.f
  rw [cmp_int_eq a1 b1, cmp_int_eq a3 b3, cmp_int_eq a2 b2, cmp_string_C a5 b5]
  simp only [Option.bind_some]
  exact Ev.bind (impl_byName_eq a0 b0 h0 k0) (Ev.bind (impl_byName_eq a4 b4 h4 k4) (Ev.bind (cmp_Or_eq _ (by simp)) ⟨0, fun _ _ => rfl⟩))
theorem impl_LessRecord_eq (a0 : ByteArray) (a1 a2 a3 : Int) (a4 a5 b0 : ByteArray) (b1 b2 b3 : Int) (b4 b5 : ByteArray) (h0 : a0.size ≤ 1048576) (h4 : a4.size ≤ 1048576) (h5 : a5.size ≤ 1048576) (k0 : b0.size ≤ 1048576) (k4 : b4.size ≤ 1048576) (k5 : b5.size ≤ 1048576) :
    Ev (fun k => impl_LessRecord.f k a0 a1 a2 a3 a4 a5 b0 b1 b2 b3 b4 b5) (lessRec a0 a1 a2 a3 a4 a5 b0 b1 b2 b3 b4 b5) := by
  unfold impl_LessRecord.f
  rw [← lessRec_or]
  exact Ev.bind (impl_byRecord_eq a0 a1 a2 a3 a4 a5 b0 b1 b2 b3 b4 b5 h0 h4 h5 k0 k4 k5) ⟨0, fun _ _ => rfl⟩
theorem spec_NumText_pos (x0 : Int) (hx : ¬ x0 < 0) : ∀ (m : Nat) (s : List Int), m ≤ 9223372036854775808 → (decZ m).length + s.length ≤ 100 →
    m ≤ 9223372036854775807 → Ev (fun k => spec_NumText.l0 k x0 (strOfNums s) (m : Int)) (strOfNums (decZ m ++ s)) := by
  intro m
  induction m using Nat.strongRecOn with
  | _ m ih =>
    intro s hm hl hm2
    by_cases hz : m = 0
    · subst hz
      refine Ev.step (f := fun _ => some (strOfNums s)) (fun k => ?_) ⟨0, fun _ _ => by rw [decZ_zero, List.nil_append]⟩
      simp only [spec_NumText.l0]
      rw [if_pos (by simp), if_neg hx]
    · have hd := decZ_pos m hz
      have hl2 : (decZ m).length = (decZ (m / 10)).length + 1 := by rw [hd, List.length_append]; rfl
      have := ih (m / 10) (by omega) ((48 + ((m % 10 : Nat) : Int)) :: s) (by omega) (by rw [List.length_cons]; omega) (by omega)
      have e : decZ (m / 10) ++ (48 + ((m % 10 : Nat) : Int)) :: s = decZ m ++ s := by rw [hd, List.append_assoc]; rfl
      rw [e] at this
      refine Ev.step (f := fun k => spec_NumText.l0 k x0 (strOfNums ((48 + ((m % 10 : Nat) : Int)) :: s)) ((m / 10 : Nat) : Int)) (fun k => ?_) this
      simp only [spec_NumText.l0]
      rw [if_neg (by omega), tmod_pos, tdiv_pos, if_neg (by omega)]
      have w1 : wrap64 (48 + ((m % 10 : Nat) : Int)) % 256 = 48 + ((m % 10 : Nat) : Int) := by rw [wrap_id (by omega) (by omega)]; omega
      have w2 : wrap64 ((m / 10 : Nat) : Int) = ((m / 10 : Nat) : Int) := wrap_id (by omega) (by omega)
      rw [w1, w2]
      simp only [Option.bind_some]
      rw [if_pos (by rw [strOfNums_size, strOfNums_size]; simp; omega), ← strOfNums_append]
      rfl
theorem spec_NumText_neg (x0 : Int) (hx : x0 < 0) : ∀ (m : Nat) (s : List Int), m ≤ 9223372036854775808 → (decZ m).length + s.length ≤ 100 →
    Ev (fun k => spec_NumText.l0 k x0 (strOfNums s) (-(m : Int))) (strOfNums (45 :: (decZ m ++ s))) := by
  intro m
  induction m using Nat.strongRecOn with
  | _ m ih =>
    intro s hm hl
    by_cases hz : m = 0
    · subst hz
      refine Ev.step (f := fun _ => some (strOfNums (45 :: s))) (fun k => ?_) ⟨0, fun _ _ => by rw [decZ_zero, List.nil_append]⟩
      simp only [spec_NumText.l0]
      rw [if_pos (by simp), if_pos hx, if_pos (by rw [strOfNums_size]; omega)]
      rw [show (45 :: s) = [45] ++ s from rfl, strOfNums_append]
      rfl
    · have hd := decZ_pos m hz
      have hl2 : (decZ m).length = (decZ (m / 10)).length + 1 := by rw [hd, List.length_append]; rfl
      have := ih (m / 10) (by omega) ((48 + ((m % 10 : Nat) : Int)) :: s) (by omega) (by rw [List.length_cons]; omega)
      have e : decZ (m / 10) ++ (48 + ((m % 10 : Nat) : Int)) :: s = decZ m ++ s := by rw [hd, List.append_assoc]; rfl
      rw [e] at this
      refine Ev.step (f := fun k => spec_NumText.l0 k x0 (strOfNums ((48 + ((m % 10 : Nat) : Int)) :: s)) (-((m / 10 : Nat) : Int))) (fun k => ?_) this
      simp only [spec_NumText.l0]
      rw [if_neg (by omega), tmod_neg, tdiv_neg]
      have w2 : wrap64 (-((m / 10 : Nat) : Int)) = -((m / 10 : Nat) : Int) := wrap_id (by omega) (by omega)
      have w3 : wrap64 (-(-((m % 10 : Nat) : Int))) = ((m % 10 : Nat) : Int) := by rw [Int.neg_neg]; exact wrap_id (by omega) (by omega)
      have w1 : wrap64 (48 + ((m % 10 : Nat) : Int)) % 256 = 48 + ((m % 10 : Nat) : Int) := by rw [wrap_id (by omega) (by omega)]; omega
      rw [w2, w3, w1]
      by_cases hn : -((m % 10 : Nat) : Int) < 0
      · rw [if_pos hn]
        simp only [Option.bind_some]
        rw [if_pos (by rw [strOfNums_size, strOfNums_size]; simp; omega), ← strOfNums_append]
        rfl
      · rw [if_neg hn]
        have hz : ((m % 10 : Nat) : Int) = 0 := by omega
        rw [hz]
        have w4 : wrap64 (48 + (-0 : Int)) % 256 = 48 + 0 := by unfold wrap64; omega
        rw [w4]
        simp only [Option.bind_some]
        rw [if_pos (by rw [strOfNums_size, strOfNums_size]; simp; omega), ← strOfNums_append]
        rfl
theorem spec_NumText_eq (n : Int) (h : -9223372036854775808 ≤ n ∧ n ≤ 9223372036854775807) : Ev (fun k => spec_NumText.f k n) (numText n) := by
  unfold spec_NumText.f numText numL
  by_cases hz : n = 0
  · subst hz
    simp only [if_true]
    rw [if_neg (by decide)]
    refine ⟨0, fun _ _ => ?_⟩
    rw [show (0 : Int).natAbs = 0 from rfl, decN_small 0 (by decide)]
    rfl
  · simp only [if_neg hz]
    by_cases hn : n < 0
    · rw [if_pos hn, decN_pos _ (by omega)]
      have := spec_NumText_neg n hn n.natAbs [] (by omega) (by have := decZ_le n.natAbs (by omega); simp; omega)
      rw [show (-(n.natAbs : Int)) = n by omega, List.append_nil] at this
      exact this
    · rw [if_neg hn, decN_pos _ (by omega)]
      have := spec_NumText_pos n hn n.natAbs [] (by omega) (by have := decZ_le n.natAbs (by omega); simp; omega) (by omega)
      rw [show ((n.natAbs : Int)) = n by omega, List.append_nil] at this
      exact this
theorem impl_NumText_pos : ∀ (m : Nat), m ≤ 9223372036854775807 → Ev (fun k => impl_NumText.f k (m : Int)) (strOfNums (decN m)) := by
  intro m
  induction m using Nat.strongRecOn with
  | _ m ih =>
    intro hm
    refine Ev.step (f := fun k => impl_NumText.j0 k (m : Int) false) (fun k => ?_) ?_
    · simp only [impl_NumText.f]
      rw [if_neg (by omega)]
    · by_cases hs : m < 10
      · refine Ev.step (f := fun _ => some (strOfNums (decN m))) (fun k => ?_) ⟨0, fun _ _ => rfl⟩
        simp only [impl_NumText.j0]
        rw [if_neg (by decide), if_neg (by omega), if_pos (by omega), wrap_id (by omega) (by omega), wrap32_id (by omega) (by omega), encode_digit _ (by omega) (by omega), decN_small m hs]
      · have hq := ih (m / 10) (by omega) (by omega)
        refine Ev.step (f := fun k => (impl_NumText.f k ((m / 10 : Nat) : Int)).bind fun t => if t.size + (strOfNums [48 + ((m % 10 : Nat) : Int)]).size ≤ 9223372036854775807 then some (t ++ strOfNums [48 + ((m % 10 : Nat) : Int)]) else none) (fun k => ?_) (Ev.bind hq ?_)
        · simp only [impl_NumText.j0]
          rw [if_neg (by decide), if_neg (by omega), if_neg (by omega), tdiv_pos, tmod_pos, wrap_id (x := ((m / 10 : Nat) : Int)) (by omega) (by omega), wrap_id (x := 48 + ((m % 10 : Nat) : Int)) (by omega) (by omega), wrap32_id (by omega) (by omega), encode_digit _ (by omega) (by omega)]
        · refine ⟨0, fun _ _ => ?_⟩
          have := decN_le (m / 10) (by omega)
          rw [if_pos (by rw [strOfNums_size, strOfNums_size]; simp; omega), ← strOfNums_append, ← decN_step m (by omega)]
theorem impl_NumText_neg : ∀ (m : Nat), m ≠ 0 → m ≤ 9223372036854775808 → Ev (fun k => impl_NumText.f k (-(m : Int))) (strOfNums (45 :: decN m)) := by
  intro m
  induction m using Nat.strongRecOn with
  | _ m ih =>
    intro hz hm
    by_cases hs : m < 10
    · refine Ev.step (f := fun k => impl_NumText.j0 k (-(m : Int)) true) (fun k => ?_) ?_
      · simp only [impl_NumText.f]
        rw [if_pos (by omega)]
        have : -(m : Int) > -10 := by omega
        rw [decide_eq_true this]
      · refine Ev.step (f := fun k => (impl_NumText.f k (m : Int)).bind fun t => if 1 + t.size ≤ 9223372036854775807 then some ((⟨#[45]⟩ : ByteArray) ++ t) else none) (fun k => ?_) (Ev.bind (impl_NumText_pos m (by omega)) ?_)
        · simp only [impl_NumText.j0]
          rw [if_pos trivial, Int.neg_neg, wrap_id (by omega) (by omega)]
        · refine ⟨0, fun _ _ => ?_⟩
          have := decN_le m (by omega)
          rw [if_pos (by rw [strOfNums_size]; omega), show (45 :: decN m) = [45] ++ decN m from rfl, strOfNums_append]
          rfl
    · refine Ev.step (f := fun k => impl_NumText.j0 k (-(m : Int)) false) (fun k => ?_) ?_
      · simp only [impl_NumText.f]
        rw [if_pos (by omega)]
        have : ¬ -(m : Int) > -10 := by omega
        rw [decide_eq_false this]
      · refine Ev.step (f := fun k => (impl_NumText.f k (-((m / 10 : Nat) : Int))).bind fun t => (impl_NumText.f k ((m % 10 : Nat) : Int)).bind fun u => if t.size + u.size ≤ 9223372036854775807 then some (t ++ u) else none) (fun k => ?_)
          (Ev.bind (ih (m / 10) (by omega) (by omega) (by omega)) (Ev.bind (impl_NumText_pos (m % 10) (by omega)) ?_))
        · simp only [impl_NumText.j0]
          rw [if_neg (by decide), if_pos (by omega), tdiv_neg, tmod_neg, Int.neg_neg, wrap_id (x := -((m / 10 : Nat) : Int)) (by omega) (by omega), wrap_id (x := ((m % 10 : Nat) : Int)) (by omega) (by omega)]
        · refine ⟨0, fun _ _ => ?_⟩
          have h1 := decN_le (m / 10) (by omega)
          have h2 := decN_le (m % 10) (by omega)
          rw [if_pos (by rw [strOfNums_size, strOfNums_size, List.length_cons]; omega), ← strOfNums_append, decN_small (m % 10) (by omega), decN_step m (by omega)]
          rfl
theorem impl_NumText_eq (n : Int) (h : -9223372036854775808 ≤ n ∧ n ≤ 9223372036854775807) : Ev (fun k => impl_NumText.f k n) (numText n) := by
  unfold numText numL
  by_cases hn : n < 0
  · rw [if_pos hn]
    have := impl_NumText_neg n.natAbs (by omega) (by omega)
    rw [show (-(n.natAbs : Int)) = n by omega] at this
    exact this
  · rw [if_neg hn]
    have := impl_NumText_pos n.natAbs (by omega)
    rw [show ((n.natAbs : Int)) = n by omega] at this
    exact this
theorem bytes_trans : ∀ a b c : List UInt8, Op.bytesLess a b = true → Op.bytesLess b c = true → Op.bytesLess a c = true
  | [], _, [], h1, h2 => by
    rename_i b
    cases b <;> simp [Op.bytesLess] at h1 h2
  | [], _, _ :: _, _, _ => rfl
  | _ :: _, [], _, h1, _ => by simp [Op.bytesLess] at h1
  | _ :: _, _ :: _, [], _, h2 => by simp [Op.bytesLess] at h2
  | p :: x, q :: y, r :: z, h1, h2 => by
    simp only [Op.bytesLess, Bool.or_eq_true, Bool.and_eq_true, decide_eq_true_eq, beq_iff_eq] at h1 h2 ⊢
    rcases h1 with h1 | ⟨rfl, h1⟩
    · rcases h2 with h2 | ⟨rfl, h2⟩
      · left
        rw [UInt8.lt_iff_toNat_lt] at h1 h2 ⊢
        omega
      · exact .inl h1
    · rcases h2 with h2 | ⟨rfl, h2⟩
      · exact .inl h2
      · exact .inr ⟨rfl, bytes_trans x y z h1 h2⟩
theorem lessR_trans : ∀ x y z : List ByteArray, lessR x y = true → lessR y z = true → lessR x z = true
  | [], _, [], h1, h2 => by
    rename_i y
    cases y <;> simp [lessR] at h1 h2
  | [], _, _ :: _, _, _ => rfl
  | _ :: _, [], _, h1, _ => by cases h1
  | _ :: _, _ :: _, [], _, h2 => by cases h2
  | a :: x, b :: y, c :: z, h1, h2 => by
    unfold lessR at h1 h2 ⊢
    by_cases e1 : a = b
    · subst e1
      rw [if_pos rfl] at h1
      by_cases e2 : a = c
      · subst e2
        rw [if_pos rfl] at h2 ⊢
        exact lessR_trans x y z h1 h2
      · rw [if_neg e2] at h2 ⊢
        exact h2
    · rw [if_neg e1] at h1
      by_cases e2 : b = c
      · subst e2
        rw [if_neg e1]
        exact h1
      · rw [if_neg e2] at h2
        have h3 := bytes_trans _ _ _ h1 h2
        by_cases e3 : a = c
        · subst e3
          rw [less_irrefl] at h3
          cases h3
        · rw [if_neg e3]
          exact h3
def spB : ByteArray := ⟨#[32]⟩
/-- A space and a word, for each word. -/
def tailSp : List ByteArray → List UInt8
  | [] => []
  | x :: l => 32 :: (x.data.toList ++ tailSp l)
theorem join_tail : ∀ (l : List ByteArray) (x : ByteArray), Lib.join ((x :: l).map (·.data.toList)) [32] = x.data.toList ++ tailSp l
  | [], x => by simp [Lib.join, List.intercalate, tailSp]
  | y :: l, x => by
    have ih := join_tail l y
    rw [tailSp, ← ih]
    simp [Lib.join, List.intercalate]
/-- Words behind each other, a space between. -/
def catSp : ByteArray → List ByteArray → ByteArray
  | a, [] => a
  | a, x :: l => catSp ((a ++ spB) ++ x) l
theorem catSp_data : ∀ (l : List ByteArray) (a : ByteArray), (catSp a l).data.toList = a.data.toList ++ tailSp l
  | [], a => by simp [catSp, tailSp]
  | x :: l, a => by
    rw [catSp, catSp_data l, ByteArray.data_append, ByteArray.data_append, Array.toList_append, Array.toList_append, tailSp]
    simp [spB]
theorem join_sp (x : ByteArray) (l : List ByteArray) (h : (catSp x l).size ≤ 140737488355328) (hl : l.length ≤ 1000) : strings_Join.f (x :: l) spB = some (catSp x l) := by
  unfold strings_Join.f
  have e : spB.data.toList = [32] := rfl
  have d := (join_tail l x).trans (catSp_data l x).symm
  rw [e, d, if_pos ⟨by rw [data_length]; exact h, by rw [List.length_cons]; omega⟩]
/-- A name as text: '.' for the root. -/
def dotS (a : ByteArray) : ByteArray := if a.toList = ([] : List UInt8) then (⟨#[46]⟩ : ByteArray) else a
theorem spec_l5Dot_eq (a : ByteArray) : spec_l5Dot.f a = some (dotS a) := by
  unfold spec_l5Dot.f dotS
  split <;> rfl
theorem impl_nameText_eq (a : ByteArray) : impl_nameText.f a = some (dotS a) := by
  unfold impl_nameText.f dotS
  split <;> rfl
theorem dotS_size (a : ByteArray) : (dotS a).size ≤ a.size + 1 := by
  unfold dotS
  split
  · have : (⟨#[46]⟩ : ByteArray).size = 1 := rfl
    omega
  · omega
theorem typeText_both (n : Int) : ∃ t : ByteArray, spec_TypeText.f n = some t ∧ impl_TypeText.f n = some t ∧ t.size ≤ 6 := by
  unfold spec_TypeText.f impl_TypeText.f
  by_cases h1 : n = 1
  · exact ⟨_, by rw [if_pos h1], by rw [if_pos h1], by decide⟩
  · by_cases h2 : n = 2
    · exact ⟨_, by rw [if_neg h1, if_pos h2], by rw [if_neg h1, if_pos h2], by decide⟩
    · by_cases h5 : n = 5
      · exact ⟨_, by rw [if_neg h1, if_neg h2, if_pos h5], by rw [if_neg h1, if_neg h2, if_pos h5], by decide⟩
      · by_cases h6 : n = 6
        · exact ⟨_, by rw [if_neg h1, if_neg h2, if_neg h5, if_pos h6], by rw [if_neg h1, if_neg h2, if_neg h5, if_pos h6], by decide⟩
        · by_cases h16 : n = 16
          · exact ⟨_, by rw [if_neg h1, if_neg h2, if_neg h5, if_neg h6, if_pos h16], by rw [if_neg h1, if_neg h2, if_neg h5, if_neg h6, if_pos h16], by decide⟩
          · exact ⟨_, by rw [if_neg h1, if_neg h2, if_neg h5, if_neg h6, if_neg h16], by rw [if_neg h1, if_neg h2, if_neg h5, if_neg h6, if_neg h16], by decide⟩
theorem numText_size (n : Int) (h : -9223372036854775808 ≤ n ∧ n ≤ 9223372036854775807) : (numText n).size ≤ 22 := by
  unfold numText
  rw [strOfNums_size]
  exact numL_le n h
theorem spB_size : spB.size = 1 := rfl
theorem cat_size (a b : ByteArray) : (a ++ b).size = a.size + b.size := ByteArray.size_append
theorem catSp_size : ∀ (l : List ByteArray) (a : ByteArray), (catSp a l).size = a.size + szSs l + l.length
  | [], a => by simp [catSp, szSs]
  | x :: l, a => by
    rw [catSp, catSp_size l, cat_size, cat_size, spB_size, szSs_cons, List.length_cons]
    omega
/-- A record's text out of its words. -/
def rtextW (A B ty N H : ByteArray) (a1 : Int) (a5 : ByteArray) : ByteArray :=
  if a1 = 1 then catSp A [B, ty, N] else if a1 = 6 then catSp A [B, ty, H, N] else if a1 = 16 then catSp A [B, ty, (⟨#[39]⟩ : ByteArray) ++ a5] else catSp A [B, ty, H]
theorem rtextW_size (A B ty N H : ByteArray) (a1 : Int) (a5 : ByteArray) (hA : A.size ≤ 1048577) (hB : B.size ≤ 22) (ht : ty.size ≤ 6) (hN : N.size ≤ 22) (hH : H.size ≤ 1048577) (h5 : a5.size ≤ 1048576) : 3 ≤ (rtextW A B ty N H a1 a5).size ∧ (rtextW A B ty N H a1 a5).size ≤ 3000000 := by
  have e39 : (⟨#[39]⟩ : ByteArray).size = 1 := rfl
  unfold rtextW
  split
  · rw [catSp_size]
    simp only [szSs_cons, szSs_nil, List.length_cons, List.length_nil]
    omega
  · split
    · rw [catSp_size]
      simp only [szSs_cons, szSs_nil, List.length_cons, List.length_nil]
      omega
    · split
      · rw [catSp_size]
        simp only [szSs_cons, szSs_nil, List.length_cons, List.length_nil, cat_size, e39]
        omega
      · rw [catSp_size]
        simp only [szSs_cons, szSs_nil, List.length_cons, List.length_nil]
        omega
/-- What RecordText returns: one text, by the reference and by the program; none for a record that is not right. -/
theorem recText_both (a0 : ByteArray) (a1 a2 a3 : Int) (a4 a5 : ByteArray) (h0 : a0.size ≤ 1048576) (h4 : a4.size ≤ 1048576) (h5 : a5.size ≤ 1048576) (h2 : -9223372036854775808 ≤ a2 ∧ a2 ≤ 9223372036854775807) (h3 : -9223372036854775808 ≤ a3 ∧ a3 ≤ 9223372036854775807) :
    ∃ t : ByteArray, Ev (fun k => spec_RecordText.f k a0 a1 a2 a3 a4 a5) t ∧ Ev (fun k => impl_RecordText.f k a0 a1 a2 a3 a4 a5) t ∧ t.size ≤ 3000000 ∧ (t.size = 0 ↔ recOk a0 a1 a2 a3 a4 a5 = false) := by
  unfold spec_RecordText.f impl_RecordText.f
  have hs := spec_RecordOk_eq a0 a1 a2 a3 a4 a5 h0 h4 h5
  have hi := impl_RecordOk_eq a0 a1 a2 a3 a4 a5 h0 h4 h5
  cases h : recOk a0 a1 a2 a3 a4 a5 with
  | false =>
    rw [h] at hs hi
    exact ⟨_, Ev.bind hs (Ev_ifn (by decide) (Ev_some _)), Ev.bind hi (Ev_ifn (by decide) (Ev_some _)), by decide, ⟨fun _ => rfl, fun _ => rfl⟩⟩
  | true =>
    rw [h] at hs hi
    have ht := recOk_type h
    obtain ⟨ty, t1, t2, t3⟩ := typeText_both a1
    have d0 := dotS_size a0
    have d4 := dotS_size a4
    have n2 := numText_size a2 h2
    have n3 := numText_size a3 h3
    have sn2 := spec_NumText_eq a2 h2
    have sn3 := spec_NumText_eq a3 h3
    have in2 := impl_NumText_eq a2 h2
    have in3 := impl_NumText_eq a3 h3
    have e32 : (⟨#[32]⟩ : ByteArray) = spB := rfl
    have zs := spB_size
    have e39 : (⟨#[39]⟩ : ByteArray).size = 1 := rfl
    rw [t1, t2, spec_l5Dot_eq, spec_l5Dot_eq, impl_nameText_eq]
    simp only [Option.bind_some, e32]
    have j0 : ∀ (k : Nat) (b : Bool), impl_RecordText.j0 (k + 1) [dotS a0, numText a2, ty] a1 b a0 a1 a2 a3 a4 a5 = if b = true then strings_Join.f [dotS a0, numText a2, ty, dotS a4] spB else if a1 = 6 then (impl_NumText.f k a3).bind (fun t => strings_Join.f [dotS a0, numText a2, ty, dotS a4, t] spB) else if a1 = 16 then strings_Join.f [dotS a0, numText a2, ty, (⟨#[39]⟩ : ByteArray) ++ a5] spB else strings_Join.f [dotS a0, numText a2, ty] spB := by
      intro k b
      simp only [impl_RecordText.j0]
      rw [impl_nameText_eq]
      have o : ∀ x : Option ByteArray, (x.bind fun t => some t) = x := fun x => by cases x <;> rfl
      simp only [Option.bind_some, o, e32]
      rw [if_pos (show [dotS a0, numText a2, ty].length < 8796093022208 by simp), if_pos (show 1 + a5.size ≤ 9223372036854775807 by omega)]
      simp
    have z : (rtextW (dotS a0) (numText a2) ty (numText a3) (dotS a4) a1 a5).size ≤ 3000000 := (rtextW_size _ _ _ _ _ a1 a5 (by omega) n2 t3 n3 (by omega) h5).2
    have z3 := (rtextW_size (dotS a0) (numText a2) ty (numText a3) (dotS a4) a1 a5 (by omega) n2 t3 n3 (by omega) h5).1
    refine ⟨rtextW (dotS a0) (numText a2) ty (numText a3) (dotS a4) a1 a5, Ev.bind hs (Ev_if rfl ?_), Ev.bind hi (Ev_if rfl (Ev.bind in2 ?_)), z, ⟨fun q => by omega, fun q => by cases q⟩⟩
    · refine Ev_if (by omega) (Ev.bind sn2 (Ev_if (by simp only [cat_size]; omega) (Ev_if (by simp only [cat_size]; omega) (Ev_if (by simp only [cat_size]; omega) (Ev_if (by simp only [cat_size]; omega) ?_)))))
      by_cases c1 : a1 = 1
      · have e : rtextW (dotS a0) (numText a2) ty (numText a3) (dotS a4) a1 a5 = catSp (dotS a0) [numText a2, ty, numText a3] := by unfold rtextW; rw [if_pos c1]
        rw [e]
        exact Ev_if c1 (Ev.bind sn3 (Ev_if (by simp only [cat_size]; omega) (Ev_some _)))
      · refine Ev_ifn c1 ?_
        by_cases c6 : a1 = 6
        · have e : rtextW (dotS a0) (numText a2) ty (numText a3) (dotS a4) a1 a5 = catSp (dotS a0) [numText a2, ty, dotS a4, numText a3] := by unfold rtextW; rw [if_neg c1, if_pos c6]
          rw [e]
          exact Ev_if c6 (Ev_if (by simp only [cat_size]; omega) (Ev_if (by simp only [cat_size]; omega) (Ev.bind sn3 (Ev_if (by simp only [cat_size]; omega) (Ev_some _)))))
        · refine Ev_ifn c6 ?_
          by_cases c16 : a1 = 16
          · have e : rtextW (dotS a0) (numText a2) ty (numText a3) (dotS a4) a1 a5 = catSp (dotS a0) [numText a2, ty, (⟨#[39]⟩ : ByteArray) ++ a5] := by unfold rtextW; rw [if_neg c1, if_neg c6, if_pos c16]
            rw [e]
            refine Ev_if c16 (Ev_if (by simp only [cat_size]; omega) (Ev_if (by simp only [cat_size]; omega) ⟨0, fun _ _ => ?_⟩))
            rw [ByteArray.append_assoc]
            rfl
          · have e : rtextW (dotS a0) (numText a2) ty (numText a3) (dotS a4) a1 a5 = catSp (dotS a0) [numText a2, ty, dotS a4] := by unfold rtextW; rw [if_neg c1, if_neg c6, if_neg c16]
            rw [e]
            exact Ev_ifn c16 (Ev_if (by simp only [cat_size]; omega) (Ev_some _))
    · unfold rtextW at z ⊢
      by_cases c1 : a1 = 1
      · rw [if_pos c1] at z ⊢
        refine Ev_if c1 (Ev.bind in3 (Ev_if (by simp) ?_))
        rw [show [dotS a0, numText a2, ty] ++ [numText a3] = dotS a0 :: [numText a2, ty, numText a3] from rfl, join_sp _ _ (by omega) (by simp)]
        exact Ev_some _
      · rw [if_neg c1] at z ⊢
        refine Ev_ifn c1 ?_
        have key : ∀ b : Bool, b = decide (a1 = 2 ∨ a1 = 5) → Ev (fun k => impl_RecordText.j0 k [dotS a0, numText a2, ty] a1 b a0 a1 a2 a3 a4 a5) (if a1 = 6 then catSp (dotS a0) [numText a2, ty, dotS a4, numText a3] else if a1 = 16 then catSp (dotS a0) [numText a2, ty, (⟨#[39]⟩ : ByteArray) ++ a5] else catSp (dotS a0) [numText a2, ty, dotS a4]) := by
          intro b hb
          by_cases c : a1 = 2 ∨ a1 = 5
          · rw [decide_eq_true c] at hb
            subst hb
            rw [if_neg (by omega), if_neg (by omega)] at z ⊢
            refine Ev.step (f := fun _ => some (catSp (dotS a0) [numText a2, ty, dotS a4])) (fun k => ?_) (Ev_some _)
            rw [j0, if_pos rfl, join_sp _ _ (by omega) (by simp)]
          · rw [decide_eq_false c] at hb
            subst hb
            by_cases c6 : a1 = 6
            · rw [if_pos c6] at z ⊢
              refine Ev.step (f := fun k => (impl_NumText.f k a3).bind (fun t => strings_Join.f [dotS a0, numText a2, ty, dotS a4, t] spB)) (fun k => ?_) (Ev.bind in3 ⟨0, fun _ _ => ?_⟩)
              · rw [j0, if_neg (by decide), if_pos c6]
              · exact join_sp _ _ (by omega) (by simp)
            · rw [if_neg c6, if_pos (by omega)] at z ⊢
              refine Ev.step (f := fun _ => some (catSp (dotS a0) [numText a2, ty, (⟨#[39]⟩ : ByteArray) ++ a5])) (fun k => ?_) (Ev_some _)
              rw [j0, if_neg (by decide), if_neg c6, if_pos (by omega), join_sp _ _ (by omega) (by simp)]
        by_cases c2 : a1 = 2
        · exact Ev_if c2 (key _ (by rw [decide_eq_true (Or.inl c2)]; simpa using c2))
        · exact Ev_ifn c2 (key _ (by by_cases c5 : a1 = 5 <;> simp [c2, c5]))
/-- Whether two records differ, as '!=' of the struct spells it. -/
def recNe (x y : S25) : Bool := !(x.f0.toList == y.f0.toList) || (!(x.f1 == y.f1) || (!(x.f2 == y.f2) || (!(x.f3 == y.f3) || (!(x.f4.toList == y.f4.toList) || (!(x.f5.toList == y.f5.toList))))))
theorem recNe_iff (x y : S25) : recNe x y = false ↔ x = y := by
  obtain ⟨a0, a1, a2, a3, a4, a5⟩ := x
  obtain ⟨b0, b1, b2, b3, b4, b5⟩ := y
  simp [recNe, toList_inj]
/-- What SameRecords answers. -/
def sameL : List S25 → List S25 → Bool
  | [], [] => true
  | x :: a, y :: b => if recNe x y = true then false else sameL a b
  | _, _ => false
theorem sameL_iff : ∀ (a b : List S25), sameL a b = true ↔ a = b
  | [], [] => by simp [sameL]
  | [], _ :: _ => by simp [sameL]
  | _ :: _, [] => by simp [sameL]
  | x :: a, y :: b => by
    unfold sameL
    have := recNe_iff x y
    cases h : recNe x y with
    | true =>
      have hne : x ≠ y := fun e => by rw [this.2 e] at h; cases h
      simp [hne]
    | false =>
      rw [if_neg (by decide), sameL_iff a b]
      have e := this.1 h
      simp [e]
theorem sameL_len : ∀ (a b : List S25), a.length ≠ b.length → sameL a b = false
  | [], [], h => absurd rfl h
  | [], _ :: _, _ => rfl
  | _ :: _, [], _ => rfl
  | x :: a, y :: b, h => by
    unfold sameL
    rw [sameL_len a b (by simpa using h)]
    split <;> rfl
theorem slices_Equal_loop (a b : List S25) (hab : a.length = b.length) (hn : a.length ≤ 140737488351232) : ∀ (d i : Nat), i + d = a.length →
    Ev (fun k => slices_Equal_impl_Record.l0 k a b (a.length : Int) (i : Int)) (sameL (a.drop i) (b.drop i)) := by
  intro d
  induction d with
  | zero =>
    intro i hi
    rw [List.drop_of_length_le (by omega), List.drop_of_length_le (by omega)]
    refine Ev.step (f := fun _ => some true) (fun k => ?_) ⟨0, fun _ _ => rfl⟩
    simp only [slices_Equal_impl_Record.l0]
    rw [if_neg (by omega)]
  | succ d ih =>
    intro i hi
    have hw := wrap_succ i a.length (by omega) (by omega)
    have ha : i < a.length := by omega
    have hb : i < b.length := by omega
    rw [List.drop_eq_getElem_cons ha, List.drop_eq_getElem_cons hb, sameL]
    refine Ev.step (f := fun k => if recNe a[i] b[i] = true then some false else slices_Equal_impl_Record.l0 k a b (a.length : Int) ((i + 1 : Nat) : Int)) (fun k => ?_) ?_
    · simp only [slices_Equal_impl_Record.l0]
      rw [if_pos (by omega), if_pos (by omega), if_pos (by omega), if_pos (by omega), rdR_getElem a i ha, rdR_getElem b i hb, hw]
      rfl
    · cases h : recNe a[i] b[i] with
      | true => exact ⟨0, fun _ _ => rfl⟩
      | false => simpa using ih (i + 1) (by omega)
theorem impl_SameRecords_eq (a b : List S25) (hn : a.length ≤ 140737488351232) : Ev (fun k => impl_SameRecords.f k a b) (sameL a b) := by
  unfold impl_SameRecords.f
  refine Ev.bind (a := sameL a b) ?_ ⟨0, fun _ _ => rfl⟩
  unfold slices_Equal_impl_Record.f
  by_cases h : a.length = b.length
  · have h' : (a.length : Int) = (b.length : Int) := by omega
    simp only [if_pos h']
    simpa using slices_Equal_loop a b h hn a.length 0 (by omega)
  · have h' : ¬ (a.length : Int) = (b.length : Int) := by omega
    simp only [if_neg h']
    rw [sameL_len a b h]
    exact Ev.now _
/-- Sorted: nothing stands ahead of a lesser one. -/
def SortedBy {α : Type} (lt : α → α → Bool) (l : List α) : Prop := l.Pairwise (fun x y => lt y x = false)
/-- A total order, told by what is less. -/
structure OrdOf {α : Type} (lt : α → α → Bool) : Prop where
  irrefl : ∀ x, lt x x = false
  trans : ∀ x y z, lt x y = true → lt y z = true → lt x z = true
  total : ∀ x y, x ≠ y → lt x y = false → lt y x = true
theorem OrdOf.asymm {α : Type} {lt : α → α → Bool} (o : OrdOf lt) (x y : α) (h : lt x y = true) : lt y x = false := by
  cases q : lt y x with
  | false => rfl
  | true =>
    have := o.trans x y x h q
    rw [o.irrefl] at this
    cases this
theorem OrdOf.le_trans {α : Type} {lt : α → α → Bool} (o : OrdOf lt) [DecidableEq α] (x y z : α) (h1 : lt y x = false) (h2 : lt z y = false) : lt z x = false := by
  cases q : lt z x with
  | false => rfl
  | true =>
    by_cases e : x = y
    · rw [← e] at h2
      rw [h2] at q
      cases q
    · have h3 := o.total y x (fun z => e z.symm) h1
      have := o.trans z x y q h3
      rw [h2] at this
      cases this
/-- Two sorted lists of the same members are the same. -/
theorem sorted_unique {α : Type} [DecidableEq α] {lt : α → α → Bool} (o : OrdOf lt) : ∀ (l m : List α), l.Perm m → SortedBy lt l → SortedBy lt m → l = m
  | [], m, h, _, _ => (List.Perm.nil_eq h)
  | x :: xs, [], h, _, _ => absurd h.length_eq (by simp)
  | x :: xs, y :: ys, h, h1, h2 => by
    have p1 := List.pairwise_cons.1 h1
    have p2 := List.pairwise_cons.1 h2
    have e : x = y := by
      by_cases e : x = y
      · exact e
      · have m1 : x ∈ ys := by
          have := h.mem_iff.1 (List.mem_cons_self (a := x) (l := xs))
          rcases List.mem_cons.1 this with q | q
          · exact absurd q e
          · exact q
        have m2 : y ∈ xs := by
          have := h.mem_iff.2 (List.mem_cons_self (a := y) (l := ys))
          rcases List.mem_cons.1 this with q | q
          · exact absurd q.symm e
          · exact q
        have a := p2.1 x m1
        have b := o.total x y e a
        rw [p1.1 y m2] at b
        cases b
    subst e
    rw [sorted_unique o xs ys (List.Perm.cons_inv h) p1.2 p2.2]
theorem lex_trans {α β : Type} [DecidableEq β] (k : α → β) (lt : β → β → Bool) (R : α → α → Bool) (h1 : ∀ a b c, lt a b = true → lt b c = true → lt a c = true) (h0 : ∀ a, lt a a = false) (hR : ∀ x y z, R x y = true → R y z = true → R x z = true) :
    ∀ x y z, (if k x = k y then R x y else lt (k x) (k y)) = true → (if k y = k z then R y z else lt (k y) (k z)) = true → (if k x = k z then R x z else lt (k x) (k z)) = true := by
  intro x y z hx hy
  by_cases a : k x = k y
  · rw [if_pos a] at hx
    by_cases c : k y = k z
    · rw [if_pos c] at hy
      rw [if_pos (a.trans c)]
      exact hR x y z hx hy
    · rw [if_neg c] at hy
      rw [a, if_neg c]
      exact hy
  · rw [if_neg a] at hx
    by_cases c : k y = k z
    · rw [← c, if_neg a]
      exact hx
    · rw [if_neg c] at hy
      have h := h1 _ _ _ hx hy
      by_cases e : k x = k z
      · rw [e, h0] at h
        cases h
      · rw [if_neg e]
        exact h
theorem lex_total {α β : Type} [DecidableEq β] (k : α → β) (lt : β → β → Bool) (R : α → α → Bool) (x y : α) (h1 : k x ≠ k y → lt (k x) (k y) = false → lt (k y) (k x) = true) (hR : k x = k y → R x y = false → R y x = true) :
    (if k x = k y then R x y else lt (k x) (k y)) = false → (if k y = k x then R y x else lt (k y) (k x)) = true := by
  intro h
  by_cases a : k x = k y
  · rw [if_pos a] at h
    rw [if_pos a.symm]
    exact hR a h
  · rw [if_neg a] at h
    rw [if_neg (fun q => a q.symm)]
    exact h1 a h
/-- A record less than another. -/
def rlt (x y : S25) : Bool := lessRec x.f0 x.f1 x.f2 x.f3 x.f4 x.f5 y.f0 y.f1 y.f2 y.f3 y.f4 y.f5
def bytesLt (a b : ByteArray) : Bool := Op.bytesLess a.toList b.toList
def intLt (a b : Int) : Bool := decide (a < b)
theorem intLt_trans (a b c : Int) (h1 : intLt a b = true) (h2 : intLt b c = true) : intLt a c = true := by
  unfold intLt at *
  rw [decide_eq_true_eq] at *
  omega
theorem intLt_irrefl (a : Int) : intLt a a = false := by
  unfold intLt
  exact decide_eq_false (by omega)
theorem intLt_total (a b : Int) (h : a ≠ b) (h1 : intLt a b = false) : intLt b a = true := by
  unfold intLt at *
  rw [decide_eq_false_iff_not] at h1
  exact decide_eq_true (by omega)
theorem lessN_trans (a b c : ByteArray) (h1 : lessN a b = true) (h2 : lessN b c = true) : lessN a c = true := lessR_trans _ _ _ h1 h2
theorem bytesLt_trans (a b c : ByteArray) (h1 : bytesLt a b = true) (h2 : bytesLt b c = true) : bytesLt a c = true := bytes_trans _ _ _ h1 h2
theorem bytesLt_irrefl (a : ByteArray) : bytesLt a a = false := less_irrefl _
theorem bytesLt_total (a b : ByteArray) (h : a ≠ b) (h1 : bytesLt a b = false) : bytesLt b a = true := less_total _ _ (fun q => h (toList_inj.1 q)) h1
def rl5 (x y : S25) : Bool := intLt x.f2 y.f2
def rl4 (x y : S25) : Bool := if x.f5 = y.f5 then rl5 x y else bytesLt x.f5 y.f5
def rl3 (x y : S25) : Bool := if x.f4 = y.f4 then rl4 x y else lessN x.f4 y.f4
def rl2 (x y : S25) : Bool := if x.f3 = y.f3 then rl3 x y else intLt x.f3 y.f3
def rl1 (x y : S25) : Bool := if x.f1 = y.f1 then rl2 x y else intLt x.f1 y.f1
theorem rlt_ord : OrdOf rlt where
  irrefl x := by
    unfold rlt lessRec
    simp
  trans := lex_trans (fun x : S25 => x.f0) lessN _ lessN_trans lessN_irrefl (lex_trans (fun x : S25 => x.f1) intLt _ intLt_trans intLt_irrefl (lex_trans (fun x : S25 => x.f3) intLt _ intLt_trans intLt_irrefl (lex_trans (fun x : S25 => x.f4) lessN _ lessN_trans lessN_irrefl (lex_trans (fun x : S25 => x.f5) bytesLt _ bytesLt_trans bytesLt_irrefl (fun x y z => intLt_trans x.f2 y.f2 z.f2)))))
  total x y hne := lex_total (fun x : S25 => x.f0) lessN rl1 x y (lessN_total _ _) (fun e0 => lex_total (fun x : S25 => x.f1) intLt rl2 x y (intLt_total _ _) (fun e1 => lex_total (fun x : S25 => x.f3) intLt rl3 x y (intLt_total _ _) (fun e3 => lex_total (fun x : S25 => x.f4) lessN rl4 x y (lessN_total _ _) (fun e4 => lex_total (fun x : S25 => x.f5) bytesLt rl5 x y (bytesLt_total _ _) (fun e5 => intLt_total x.f2 y.f2 (fun e2 => hne (by
    obtain ⟨x0, x1, x2, x3, x4, x5⟩ := x
    obtain ⟨y0, y1, y2, y3, y4, y5⟩ := y
    simp only at e0 e1 e2 e3 e4 e5
    subst e0 e1 e2 e3 e4 e5
    rfl)))))))
theorem sameRecsG_loop (a b : List S25) (hab : a.length = b.length) (hn : a.length ≤ 1000000) : ∀ (d i : Nat), i + d = a.length →
    Ev (fun k => laws_sameRecs.l0 k a b (i : Int)) (sameL (a.drop i) (b.drop i)) := by
  intro d
  induction d with
  | zero =>
    intro i hi
    rw [List.drop_of_length_le (by omega), List.drop_of_length_le (by omega)]
    refine Ev.step (f := fun _ => some true) (fun k => ?_) ⟨0, fun _ _ => rfl⟩
    simp only [laws_sameRecs.l0]
    rw [if_neg (by omega)]
  | succ d ih =>
    intro i hi
    have hw := wrap_succ i a.length (by omega) (by omega)
    have ha : i < a.length := by omega
    have hb : i < b.length := by omega
    rw [List.drop_eq_getElem_cons ha, List.drop_eq_getElem_cons hb, sameL]
    refine Ev.step (f := fun k => if recNe a[i] b[i] = true then some false else laws_sameRecs.l0 k a b ((i + 1 : Nat) : Int)) (fun k => ?_) ?_
    · simp only [laws_sameRecs.l0]
      rw [if_pos (by omega), if_pos (by omega), if_pos (by omega), rdR_getElem a i ha, rdR_getElem b i hb, hw]
      rfl
    · cases h : recNe a[i] b[i] with
      | true => exact ⟨0, fun _ _ => rfl⟩
      | false => simpa using ih (i + 1) (by omega)
theorem sameRecsG_eq (a b : List S25) (hn : a.length ≤ 1000000) : Ev (fun k => laws_sameRecs.f k a b) (sameL a b) := by
  unfold laws_sameRecs.f
  by_cases h : a.length = b.length
  · have := sameRecsG_loop a b h hn a.length 0 (by omega)
    exact Ev_if (by omega) (by simpa using this)
  · rw [sameL_len a b h]
    exact Ev_ifn (by omega) (Ev_some _)
theorem sameL_self (a : List S25) : sameL a a = true := (sameL_iff a a).2 rfl
theorem eqRec_ne (x y : S25) : (x.f0.toList == y.f0.toList && (x.f1 == y.f1 && (x.f2 == y.f2 && (x.f3 == y.f3 && (x.f4.toList == y.f4.toList && (x.f5.toList == y.f5.toList)))))) = !recNe x y := by
  unfold recNe
  simp only [Bool.not_or, Bool.not_not]
theorem textNe (t : ByteArray) (b : Bool) (h : t.size = 0 ↔ b = false) : ((t.toList != ([] : List UInt8)) == b) = true := by
  rw [ByteArray.toList_eq]
  have hs : t.data.toList.length = t.size := by rw [Array.length_toList]; rfl
  cases b with
  | false =>
    have z := h.2 rfl
    have e : t.data.toList = [] := List.eq_nil_of_length_eq_zero (by omega)
    rw [e]
    rfl
  | true =>
    have z : t.size ≠ 0 := fun q => by cases h.1 q
    cases e : t.data.toList with
    | nil => rw [e] at hs; exact absurd hs.symm z
    | cons c l => rfl
theorem rlt_LessRecord (x y : S25) (hx : smallR x) (hy : smallR y) : Ev (fun k => impl_LessRecord.f k x.f0 x.f1 x.f2 x.f3 x.f4 x.f5 y.f0 y.f1 y.f2 y.f3 y.f4 y.f5) (rlt x y) := by
  obtain ⟨a0, a4, a5⟩ := hx
  obtain ⟨b0, b4, b5⟩ := hy
  exact impl_LessRecord_eq _ _ _ _ _ _ _ _ _ _ _ _ (by omega) (by omega) (by omega) (by omega) (by omega) (by omega)
theorem records_loop (x s : List S25) (a : S25) (hs : SortedBy rlt s) (hp : s.Perm x) (hf : ∀ y ∈ s, smallR y) (hn : s.length ≤ 1000000) (ha : smallR a) (h2 : I64 a.f2) (h3 : I64 a.f3) :
    ∀ (d i : Nat), 1 ≤ i → i + d = max s.length 1 → Ev (fun k => laws_FnRecords.l0 k x s (i : Int) a.f0 a.f1 a.f2 a.f3 a.f4 a.f5) true := by
  intro d
  induction d with
  | zero =>
    intro i h1 hi
    obtain ⟨a0, a4, a5⟩ := ha
    obtain ⟨t, _, t2, _, t4⟩ := recText_both a.f0 a.f1 a.f2 a.f3 a.f4 a.f5 (by omega) (by omega) (by omega) h2 h3
    have rk := impl_RecordOk_eq a.f0 a.f1 a.f2 a.f3 a.f4 a.f5 (by omega) (by omega) (by omega)
    have pl := hp.length_eq
    refine Ev.step (f := fun k => (impl_RecordText.f k a.f0 a.f1 a.f2 a.f3 a.f4 a.f5).bind fun t => (impl_RecordOk.f k a.f0 a.f1 a.f2 a.f3 a.f4 a.f5).bind fun u => some ((t.toList != ([] : List UInt8)) == u)) (fun k => ?_) (Ev.bind t2 (Ev.bind rk ?_))
    · simp only [laws_FnRecords.l0]
      rw [if_neg (by omega), if_pos (by omega)]
    · rw [textNe t _ t4]
      exact Ev_some _
  | succ d ih =>
    intro i h1 hi
    have hil : i < s.length := by omega
    have hip : i - 1 < s.length := by omega
    have w : wrap64 ((i : Int) + 1) = ((i + 1 : Nat) : Int) := by rw [wrap_id (by omega) (by omega)]; omega
    have w1 : wrap64 ((i : Int) - 1) = ((i - 1 : Nat) : Int) := by rw [wrap_id (by omega) (by omega)]; omega
    have lr := rlt_LessRecord s[i] s[i - 1] (hf _ (List.getElem_mem _)) (hf _ (List.getElem_mem _))
    have so : rlt s[i] s[i - 1] = false := (List.pairwise_iff_getElem.1 hs) (i - 1) i hip hil (by omega)
    rw [so] at lr
    have ih' := ih (i + 1) (by omega) (by omega)
    refine Ev.step (f := fun k => (impl_LessRecord.f k s[i].f0 s[i].f1 s[i].f2 s[i].f3 s[i].f4 s[i].f5 s[i - 1].f0 s[i - 1].f1 s[i - 1].f2 s[i - 1].f3 s[i - 1].f4 s[i - 1].f5).bind fun t => if t = true then some false else laws_FnRecords.l0 k x s ((i + 1 : Nat) : Int) a.f0 a.f1 a.f2 a.f3 a.f4 a.f5) (fun k => ?_) (Ev.bind lr (Ev_ifn (by decide) ih'))
    simp only [laws_FnRecords.l0]
    rw [if_pos (by omega), if_pos (by omega), w1, if_pos (by omega), if_pos (by omega), rdR_getElem s i hil, rdR_getElem s (i - 1) hip, w]
theorem records_j0 (x s : List S25) (a b c : S25) (ha : smallR a) (hb : smallR b) (h : Ev (fun k => laws_FnRecords.l0 k x s 1 c.f0 c.f1 c.f2 c.f3 c.f4 c.f5) true) :
    Ev (fun k => laws_FnRecords.j0 k x s false a.f0 a.f1 a.f2 a.f3 a.f4 a.f5 b.f0 b.f1 b.f2 b.f3 b.f4 b.f5 c.f0 c.f1 c.f2 c.f3 c.f4 c.f5) true := by
  have j1 : Ev (fun k => laws_FnRecords.j1 k x s false c.f0 c.f1 c.f2 c.f3 c.f4 c.f5) true := by
    refine Ev.step (fun k => ?_) h
    simp only [laws_FnRecords.j1]
    rw [if_neg (by decide)]
  have ab := rlt_LessRecord a b ha hb
  have ba := rlt_LessRecord b a hb ha
  have eq : ∀ v : Bool, (v == !recNe a b) = false → Ev (fun k => laws_FnRecords.j1 k x s (v == (a.f0.toList == b.f0.toList && (a.f1 == b.f1 && (a.f2 == b.f2 && (a.f3 == b.f3 && (a.f4.toList == b.f4.toList && (a.f5.toList == b.f5.toList))))))) c.f0 c.f1 c.f2 c.f3 c.f4 c.f5) true := by
    intro v hv
    rw [eqRec_ne, hv]
    exact j1
  cases p : rlt a b with
  | true =>
    have q := rlt_ord.asymm a b p
    have ne : recNe a b = true := by
      cases e : recNe a b with
      | true => rfl
      | false =>
        have := (recNe_iff a b).1 e
        rw [this, rlt_ord.irrefl] at p
        cases p
    rw [p] at ab
    rw [q] at ba
    apply Ev.step
    · intro k
      simp only [laws_FnRecords.j0]
      rw [if_neg (by decide)]
    · exact Ev.bind ab (Ev_if rfl (Ev.bind ba (Ev_ifn (by simp) (Ev.bind ab (Ev_if rfl (eq true (by rw [ne]; rfl)))))))
  | false =>
    rw [p] at ab
    apply Ev.step
    · intro k
      simp only [laws_FnRecords.j0]
      rw [if_neg (by decide)]
    · refine Ev.bind ab (Ev_ifn (by simp) (Ev.bind ab (Ev_ifn (by simp) (Ev.bind ba (eq (rlt b a) ?_)))))
      cases e : recNe a b with
      | true =>
        have ne : a ≠ b := fun z => by rw [(recNe_iff a b).2 z] at e; cases e
        rw [rlt_ord.total a b ne p]
        rfl
      | false =>
        have z := (recNe_iff a b).1 e
        rw [← z, rlt_ord.irrefl]
        rfl
theorem ins_sorted {α : Type} [DecidableEq α] {lt : α → α → Bool} (o : OrdOf lt) (out : List α) (x : α) (k : Nat) (hk : k ≤ out.length) (hs : SortedBy lt out) (hB : ∀ y, y ∈ out.drop k → lt x y = true) (hA : ∀ j (h : j < out.length), j + 1 = k → lt x out[j] = false) :
    SortedBy lt ((out.take k ++ [x]) ++ out.drop k) := by
  unfold SortedBy at *
  have hp : (out.take k ++ out.drop k).Pairwise (fun x y => lt y x = false) := by rw [List.take_append_drop]; exact hs
  obtain ⟨p1, p2, p3⟩ := List.pairwise_append.1 hp
  have ha : ∀ a, a ∈ out.take k → lt x a = false := by
    intro a ha
    obtain ⟨j, hj, e⟩ := List.mem_take_iff_getElem.1 ha
    have hj1 : j < k := by omega
    have hj2 : j < out.length := by omega
    by_cases c : j + 1 = k
    · rw [← e]
      exact hA j hj2 c
    · have q := hA (k - 1) (by omega) (by omega)
      have z := List.pairwise_iff_getElem.1 hs j (k - 1) hj2 (by omega) (by omega)
      rw [← e]
      exact OrdOf.le_trans o _ _ _ z q
  rw [List.append_assoc]
  refine List.pairwise_append.2 ⟨p1, List.pairwise_append.2 ⟨List.pairwise_singleton _ _, p2, ?_⟩, ?_⟩
  · intro a h1 b h2
    rw [List.mem_singleton] at h1
    rw [h1]
    exact OrdOf.asymm o _ _ (hB b h2)
  · intro a h1 b h2
    rcases List.mem_append.1 h2 with h2 | h2
    · rw [List.mem_singleton] at h2
      rw [h2]
      exact ha a h1
    · exact p3 a h1 b h2
theorem ins_perm {α : Type} (out : List α) (x : α) (k : Nat) : ((out.take k ++ [x]) ++ out.drop k).Perm (x :: out) := by
  have h := List.perm_middle (a := x) (l₁ := out.take k) (l₂ := out.drop k)
  rw [List.take_append_drop] at h
  rw [List.append_assoc, List.singleton_append]
  exact h
theorem rlt_eq (x y : S25) (hx : fitR x) (hy : fitR y) : Ev (fun k => spec_LessRecord.f k x.f0 x.f1 x.f2 x.f3 x.f4 x.f5 y.f0 y.f1 y.f2 y.f3 y.f4 y.f5) (rlt x y) :=
  spec_LessRecord_eq x.f0 x.f1 x.f2 x.f3 x.f4 x.f5 y.f0 y.f1 y.f2 y.f3 y.f4 y.f5 hx.1 hx.2.1 hx.2.2 hy.1 hy.2.1 hy.2.2
theorem sortS_in (l : List S25) (hn : l.length ≤ 1048576) (hf : ∀ y ∈ l, fitR y) (i : Nat) (hi : i < l.length) (out : List S25) (ho : out.length = i) (hs : SortedBy rlt out) (hm : ∀ y ∈ out, fitR y) :
    ∀ k, k ≤ out.length → (∀ y, y ∈ out.drop k → rlt l[i] y = true) → ∃ out', SortedBy rlt out' ∧ out'.Perm (l[i] :: out) ∧ ∀ r, Ev (fun q => spec_SortRecords.l0 q l out' ((i + 1 : Nat) : Int)) r → Ev (fun q => spec_SortRecords.l1 q l out (i : Int) (k : Int)) r := by
  classical
  have wi : wrap64 ((i : Int) + 1) = ((i + 1 : Nat) : Int) := by rw [wrap_id (by omega) (by omega)]; omega
  have rl := rdR_getElem l i hi
  intro k
  induction k with
  | zero =>
    intro hk hB
    refine ⟨(out.take 0 ++ [l[i]]) ++ out.drop 0, ins_sorted rlt_ord out l[i] 0 (by omega) hs hB (fun j _ h => by omega), ins_perm out l[i] 0, fun r hr => ?_⟩
    refine Ev.step (fun q => ?_) hr
    simp only [spec_SortRecords.l1, rl]
    rw [if_neg (by omega)]
    simp only [Option.bind_some, List.nil_append]
    rw [if_pos (by omega), if_pos (by omega), if_pos (by simp), if_pos (by omega), if_pos (by omega), if_pos (by simp), if_pos (by simp; omega), wi]
    rfl
  | succ k ih =>
    intro hk hB
    have hko : k < out.length := by omega
    have wk : wrap64 (((k + 1 : Nat) : Int) - 1) = (k : Int) := by rw [wrap_id (by omega) (by omega)]; omega
    have ro := rdR_getElem out k hko
    have el := rlt_eq l[i] out[k] (hf _ (List.getElem_mem _)) (hm _ (List.getElem_mem _))
    have hd : out.drop k = out[k] :: out.drop (k + 1) := List.drop_eq_getElem_cons hko
    by_cases c : rlt l[i] out[k] = true
    · obtain ⟨out', a1, a2, a3⟩ := ih (by omega) (fun y hy => by
        rw [hd] at hy
        rcases List.mem_cons.1 hy with e | e
        · rw [e]; exact c
        · exact hB y e)
      refine ⟨out', a1, a2, fun r hr => ?_⟩
      apply Ev.step
      · intro q
        simp only [spec_SortRecords.l1, wk, rl, ro]
        rw [if_pos (by omega), if_pos (by omega), if_pos (by omega), if_pos (by omega), if_pos (by omega)]
      · exact Ev.bind el (Ev_if c (a3 r hr))
    · refine ⟨(out.take (k + 1) ++ [l[i]]) ++ out.drop (k + 1), ins_sorted rlt_ord out l[i] (k + 1) hk hs hB (fun j _ h => ?_), ins_perm out l[i] (k + 1), fun r hr => ?_⟩
      · have e : j = k := by omega
        subst e
        simpa using c
      · apply Ev.step
        · intro q
          simp only [spec_SortRecords.l1, wk, rl, ro]
          rw [if_pos (by omega), if_pos (by omega), if_pos (by omega), if_pos (by omega), if_pos (by omega)]
        · refine Ev.bind el (Ev_ifn c ?_)
          simp only [Option.bind_some, List.nil_append, wi]
          exact Ev_if (by omega) (Ev_if (by omega) (Ev_if (by simp; omega) (Ev_if (by simp; omega) (Ev_if (by simp; omega) hr))))
theorem sortS_loop (l : List S25) (hn : l.length ≤ 1048576) (hf : ∀ y ∈ l, fitR y) : ∀ (d i : Nat) (out : List S25), i + d = l.length → out.length = i → SortedBy rlt out → out.Perm (l.take i) → ∃ r, Ev (fun q => spec_SortRecords.l0 q l out (i : Int)) r ∧ SortedBy rlt r ∧ r.Perm l := by
  intro d
  induction d with
  | zero =>
    intro i out hi ho hs hp
    refine ⟨out, Ev.step (f := fun _ => some out) (fun q => ?_) (Ev_some _), hs, ?_⟩
    · simp only [spec_SortRecords.l0]
      rw [if_neg (by omega)]
    · rw [List.take_of_length_le (by omega)] at hp
      exact hp
  | succ d ih =>
    intro i out hi ho hs hp
    have hil : i < l.length := by omega
    obtain ⟨out', a1, a2, a3⟩ := sortS_in l hn hf i hil out ho hs (fun y hy => hf y (List.mem_of_mem_take (hp.mem_iff.1 hy))) out.length (Nat.le_refl _) (fun y hy => by rw [List.drop_length] at hy; cases hy)
    have e : l.take (i + 1) = l.take i ++ [l[i]] := List.take_succ_eq_append_getElem hil
    obtain ⟨r, b1, b2, b3⟩ := ih (i + 1) out' (by omega) (by rw [a2.length_eq, List.length_cons]; omega) a1 (by
      rw [e]
      exact a2.trans ((List.Perm.cons _ hp).trans (List.perm_append_singleton _ _).symm))
    refine ⟨r, Ev.step (fun q => ?_) (a3 r b1), b2, b3⟩
    simp only [spec_SortRecords.l0]
    rw [if_pos (by omega)]
theorem spec_SortRecords_eq (l : List S25) (hn : l.length ≤ 1048576) (hf : ∀ y ∈ l, fitR y) : ∃ r, Ev (fun k => spec_SortRecords.f k l) r ∧ SortedBy rlt r ∧ r.Perm l := by
  unfold spec_SortRecords.f
  exact sortS_loop l hn hf l.length 0 [] (by omega) rfl List.Pairwise.nil (by simp)
theorem ev_all {α β : Type} (F : α → Nat → Option β) (c : α → β) : ∀ (l : List α), (∀ x ∈ l, Ev (F x) (c x)) → ∃ k0, ∀ k, k0 ≤ k → ∀ x ∈ l, F x k = some (c x) := by
  intro l
  induction l with
  | nil => intro _; exact ⟨0, fun _ _ x hx => by cases hx⟩
  | cons a l ih =>
    intro h
    obtain ⟨k1, h1⟩ := ih (fun x hx => h x (List.mem_cons_of_mem _ hx))
    obtain ⟨k2, h2⟩ := h a (List.mem_cons_self ..)
    refine ⟨max k1 k2, fun k hk x hx => ?_⟩
    rcases List.mem_cons.1 hx with e | e
    · rw [e]
      exact h2 k (by omega)
    · exact h1 k (by omega) x e
def recC (x y : S25) : Int := orL [nameC x.f0 y.f0, intC x.f1 y.f1, intC x.f3 y.f3, nameC x.f4 y.f4, strC x.f5 y.f5, intC x.f2 y.f2]
theorem recC_lt (x y : S25) : Go.Proofs.ltOf recC x y = rlt x y := lessRec_or x.f0 x.f1 x.f2 x.f3 x.f4 x.f5 y.f0 y.f1 y.f2 y.f3 y.f4 y.f5
theorem rlt_swo : Go.Sort.SWO rlt where
  irrefl := rlt_ord.irrefl
  trans := rlt_ord.trans
  ntrans x y z h1 h2 := by
    classical
    exact OrdOf.le_trans rlt_ord z y x h2 h1
theorem impl_SortRecords_eq (l : List S25) (hn : l.length ≤ 1048576) (hf : ∀ y ∈ l, fitR y) : ∃ r, Ev (fun k => impl_SortRecords.f k l) r ∧ SortedBy rlt r ∧ r.Perm l := by
  classical
  have ee : Go.Proofs.ltOf recC = rlt := funext fun x => funext fun y => recC_lt x y
  obtain ⟨k0, hk0⟩ := ev_all (fun (p : S25 × S25) k => impl_byRecord.f k p.1.f0 p.1.f1 p.1.f2 p.1.f3 p.1.f4 p.1.f5 p.2.f0 p.2.f1 p.2.f2 p.2.f3 p.2.f4 p.2.f5) (fun p => recC p.1 p.2) (l.flatMap fun x => l.map fun y => (x, y)) (fun p hp => by
    obtain ⟨x, hx, hp⟩ := List.mem_flatMap.1 hp
    obtain ⟨y, hy, rfl⟩ := List.mem_map.1 hp
    have fx := hf x hx
    have fy := hf y hy
    exact impl_byRecord_eq x.f0 x.f1 x.f2 x.f3 x.f4 x.f5 y.f0 y.f1 y.f2 y.f3 y.f4 y.f5 fx.1 fx.2.1 fx.2.2 fy.1 fy.2.1 fy.2.2)
  have pr : ∀ k, k0 ≤ k → ∀ x, x ∈ l → ∀ y, y ∈ l → impl_byRecord.f k x.f0 x.f1 x.f2 x.f3 x.f4 x.f5 y.f0 y.f1 y.f2 y.f3 y.f4 y.f5 = some (recC x y) := fun k hk x hx y hy => hk0 k hk (x, y) (List.mem_flatMap.2 ⟨x, hx, List.mem_map.2 ⟨y, hy, rfl⟩⟩)
  obtain ⟨r, hr, cf, c1, c2, ⟨k1, c3⟩, c4, c5⟩ := slices_SortStableFunc_impl_Record.some_ (l := l) (r := l.mergeSort (fun x y => !Go.Proofs.ltOf recC y x)) (cf := recC) ⟨(by rw [ee]; exact rlt_swo), (by
    rw [ee]
    intro x y h1 h2
    by_cases e : x = y
    · exact e
    · rw [rlt_ord.total x y e h1] at h2
      exact absurd h2 (by simp)), ⟨k0, pr⟩, (by omega), rfl⟩
  have same : ∀ x, x ∈ l → ∀ y, y ∈ l → cf x y = recC x y := fun x hx y hy => by
    have a := c3 (max k0 k1) (by omega) x hx y hy
    rw [pr (max k0 k1) (by omega) x hx y hy] at a
    exact (Option.some.inj a).symm
  have hp : r.Perm l := by rw [c5]; exact List.mergeSort_perm _ _
  have hs : SortedBy rlt r := by
    have z : r.Pairwise (fun x y => (!Go.Proofs.ltOf cf y x) = true) := by
      rw [c5]
      refine List.pairwise_mergeSort ?_ ?_ _
      · intro a b c h1 h2
        simp only [Bool.not_eq_true'] at h1 h2 ⊢
        exact c1.ntrans c b a h2 h1
      · intro a b
        cases h : Go.Proofs.ltOf cf b a with
        | false => simp
        | true =>
          cases h' : Go.Proofs.ltOf cf a b with
          | false => simp
          | true =>
            have q := c1.trans a b a h' h
            rw [c1.irrefl] at q
            cases q
    refine List.Pairwise.imp_of_mem ?_ z
    intro a b ha hb h
    have e : Go.Proofs.ltOf cf b a = rlt b a := by
      rw [← recC_lt]
      show decide (cf b a < 0) = decide (recC b a < 0)
      rw [same b (hp.mem_iff.1 hb) a (hp.mem_iff.1 ha)]
    rw [← e]
    simpa using h
  have hc : slices_Clone_impl_Record.f l = some l := by
    unfold slices_Clone_impl_Record.f
    simp only [Option.bind_some, List.nil_append]
    rw [if_pos (by simp; omega)]
  refine ⟨r, ?_, hs, hp⟩
  unfold impl_SortRecords.f
  rw [hc]
  simp only [Option.bind_some, hr]
  exact Ev_some _
theorem SortRecords_eq (l : List S25) (hn : l.length ≤ 1048576) (hf : ∀ y ∈ l, fitR y) : ∃ r, Ev (fun k => spec_SortRecords.f k l) r ∧ Ev (fun k => impl_SortRecords.f k l) r ∧ SortedBy rlt r ∧ r.Perm l := by
  classical
  obtain ⟨r, a1, a2, a3⟩ := spec_SortRecords_eq l hn hf
  obtain ⟨s, b1, b2, b3⟩ := impl_SortRecords_eq l hn hf
  have e := sorted_unique rlt_ord r s (a3.trans b3.symm) a2 b2
  subst e
  exact ⟨r, a1, b1, a2, a3⟩

end Go.Proofs.YtdigilidomimdaaDoor.Lem
