/- Lemmas on the printed functions, of this session. -/
import Derived.Test.YtdigilidomimdaaDoorY
import Derived.Test.YtdigilidomimdaaDoorPrx0
import Derived.Test.YtdigilidomimdaaDoorPrx10
import Derived.Test.YtdigilidomimdaaDoorPrx11
import Derived.Test.YtdigilidomimdaaDoorPrx12
import Derived.Test.YtdigilidomimdaaDoorPrx13
import Derived.Test.YtdigilidomimdaaDoorPrx14
import Derived.Test.YtdigilidomimdaaDoorPrx15
import Derived.Test.YtdigilidomimdaaDoorPrx16
import Derived.Test.YtdigilidomimdaaDoorPrx2
import Derived.Test.YtdigilidomimdaaDoorPrx3
import Derived.Test.YtdigilidomimdaaDoorPrx4
import Derived.Test.YtdigilidomimdaaDoorPrx5
import Derived.Test.YtdigilidomimdaaDoorPrx6
import Derived.Test.YtdigilidomimdaaDoorPrx7
import Derived.Test.YtdigilidomimdaaDoorPrx8
import Derived.Test.YtdigilidomimdaaDoorPrx9
namespace Go.Proofs.YtdigilidomimdaaDoor.Lem
open Go.RowKit Go.Proofs.YtdigilidomimdaaDoor.Pr Go.Proofs.YtdigilidomimdaaDoor.X Go.Proofs.YtdigilidomimdaaDoor.Y Go.Proofs.YtdigilidomimdaaDoorW.PrintWords Go.Proofs.YtdigilidomimdaaDoorW.PrintLast Go.Proofs.YtdigilidomimdaaDoorW.PrintMore
set_option linter.unusedVariables false
set_option linter.unusedSimpArgs false
theorem rdS_getElem (l : List ByteArray) (i : Nat) (h : i < l.length) : rdOf ByteArray.empty l i = l[i] := by
  unfold rdOf
  rw [Int.toNat_natCast, List.getD_eq_getElem?_getD, List.getElem?_eq_getElem h, Option.getD_some]
/-- How many bytes a list of strings holds. -/
def szSs (l : List ByteArray) : Nat := (l.map ByteArray.size).sum
/-- Strings with a dot between them. -/
def joinS : List ByteArray → ByteArray
  | [] => (⟨#[]⟩ : ByteArray)
  | [x] => x
  | x :: y :: l => x ++ ((⟨#[46]⟩ : ByteArray) ++ joinS (y :: l))
theorem joinS_cons (x : ByteArray) (l : List ByteArray) (h : l ≠ []) : joinS (x :: l) = x ++ ((⟨#[46]⟩ : ByteArray) ++ joinS l) := by
  cases l with
  | nil => exact absurd rfl h
  | cons y l => rfl
theorem joinS_data : ∀ (l : List ByteArray), (joinS l).data.toList = Lib.join (l.map (·.data.toList)) [46]
  | [] => rfl
  | [x] => by simp [joinS, Lib.join, List.intercalate]
  | x :: y :: l => by
    have ih := joinS_data (y :: l)
    rw [joinS, ByteArray.data_append, ByteArray.data_append, Array.toList_append, Array.toList_append, ih]
    simp [Lib.join, List.intercalate]
theorem joinS_size : ∀ (l : List ByteArray), (joinS l).size ≤ szSs l + l.length
  | [] => Nat.zero_le _
  | [x] => by simp [joinS, szSs]
  | x :: y :: l => by
    have ih := joinS_size (y :: l)
    rw [joinS, ByteArray.size_append, ByteArray.size_append]
    have e : (⟨#[46]⟩ : ByteArray).size = 1 := rfl
    have e2 : szSs (x :: y :: l) = x.size + szSs (y :: l) := by simp [szSs]
    rw [e, e2, List.length_cons]
    omega
theorem impl_JoinLabels_eq (l : List ByteArray) (h : szSs l + l.length ≤ 140737488355328) : impl_JoinLabels.f l = some (joinS l) := by
  have hs := joinS_size l
  have hd := joinS_data l
  unfold impl_JoinLabels.f strings_Join.f
  have e : (⟨#[46]⟩ : ByteArray).data.toList = [46] := rfl
  rw [e, ← hd, if_pos ⟨by rw [data_length]; omega, by omega⟩]
  simp
theorem empty_append (s : ByteArray) : (⟨#[]⟩ : ByteArray) ++ s = s := by
  apply ByteArray.ext
  rw [ByteArray.data_append]
  simp
theorem szSs_drop (l : List ByteArray) (i : Nat) (h : i < l.length) : szSs (l.drop i) = l[i].size + szSs (l.drop (i + 1)) := by
  unfold szSs
  rw [List.drop_eq_getElem_cons h, List.map_cons, List.sum_cons]
theorem spec_JoinLabels_loop (l : List ByteArray) (hn : l.length ≤ 140737488355328) : ∀ (d i : Nat) (s : ByteArray), i + d = l.length → (0 < i ∨ s = (⟨#[]⟩ : ByteArray)) → s.size + szSs (l.drop i) + d ≤ 281474976710656 →
    Ev (fun k => spec_JoinLabels.l0 k l s (i : Int)) (if i = 0 then joinS l else if l.drop i = [] then s else s ++ ((⟨#[46]⟩ : ByteArray) ++ joinS (l.drop i))) := by
  intro d
  induction d with
  | zero =>
    intro i s hi hs hsz
    refine Ev.step (f := fun _ => some s) (fun k => ?_) ⟨0, fun _ _ => ?_⟩
    · simp only [spec_JoinLabels.l0]
      rw [if_neg (by omega)]
    · rw [List.drop_of_length_le (by omega), if_pos rfl]
      by_cases z : i = 0
      · subst z
        have hl : l = [] := List.eq_nil_of_length_eq_zero (by omega)
        subst hl
        rcases hs with h | h
        · exact absurd h (Nat.lt_irrefl _)
        · rw [if_pos rfl, h]
          rfl
      · rw [if_neg z]
  | succ d ih =>
    intro i s hi hs hsz
    have hil : i < l.length := by omega
    have hw := wrap_succ i l.length hil hn
    have hd : l.drop i = l[i] :: l.drop (i + 1) := List.drop_eq_getElem_cons hil
    have hdz := szSs_drop l i hil
    have e1 : (⟨#[46]⟩ : ByteArray).size = 1 := rfl
    by_cases z : i = 0
    · subst z
      have hs' : s = (⟨#[]⟩ : ByteArray) := hs.resolve_left (Nat.lt_irrefl _)
      subst hs'
      have e0 : (⟨#[]⟩ : ByteArray).size = 0 := rfl
      simp only [Nat.zero_add] at hdz
      have := ih 1 l[0] (by omega) (.inl (by decide)) (by omega)
      rw [if_neg (by decide)] at this
      rw [if_pos rfl]
      have hj : joinS l = if l.drop 1 = [] then l[0] else l[0] ++ ((⟨#[46]⟩ : ByteArray) ++ joinS (l.drop 1)) := by
        clear this ih hdz hd hsz hi hw
        cases l with
        | nil => exact absurd hil (by simp)
        | cons x rest =>
          show joinS (x :: rest) = if rest = [] then x else x ++ ((⟨#[46]⟩ : ByteArray) ++ joinS rest)
          by_cases q : rest = []
          · rw [if_pos q, q]
            rfl
          · rw [if_neg q]
            exact joinS_cons _ _ q
      rw [hj]
      refine Ev.step (f := fun k => spec_JoinLabels.l0 k l l[0] ((1 : Nat) : Int)) (fun k => ?_) this
      simp only [spec_JoinLabels.l0]
      rw [if_pos (by omega), if_neg (by omega), if_pos (by omega)]
      have er := rdS_getElem l 0 hil
      rw [er, if_pos (by omega), empty_append, hw]
    · rw [if_neg z, hd, if_neg (List.cons_ne_nil _ _)]
      have hsz2 : ((s ++ (⟨#[46]⟩ : ByteArray)) ++ l[i]).size = s.size + 1 + l[i].size := by rw [ByteArray.size_append, ByteArray.size_append, e1]
      have := ih (i + 1) ((s ++ (⟨#[46]⟩ : ByteArray)) ++ l[i]) (by omega) (.inl (by omega)) (by omega)
      rw [if_neg (by omega)] at this
      have hj : (if l.drop (i + 1) = [] then (s ++ (⟨#[46]⟩ : ByteArray)) ++ l[i] else ((s ++ (⟨#[46]⟩ : ByteArray)) ++ l[i]) ++ ((⟨#[46]⟩ : ByteArray) ++ joinS (l.drop (i + 1)))) = s ++ ((⟨#[46]⟩ : ByteArray) ++ joinS (l[i] :: l.drop (i + 1))) := by
        by_cases q : l.drop (i + 1) = []
        · rw [if_pos q, q, ByteArray.append_assoc]
          rfl
        · rw [if_neg q, joinS_cons _ _ q, @ByteArray.append_assoc (s ++ (⟨#[46]⟩ : ByteArray)), @ByteArray.append_assoc s]
      rw [hj] at this
      refine Ev.step (f := fun k => spec_JoinLabels.l0 k l ((s ++ (⟨#[46]⟩ : ByteArray)) ++ l[i]) ((i + 1 : Nat) : Int)) (fun k => ?_) this
      simp only [spec_JoinLabels.l0]
      rw [if_pos (by omega), if_pos (by omega), if_pos (by omega), if_pos (by omega), rdS_getElem l i hil, if_pos (by rw [ByteArray.size_append, e1]; omega), hw]
theorem spec_JoinLabels_eq (l : List ByteArray) (h : szSs l + l.length ≤ 140737488355328) : Ev (fun k => spec_JoinLabels.f k l) (joinS l) := by
  have := spec_JoinLabels_loop l (by omega) l.length 0 (⟨#[]⟩ : ByteArray) (by omega) (.inr rfl) (by rw [List.drop_zero, show (⟨#[]⟩ : ByteArray).size = 0 from rfl]; omega)
  rw [if_pos rfl] at this
  unfold spec_JoinLabels.f
  simpa using this
/-- What stands between the dots of a list of bytes; 'acc' stands ahead of it. -/
def cutA : List UInt8 → List UInt8 → List (List UInt8)
  | acc, [] => [acc]
  | acc, c :: t => if c = 46 then acc :: cutA [] t else cutA (acc ++ [c]) t
def mkB (l : List UInt8) : ByteArray := ⟨l.toArray⟩
theorem mkB_data (s : ByteArray) : mkB s.data.toList = s := rfl
/-- The labels of a name. -/
def labelsL (s : ByteArray) : List ByteArray := if s.data.toList = [] then [] else (cutA [] s.data.toList).map mkB
theorem cutA_acc : ∀ (t acc : List UInt8), cutA acc t = match cutA [] t with | [] => [] | x :: r => (acc ++ x) :: r
  | [], acc => by simp [cutA]
  | c :: t, acc => by
    by_cases h : c = 46
    · simp [cutA, h]
    · have e1 := cutA_acc t (acc ++ [c])
      have e2 := cutA_acc t ([] ++ [c])
      simp only [cutA, if_neg h]
      rw [e1, e2]
      cases cutA [] t with
      | nil => rfl
      | cons x r => simp [List.append_assoc]
theorem split_cut : ∀ (l : List UInt8), Lib.splitK [46] 0 (l.count 46) l = cutA [] l
  | [] => rfl
  | c :: t => by
    have ih := split_cut t
    by_cases h : c = 46
    · subst h
      rw [List.count_cons_self]
      simp only [Lib.splitK, cutA, if_true]
      rw [Lib.index_one]
      simp only [Lib.indexByte]
      simp [ih]
    · rw [List.count_cons_of_ne (by simpa using h)]
      have e2 := cutA_acc t ([] ++ [c])
      simp only [cutA, if_neg h]
      rw [e2, ← ih]
      have hb : (c == 46) = false := by simpa using h
      cases hk : t.count 46 with
      | zero => simp [Lib.splitK]
      | succ k =>
        simp only [Lib.splitK]
        rw [Lib.index_one, Lib.index_one]
        simp only [Lib.indexByte, hb]
        have hge := Lib.indexByte_ge t 46
        by_cases hi : Lib.indexByte t 46 = -1
        · simp [hi]
        · have h1 : (Lib.indexByte t 46 == -1) = false := by simpa using hi
          have h2 : (Lib.indexByte t 46 + 1 == -1) = false := by simp; omega
          have h3 : (Lib.indexByte t 46 + 1).toNat = (Lib.indexByte t 46).toNat + 1 := by omega
          simp only [h1, h2, h3, Bool.false_eq_true, if_false]
          simp [List.take_succ_cons, Nat.add_right_comm]
theorem impl_Labels_eq (s : ByteArray) (hs : s.size < 4294967281) : impl_Labels.f s = some (labelsL s) := by
  unfold impl_Labels.f labelsL
  rw [ByteArray.toList_eq]
  by_cases h : s.data.toList = []
  · rw [if_pos h, if_pos h]
  · rw [if_neg h, if_neg h]
    have e : strings_Split.f s (⟨#[46]⟩ : ByteArray) = some (Lib.splitB ⟨#[46]⟩ 0 (Lib.countB s ⟨#[46]⟩) s) := by
      unfold strings_Split.f
      exact if_pos ⟨rfl, hs⟩
    rw [e]
    simp only [Option.bind_some]
    congr 1
    have d := Lib.splitB_data ⟨#[46]⟩ 0 (Lib.countB s ⟨#[46]⟩) s
    have k : Lib.countB s ⟨#[46]⟩ = s.data.toList.count 46 := Lib.count_one 46 s.data.toList
    rw [k] at d ⊢
    have d2 : (Lib.splitB ⟨#[46]⟩ 0 (s.data.toList.count 46) s).map (·.data.toList) = cutA [] s.data.toList := d.trans (split_cut _)
    rw [← d2, List.map_map]
    exact (List.map_id'' (fun x => mkB_data x) _).symm
theorem extract_mkB (s : ByteArray) (f i : Nat) : s.extract f i = mkB ((s.data.toList.take i).drop f) := by
  have h : (s.extract f i).data.toList = (s.data.toList.take i).drop f := by
    rw [ByteArray.data_extract, Array.toList_extract, List.extract_eq_take_drop, List.drop_take]
  rw [← mkB_data (s.extract f i), h]
theorem bt_data (s : ByteArray) (i : Nat) (h : i < s.data.toList.length) : (bt s (i : Int) = 46) ↔ s.data.toList[i] = 46 := by
  have h' : (i : Int).toNat < s.size := by simpa using h
  have e := bt_at s (i : Int) h'
  have e2 : s[(i : Int).toNat]'h' = s.data.toList[i] := by
    rw [Array.getElem_toList]
    rfl
  rw [← e, e2, ← UInt8.toNat_inj]
  have t : UInt8.toNat 46 = 46 := rfl
  generalize s.data.toList[i].toNat = z
  generalize UInt8.toNat 46 = z' at t ⊢
  omega
theorem size_data (s : ByteArray) : s.size = s.data.toList.length := rfl
theorem spec_Labels_loop (s : ByteArray) (hn : s.size ≤ 1048576) (hne : s.toList ≠ []) : ∀ (d i f : Nat) (out : List ByteArray), i + d = s.size → f ≤ i → out.length ≤ i →
    Ev (fun k => spec_Labels.l0 k s out (f : Int) (i : Int)) (out ++ (cutA ((s.data.toList.take i).drop f) (s.data.toList.drop i)).map mkB) := by
  have hz := size_data s
  have hb : (s.toList != ([] : List UInt8)) = true := bne_iff_ne.2 hne
  intro d
  induction d with
  | zero =>
    intro i f out hi hf ho
    have w : wrap64 ((i : Int) + 1) = ((i + 1 : Nat) : Int) := wrap_succ i 1048577 (by omega) (by omega)
    have hx : s.extract f i = mkB ((s.data.toList.take i).drop f) := extract_mkB s f i
    refine Ev.step (f := fun k => spec_Labels.j1 k s out (f : Int) (i : Int) true) (fun k => ?_) ?_
    · simp only [spec_Labels.l0]
      rw [if_pos (by omega), hb]
    refine Ev.step (f := fun k => spec_Labels.l0 k s (out ++ [mkB ((s.data.toList.take i).drop f)]) ((i + 1 : Nat) : Int) ((i + 1 : Nat) : Int)) (fun k => ?_) ?_
    · simp only [spec_Labels.j1, if_true]
      rw [if_pos (by omega), if_pos (by omega), if_pos (by omega), if_pos (by omega), if_pos (by omega), w, Int.toNat_natCast, Int.toNat_natCast, hx]
    refine Ev.step (f := fun k => spec_Labels.j1 k s (out ++ [mkB ((s.data.toList.take i).drop f)]) ((i + 1 : Nat) : Int) ((i + 1 : Nat) : Int) false) (fun k => ?_) ?_
    · simp only [spec_Labels.l0]
      rw [if_neg (by omega)]
    refine Ev.step (f := fun _ => some (out ++ [mkB ((s.data.toList.take i).drop f)])) (fun k => ?_) ⟨0, fun _ _ => ?_⟩
    · simp only [spec_Labels.j1]
      rw [if_neg (by decide)]
    · rw [show s.data.toList.drop i = [] from List.drop_of_length_le (by omega)]
      rfl
  | succ d ih =>
    intro i f out hi hf ho
    have hil : i < s.data.toList.length := by omega
    have w : wrap64 ((i : Int) + 1) = ((i + 1 : Nat) : Int) := wrap_succ i 1048577 (by omega) (by omega)
    have hx : s.extract f i = mkB ((s.data.toList.take i).drop f) := extract_mkB s f i
    rw [List.drop_eq_getElem_cons hil]
    refine Ev.step (f := fun k => spec_Labels.j1 k s out (f : Int) (i : Int) true) (fun k => ?_) ?_
    · simp only [spec_Labels.l0]
      rw [if_pos (by omega), hb]
    by_cases c : s.data.toList[i] = 46
    · have cb := (bt_data s i hil).2 c
      have := ih (i + 1) (i + 1) (out ++ [mkB ((s.data.toList.take i).drop f)]) (by omega) (by omega) (by simp; omega)
      have e0 : (s.data.toList.take (i + 1)).drop (i + 1) = [] := List.drop_of_length_le (by rw [List.length_take]; omega)
      rw [e0] at this
      refine Ev.step (f := fun k => spec_Labels.l0 k s (out ++ [mkB ((s.data.toList.take i).drop f)]) ((i + 1 : Nat) : Int) ((i + 1 : Nat) : Int)) (fun k => ?_) ?_
      · simp only [spec_Labels.j1, if_true]
        rw [if_neg (by omega), if_pos (by omega), if_pos (by omega), if_pos cb, if_pos (by omega), if_pos (by omega), if_pos (by omega), if_pos (by omega), w, Int.toNat_natCast, Int.toNat_natCast, hx]
      · simp only [cutA, if_pos c, List.map_cons]
        rw [List.append_assoc] at this
        exact this
    · have cb : ¬ bt s (i : Int) = 46 := fun e => c ((bt_data s i hil).1 e)
      have := ih (i + 1) f out (by omega) (by omega) (by omega)
      have e0 : (s.data.toList.take (i + 1)).drop f = (s.data.toList.take i).drop f ++ [s.data.toList[i]] := by
        rw [← List.take_append_getElem hil, List.drop_append_of_le_length (by rw [List.length_take]; omega)]
      rw [e0] at this
      refine Ev.step (f := fun k => spec_Labels.l0 k s out (f : Int) ((i + 1 : Nat) : Int)) (fun k => ?_) ?_
      · simp only [spec_Labels.j1, if_true]
        rw [if_neg (by omega), if_pos (by omega), if_pos (by omega), if_neg cb, w]
      · simp only [cutA, if_neg c]
        exact this
theorem spec_Labels_eq (s : ByteArray) (hn : s.size ≤ 1048576) : Ev (fun k => spec_Labels.f k s) (labelsL s) := by
  unfold spec_Labels.f labelsL
  by_cases h : s.data.toList = []
  · rw [if_pos h]
    have hb : (s.toList != ([] : List UInt8)) = false := by rw [ByteArray.toList_eq, h]; rfl
    refine Ev.step (f := fun k => spec_Labels.j1 k s [] 0 0 false) (fun k => ?_) ?_
    · simp only [spec_Labels.l0]
      rw [if_pos (by omega), hb]
    refine Ev.step (f := fun _ => some []) (fun k => ?_) ⟨0, fun _ _ => rfl⟩
    simp only [spec_Labels.j1]
    rw [if_neg (by decide)]
  · rw [if_neg h]
    have := spec_Labels_loop s hn (by rw [ByteArray.toList_eq]; exact h) s.size 0 0 [] (by omega) (by omega) (by simp)
    simpa using this
theorem cutA_length : ∀ (t acc : List UInt8), (cutA acc t).length ≤ t.length + 1
  | [], _ => Nat.le_refl _
  | c :: t, acc => by
    unfold cutA
    split
    · have := cutA_length t []
      simp only [List.length_cons]
      omega
    · have := cutA_length t (acc ++ [c])
      simp only [List.length_cons]
      omega
theorem labelsL_length (s : ByteArray) : (labelsL s).length ≤ s.size + 1 := by
  unfold labelsL
  split
  · simp
  · rw [List.length_map, size_data]
    exact cutA_length _ _
theorem mkB_append (a b : List UInt8) : mkB a ++ mkB b = mkB (a ++ b) := by
  apply ByteArray.ext
  rw [ByteArray.data_append]
  simp [mkB]
theorem cutA_ne : ∀ (t acc : List UInt8), cutA acc t ≠ []
  | [], acc => by simp [cutA]
  | c :: t, acc => by
    unfold cutA
    split
    · simp
    · exact cutA_ne t _
theorem join_cutA : ∀ (t acc : List UInt8), joinS ((cutA acc t).map mkB) = mkB (acc ++ t)
  | [], acc => by simp [cutA, joinS]
  | c :: t, acc => by
    by_cases h : c = 46
    · subst h
      simp only [cutA, if_true, List.map_cons]
      rw [joinS_cons _ _ (by simpa using cutA_ne t []), join_cutA t []]
      have e : (⟨#[46]⟩ : ByteArray) = mkB [46] := rfl
      rw [e, mkB_append, mkB_append]
      rfl
    · simp only [cutA, if_neg h]
      rw [join_cutA t (acc ++ [c])]
      simp
theorem join_labels (s : ByteArray) : joinS (labelsL s) = s := by
  unfold labelsL
  by_cases h : s.data.toList = []
  · rw [if_pos h]
    have e : mkB s.data.toList = s := mkB_data s
    rw [h] at e
    exact e
  · rw [if_neg h, join_cutA]
    exact mkB_data s
theorem szSs_cons (x : ByteArray) (l : List ByteArray) : szSs (x :: l) = x.size + szSs l := by
  unfold szSs
  rw [List.map_cons, List.sum_cons]
theorem szSs_nil : szSs [] = 0 := rfl
theorem cutA_size : ∀ (t acc : List UInt8), szSs ((cutA acc t).map mkB) ≤ acc.length + t.length
  | [], acc => by
    have e : (mkB acc).size = acc.length := rfl
    simp only [cutA, List.map_cons, List.map_nil, szSs_cons, szSs_nil, e, List.length_nil]
    omega
  | c :: t, acc => by
    unfold cutA
    split
    · have := cutA_size t []
      have e : (mkB acc).size = acc.length := rfl
      simp only [List.length_nil] at this
      simp only [List.map_cons, szSs_cons, e, List.length_cons]
      omega
    · have := cutA_size t (acc ++ [c])
      simp only [List.length_append, List.length_cons, List.length_nil] at this ⊢
      omega
theorem labelsL_size (s : ByteArray) : szSs (labelsL s) ≤ s.size := by
  unfold labelsL
  split
  · rw [szSs_nil]
    omega
  · have := cutA_size s.data.toList []
    rw [size_data]
    simpa using this
theorem szSs_drop_le : ∀ (l : List ByteArray) (i : Nat), szSs (l.drop i) ≤ szSs l
  | [], i => by simp
  | x :: l, 0 => Nat.le_refl _
  | x :: l, i + 1 => by
    have := szSs_drop_le l i
    simp only [List.drop_succ_cons, szSs_cons]
    omega
/-- A name and all above it, given its labels. -/
def aboveL : List ByteArray → List ByteArray
  | [] => [(⟨#[]⟩ : ByteArray)]
  | x :: l => joinS (x :: l) :: aboveL l
theorem aboveL_length : ∀ l : List ByteArray, (aboveL l).length = l.length + 1
  | [] => rfl
  | x :: l => by rw [aboveL, List.length_cons, aboveL_length l, List.length_cons]
theorem aboveL_drop (ls : List ByteArray) (i : Nat) (h : i < ls.length) : aboveL (ls.drop i) = joinS (ls.drop i) :: aboveL (ls.drop (i + 1)) := by
  rw [List.drop_eq_getElem_cons h, aboveL]
theorem spec_Above_loop (ls : List ByteArray) (hn : ls.length ≤ 1048577) (hz : szSs ls ≤ 1048576) : ∀ (d i : Nat) (acc : List ByteArray), i + d = ls.length → acc.length ≤ i + 1 →
    Ev (fun k => spec_Above.l0 k acc ls (i : Int)) (acc ++ aboveL (ls.drop i)) := by
  intro d
  induction d with
  | zero =>
    intro i acc hi ha
    have w := wrap_succ i (i + 1) (by omega) (by omega)
    have e : ls.drop i = [] := List.drop_of_length_le (by omega)
    rw [e]
    refine Ev.step (f := fun k => (spec_JoinLabels.f k (ls.drop i)).bind fun t => spec_Above.l0 k (acc ++ [t]) ls ((i + 1 : Nat) : Int)) (fun k => ?_) (Ev.bind (spec_JoinLabels_eq _ (by rw [e]; simp [szSs])) ?_)
    · simp only [spec_Above.l0]
      rw [if_pos (by omega), if_pos (by omega), w, Int.toNat_natCast]
      congr 1
      funext t
      rw [if_pos (by omega)]
    · rw [e]
      refine Ev.step (f := fun _ => some (acc ++ [joinS []])) (fun k => ?_) ⟨0, fun _ _ => rfl⟩
      simp only [spec_Above.l0]
      rw [if_neg (by omega)]
  | succ d ih =>
    intro i acc hi ha
    have w := wrap_succ i (i + 1) (by omega) (by omega)
    have hz' := szSs_drop_le ls i
    rw [aboveL_drop ls i (by omega)]
    refine Ev.step (f := fun k => (spec_JoinLabels.f k (ls.drop i)).bind fun t => spec_Above.l0 k (acc ++ [t]) ls ((i + 1 : Nat) : Int)) (fun k => ?_) (Ev.bind (spec_JoinLabels_eq _ (by rw [List.length_drop]; omega)) ?_)
    · simp only [spec_Above.l0]
      rw [if_pos (by omega), if_pos (by omega), w, Int.toNat_natCast]
      congr 1
      funext t
      rw [if_pos (by omega)]
    · have := ih (i + 1) (acc ++ [joinS (ls.drop i)]) (by omega) (by rw [List.length_append]; simp; omega)
      simpa using this
theorem impl_Above_loop (ls : List ByteArray) (hn : ls.length ≤ 1048577) (hz : szSs ls ≤ 1048576) : ∀ (d i : Nat) (acc : List ByteArray), i + d = ls.length → acc.length ≤ i →
    Ev (fun k => impl_Above.l0 k acc ls (ls.length : Int) (i : Int)) (acc ++ aboveL (ls.drop i)) := by
  intro d
  induction d with
  | zero =>
    intro i acc hi ha
    rw [show ls.drop i = [] from List.drop_of_length_le (by omega)]
    refine Ev.step (f := fun _ => some (acc ++ [(⟨#[]⟩ : ByteArray)])) (fun k => ?_) ⟨0, fun _ _ => rfl⟩
    simp only [impl_Above.l0]
    rw [if_neg (by omega), if_pos (by omega)]
  | succ d ih =>
    intro i acc hi ha
    have w := wrap_succ i (i + 1) (by omega) (by omega)
    have hz' := szSs_drop_le ls i
    rw [aboveL_drop ls i (by omega)]
    refine Ev.step (f := fun k => impl_Above.l0 k (acc ++ [joinS (ls.drop i)]) ls (ls.length : Int) ((i + 1 : Nat) : Int)) (fun k => ?_) ?_
    · simp only [impl_Above.l0]
      rw [if_pos (by omega), if_pos (by omega), if_pos (by omega), w, Int.toNat_natCast, impl_JoinLabels_eq _ (by rw [List.length_drop]; omega), Option.bind_some, if_pos (by omega)]
    · have := ih (i + 1) (acc ++ [joinS (ls.drop i)]) (by omega) (by rw [List.length_append]; simp; omega)
      simpa using this
/-- What Above returns. -/
def above (s : ByteArray) : List ByteArray := aboveL (labelsL s)
theorem spec_Above_eq (s : ByteArray) (hs : s.size ≤ 1048576) : Ev (fun k => spec_Above.f k s) (above s) := by
  have h1 := labelsL_length s
  have h2 := labelsL_size s
  unfold spec_Above.f above
  refine Ev.bind (spec_Labels_eq s hs) ?_
  cases hl : labelsL s with
  | nil =>
    have e := join_labels s
    rw [hl] at e
    refine Ev.step (f := fun _ => some [s]) (fun k => ?_) ⟨0, fun _ _ => by rw [← e]; rfl⟩
    simp only [spec_Above.l0]
    rw [if_neg (by simp)]
  | cons x l =>
    have e := join_labels s
    rw [hl] at e h1 h2
    have := spec_Above_loop (x :: l) (by omega) (by omega) l.length 1 [s] (by simp; omega) (by simp)
    rw [aboveL]
    rw [e]
    simpa using this
theorem impl_Above_eq (s : ByteArray) (hs : s.size ≤ 1048576) : Ev (fun k => impl_Above.f k s) (above s) := by
  have h1 := labelsL_length s
  have h2 := labelsL_size s
  unfold impl_Above.f above
  rw [impl_Labels_eq s (by omega)]
  simp only [Option.bind_some]
  have := impl_Above_loop (labelsL s) (by omega) (by omega) (labelsL s).length 0 [] (by omega) (by simp)
  simpa using this
theorem Ev_if {α : Type} {c : Prop} [Decidable c] {f g : Nat → Option α} {x : α} (h : c) (h1 : Ev f x) : Ev (fun k => if c then f k else g k) x := by
  simp only [if_pos h]
  exact h1
theorem Ev_ifn {α : Type} {c : Prop} [Decidable c] {f g : Nat → Option α} {x : α} (h : ¬ c) (h1 : Ev g x) : Ev (fun k => if c then f k else g k) x := by
  simp only [if_neg h]
  exact h1
/-- A byte of a label. -/
def okB (c : Int) : Bool := (decide (97 ≤ c) && decide (c ≤ 122)) || (decide (48 ≤ c) && decide (c ≤ 57)) || decide (c = 45) || decide (c = 95)
/-- A label: what LabelOk answers. -/
def labelOk (s : ByteArray) : Bool := (bytesOf s).all okB && (decide (1 ≤ s.size) && decide (s.size ≤ 12))
theorem l1In_dec (a b c : Int) : spec_l1In.f a b c = some (decide (b ≤ a) && decide (a ≤ c)) := by
  unfold spec_l1In.f
  by_cases h : a ≥ b
  · rw [if_pos h]
    have h' : b ≤ a := h
    simp [h']
  · rw [if_neg h]
    have h' : ¬ b ≤ a := h
    simp [h']
theorem l2Byte_eq (c : Int) (h0 : 0 ≤ c) (h1 : c ≤ 255) : spec_l2Byte.f c = some (okB c) := by
  unfold spec_l2Byte.f okB
  rw [wrap_id (x := c) (by omega) (by omega), l1In_dec, l1In_dec]
  simp only [Option.bind_some]
  by_cases a : (decide (97 ≤ c) && decide (c ≤ 122)) = true
  · simp [a]
  · by_cases b : (decide (48 ≤ c) && decide (c ≤ 57)) = true
    · simp [a, b]
    · by_cases d : c = 45
      · simp [a, b, d]
      · simp only [Bool.not_eq_true] at a b
        have e : (c == 95) = decide (c = 95) := by by_cases z : c = 95 <;> simp [z]
        simp [a, b, d, e]
theorem drop_bytesOf (s : ByteArray) (i : Nat) (h : i < s.size) : (bytesOf s).drop i = bt s i :: (bytesOf s).drop (i + 1) := by
  rw [rd_drop _ i (by rw [bytesOf_length]; exact h), rd_bytesOf]
theorem spec_LabelOk_loop (s : ByteArray) (hn : s.size ≤ 140737488355328) : ∀ (d i : Nat), i + d = s.size →
    Ev (fun k => spec_LabelOk.l0 k s (i : Int)) (((bytesOf s).drop i).all okB && (decide (1 ≤ s.size) && decide (s.size ≤ 12))) := by
  intro d
  induction d with
  | zero =>
    intro i hi
    refine Ev.step (f := fun _ => some (decide (1 ≤ s.size) && decide (s.size ≤ 12))) (fun k => ?_) ⟨0, fun _ _ => by rw [List.drop_of_length_le (by rw [bytesOf_length]; omega)]; rfl⟩
    simp only [spec_LabelOk.l0]
    rw [if_neg (by omega), l1In_dec]
    have e1 : decide ((1 : Int) ≤ (s.size : Int)) = decide (1 ≤ s.size) := decide_eq_decide.2 (by omega)
    have e2 : decide ((s.size : Int) ≤ 12) = decide (s.size ≤ 12) := decide_eq_decide.2 (by omega)
    rw [e1, e2]
    rfl
  | succ d ih =>
    intro i hi
    have hb := bt_range s i
    have hw := wrap_succ i s.size (by omega) hn
    rw [drop_bytesOf s i (by omega), List.all_cons]
    cases h : okB (bt s i) with
    | true =>
      rw [Bool.true_and]
      refine Ev.step (f := fun k => spec_LabelOk.l0 k s ((i + 1 : Nat) : Int)) (fun k => ?_) (ih (i + 1) (by omega))
      simp only [spec_LabelOk.l0]
      rw [if_pos (by omega), if_pos (by omega), l2Byte_eq _ hb.1 hb.2, h, hw]
      rfl
    | false =>
      refine Ev.step (f := fun _ => some false) (fun k => ?_) ⟨0, fun _ _ => rfl⟩
      simp only [spec_LabelOk.l0]
      rw [if_pos (by omega), if_pos (by omega), l2Byte_eq _ hb.1 hb.2, h]
      rfl
theorem impl_LabelOk_body (c : Int) (x : Option Bool) :
    (if c < 97 then (if c < 48 then (if c = 45 then x else (if c = 95 then x else (some false))) else (if c > 57 then (if c = 45 then x else (if c = 95 then x else (some false))) else x))
      else (if c > 122 then (if c < 48 then (if c = 45 then x else (if c = 95 then x else (some false))) else (if c > 57 then (if c = 45 then x else (if c = 95 then x else (some false))) else x)) else x)) = if okB c = true then x else some false := by
  have hk : okB c = true ↔ (97 ≤ c ∧ c ≤ 122) ∨ (48 ≤ c ∧ c ≤ 57) ∨ c = 45 ∨ c = 95 := by simp [okB, or_assoc]
  by_cases h : okB c = true
  · have h' := hk.1 h
    rw [show (if okB c = true then x else some false) = x from if_pos h]
    repeat' split
    all_goals first | rfl | (exfalso; omega)
  · have h' : ¬ ((97 ≤ c ∧ c ≤ 122) ∨ (48 ≤ c ∧ c ≤ 57) ∨ c = 45 ∨ c = 95) := fun z => h (hk.2 z)
    rw [show (if okB c = true then x else some false) = some false from if_neg h]
    repeat' split
    all_goals first | rfl | (exfalso; omega)
theorem impl_LabelOk_loop (s : ByteArray) (hn : s.size ≤ 140737488355328) : ∀ (d i : Nat), i + d = s.size →
    Ev (fun k => impl_LabelOk.l0 k s (s.size : Int) (i : Int)) (((bytesOf s).drop i).all okB && (decide (1 ≤ s.size) && decide (s.size ≤ 12))) := by
  intro d
  induction d with
  | zero =>
    intro i hi
    refine Ev.step (f := fun _ => some (decide (1 ≤ s.size) && decide (s.size ≤ 12))) (fun k => ?_) ⟨0, fun _ _ => by rw [List.drop_of_length_le (by rw [bytesOf_length]; omega)]; rfl⟩
    simp only [impl_LabelOk.l0]
    rw [if_neg (by omega)]
    have e2 : decide ((s.size : Int) ≤ 12) = decide (s.size ≤ 12) := decide_eq_decide.2 (by omega)
    by_cases h : (s.size : Int) ≥ 1
    · rw [if_pos h, e2, decide_eq_true (show 1 ≤ s.size by omega), Bool.true_and]
    · rw [if_neg h, decide_eq_false (show ¬ 1 ≤ s.size by omega), Bool.false_and]
  | succ d ih =>
    intro i hi
    have hw := wrap_succ i s.size (by omega) hn
    rw [drop_bytesOf s i (by omega), List.all_cons]
    refine Ev.step (f := fun k => if okB (bt s i) = true then impl_LabelOk.l0 k s (s.size : Int) ((i + 1 : Nat) : Int) else some false) (fun k => ?_) ?_
    · simp only [impl_LabelOk.l0]
      rw [if_pos (by omega), if_pos (by omega), if_pos (by omega), hw]
      exact impl_LabelOk_body _ _
    · cases h : okB (bt s i) with
      | true =>
        have := ih (i + 1) (by omega)
        simpa using this
      | false => exact ⟨0, fun _ _ => by simp⟩
theorem spec_LabelOk_eq (s : ByteArray) (hn : s.size ≤ 140737488355328) : Ev (fun k => spec_LabelOk.f k s) (labelOk s) := by
  have := spec_LabelOk_loop s hn s.size 0 (by omega)
  unfold spec_LabelOk.f labelOk
  simpa using this
theorem impl_LabelOk_eq (s : ByteArray) (hn : s.size ≤ 140737488355328) : Ev (fun k => impl_LabelOk.f k s) (labelOk s) := by
  have := impl_LabelOk_loop s hn s.size 0 (by omega)
  unfold impl_LabelOk.f labelOk
  simpa using this
theorem szSs_mem : ∀ (l : List ByteArray) (x : ByteArray), x ∈ l → x.size ≤ szSs l
  | [], x, h => by cases h
  | y :: l, x, h => by
    rw [szSs_cons]
    rcases List.mem_cons.1 h with e | h
    · subst e
      omega
    · have := szSs_mem l x h
      omega
theorem labels_mem_size (s x : ByteArray) (h : x ∈ labelsL s) : x.size ≤ s.size := Nat.le_trans (szSs_mem _ x h) (labelsL_size s)
/-- What NameOk answers. -/
def nameOk (s : ByteArray) : Bool := (labelsL s).all labelOk && (decide (s.size ≤ 50) && decide ((labelsL s).length ≤ 6))
theorem spec_NameOk_loop (s : ByteArray) (l : List ByteArray) (hn : l.length ≤ 140737488351232) (hz : ∀ x ∈ l, x.size ≤ 1048576) : ∀ (d i : Nat), i + d = l.length →
    Ev (fun k => spec_NameOk.l0 k s l (i : Int)) ((l.drop i).all labelOk && (decide (s.size ≤ 50) && decide (l.length ≤ 6))) := by
  intro d
  induction d with
  | zero =>
    intro i hi
    rw [show l.drop i = [] from List.drop_of_length_le (by omega)]
    refine Ev.step (f := fun _ => some (decide (s.size ≤ 50) && decide (l.length ≤ 6))) (fun k => ?_) ⟨0, fun _ _ => rfl⟩
    simp only [spec_NameOk.l0]
    rw [if_neg (by omega)]
    by_cases c : s.size ≤ 50
    · rw [if_pos (by omega), decide_eq_true c, Bool.true_and]
      congr 1
      exact decide_eq_decide.2 (by omega)
    · rw [if_neg (by omega), decide_eq_false c, Bool.false_and]
  | succ d ih =>
    intro i hi
    have hil : i < l.length := by omega
    have w := wrap_succ i l.length hil (by omega)
    rw [List.drop_eq_getElem_cons hil, List.all_cons]
    have hx := hz _ (List.getElem_mem hil)
    refine Ev.step (f := fun k => (spec_LabelOk.f k l[i]).bind fun t => if t = true then spec_NameOk.l0 k s l ((i + 1 : Nat) : Int) else some false) (fun k => ?_) ?_
    · simp only [spec_NameOk.l0]
      rw [if_pos (by omega), if_pos (by omega), rdS_getElem l i hil, w]
    · refine Ev.bind (spec_LabelOk_eq l[i] (by omega)) ?_
      cases h : labelOk l[i] with
      | true =>
        rw [Bool.true_and]
        exact Ev_if rfl (ih (i + 1) (by omega))
      | false => exact Ev_ifn (by decide) ⟨0, fun _ _ => rfl⟩
theorem spec_NameOk_eq (s : ByteArray) (hs : s.size ≤ 1048576) : Ev (fun k => spec_NameOk.f k s) (nameOk s) := by
  unfold spec_NameOk.f nameOk
  have h1 := labelsL_length s
  refine Ev.bind (spec_Labels_eq s hs) ?_
  have := spec_NameOk_loop s (labelsL s) (by omega) (fun x hx => Nat.le_trans (labels_mem_size s x hx) hs) (labelsL s).length 0 (by omega)
  simpa using this
theorem impl_NameOk_1_eq (s : ByteArray) (hs : s.size ≤ 1048576) : Ev (fun k => impl_NameOk_1.f k s) (!labelOk s) := by
  unfold impl_NameOk_1.f
  exact Ev.bind (impl_LabelOk_eq s (by omega)) ⟨0, fun _ _ => rfl⟩
theorem slices_IndexFunc_string_loop (l : List ByteArray) (hn : l.length ≤ 140737488351232) (hz : ∀ x ∈ l, x.size ≤ 1048576) : ∀ (d i : Nat), i + d = l.length →
    ∃ r : Int, Ev (fun k => slices_IndexFunc_string.l0 k l (l.length : Int) (i : Int)) r ∧ decide (r ≥ 0) = !(l.drop i).all labelOk := by
  intro d
  induction d with
  | zero =>
    intro i hi
    rw [show l.drop i = [] from List.drop_of_length_le (by omega)]
    refine ⟨-1, Ev.step (f := fun _ => some (-1)) (fun k => ?_) ⟨0, fun _ _ => rfl⟩, rfl⟩
    simp only [slices_IndexFunc_string.l0]
    rw [if_neg (by omega)]
  | succ d ih =>
    intro i hi
    have hil : i < l.length := by omega
    have w := wrap_succ i l.length hil (by omega)
    rw [List.drop_eq_getElem_cons hil, List.all_cons]
    have hx := hz _ (List.getElem_mem hil)
    obtain ⟨r, hr, hd⟩ := ih (i + 1) (by omega)
    have hs : ∀ k, slices_IndexFunc_string.l0 (k + 1) l (l.length : Int) (i : Int) = (impl_NameOk_1.f k l[i]).bind fun t => if t = true then some (i : Int) else slices_IndexFunc_string.l0 k l (l.length : Int) ((i + 1 : Nat) : Int) := by
      intro k
      simp only [slices_IndexFunc_string.l0]
      rw [if_pos (by omega), if_pos (by omega), if_pos (by omega), rdS_getElem l i hil, w]
    cases h : labelOk l[i] with
    | true =>
      refine ⟨r, Ev.step hs (Ev.bind (impl_NameOk_1_eq l[i] hx) ?_), by rw [hd, Bool.true_and]⟩
      rw [h]
      exact Ev_ifn (by decide) hr
    | false =>
      refine ⟨(i : Int), Ev.step hs (Ev.bind (impl_NameOk_1_eq l[i] hx) ?_), by rw [decide_eq_true (by omega)]; rfl⟩
      rw [h]
      exact Ev_if rfl ⟨0, fun _ _ => rfl⟩
theorem slices_ContainsFunc_string_eq (l : List ByteArray) (hn : l.length ≤ 140737488351232) (hz : ∀ x ∈ l, x.size ≤ 1048576) : Ev (fun k => slices_ContainsFunc_string.f k l) (!l.all labelOk) := by
  unfold slices_ContainsFunc_string.f slices_IndexFunc_string.f
  obtain ⟨r, hr, hd⟩ := slices_IndexFunc_string_loop l hn hz l.length 0 (by omega)
  rw [List.drop_zero] at hd
  rw [← hd]
  exact Ev.bind hr ⟨0, fun _ _ => rfl⟩
theorem impl_NameOk_eq (s : ByteArray) (hs : s.size ≤ 1048576) : Ev (fun k => impl_NameOk.f k s) (nameOk s) := by
  unfold impl_NameOk.f nameOk
  have h1 := labelsL_length s
  rw [impl_Labels_eq s (by omega)]
  simp only [Option.bind_some]
  by_cases c1 : s.size ≤ 50
  · refine Ev_if (by omega) ?_
    rw [decide_eq_true c1, Bool.true_and]
    by_cases c2 : (labelsL s).length ≤ 6
    · refine Ev_if (by omega) ?_
      rw [decide_eq_true c2, Bool.and_true]
      refine Ev.bind (slices_ContainsFunc_string_eq _ (by omega) (fun x hx => Nat.le_trans (labels_mem_size s x hx) hs)) ⟨0, fun _ _ => ?_⟩
      rw [Bool.not_not]
    · refine Ev_ifn (by omega) ?_
      rw [decide_eq_false c2, Bool.and_false]
      exact ⟨0, fun _ _ => rfl⟩
  · refine Ev_ifn (by omega) ?_
    rw [decide_eq_false c1, Bool.false_and, Bool.and_false]
    exact ⟨0, fun _ _ => rfl⟩
/-- The bytes of a text. -/
def textOk (s : ByteArray) : Bool := (bytesOf s).all (fun c => decide (33 ≤ c) && decide (c ≤ 126)) && decide (s.size ≤ 12)
theorem spec_l5Text_loop (s : ByteArray) (hn : s.size ≤ 140737488355328) : ∀ (d i : Nat), i + d = s.size →
    Ev (fun k => spec_l5Text.l0 k s (i : Int)) (((bytesOf s).drop i).all (fun c => decide (33 ≤ c) && decide (c ≤ 126)) && decide (s.size ≤ 12)) := by
  intro d
  induction d with
  | zero =>
    intro i hi
    refine Ev.step (f := fun _ => some (decide (s.size ≤ 12))) (fun k => ?_) ⟨0, fun _ _ => by rw [List.drop_of_length_le (by rw [bytesOf_length]; omega)]; rfl⟩
    simp only [spec_l5Text.l0]
    rw [if_neg (by omega)]
    congr 1
    exact decide_eq_decide.2 (by omega)
  | succ d ih =>
    intro i hi
    have hb := bt_range s i
    have hw := wrap_succ i s.size (by omega) hn
    rw [drop_bytesOf s i (by omega), List.all_cons]
    have hs : ∀ k, spec_l5Text.l0 (k + 1) s (i : Int) = if (decide (33 ≤ bt s i) && decide (bt s i ≤ 126)) = true then spec_l5Text.l0 k s ((i + 1 : Nat) : Int) else some false := by
      intro k
      simp only [spec_l5Text.l0]
      rw [if_pos (by omega), if_pos (by omega), wrap_id (x := bt s i) (by omega) (by omega), l1In_dec, Option.bind_some, hw]
    refine Ev.step hs ?_
    cases h : (decide (33 ≤ bt s i) && decide (bt s i ≤ 126)) with
    | true => exact Ev_if rfl (by rw [Bool.true_and]; exact ih (i + 1) (by omega))
    | false => exact Ev_ifn (by decide) ⟨0, fun _ _ => rfl⟩
theorem spec_l5Text_eq (s : ByteArray) (hn : s.size ≤ 140737488355328) : Ev (fun k => spec_l5Text.f k s) (textOk s) := by
  have := spec_l5Text_loop s hn s.size 0 (by omega)
  unfold spec_l5Text.f textOk
  simpa using this
theorem impl_isText_loop (s : ByteArray) (hn : s.size ≤ 140737488355328) : ∀ (d i : Nat), i + d = s.size →
    Ev (fun k => impl_isText.l0 k s (s.size : Int) (i : Int)) (((bytesOf s).drop i).all (fun c => decide (33 ≤ c) && decide (c ≤ 126)) && decide (s.size ≤ 12)) := by
  intro d
  induction d with
  | zero =>
    intro i hi
    refine Ev.step (f := fun _ => some (decide (s.size ≤ 12))) (fun k => ?_) ⟨0, fun _ _ => by rw [List.drop_of_length_le (by rw [bytesOf_length]; omega)]; rfl⟩
    simp only [impl_isText.l0]
    rw [if_neg (by omega)]
    congr 1
    exact decide_eq_decide.2 (by omega)
  | succ d ih =>
    intro i hi
    have hb := bt_range s i
    have hw := wrap_succ i s.size (by omega) hn
    rw [drop_bytesOf s i (by omega), List.all_cons]
    have hs : ∀ k, impl_isText.l0 (k + 1) s (s.size : Int) (i : Int) = if bt s i < 33 then some false else if bt s i > 126 then some false else impl_isText.l0 k s (s.size : Int) ((i + 1 : Nat) : Int) := by
      intro k
      simp only [impl_isText.l0]
      rw [if_pos (by omega), if_pos (by omega), if_pos (by omega), hw]
    refine Ev.step hs ?_
    by_cases c1 : bt s i < 33
    · refine Ev_if c1 ⟨0, fun _ _ => ?_⟩
      rw [decide_eq_false (show ¬ 33 ≤ bt s i by omega)]
      rfl
    · refine Ev_ifn c1 ?_
      rw [decide_eq_true (show 33 ≤ bt s i by omega), Bool.true_and]
      by_cases c2 : bt s i > 126
      · refine Ev_if c2 ⟨0, fun _ _ => ?_⟩
        rw [decide_eq_false (show ¬ bt s i ≤ 126 by omega)]
        rfl
      · refine Ev_ifn c2 ?_
        rw [decide_eq_true (show bt s i ≤ 126 by omega), Bool.true_and]
        exact ih (i + 1) (by omega)
theorem impl_isText_eq (s : ByteArray) (hn : s.size ≤ 140737488355328) : Ev (fun k => impl_isText.f k s) (textOk s) := by
  have := impl_isText_loop s hn s.size 0 (by omega)
  unfold impl_isText.f textOk
  simpa using this
/-- A number from 0 to m. -/
def inTo (x m : Int) : Bool := decide (0 ≤ x) && decide (x ≤ m)
theorem l1In_to (x m : Int) : spec_l1In.f x 0 m = some (inTo x m) := l1In_dec x 0 m
theorem isTtl_eq (x : Int) : impl_isTtl.f x = some (inTo x 100000) := by
  unfold impl_isTtl.f inTo
  by_cases h : x ≥ 0
  · rw [if_pos h, decide_eq_true (show 0 ≤ x by omega), Bool.true_and]
  · rw [if_neg h, decide_eq_false (show ¬ 0 ≤ x by omega), Bool.false_and]
theorem isFour_eq (x : Int) : impl_isFour.f x = some (inTo x 2147483647) := by
  unfold impl_isFour.f inTo
  by_cases h : x ≥ 0
  · rw [if_pos h, decide_eq_true (show 0 ≤ x by omega), Bool.true_and]
  · rw [if_neg h, decide_eq_false (show ¬ 0 ≤ x by omega), Bool.false_and]
def isE (s : ByteArray) : Bool := s.toList == ([] : List UInt8)
/-- What RecordOk answers. -/
def recOk (a0 : ByteArray) (a1 a2 a3 : Int) (a4 a5 : ByteArray) : Bool :=
  nameOk a0 && (inTo a2 100000 && (if a1 = 1 then inTo a3 2147483647 && (isE a4 && isE a5) else if a1 = 2 ∨ a1 = 5 then decide (a3 = 0) && (nameOk a4 && isE a5) else if a1 = 6 then inTo a3 100000 && (nameOk a4 && isE a5) else if a1 = 16 then decide (a3 = 0) && (isE a4 && textOk a5) else false))
theorem Ev_and {f : Nat → Option Bool} {a b : Bool} {g : Nat → Option Bool} (h : Ev f a) (h2 : a = true → Ev g b) : Ev (fun k => (f k).bind fun t => if t = true then g k else some false) (a && b) := by
  refine Ev.bind h ?_
  cases a with
  | true => exact Ev_if rfl (by rw [Bool.true_and]; exact h2 rfl)
  | false => exact Ev_ifn (by decide) ⟨0, fun _ _ => rfl⟩
theorem Ev_andp {p : Prop} [Decidable p] {b : Bool} {g : Nat → Option Bool} (h2 : p → Ev g b) : Ev (fun k => if p then g k else some false) (decide p && b) := by
  by_cases h : p
  · rw [decide_eq_true h, Bool.true_and]
    exact Ev_if h (h2 h)
  · rw [decide_eq_false h, Bool.false_and]
    exact Ev_ifn h ⟨0, fun _ _ => rfl⟩
theorem Ev_andE (s : ByteArray) {b : Bool} {g : Nat → Option Bool} (h2 : Ev g b) : Ev (fun k => if s.toList = ([] : List UInt8) then g k else some false) (isE s && b) := by
  unfold isE
  by_cases h : s.toList = []
  · rw [show (s.toList == ([] : List UInt8)) = true by rw [h]; rfl, Bool.true_and]
    exact Ev_if h h2
  · rw [show (s.toList == ([] : List UInt8)) = false by simpa using h, Bool.false_and]
    exact Ev_ifn h ⟨0, fun _ _ => rfl⟩
theorem Ev_some {α : Type} (x : α) : Ev (fun _ => some x) x := ⟨0, fun _ _ => rfl⟩
theorem Ev_ret {α : Type} {f : Nat → Option α} {x : α} (h : Ev f x) : Ev (fun k => (f k).bind fun t => some t) x := Ev.bind h (Ev_some x)
theorem spec_RecordOk_eq (a0 : ByteArray) (a1 a2 a3 : Int) (a4 a5 : ByteArray) (h0 : a0.size ≤ 1048576) (h4 : a4.size ≤ 1048576) (h5 : a5.size ≤ 1048576) : Ev (fun k => spec_RecordOk.f k a0 a1 a2 a3 a4 a5) (recOk a0 a1 a2 a3 a4 a5) := by
  unfold spec_RecordOk.f recOk
  refine Ev.bind (spec_NameOk_eq a0 h0) ?_
  cases hn : nameOk a0 with
  | false =>
    refine Ev_ifn (by decide) ?_
    refine Ev.step (f := fun _ => some false) (fun k => ?_) (Ev_some _)
    simp only [spec_RecordOk.j0]
    rfl
  | true =>
    rw [Bool.true_and]
    refine Ev_if rfl ?_
    simp only [l1In_to, Option.bind_some]
    cases ht : inTo a2 100000 with
    | false =>
      refine Ev.step (f := fun _ => some false) (fun k => ?_) (Ev_some _)
      simp only [spec_RecordOk.j0]
      rfl
    | true =>
      rw [Bool.true_and]
      have key : ∀ (b : Bool), b = decide (a1 = 2 ∨ a1 = 5) → a1 ≠ 1 → Ev (fun k => spec_RecordOk.j1 k a1 b a0 a1 a2 a3 a4 a5) (if a1 = 2 ∨ a1 = 5 then decide (a3 = 0) && (nameOk a4 && isE a5) else if a1 = 6 then inTo a3 100000 && (nameOk a4 && isE a5) else if a1 = 16 then decide (a3 = 0) && (isE a4 && textOk a5) else false) := by
        intro b hb h1
        by_cases c : a1 = 2 ∨ a1 = 5
        · rw [if_pos c]
          rw [decide_eq_true c] at hb
          subst hb
          refine Ev.step (fun k => ?_) (Ev_andp fun _ => Ev_and (spec_NameOk_eq a4 h4) fun _ => Ev_some _)
          simp only [spec_RecordOk.j1, if_true]
          rfl
        · rw [if_neg c]
          rw [decide_eq_false c] at hb
          subst hb
          by_cases c6 : a1 = 6
          · rw [if_pos c6]
            refine Ev.step (fun k => ?_) (Ev_and (f := fun _ => some (inTo a3 100000)) (Ev_some _) fun _ => Ev_and (spec_NameOk_eq a4 h4) fun _ => Ev_some _)
            simp only [spec_RecordOk.j1]
            rw [if_neg (by decide), if_pos c6, l1In_to]
            rfl
          · rw [if_neg c6]
            by_cases c16 : a1 = 16
            · rw [if_pos c16]
              refine Ev.step (fun k => ?_) (Ev_andp fun _ => Ev_andE a4 (Ev_ret (spec_l5Text_eq a5 (by omega))))
              simp only [spec_RecordOk.j1]
              rw [if_neg (by decide), if_neg c6, if_pos c16]
            · rw [if_neg c16]
              refine Ev.step (f := fun _ => some false) (fun k => ?_) (Ev_some _)
              simp only [spec_RecordOk.j1]
              rw [if_neg (by decide), if_neg c6, if_neg c16]
      by_cases c1 : a1 = 1
      · rw [if_pos c1]
        refine Ev.step (fun k => ?_) (Ev_and (f := fun _ => some (inTo a3 2147483647)) (Ev_some _) fun _ => Ev_andE a4 (Ev_some _))
        simp only [spec_RecordOk.j0]
        rw [if_neg (by decide), if_pos c1, l1In_to]
        rfl
      · rw [if_neg c1]
        by_cases c2 : a1 = 2
        · refine Ev.step (fun k => ?_) (key (a1 == 2) (by rw [decide_eq_true (Or.inl c2)]; simpa using c2) c1)
          simp only [spec_RecordOk.j0]
          rw [if_neg (by decide), if_neg c1, if_pos c2]
        · refine Ev.step (fun k => ?_) (key (a1 == 5) (by by_cases c5 : a1 = 5 <;> simp [c2, c5]) c1)
          simp only [spec_RecordOk.j0]
          rw [if_neg (by decide), if_neg c1, if_neg c2]
theorem impl_RecordOk_eq (a0 : ByteArray) (a1 a2 a3 : Int) (a4 a5 : ByteArray) (h0 : a0.size ≤ 1048576) (h4 : a4.size ≤ 1048576) (h5 : a5.size ≤ 1048576) : Ev (fun k => impl_RecordOk.f k a0 a1 a2 a3 a4 a5) (recOk a0 a1 a2 a3 a4 a5) := by
  unfold impl_RecordOk.f recOk
  refine Ev.bind (impl_NameOk_eq a0 h0) ?_
  cases hn : nameOk a0 with
  | false =>
    refine Ev_ifn (by decide) ?_
    refine Ev.step (f := fun _ => some false) (fun k => ?_) (Ev_some _)
    simp only [impl_RecordOk.j0]
    rfl
  | true =>
    rw [Bool.true_and]
    refine Ev_if rfl ?_
    simp only [isTtl_eq, Option.bind_some]
    cases ht : inTo a2 100000 with
    | false =>
      refine Ev.step (f := fun _ => some false) (fun k => ?_) (Ev_some _)
      simp only [impl_RecordOk.j0]
      rfl
    | true =>
      rw [Bool.true_and]
      have key : ∀ (b : Bool), b = decide (a1 = 2 ∨ a1 = 5) → a1 ≠ 1 → Ev (fun k => impl_RecordOk.j1 k a1 b a0 a1 a2 a3 a4 a5) (if a1 = 2 ∨ a1 = 5 then decide (a3 = 0) && (nameOk a4 && isE a5) else if a1 = 6 then inTo a3 100000 && (nameOk a4 && isE a5) else if a1 = 16 then decide (a3 = 0) && (isE a4 && textOk a5) else false) := by
        intro b hb h1
        by_cases c : a1 = 2 ∨ a1 = 5
        · rw [if_pos c]
          rw [decide_eq_true c] at hb
          subst hb
          refine Ev.step (fun k => ?_) (Ev_andp fun _ => Ev_and (impl_NameOk_eq a4 h4) fun _ => Ev_some _)
          simp only [impl_RecordOk.j1, if_true]
          rfl
        · rw [if_neg c]
          rw [decide_eq_false c] at hb
          subst hb
          by_cases c6 : a1 = 6
          · rw [if_pos c6]
            refine Ev.step (fun k => ?_) (Ev_and (f := fun _ => some (inTo a3 100000)) (Ev_some _) fun _ => Ev_and (impl_NameOk_eq a4 h4) fun _ => Ev_some _)
            simp only [impl_RecordOk.j1]
            rw [if_neg (by decide), if_pos c6, isTtl_eq]
            rfl
          · rw [if_neg c6]
            by_cases c16 : a1 = 16
            · rw [if_pos c16]
              refine Ev.step (fun k => ?_) (Ev_andp fun _ => Ev_andE a4 (Ev_ret (impl_isText_eq a5 (by omega))))
              simp only [impl_RecordOk.j1]
              rw [if_neg (by decide), if_neg c6, if_pos c16]
            · rw [if_neg c16]
              refine Ev.step (f := fun _ => some false) (fun k => ?_) (Ev_some _)
              simp only [impl_RecordOk.j1]
              rw [if_neg (by decide), if_neg c6, if_neg c16]
      by_cases c1 : a1 = 1
      · rw [if_pos c1]
        refine Ev.step (fun k => ?_) (Ev_and (f := fun _ => some (inTo a3 2147483647)) (Ev_some _) fun _ => Ev_andE a4 (Ev_some _))
        simp only [impl_RecordOk.j0]
        rw [if_neg (by decide), if_pos c1, isFour_eq]
        rfl
      · rw [if_neg c1]
        by_cases c2 : a1 = 2
        · refine Ev.step (fun k => ?_) (key (a1 == 2) (by rw [decide_eq_true (Or.inl c2)]; simpa using c2) c1)
          simp only [impl_RecordOk.j0]
          rw [if_neg (by decide), if_neg c1, if_pos c2]
        · refine Ev.step (fun k => ?_) (key (a1 == 5) (by by_cases c5 : a1 = 5 <;> simp [c2, c5]) c1)
          simp only [impl_RecordOk.j0]
          rw [if_neg (by decide), if_neg c1, if_neg c2]
theorem Ev_c {α : Type} {o : Option α} {x : α} (h : o = some x) : Ev (fun _ => o) x := ⟨0, fun _ _ => h⟩
theorem and255 (y : Int) : 0 ≤ Go.bits .and .i64 y 255 ∧ Go.bits .and .i64 y 255 ≤ 255 := by
  have h : (BitVec.ofInt 64 y &&& BitVec.ofInt 64 255).toNat ≤ 255 := by
    rw [BitVec.toNat_and]
    exact Nat.le_trans Nat.and_le_right (by decide)
  have e : Go.bits .and .i64 y 255 = IntKind.i64.wrap ((BitVec.ofInt 64 y &&& BitVec.ofInt 64 255).toNat : Int) := rfl
  rw [e, Go.IntKind.wrap_i64]
  omega
/-- A place in a draw's bytes. -/
def CurOk (b : List Int) (i : Int) : Prop := 0 ≤ i ∧ i ≤ (b.length : Int)
/-- A draw that answers: what it draws is so, and the place stays one. -/
def Dr {α : Type} (b : List Int) (f : Option (α × Int × Int)) (P : α → Prop) : Prop := ∃ x j g, f = some (x, j, g) ∧ P x ∧ CurOk b j
theorem l1Byte_dr (b : List Int) (hn : b.length ≤ 140737488351232) (i h : Int) (c : CurOk b i) : Dr b (spec_l1Byte.f b i h) (fun x => 0 ≤ x ∧ x ≤ 255) := by
  unfold spec_l1Byte.f
  obtain ⟨c0, c1⟩ := c
  by_cases q : i < (b.length : Int)
  · rw [if_pos q, if_pos c0]
    have w : wrap64 (i + 1) = i + 1 := wrap_id (by omega) (by omega)
    refine ⟨_, _, _, rfl, and255 _, ?_⟩
    rw [w]
    exact ⟨by omega, by omega⟩
  · rw [if_neg q]
    exact ⟨_, _, _, rfl, and255 _, ⟨c0, c1⟩⟩
theorem tmod_rng (x n : Int) (hx : 0 ≤ x) (hn : 0 < n) : 0 ≤ Int.tmod x n ∧ Int.tmod x n < n := by
  rw [Int.tmod_eq_emod_of_nonneg hx]
  exact ⟨Int.emod_nonneg _ (by omega), Int.emod_lt_of_pos _ hn⟩
theorem l1Below_dr (b : List Int) (hn : b.length ≤ 140737488351232) (i h n : Int) (c : CurOk b i) : Dr b (spec_l1Below.f b i h n) (fun x => 0 ≤ x ∧ (0 < n → x < n) ∧ (n ≤ 0 → x = 0)) := by
  unfold spec_l1Below.f
  by_cases q : n ≤ 0
  · rw [if_pos q]
    exact ⟨_, _, _, rfl, ⟨Int.le_refl _, fun z => by omega, fun _ => rfl⟩, c⟩
  · rw [if_neg q]
    by_cases q2 : n ≤ 256
    · rw [if_pos q2]
      obtain ⟨x, j, g, e, p, c2⟩ := l1Byte_dr b hn i h c
      rw [e]
      simp only [Option.bind_some]
      rw [if_neg (by omega)]
      have t := tmod_rng x n p.1 (by omega)
      exact ⟨_, _, _, rfl, ⟨t.1, fun _ => t.2, fun z => by omega⟩, c2⟩
    · rw [if_neg q2]
      obtain ⟨x, j, g, e, p, c2⟩ := l1Byte_dr b hn i h c
      rw [e]
      simp only [Option.bind_some]
      obtain ⟨x2, j2, g2, e2, p2, c3⟩ := l1Byte_dr b hn j g c2
      rw [e2]
      simp only [Option.bind_some]
      obtain ⟨x3, j3, g3, e3, p3, c4⟩ := l1Byte_dr b hn j2 g2 c3
      rw [e3]
      simp only [Option.bind_some]
      rw [if_neg (by omega)]
      have w1 : wrap64 (x * 65536) = x * 65536 := wrap_id (by omega) (by omega)
      have w2 : wrap64 (x2 * 256) = x2 * 256 := wrap_id (by omega) (by omega)
      have w3 : wrap64 (x * 65536 + x2 * 256) = x * 65536 + x2 * 256 := wrap_id (by omega) (by omega)
      have w4 : wrap64 (x * 65536 + x2 * 256 + x3) = x * 65536 + x2 * 256 + x3 := wrap_id (by omega) (by omega)
      rw [w1, w2, w3, w4]
      have t := tmod_rng (x * 65536 + x2 * 256 + x3) n (by omega) (by omega)
      exact ⟨_, _, _, rfl, ⟨t.1, fun _ => t.2, fun z => by omega⟩, c4⟩
theorem l1Once_dr (b : List Int) (hn : b.length ≤ 140737488351232) (i h n : Int) (c : CurOk b i) : Dr b (spec_l1Once.f b i h n) (fun _ => True) := by
  unfold spec_l1Once.f
  obtain ⟨x, j, g, e, p, c2⟩ := l1Below_dr b hn i h n c
  rw [e]
  exact ⟨_, _, _, rfl, trivial, c2⟩
theorem l1Int_dr (b : List Int) (hn : b.length ≤ 140737488351232) (i h : Int) (l : List Int) (hl : 0 < l.length) (c : CurOk b i) : Dr b (spec_l1Int.f b i h l) (fun x => x ∈ l) := by
  unfold spec_l1Int.f
  obtain ⟨x, j, g, e, p, c2⟩ := l1Below_dr b hn i h (l.length : Int) c
  rw [e]
  simp only [Option.bind_some]
  have := p.2.1 (by omega)
  rw [if_pos p.1, if_pos this]
  exact ⟨_, _, _, rfl, rd_mem l x p.1 this, c2⟩
theorem rdS_mem (l : List ByteArray) (x : Int) (h0 : 0 ≤ x) (h : x < (l.length : Int)) : rdOf ByteArray.empty l x ∈ l := by
  obtain ⟨n, rfl⟩ := Int.eq_ofNat_of_zero_le h0
  rw [rdS_getElem l n (by omega)]
  exact List.getElem_mem _
theorem l1Str_dr (b : List Int) (hn : b.length ≤ 140737488351232) (i h : Int) (l : List ByteArray) (hl : 0 < l.length) (c : CurOk b i) : Dr b (spec_l1Str.f b i h l) (fun x => x ∈ l) := by
  unfold spec_l1Str.f
  obtain ⟨x, j, g, e, p, c2⟩ := l1Below_dr b hn i h (l.length : Int) c
  rw [e]
  simp only [Option.bind_some]
  have := p.2.1 (by omega)
  rw [if_pos p.1, if_pos this]
  exact ⟨_, _, _, rfl, rdS_mem l x p.1 this, c2⟩
theorem l1New_loop (l : List Int) (hn : l.length ≤ 140737488351232) : ∀ (d i : Nat) (h : Int), i + d = l.length → ∃ g, Ev (fun k => spec_l1New.l0 k l h (i : Int)) (l, 0, g) := by
  intro d
  induction d with
  | zero =>
    intro i h hi
    refine ⟨h, Ev.step (f := fun _ => some (l, 0, h)) (fun k => ?_) (Ev_some _)⟩
    simp only [spec_l1New.l0]
    rw [if_neg (by omega)]
  | succ d ih =>
    intro i h hi
    have w := wrap_succ i l.length (by omega) (by omega)
    by_cases q : i < 4000
    · obtain ⟨g, e⟩ := ih (i + 1) (Go.bits .and .i64 (wrap64 ((wrap64 ((wrap64 (h * 137)) + (wrap64 (rd l (i : Int))))) + 11)) 1073741823) (by omega)
      refine ⟨g, Ev.step (fun k => ?_) e⟩
      simp only [spec_l1New.l0]
      rw [if_pos (by omega), if_pos (by omega), if_pos (by omega), w]
    · refine ⟨h, Ev.step (f := fun _ => some (l, 0, h)) (fun k => ?_) (Ev_some _)⟩
      simp only [spec_l1New.l0]
      rw [if_pos (by omega), if_neg (by omega)]
theorem l1New_ev (l : List Int) (hn : l.length ≤ 140737488351232) : ∃ g, Ev (fun k => spec_l1New.f k l) (l, 0, g) := by
  unfold spec_l1New.f
  exact l1New_loop l hn l.length 0 _ (by omega)
theorem cur0 (l : List Int) : CurOk l 0 := ⟨Int.le_refl _, by omega⟩
theorem l1Bytes_loop (b : List Int) (hn : b.length ≤ 140737488351232) (n : Nat) (hN : n ≤ 1000000) : ∀ (d i : Nat) (acc : List Int) (j g : Int), i + d = n → acc.length = i → Bytes acc → CurOk b j →
    ∃ xs j' g', Ev (fun k => spec_l1Bytes.l0 k (n : Int) acc (i : Int) b j g) (xs, j', g') ∧ Bytes xs ∧ xs.length = n ∧ CurOk b j' := by
  intro d
  induction d with
  | zero =>
    intro i acc j g hi ha hb hc
    refine ⟨acc, j, g, Ev.step (f := fun _ => some (acc, j, g)) (fun k => ?_) (Ev_some _), hb, by omega, hc⟩
    simp only [spec_l1Bytes.l0]
    rw [if_neg (by omega)]
  | succ d ih =>
    intro i acc j g hi ha hb hc
    have w := wrap_succ i n (by omega) (by omega)
    obtain ⟨x, j2, g2, e, p, c2⟩ := l1Byte_dr b hn j g hc
    obtain ⟨xs, j', g', h1, h2⟩ := ih (i + 1) (acc ++ [x % 256]) j2 g2 (by omega) (by simp; omega) (hb.append (fun y hy => by rw [List.mem_singleton.1 hy]; omega)) c2
    refine ⟨xs, j', g', Ev.step (fun k => ?_) h1, h2⟩
    simp only [spec_l1Bytes.l0]
    rw [if_pos (by omega), e]
    simp only [Option.bind_some]
    rw [if_pos (by omega), w]
theorem l1Bytes_ev (b : List Int) (hn : b.length ≤ 140737488351232) (i h n : Int) (c : CurOk b i) (h0 : 0 ≤ n) (h1 : n ≤ 1000000) : ∃ xs j g, Ev (fun k => spec_l1Bytes.f k b i h n) (xs, j, g) ∧ Bytes xs ∧ (xs.length : Int) = n ∧ CurOk b j := by
  obtain ⟨m, rfl⟩ := Int.eq_ofNat_of_zero_le h0
  obtain ⟨xs, j, g, e, p, q, r⟩ := l1Bytes_loop b hn m (by omega) m 0 [] i h (by omega) rfl (fun x hx => by cases hx) c
  unfold spec_l1Bytes.f
  exact ⟨xs, j, g, e, p, by omega, r⟩
theorem same_loop (a : List Int) (hn : a.length ≤ 140737488351232) : ∀ (d i : Nat), i + d = a.length → Ev (fun k => laws_same.l0 k a a (i : Int)) true := by
  intro d
  induction d with
  | zero =>
    intro i hi
    refine Ev.step (f := fun _ => some true) (fun k => ?_) (Ev_some _)
    simp only [laws_same.l0]
    rw [if_neg (by omega)]
  | succ d ih =>
    intro i hi
    have w := wrap_succ i a.length (by omega) (by omega)
    refine Ev.step (fun k => ?_) (ih (i + 1) (by omega))
    simp only [laws_same.l0]
    rw [if_pos (by omega), if_pos (by omega), if_pos (by omega), if_pos trivial, w]
theorem same_eq (a : List Int) (hn : a.length ≤ 140737488351232) : Ev (fun k => laws_same.f k a a) true := by
  unfold laws_same.f
  exact Ev_if rfl (same_loop a hn a.length 0 (by omega))
/-- The bytes of a number, most significant first. -/
def be2 (n : Int) : List Int := [n / 256 % 256, n % 256]
def be4 (n : Int) : List Int := [n / 16777216 % 256, n / 65536 % 256, n / 256 % 256, n % 256]
/-- What Put2 and Put4 return. -/
def put2 (l : List Int) (n : Int) : List Int := if 0 ≤ n ∧ n ≤ 65535 then l ++ be2 n else l
def put4 (l : List Int) (n : Int) : List Int := if 0 ≤ n ∧ n ≤ 2147483647 then l ++ be4 n else l
theorem clone_bytes_eq (l : List Int) (h : l.length < 140737488355328) : slices_Clone_byte.f l = some l := by
  unfold slices_Clone_byte.f
  simp [h]
theorem bits_low8 (n : Int) (h0 : 0 ≤ n) (h1 : n < 2 ^ 62) : Go.bits .and .i64 n 255 = n % 256 :=
  Go.bits_mask .i64 62 (by decide) (fun n h0 h1 => by rw [Go.IntKind.wrap_i64]; omega) 8 (by decide) n h0 h1
theorem spec_Put2_eq (l : List Int) (hl : l.length ≤ 140737488351232) (n : Int) : spec_Put2.f l n = some (put2 l n) := by
  unfold spec_Put2.f put2
  simp only [Option.bind_some, List.length_nil, List.nil_append, Nat.zero_add]
  rw [if_pos (by omega), l1In_dec]
  simp only [Option.bind_some]
  by_cases h : 0 ≤ n ∧ n ≤ 65535
  · rw [if_pos h, decide_eq_true h.1, decide_eq_true h.2, bits_low8 n h.1 (by omega)]
    simp only [Bool.and_self, if_true, List.length_cons, List.length_nil]
    rw [if_pos (by omega)]
    congr 2
    unfold be2
    congr 2
    omega
  · rw [if_neg h]
    have : (decide (0 ≤ n) && decide (n ≤ 65535)) = false := by
      rw [Bool.and_eq_false_iff, decide_eq_false_iff_not, decide_eq_false_iff_not]
      omega
    rw [this]
    rfl
/-- The bytes that putBytes appends: from the byte with number c - 1 down to the byte with number 0. -/
def beTo (n : Int) : Nat → List Int
  | 0 => []
  | c + 1 => (n / 2 ^ (8 * c)) % 256 :: beTo n c
theorem putBytes_loop (n : Int) : ∀ (c : Nat) (l : List Int), c ≤ 4 → l.length + c ≤ 140737488355000 → Ev (fun k => impl_putBytes.l0 k n l ((c : Int) - 1)) (l ++ beTo n c) := by
  intro c
  induction c with
  | zero =>
    intro l _ _
    refine Ev.step (f := fun _ => some l) (fun k => ?_) ⟨0, fun _ _ => by rw [beTo, List.append_nil]⟩
    simp only [impl_putBytes.l0]
    rw [if_neg (by omega)]
  | succ c ih =>
    intro l hc hl
    have hs : shr .i64 n (8 * (c : Int)) = n / 2 ^ (8 * c) := by
      unfold shr
      have e : min ((8 * (c : Int)).toNat) (IntKind.bits .i64) = 8 * c := by
        have : IntKind.bits .i64 = 64 := rfl
        omega
      rw [e]
    have e1 : ((c + 1 : Nat) : Int) - 1 = (c : Int) := by omega
    rw [e1]
    have := ih (l ++ [(n / 2 ^ (8 * c)) % 256]) (by omega) (by rw [List.length_append]; simp; omega)
    rw [List.append_assoc] at this
    refine Ev.step (f := fun k => impl_putBytes.l0 k n (l ++ [(n / 2 ^ (8 * c)) % 256]) ((c : Int) - 1)) (fun k => ?_) this
    simp only [impl_putBytes.l0]
    rw [if_pos (by omega), wrap_id (x := 8 * (c : Int)) (by omega) (by omega), if_pos (by omega), if_pos (by omega), hs, wrap_id (x := (c : Int) - 1) (by omega) (by omega)]
theorem putBytes_eq (l : List Int) (hl : l.length ≤ 140737488351232) (n : Int) (c : Nat) (hc : c ≤ 4) (m : Int) : Ev (fun k => impl_putBytes.f k l n c m) (if 0 ≤ n ∧ n ≤ m then l ++ beTo n c else l) := by
  unfold impl_putBytes.f
  simp only [clone_bytes_eq l (by omega), Option.bind_some]
  by_cases h : 0 ≤ n ∧ n ≤ m
  · have h0 : ¬ n < 0 := by omega
    have h1 : ¬ n > m := by omega
    simp only [if_neg h0, decide_eq_false h1, if_pos h]
    refine Ev.step (f := fun k => impl_putBytes.l0 k n l ((c : Int) - 1)) (fun k => ?_) (putBytes_loop n c l hc (by omega))
    simp only [impl_putBytes.j0]
    rw [if_neg (by decide), wrap_id (x := (c : Int) - 1) (by omega) (by omega)]
  · rw [if_neg h]
    by_cases h0 : n < 0
    · simp only [if_pos h0]
      refine Ev.step (f := fun _ => some l) (fun k => ?_) ⟨0, fun _ _ => rfl⟩
      simp only [impl_putBytes.j0]
      rfl
    · have h1 : n > m := by omega
      simp only [if_neg h0, decide_eq_true h1]
      refine Ev.step (f := fun _ => some l) (fun k => ?_) ⟨0, fun _ _ => rfl⟩
      simp only [impl_putBytes.j0]
      rfl
theorem impl_Put2_eq (l : List Int) (hl : l.length ≤ 140737488351232) (n : Int) : Ev (fun k => impl_Put2.f k l n) (put2 l n) := by
  unfold impl_Put2.f
  refine Ev.bind (putBytes_eq l hl n 2 (by decide) 65535) ⟨0, fun _ _ => ?_⟩
  unfold put2
  by_cases h : 0 ≤ n ∧ n ≤ 65535
  · rw [if_pos h, if_pos h]
    congr 2
    simp [beTo, be2]
  · rw [if_neg h, if_neg h]
theorem put2_le (l : List Int) (n : Int) : (put2 l n).length ≤ l.length + 2 := by
  unfold put2
  split
  · simp [be2]
  · omega
theorem put4_le (l : List Int) (n : Int) : (put4 l n).length ≤ l.length + 4 := by
  unfold put4
  split
  · simp [be4]
  · omega
/-- What PutLabel returns. -/
def putLabel (l : List Int) (s : ByteArray) : List Int := if labelOk s = true then l ++ ((s.size : Int) :: bytesOf s) else l
theorem labelOk_size {s : ByteArray} (h : labelOk s = true) : 1 ≤ s.size ∧ s.size ≤ 12 := by
  unfold labelOk at h
  simp only [Bool.and_eq_true, decide_eq_true_eq] at h
  exact h.2
theorem putLabel_le (l : List Int) (s : ByteArray) : (putLabel l s).length ≤ l.length + 13 := by
  unfold putLabel
  split
  · rename_i h
    have := labelOk_size h
    rw [List.length_append, List.length_cons, bytesOf_length]
    omega
  · omega
theorem spec_PutLabel_eq (l : List Int) (hl : l.length ≤ 140737488351232) (s : ByteArray) (hs : s.size ≤ 140737488355328) : Ev (fun k => spec_PutLabel.f k l s) (putLabel l s) := by
  unfold spec_PutLabel.f putLabel
  simp only [Option.bind_some, List.length_nil, List.nil_append, Nat.zero_add]
  have h1 : l.length < 140737488355328 := by omega
  simp only [if_pos h1]
  refine Ev.bind (spec_LabelOk_eq s hs) ?_
  cases h : labelOk s with
  | true =>
    have hz := labelOk_size h
    refine ⟨0, fun _ _ => ?_⟩
    simp only [if_true, Option.bind_some]
    rw [if_pos (by rw [List.length_append]; simp; omega), List.append_assoc, show ((s.size : Int)) % 256 = (s.size : Int) by omega]
    rfl
  | false => exact ⟨0, fun _ _ => rfl⟩
theorem impl_PutLabel_eq (l : List Int) (hl : l.length ≤ 140737488351232) (s : ByteArray) (hs : s.size ≤ 140737488355328) : Ev (fun k => impl_PutLabel.f k l s) (putLabel l s) := by
  unfold impl_PutLabel.f putLabel
  simp only [clone_bytes_eq l (by omega), Option.bind_some]
  refine Ev.bind (impl_LabelOk_eq s hs) ?_
  have h1 : l.length < 140737488355328 := by omega
  cases h : labelOk s with
  | true =>
    have hz := labelOk_size h
    refine ⟨0, fun _ _ => ?_⟩
    simp only [if_true, if_pos h1, Option.bind_some]
    rw [if_pos (by rw [List.length_append]; simp; omega), List.append_assoc, show ((s.size : Int)) % 256 = (s.size : Int) by omega]
    rfl
  | false => exact ⟨0, fun _ _ => rfl⟩
/-- The folded bytes behind the length byte at i. -/
def labAt (l : List Int) (i : Int) : ByteArray := strOfNums (((l.drop (i.toNat + 1)).take (rd l i).toNat).map foldB)
/-- What GetLabel returns. -/
def getLabel (l : List Int) (i : Int) : ByteArray × Int × Bool :=
  if (0 ≤ i ∧ i < (l.length : Int) ∧ rd l i ≤ 12 ∧ rd l i < (l.length : Int) - i) ∧ labelOk (labAt l i) = true then (labAt l i, i + 1 + rd l i, true) else ((⟨#[]⟩ : ByteArray), 0, false)
theorem labelOk_empty : labelOk (⟨#[]⟩ : ByteArray) = false := by
  unfold labelOk
  simp [show (⟨#[]⟩ : ByteArray).size = 0 from rfl]
theorem cut_label (l : List Int) (i n : Int) (h0 : 0 ≤ i) (hn : 0 ≤ n) : (l.take ((i + 1 + n : Int)).toNat).drop ((i + 1 : Int)).toNat = (l.drop (i.toNat + 1)).take n.toNat := by
  rw [List.drop_take]
  have e1 : (i + 1).toNat = i.toNat + 1 := by omega
  have e2 : (i + 1 + n).toNat - (i + 1).toNat = n.toNat := by omega
  rw [e2, e1]
theorem fold_cut (l : List Int) (hb : Bytes l) (i : Int) : strOfNums ((bytesOf (strOfNums ((l.drop (i.toNat + 1)).take (rd l i).toNat))).map foldB) = labAt l i := by
  rw [bytesOf_strOfNums ((hb.drop _).take _)]
  rfl
theorem strOfNums_cut_size (l : List Int) (hn : l.length ≤ 140737488351232) (a b : Nat) : (strOfNums ((l.drop a).take b)).size ≤ 140737488355328 := by
  rw [strOfNums_size, List.length_take, List.length_drop]
  omega
theorem labAt_size (l : List Int) (hn : l.length ≤ 140737488351232) (i : Int) : (labAt l i).size ≤ 140737488355328 := by
  unfold labAt
  rw [strOfNums_size, List.length_map, List.length_take, List.length_drop]
  omega
theorem impl_GetLabel_eq (l : List Int) (hn : l.length ≤ 140737488351232) (hb : Bytes l) (i : Int) (hi : -9223372036854775808 ≤ i ∧ i ≤ 9223372036854775807) : Ev (fun k => impl_GetLabel.f k l i) (getLabel l i) := by
  have hr := rd_byte hb i
  have fail : ¬ ((0 ≤ i ∧ i < (l.length : Int) ∧ rd l i ≤ 12 ∧ rd l i < (l.length : Int) - i)) → Ev (fun k => impl_GetLabel.j0 k l i true) (getLabel l i) := by
    intro h
    refine Ev.step (f := fun _ => some ((⟨#[]⟩ : ByteArray), 0, false)) (fun k => ?_) ⟨0, fun _ _ => ?_⟩
    · simp only [impl_GetLabel.j0]
      rfl
    · unfold getLabel
      rw [if_neg (fun q => h q.1)]
  unfold impl_GetLabel.f
  by_cases h0 : i < 0
  · simp only [if_pos h0]
    exact fail (by omega)
  · simp only [if_neg h0]
    by_cases h1 : i ≥ (l.length : Int)
    · simp only [if_pos h1]
      exact fail (by omega)
    · have g0 : 0 ≤ i := by omega
      have g1 : i < (l.length : Int) := by omega
      simp only [if_neg h1, if_pos g0, if_pos g1]
      by_cases h2 : rd l i > 12
      · simp only [if_pos h2]
        exact fail (by omega)
      · simp only [if_neg h2, wrap_id (x := rd l i) (by omega) (by omega), wrap_id (x := (l.length : Int) - i) (by omega) (by omega)]
        by_cases h3 : rd l i ≥ (l.length : Int) - i
        · simp only [decide_eq_true h3]
          exact fail (by omega)
        · simp only [decide_eq_false h3]
          refine Ev.step (f := fun k => (impl_LabelOk.f k (labAt l i)).bind fun t => if t = true then some (labAt l i, i + 1 + rd l i, true) else some ((⟨#[]⟩ : ByteArray), 0, false)) (fun k => ?_) (Ev.bind (impl_LabelOk_eq (labAt l i) (labAt_size l hn i)) ?_)
          · simp only [impl_GetLabel.j0]
            rw [if_neg (by decide), if_pos g0, if_pos g1, wrap_id (x := i + 1) (by omega) (by omega), wrap_id (x := rd l i) (by omega) (by omega), wrap_id (x := i + 1 + rd l i) (by omega) (by omega), if_pos (by omega), if_pos (by omega), if_pos (by omega), cut_label l i (rd l i) g0 hr.1]
            unfold impl_Fold.f
            rw [if_pos (strOfNums_cut_size l hn _ _), fold_cut l hb i]
            rfl
          · refine ⟨0, fun _ _ => ?_⟩
            unfold getLabel
            cases h : labelOk (labAt l i) with
            | true =>
              rw [if_pos rfl, if_pos ⟨⟨g0, g1, by omega, by omega⟩, rfl⟩]
            | false =>
              rw [if_neg (by decide), if_neg (fun q => by cases q.2)]
theorem spec_GetLabel_eq (l : List Int) (hn : l.length ≤ 140737488351232) (hb : Bytes l) (i : Int) (hi : -9223372036854775808 ≤ i ∧ i ≤ 9223372036854775807) : Ev (fun k => spec_GetLabel.f k l i) (getLabel l i) := by
  have hr := rd_byte hb i
  have none1 : ∀ n, ¬ ((0 ≤ i ∧ i < (l.length : Int) ∧ rd l i ≤ 12 ∧ rd l i < (l.length : Int) - i) ∧ labelOk (labAt l i) = true) → Ev (fun k => spec_GetLabel.j1 k l i n true) (getLabel l i) := by
    intro n h
    refine Ev.step (f := fun _ => some ((⟨#[]⟩ : ByteArray), 0, false)) (fun k => ?_) ⟨0, fun _ _ => ?_⟩
    · simp only [spec_GetLabel.j1]
      rfl
    · unfold getLabel
      rw [if_neg h]
  have fail : ¬ (0 ≤ i ∧ i < (l.length : Int)) → Ev (fun k => spec_GetLabel.j0 k l i true) (getLabel l i) := by
    intro h
    refine Ev.step (f := fun _ => some ((⟨#[]⟩ : ByteArray), 0, false)) (fun k => ?_) ⟨0, fun _ _ => ?_⟩
    · simp only [spec_GetLabel.j0]
      rfl
    · unfold getLabel
      rw [if_neg (fun q => h ⟨q.1.1, q.1.2.1⟩)]
  unfold spec_GetLabel.f
  by_cases h0 : i < 0
  · simp only [if_pos h0]
    exact fail (by omega)
  · simp only [if_neg h0]
    by_cases h1 : i ≥ (l.length : Int)
    · simp only [decide_eq_true h1]
      exact fail (by omega)
    · have g0 : 0 ≤ i := by omega
      have g1 : i < (l.length : Int) := by omega
      simp only [decide_eq_false h1]
      refine Ev.step (f := fun k => if (decide (1 ≤ rd l i) && decide (rd l i ≤ 12)) = true then spec_GetLabel.j1 k l i (rd l i) (decide (rd l i > (l.length : Int) - i - 1)) else spec_GetLabel.j1 k l i (rd l i) true) (fun k => ?_) ?_
      · simp only [spec_GetLabel.j0]
        rw [if_neg (by decide), if_pos g0, if_pos g1, wrap_id (x := rd l i) (by omega) (by omega), wrap_id (x := (l.length : Int) - i) (by omega) (by omega), wrap_id (x := (l.length : Int) - i - 1) (by omega) (by omega), l1In_dec]
        rfl
      · by_cases h2 : 1 ≤ rd l i ∧ rd l i ≤ 12
        · have e2 : (decide (1 ≤ rd l i) && decide (rd l i ≤ 12)) = true := by simp [h2.1, h2.2]
          simp only [e2, if_true]
          by_cases h3 : rd l i > (l.length : Int) - i - 1
          · simp only [decide_eq_true h3]
            exact none1 _ (by omega)
          · simp only [decide_eq_false h3]
            refine Ev.step (f := fun k => (spec_LabelOk.f k (labAt l i)).bind fun t => if t = true then some (labAt l i, i + 1 + rd l i, true) else some ((⟨#[]⟩ : ByteArray), 0, false)) (fun k => ?_) (Ev.bind (spec_LabelOk_eq (labAt l i) (labAt_size l hn i)) ?_)
            · simp only [spec_GetLabel.j1]
              rw [if_neg (by decide), wrap_id (x := i + 1) (by omega) (by omega), wrap_id (x := i + 1 + rd l i) (by omega) (by omega), if_pos (by omega), if_pos (by omega), if_pos (by omega), cut_label l i (rd l i) g0 hr.1]
              unfold spec_Fold.f
              rw [if_pos (strOfNums_cut_size l hn _ _), fold_cut l hb i]
              rfl
            · refine ⟨0, fun _ _ => ?_⟩
              unfold getLabel
              cases h : labelOk (labAt l i) with
              | true =>
                rw [if_pos rfl, if_pos ⟨⟨g0, g1, by omega, by omega⟩, rfl⟩]
              | false =>
                rw [if_neg (by decide), if_neg (fun q => by cases q.2)]
        · have e2 : (decide (1 ≤ rd l i) && decide (rd l i ≤ 12)) = false := by
            rw [Bool.and_eq_false_iff, decide_eq_false_iff_not, decide_eq_false_iff_not]
            omega
          simp only [e2, if_neg (show ¬ (false = true) by decide)]
          refine none1 _ (fun q => ?_)
          have hz : rd l i = 0 := by omega
          have : labAt l i = (⟨#[]⟩ : ByteArray) := by
            unfold labAt
            rw [hz]
            rfl
          rw [this, labelOk_empty] at q
          cases q.2
/-- A label as bytes: its length, and itself. -/
def labW (x : ByteArray) : List Int := (x.size : Int) :: bytesOf x
def wire : List ByteArray → List Int
  | [] => []
  | x :: l => labW x ++ wire l
theorem putLabel_ok (l : List Int) (x : ByteArray) (h : labelOk x = true) : putLabel l x = l ++ labW x := by
  unfold putLabel labW
  rw [if_pos h]
/-- What PutPlain returns. -/
def putPlain (l : List Int) (s : ByteArray) : List Int := if nameOk s = true then l ++ (wire (labelsL s) ++ [0]) else l
theorem nameOk_all {s : ByteArray} (h : nameOk s = true) : (∀ x ∈ labelsL s, labelOk x = true) ∧ s.size ≤ 50 ∧ (labelsL s).length ≤ 6 := by
  unfold nameOk at h
  simp only [Bool.and_eq_true, decide_eq_true_eq] at h
  exact ⟨fun x hx => List.all_eq_true.1 h.1 x hx, h.2.1, h.2.2⟩
theorem spec_PutPlain_loop (ls : List ByteArray) (hn : ls.length ≤ 140737488351232) (hall : ∀ x ∈ ls, labelOk x = true) : ∀ (d i : Nat) (out : List Int), i + d = ls.length → out.length + 13 * d ≤ 140737488351232 →
    Ev (fun k => spec_PutPlain.l0 k out ls (i : Int)) (out ++ (wire (ls.drop i) ++ [0])) := by
  intro d
  induction d with
  | zero =>
    intro i out hi ho
    rw [show ls.drop i = [] from List.drop_of_length_le (by omega)]
    refine Ev.step (f := fun _ => some (out ++ [0])) (fun k => ?_) ⟨0, fun _ _ => rfl⟩
    simp only [spec_PutPlain.l0]
    rw [if_neg (by omega), if_pos (by omega)]
  | succ d ih =>
    intro i out hi ho
    have hil : i < ls.length := by omega
    have w := wrap_succ i ls.length hil (by omega)
    have hx := hall _ (List.getElem_mem hil)
    have hs := labelOk_size hx
    have hp := putLabel_le out ls[i]
    rw [List.drop_eq_getElem_cons hil, wire]
    have e := ih (i + 1) (putLabel out ls[i]) (by omega) (by omega)
    rw [putLabel_ok out _ hx] at e hp
    refine Ev.step (f := fun k => (spec_PutLabel.f k out ls[i]).bind fun t => spec_PutPlain.l0 k t ls ((i + 1 : Nat) : Int)) (fun k => ?_) (Ev.bind (spec_PutLabel_eq out (by omega) ls[i] (by omega)) ?_)
    · simp only [spec_PutPlain.l0]
      rw [if_pos (by omega), if_pos (by omega), rdS_getElem ls i hil, w]
    · rw [putLabel_ok out _ hx]
      simpa using e
theorem impl_PutPlain_loop (ls : List ByteArray) (hn : ls.length ≤ 140737488351232) (hall : ∀ x ∈ ls, labelOk x = true) : ∀ (d i : Nat) (out : List Int), i + d = ls.length → out.length + 13 * d ≤ 140737488351232 →
    Ev (fun k => impl_PutPlain.l0 k out ls (ls.length : Int) (i : Int)) (out ++ (wire (ls.drop i) ++ [0])) := by
  intro d
  induction d with
  | zero =>
    intro i out hi ho
    rw [show ls.drop i = [] from List.drop_of_length_le (by omega)]
    refine Ev.step (f := fun _ => some (out ++ [0])) (fun k => ?_) ⟨0, fun _ _ => rfl⟩
    simp only [impl_PutPlain.l0]
    rw [if_neg (by omega), if_pos (by omega)]
  | succ d ih =>
    intro i out hi ho
    have hil : i < ls.length := by omega
    have w := wrap_succ i ls.length hil (by omega)
    have hx := hall _ (List.getElem_mem hil)
    have hs := labelOk_size hx
    have hp := putLabel_le out ls[i]
    rw [List.drop_eq_getElem_cons hil, wire]
    have e := ih (i + 1) (putLabel out ls[i]) (by omega) (by omega)
    rw [putLabel_ok out _ hx] at e hp
    refine Ev.step (f := fun k => (impl_PutLabel.f k out ls[i]).bind fun t => impl_PutPlain.l0 k t ls (ls.length : Int) ((i + 1 : Nat) : Int)) (fun k => ?_) (Ev.bind (impl_PutLabel_eq out (by omega) ls[i] (by omega)) ?_)
    · simp only [impl_PutPlain.l0]
      rw [if_pos (by omega), if_pos (by omega), if_pos (by omega), rdS_getElem ls i hil, w]
    · rw [putLabel_ok out _ hx]
      simpa using e
theorem spec_PutPlain_eq (l : List Int) (hl : l.length ≤ 140737488350000) (s : ByteArray) (hs : s.size ≤ 1048576) : Ev (fun k => spec_PutPlain.f k l s) (putPlain l s) := by
  unfold spec_PutPlain.f putPlain
  simp only [Option.bind_some, List.length_nil, List.nil_append, Nat.zero_add]
  refine Ev_if (show l.length < 140737488355328 by omega) (Ev.bind (spec_NameOk_eq s hs) ?_)
  cases h : nameOk s with
  | false => exact Ev_ifn (by decide) ⟨0, fun _ _ => rfl⟩
  | true =>
    obtain ⟨hall, _, hn⟩ := nameOk_all h
    refine Ev_if rfl (Ev.bind (spec_Labels_eq s hs) ?_)
    rw [if_pos rfl]
    have := spec_PutPlain_loop (labelsL s) (by omega) hall (labelsL s).length 0 l (by omega) (by omega)
    simpa using this
theorem impl_PutPlain_eq (l : List Int) (hl : l.length ≤ 140737488350000) (s : ByteArray) (hs : s.size ≤ 1048576) : Ev (fun k => impl_PutPlain.f k l s) (putPlain l s) := by
  unfold impl_PutPlain.f putPlain
  rw [clone_bytes_eq l (by omega), impl_Labels_eq s (by omega)]
  simp only [Option.bind_some]
  refine Ev.bind (impl_NameOk_eq s hs) ?_
  cases h : nameOk s with
  | false => exact Ev_ifn (by decide) ⟨0, fun _ _ => rfl⟩
  | true =>
    obtain ⟨hall, _, hn⟩ := nameOk_all h
    refine Ev_if rfl ?_
    rw [if_pos rfl]
    have := impl_PutPlain_loop (labelsL s) (by omega) hall (labelsL s).length 0 l (by omega) (by omega)
    simpa using this
theorem wire_le : ∀ (ls : List ByteArray), (∀ x ∈ ls, labelOk x = true) → (wire ls).length ≤ 13 * ls.length
  | [], _ => Nat.zero_le _
  | x :: ls, h => by
    have h1 := labelOk_size (h x List.mem_cons_self)
    have h2 := wire_le ls (fun y hy => h y (List.mem_cons_of_mem _ hy))
    have h3 := bytesOf_length x
    unfold wire labW
    simp only [List.length_append, List.length_cons]
    omega
theorem putPlain_le (l : List Int) (s : ByteArray) : (putPlain l s).length ≤ l.length + 79 := by
  unfold putPlain
  split
  · rename_i h
    obtain ⟨hall, _, hn⟩ := nameOk_all h
    have := wire_le _ hall
    simp only [List.length_append, List.length_cons, List.length_nil]
    omega
  · omega
theorem spec_Put4_eq (l : List Int) (hl : l.length ≤ 140737488351232) (n : Int) : spec_Put4.f l n = some (put4 l n) := by
  unfold spec_Put4.f put4
  simp only [Option.bind_some, List.length_nil, List.nil_append, Nat.zero_add]
  rw [if_pos (by omega), l1In_dec]
  simp only [Option.bind_some]
  by_cases h : 0 ≤ n ∧ n ≤ 2147483647
  · rw [if_pos h, decide_eq_true h.1, decide_eq_true h.2, bits_low8 n h.1 (by omega), bits_low8 (n / 65536) (by omega) (by omega), bits_low8 (n / 256) (by omega) (by omega)]
    simp only [Bool.and_self, if_true, List.length_cons, List.length_nil]
    rw [if_pos (by omega)]
    congr 2
    unfold be4
    simp only [Int.emod_emod]
  · rw [if_neg h]
    have : (decide (0 ≤ n) && decide (n ≤ 2147483647)) = false := by
      rw [Bool.and_eq_false_iff, decide_eq_false_iff_not, decide_eq_false_iff_not]
      omega
    rw [this]
    rfl
theorem impl_Put4_eq (l : List Int) (hl : l.length ≤ 140737488351232) (n : Int) : Ev (fun k => impl_Put4.f k l n) (put4 l n) := by
  unfold impl_Put4.f
  refine Ev.bind (putBytes_eq l hl n 4 (by decide) 2147483647) ⟨0, fun _ _ => ?_⟩
  unfold put4
  by_cases h : 0 ≤ n ∧ n ≤ 2147483647
  · rw [if_pos h, if_pos h]
    congr 2
    simp [beTo, be4]
  · rw [if_neg h, if_neg h]
/-- What PutData returns. -/
def putData (a0 : ByteArray) (a1 a2 a3 : Int) (a4 a5 : ByteArray) : List Int :=
  if recOk a0 a1 a2 a3 a4 a5 = true then (if a1 = 1 then put4 [] a3 else if a1 = 6 then put4 (putPlain [] a4) a3 else if a1 = 16 then ((a5.size : Int) % 256) :: bytesOf a5 else putPlain [] a4) else []
theorem recOk_type {a0 : ByteArray} {a1 a2 a3 : Int} {a4 a5 : ByteArray} (h : recOk a0 a1 a2 a3 a4 a5 = true) : a1 = 1 ∨ a1 = 2 ∨ a1 = 5 ∨ a1 = 6 ∨ a1 = 16 := by
  unfold recOk at h
  simp only [Bool.and_eq_true] at h
  have h3 := h.2.2
  by_cases c1 : a1 = 1
  · exact .inl c1
  · rw [if_neg c1] at h3
    by_cases c2 : a1 = 2 ∨ a1 = 5
    · omega
    · rw [if_neg c2] at h3
      by_cases c6 : a1 = 6
      · omega
      · rw [if_neg c6] at h3
        by_cases c16 : a1 = 16
        · omega
        · rw [if_neg c16] at h3
          cases h3
theorem putData_le (a0 : ByteArray) (a1 a2 a3 : Int) (a4 a5 : ByteArray) : (putData a0 a1 a2 a3 a4 a5).length ≤ 100 + a5.size := by
  unfold putData
  have h1 := putPlain_le [] a4
  have h2 := put4_le [] a3
  have h3 := put4_le (putPlain [] a4) a3
  have h4 := bytesOf_length a5
  simp only [List.length_nil] at h1 h2
  split
  · split
    · omega
    · split
      · omega
      · split
        · rw [List.length_cons]
          omega
        · omega
  · simp
theorem spec_PutData_eq (a0 : ByteArray) (a1 a2 a3 : Int) (a4 a5 : ByteArray) (h0 : a0.size ≤ 1048576) (h4 : a4.size ≤ 1048576) (h5 : a5.size ≤ 1048576) : Ev (fun k => spec_PutData.f k a0 a1 a2 a3 a4 a5) (putData a0 a1 a2 a3 a4 a5) := by
  unfold spec_PutData.f putData
  refine Ev.bind (spec_RecordOk_eq a0 a1 a2 a3 a4 a5 h0 h4 h5) ?_
  have hp := putPlain_le [] a4
  simp only [List.length_nil] at hp
  cases h : recOk a0 a1 a2 a3 a4 a5 with
  | false => exact Ev_ifn (by decide) (Ev_some _)
  | true =>
    refine Ev_if rfl ?_
    rw [if_pos rfl]
    by_cases c1 : a1 = 1
    · rw [if_pos c1]
      refine Ev_if c1 ?_
      rw [spec_Put4_eq [] (by simp)]
      exact Ev_some _
    · rw [if_neg c1]
      refine Ev_ifn c1 ?_
      by_cases c6 : a1 = 6
      · rw [if_pos c6]
        refine Ev_if c6 (Ev.bind (spec_PutPlain_eq [] (by simp) a4 h4) ?_)
        rw [spec_Put4_eq _ (by omega)]
        exact Ev_some _
      · rw [if_neg c6]
        refine Ev_ifn c6 ?_
        by_cases c16 : a1 = 16
        · rw [if_pos c16]
          refine Ev_if c16 ⟨0, fun _ _ => ?_⟩
          rw [Option.bind_some, if_pos (by rw [List.length_singleton]; omega)]
          rfl
        · rw [if_neg c16]
          exact Ev_ifn c16 (Ev_ret (spec_PutPlain_eq [] (by simp) a4 h4))
theorem impl_PutData_eq (a0 : ByteArray) (a1 a2 a3 : Int) (a4 a5 : ByteArray) (h0 : a0.size ≤ 1048576) (h4 : a4.size ≤ 1048576) (h5 : a5.size ≤ 1048576) : Ev (fun k => impl_PutData.f k a0 a1 a2 a3 a4 a5) (putData a0 a1 a2 a3 a4 a5) := by
  unfold impl_PutData.f putData
  refine Ev.bind (impl_RecordOk_eq a0 a1 a2 a3 a4 a5 h0 h4 h5) ?_
  have hp := putPlain_le [] a4
  simp only [List.length_nil] at hp
  cases h : recOk a0 a1 a2 a3 a4 a5 with
  | false => exact Ev_ifn (by decide) (Ev_some _)
  | true =>
    have ht := recOk_type h
    refine Ev_if rfl ?_
    rw [if_pos rfl]
    by_cases c1 : a1 = 1
    · rw [if_pos c1]
      exact Ev_if c1 (Ev_ret (impl_Put4_eq [] (by simp) a3))
    · rw [if_neg c1]
      refine Ev_ifn c1 ?_
      have key : ∀ b : Bool, b = decide (a1 = 2 ∨ a1 = 5) → Ev (fun k => impl_PutData.j0 k a1 b a0 a1 a2 a3 a4 a5) (if a1 = 6 then put4 (putPlain [] a4) a3 else if a1 = 16 then ((a5.size : Int) % 256) :: bytesOf a5 else putPlain [] a4) := by
        intro b hb
        by_cases c : a1 = 2 ∨ a1 = 5
        · rw [decide_eq_true c] at hb
          subst hb
          rw [if_neg (by omega), if_neg (by omega)]
          refine Ev.step (fun k => ?_) (Ev_ret (impl_PutPlain_eq [] (by simp) a4 h4))
          simp only [impl_PutData.j0, if_true]
        · rw [decide_eq_false c] at hb
          subst hb
          by_cases c6 : a1 = 6
          · rw [if_pos c6]
            refine Ev.step (fun k => ?_) (Ev.bind (f := fun k t => (impl_Put4.f k t a3).bind fun u => some u) (impl_PutPlain_eq [] (by simp) a4 h4) (Ev_ret (impl_Put4_eq (putPlain [] a4) (by omega) a3)))
            simp only [impl_PutData.j0]
            rw [if_neg (by decide), if_pos c6]
          · rw [if_neg c6, if_pos (by omega)]
            refine Ev.step (f := fun _ => some (((a5.size : Int) % 256) :: bytesOf a5)) (fun k => ?_) (Ev_some _)
            simp only [impl_PutData.j0]
            rw [if_neg (by decide), if_neg c6, Option.bind_some, if_pos (by rw [List.length_singleton]; omega)]
            rfl
      by_cases c2 : a1 = 2
      · exact Ev_if c2 (key _ (by rw [decide_eq_true (Or.inl c2)]; simpa using c2))
      · exact Ev_ifn c2 (key _ (by by_cases c5 : a1 = 5 <;> simp [c2, c5]))
theorem cutA_noDot : ∀ (x acc t : List UInt8), (∀ c ∈ x, c ≠ 46) → cutA acc (x ++ t) = cutA (acc ++ x) t
  | [], acc, t, _ => by simp
  | c :: x, acc, t, h => by
    have hc := h c List.mem_cons_self
    have e := cutA_noDot x (acc ++ [c]) t (fun z hz => h z (List.mem_cons_of_mem _ hz))
    rw [List.cons_append, cutA, if_neg hc, e, List.append_assoc]
    rfl
theorem cut_joinS : ∀ (l : List ByteArray) (x : ByteArray), (∀ y ∈ x :: l, ∀ c ∈ y.data.toList, c ≠ 46) → cutA [] (joinS (x :: l)).data.toList = (x :: l).map (·.data.toList)
  | [], x, h => by
    have e := cutA_noDot x.data.toList [] [] (h x List.mem_cons_self)
    rw [List.append_nil] at e
    show cutA [] x.data.toList = _
    rw [e]
    rfl
  | y :: l, x, h => by
    have ih := cut_joinS l y (fun z hz => h z (List.mem_cons_of_mem _ hz))
    have e := cutA_noDot x.data.toList [] (46 :: (joinS (y :: l)).data.toList) (h x List.mem_cons_self)
    have hd : (joinS (x :: y :: l)).data.toList = x.data.toList ++ 46 :: (joinS (y :: l)).data.toList := by
      rw [joinS, ByteArray.data_append, ByteArray.data_append, Array.toList_append, Array.toList_append]
      rfl
    rw [hd, e, List.nil_append, cutA, if_pos rfl, ih]
    rfl
theorem labelOk_noDot {x : ByteArray} (h : labelOk x = true) : ∀ c ∈ x.data.toList, c ≠ 46 := by
  intro c hc e
  subst e
  unfold labelOk at h
  simp only [Bool.and_eq_true] at h
  have hm : (46 : Int) ∈ bytesOf x := List.mem_map.2 ⟨46, hc, rfl⟩
  have := List.all_eq_true.1 h.1 46 hm
  revert this
  decide
theorem labelOk_ne {x : ByteArray} (h : labelOk x = true) : x.data.toList ≠ [] := by
  have := (labelOk_size h).1
  intro e
  rw [size_data, e] at this
  exact absurd this (by decide)
theorem joinS_ne {x : ByteArray} {l : List ByteArray} (h : x.data.toList ≠ []) : (joinS (x :: l)).data.toList ≠ [] := by
  cases l with
  | nil => exact h
  | cons y l =>
    rw [joinS, ByteArray.data_append, Array.toList_append]
    intro e
    exact h (List.append_eq_nil_iff.1 e).1
/-- The labels of joined labels are they. -/
theorem labels_join (l : List ByteArray) (h : ∀ x ∈ l, labelOk x = true) : labelsL (joinS l) = l := by
  cases l with
  | nil => rfl
  | cons x l =>
    unfold labelsL
    rw [if_neg (joinS_ne (labelOk_ne (h x List.mem_cons_self))), cut_joinS l x (fun y hy => labelOk_noDot (h y hy)), List.map_map]
    exact List.map_id'' (fun y => mkB_data y) _
theorem joinS_snoc : ∀ (l : List ByteArray) (x : ByteArray), l ≠ [] → joinS (l ++ [x]) = (joinS l ++ (⟨#[46]⟩ : ByteArray)) ++ x
  | [], _, h => absurd rfl h
  | [y], x, _ => by
    show y ++ ((⟨#[46]⟩ : ByteArray) ++ x) = _
    rw [ByteArray.append_assoc]
    rfl
  | y :: z :: l, x, _ => by
    have ih := joinS_snoc (z :: l) x (List.cons_ne_nil _ _)
    show y ++ ((⟨#[46]⟩ : ByteArray) ++ joinS ((z :: l) ++ [x])) = _
    rw [ih, joinS, @ByteArray.append_assoc y, @ByteArray.append_assoc y, @ByteArray.append_assoc (⟨#[46]⟩ : ByteArray), @ByteArray.append_assoc (⟨#[46]⟩ : ByteArray)]
theorem nameOk_join (l : List ByteArray) (h : ∀ x ∈ l, labelOk x = true) : nameOk (joinS l) = (decide ((joinS l).size ≤ 50) && decide (l.length ≤ 6)) := by
  unfold nameOk
  rw [labels_join l h, List.all_eq_true.2 h, Bool.true_and]
theorem szSs_ok : ∀ (l : List ByteArray), (∀ x ∈ l, labelOk x = true) → szSs l ≤ 12 * l.length
  | [], _ => Nat.zero_le _
  | x :: l, h => by
    have h1 := labelOk_size (h x List.mem_cons_self)
    have h2 := szSs_ok l (fun y hy => h y (List.mem_cons_of_mem _ hy))
    rw [szSs_cons, List.length_cons]
    omega
/-- Where a jump goes. -/
def toOf (b : List Int) (i : Nat) : Int := 256 * (rd b i - 192) + rd b ((i + 1 : Nat) : Int)
abbrev NameT := ByteArray × Int × Int × Int
def badName (c j : Int) : NameT := ((⟨#[]⟩ : ByteArray), 0, c, j)
theorem rd_rng {b : List Int} (hb : Bytes b) (i : Int) : wrap64 (rd b i) = rd b i := by
  have := rd_byte hb i
  exact wrap_id (by omega) (by omega)
theorem toOf_rng {b : List Int} (hb : Bytes b) (i : Nat) (h : 192 ≤ rd b i) : 0 ≤ toOf b i ∧ toOf b i ≤ 16383 := by
  have h1 := rd_byte hb (i : Int)
  have h2 := rd_byte hb ((i + 1 : Nat) : Int)
  unfold toOf
  omega
theorem toOf_wrap {b : List Int} (hb : Bytes b) (i : Nat) (h : 192 ≤ rd b i) : wrap64 ((wrap64 (256 * (wrap64 (rd b i - 192)))) + rd b ((i + 1 : Nat) : Int)) = toOf b i := by
  have h1 := rd_byte hb (i : Int)
  have h2 := rd_byte hb ((i + 1 : Nat) : Int)
  rw [wrap_id (x := rd b i - 192) (by omega) (by omega), wrap_id (x := 256 * (rd b i - 192)) (by omega) (by omega), wrap_id (x := 256 * (rd b i - 192) + rd b ((i + 1 : Nat) : Int)) (by omega) (by omega)]
  rfl
theorem spec_walk_out (b : List Int) (hn : b.length ≤ 140737488350000) (i : Nat) (s : ByteArray) (nx lim j : Int) (hi : b.length ≤ i) : Ev (fun k => spec_l4Walk.l0 k b (i : Int) s nx lim j) (badName 1 j) := by
  refine Ev.step (f := fun k => spec_l4Walk.j1 k b (i : Int) s nx lim j true) (fun k => ?_) (Ev.step (f := fun _ => some (badName 1 j)) (fun k => ?_) ⟨0, fun _ _ => rfl⟩)
  · simp only [spec_l4Walk.l0]
    rw [if_neg (by omega), decide_eq_true (by omega)]
  · simp only [spec_l4Walk.j1, if_true]
    rfl
theorem spec_walk_in (b : List Int) (hn : b.length ≤ 140737488350000) (i : Nat) (s : ByteArray) (nx lim j : Int) {r : NameT} (hi : i < b.length) (h : Ev (fun k => spec_l4Walk.j1 k b (i : Int) s nx lim j false) r) : Ev (fun k => spec_l4Walk.l0 k b (i : Int) s nx lim j) r := by
  refine Ev.step (fun k => ?_) h
  simp only [spec_l4Walk.l0]
  rw [if_neg (by omega), decide_eq_false (by omega)]
theorem spec_walk_end (b : List Int) (hn : b.length ≤ 140737488350000) (hb : Bytes b) (i : Nat) (s : ByteArray) (nx lim j : Int) (hi : i < b.length) (h : rd b i = 0) : Ev (fun k => spec_l4Walk.l0 k b (i : Int) s nx lim j) (s, (if nx < 0 then ((i + 1 : Nat) : Int) else nx), 0, j) := by
  have w := wrap_succ i b.length hi (by omega)
  refine spec_walk_in b hn i s nx lim j hi (Ev.step (f := fun _ => some (s, (if nx < 0 then ((i + 1 : Nat) : Int) else nx), 0, j)) (fun k => ?_) ⟨0, fun _ _ => rfl⟩)
  simp only [spec_l4Walk.j1]
  rw [if_neg (by decide), if_pos (by omega), if_pos (by omega), rd_rng hb, if_pos h, w]
  split <;> rfl
theorem spec_walk_cut (b : List Int) (hn : b.length ≤ 140737488350000) (hb : Bytes b) (i : Nat) (s : ByteArray) (nx lim j : Int) (hi : i < b.length) (h : 192 ≤ rd b i) (h2 : b.length ≤ i + 1) : Ev (fun k => spec_l4Walk.l0 k b (i : Int) s nx lim j) (badName 1 j) := by
  have w := wrap_succ i b.length hi (by omega)
  refine spec_walk_in b hn i s nx lim j hi (Ev.step (f := fun _ => some (badName 1 j)) (fun k => ?_) ⟨0, fun _ _ => rfl⟩)
  simp only [spec_l4Walk.j1]
  rw [if_neg (by decide), if_pos (by omega), if_pos (by omega), rd_rng hb, if_neg (by omega), if_pos (by omega), w, if_pos (by omega)]
  rfl
theorem spec_walk_high (b : List Int) (hn : b.length ≤ 140737488350000) (hb : Bytes b) (i : Nat) (s : ByteArray) (nx lim j : Int) (hi : i + 1 < b.length) (h : 192 ≤ rd b i) (h2 : lim ≤ toOf b i) : Ev (fun k => spec_l4Walk.l0 k b (i : Int) s nx lim j) (badName 3 j) := by
  have w := wrap_succ i b.length (by omega) (by omega)
  refine spec_walk_in b hn i s nx lim j (by omega) (Ev.step (f := fun _ => some (badName 3 j)) (fun k => ?_) ⟨0, fun _ _ => rfl⟩)
  simp only [spec_l4Walk.j1]
  rw [if_neg (by decide), if_pos (by omega), if_pos (by omega), rd_rng hb, if_neg (by omega), if_pos (by omega), w, if_neg (by omega), if_pos (by omega), if_pos (by omega), rd_rng hb, toOf_wrap hb i h, if_pos h2]
  rfl
theorem spec_walk_jump (b : List Int) (hn : b.length ≤ 140737488350000) (hb : Bytes b) (i : Nat) (s : ByteArray) (nx lim j : Int) {r : NameT} (hi : i + 1 < b.length) (h : 192 ≤ rd b i) (h2 : toOf b i < lim) (hj : 0 ≤ j ∧ j ≤ 1000000000000000000) (hr : Ev (fun k => spec_l4Walk.l0 k b (toOf b i) s (if nx < 0 then ((i + 2 : Nat) : Int) else nx) (toOf b i) (j + 1)) r) : Ev (fun k => spec_l4Walk.l0 k b (i : Int) s nx lim j) r := by
  have w := wrap_succ i b.length (by omega) (by omega)
  have w2 : wrap64 ((i : Int) + 2) = ((i + 2 : Nat) : Int) := by rw [wrap_id (by omega) (by omega)]; omega
  refine spec_walk_in b hn i s nx lim j (by omega) (Ev.step (fun k => ?_) hr)
  simp only [spec_l4Walk.j1]
  rw [if_neg (by decide), if_pos (by omega), if_pos (by omega), rd_rng hb, if_neg (by omega), if_pos (by omega), w, if_neg (by omega), if_pos (by omega), if_pos (by omega), rd_rng hb, toOf_wrap hb i h, if_neg (by omega), w2, wrap_id (x := j + 1) (by omega) (by omega)]
  split <;> rfl
theorem spec_walk_lab (b : List Int) (hn : b.length ≤ 140737488350000) (hb : Bytes b) (i : Nat) (s : ByteArray) (nx lim j : Int) {r : NameT} (hi : i < b.length) (h : 1 ≤ rd b i) (h1 : rd b i < 192) (d : Bool) (hd : d = (decide (rd b i ≤ 12) && decide ((b.length : Int) - i ≤ rd b i))) (hr : Ev (fun k => spec_l4Walk.j2 k b (i : Int) s nx lim j d) r) : Ev (fun k => spec_l4Walk.l0 k b (i : Int) s nx lim j) r := by
  refine spec_walk_in b hn i s nx lim j hi (Ev.step (fun k => ?_) hr)
  have e : wrap64 (wrap64 ((b.length : Int) - (i : Int)) - 1) = (b.length : Int) - (i : Int) - 1 := by rw [wrap_id (x := (b.length : Int) - (i : Int)) (by omega) (by omega), wrap_id (by omega) (by omega)]
  simp only [spec_l4Walk.j1]
  rw [if_neg (by decide), if_pos (by omega), if_pos (by omega), rd_rng hb, if_neg (by omega), if_neg (by omega), e]
  by_cases c : rd b i ≤ 12
  · rw [if_pos c, hd, decide_eq_true c, Bool.true_and]
    congr 1
    exact decide_eq_decide.2 (by omega)
  · rw [if_neg c, hd, decide_eq_false c, Bool.false_and]
theorem impl_walk_out (b : List Int) (hn : b.length ≤ 140737488350000) (i : Nat) (ls : List ByteArray) (nx lim j : Int) (hi : b.length ≤ i) : Ev (fun k => impl_read.l0 k b ls nx lim j (i : Int)) (badName 1 j) := by
  refine Ev.step (f := fun k => impl_read.j1 k b ls nx lim j (i : Int) true) (fun k => ?_) (Ev.step (f := fun _ => some (badName 1 j)) (fun k => ?_) ⟨0, fun _ _ => rfl⟩)
  · simp only [impl_read.l0]
    rw [if_neg (by omega), decide_eq_true (by omega)]
  · simp only [impl_read.j1, if_true]
    rfl
theorem impl_walk_in (b : List Int) (hn : b.length ≤ 140737488350000) (i : Nat) (ls : List ByteArray) (nx lim j : Int) {r : NameT} (hi : i < b.length) (h : Ev (fun k => impl_read.j1 k b ls nx lim j (i : Int) false) r) : Ev (fun k => impl_read.l0 k b ls nx lim j (i : Int)) r := by
  refine Ev.step (fun k => ?_) h
  simp only [impl_read.l0]
  rw [if_neg (by omega), decide_eq_false (by omega)]
theorem impl_walk_end (b : List Int) (hn : b.length ≤ 140737488350000) (hb : Bytes b) (i : Nat) (ls : List ByteArray) (nx lim j : Int) (hi : i < b.length) (h : rd b i = 0) (hz : szSs ls + ls.length ≤ 140737488355328) : Ev (fun k => impl_read.l0 k b ls nx lim j (i : Int)) (joinS ls, (if nx < 0 then ((i + 1 : Nat) : Int) else nx), 0, j) := by
  have w := wrap_succ i b.length hi (by omega)
  refine impl_walk_in b hn i ls nx lim j hi (Ev.step (f := fun _ => some (joinS ls, (if nx < 0 then ((i + 1 : Nat) : Int) else nx), 0, j)) (fun k => ?_) ⟨0, fun _ _ => rfl⟩)
  simp only [impl_read.j1]
  rw [if_neg (by decide), if_pos (by omega), if_pos (by omega), rd_rng hb, if_pos h, w, impl_JoinLabels_eq ls hz]
  simp only [Option.bind_some]
  split <;> rfl
theorem impl_walk_cut (b : List Int) (hn : b.length ≤ 140737488350000) (hb : Bytes b) (i : Nat) (ls : List ByteArray) (nx lim j : Int) (hi : i < b.length) (h : 192 ≤ rd b i) (h2 : b.length ≤ i + 1) : Ev (fun k => impl_read.l0 k b ls nx lim j (i : Int)) (badName 1 j) := by
  have w := wrap_succ i b.length hi (by omega)
  refine impl_walk_in b hn i ls nx lim j hi (Ev.step (f := fun _ => some (badName 1 j)) (fun k => ?_) ⟨0, fun _ _ => rfl⟩)
  simp only [impl_read.j1]
  rw [if_neg (by decide), if_pos (by omega), if_pos (by omega), rd_rng hb, if_neg (by omega), if_pos (by omega), w, if_pos (by omega)]
  rfl
theorem impl_walk_high (b : List Int) (hn : b.length ≤ 140737488350000) (hb : Bytes b) (i : Nat) (ls : List ByteArray) (nx lim j : Int) (hi : i + 1 < b.length) (h : 192 ≤ rd b i) (h2 : lim ≤ toOf b i) : Ev (fun k => impl_read.l0 k b ls nx lim j (i : Int)) (badName 3 j) := by
  have w := wrap_succ i b.length (by omega) (by omega)
  refine impl_walk_in b hn i ls nx lim j (by omega) (Ev.step (f := fun _ => some (badName 3 j)) (fun k => ?_) ⟨0, fun _ _ => rfl⟩)
  simp only [impl_read.j1]
  rw [if_neg (by decide), if_pos (by omega), if_pos (by omega), rd_rng hb, if_neg (by omega), if_pos (by omega), w, if_neg (by omega), if_pos (by omega), if_pos (by omega), rd_rng hb, toOf_wrap hb i h, if_pos h2]
  rfl
theorem impl_walk_jump (b : List Int) (hn : b.length ≤ 140737488350000) (hb : Bytes b) (i : Nat) (ls : List ByteArray) (nx lim j : Int) {r : NameT} (hi : i + 1 < b.length) (h : 192 ≤ rd b i) (h2 : toOf b i < lim) (hj : 0 ≤ j ∧ j ≤ 1000000000000000000) (hr : Ev (fun k => impl_read.l0 k b ls (if nx < 0 then ((i + 2 : Nat) : Int) else nx) (toOf b i) (j + 1) (toOf b i)) r) : Ev (fun k => impl_read.l0 k b ls nx lim j (i : Int)) r := by
  have w := wrap_succ i b.length (by omega) (by omega)
  have w2 : wrap64 ((i : Int) + 2) = ((i + 2 : Nat) : Int) := by rw [wrap_id (by omega) (by omega)]; omega
  refine impl_walk_in b hn i ls nx lim j (by omega) (Ev.step (fun k => ?_) hr)
  simp only [impl_read.j1]
  rw [if_neg (by decide), if_pos (by omega), if_pos (by omega), rd_rng hb, if_neg (by omega), if_pos (by omega), w, if_neg (by omega), if_pos (by omega), if_pos (by omega), rd_rng hb, toOf_wrap hb i h, if_neg (by omega), w2, wrap_id (x := j + 1) (by omega) (by omega)]
  split <;> rfl
theorem impl_walk_form (b : List Int) (hn : b.length ≤ 140737488350000) (hb : Bytes b) (i : Nat) (ls : List ByteArray) (nx lim j : Int) (hi : i < b.length) (h : 12 < rd b i) (h1 : rd b i < 192) : Ev (fun k => impl_read.l0 k b ls nx lim j (i : Int)) (badName 2 j) := by
  refine impl_walk_in b hn i ls nx lim j hi (Ev.step (f := fun _ => some (badName 2 j)) (fun k => ?_) ⟨0, fun _ _ => rfl⟩)
  simp only [impl_read.j1]
  rw [if_neg (by decide), if_pos (by omega), if_pos (by omega), rd_rng hb, if_neg (by omega), if_neg (by omega), if_pos (by omega)]
  rfl
theorem impl_walk_short (b : List Int) (hn : b.length ≤ 140737488350000) (hb : Bytes b) (i : Nat) (ls : List ByteArray) (nx lim j : Int) (hi : i < b.length) (h : 1 ≤ rd b i) (h1 : rd b i ≤ 12) (h2 : (b.length : Int) - i ≤ rd b i) : Ev (fun k => impl_read.l0 k b ls nx lim j (i : Int)) (badName 1 j) := by
  refine impl_walk_in b hn i ls nx lim j hi (Ev.step (f := fun _ => some (badName 1 j)) (fun k => ?_) ⟨0, fun _ _ => rfl⟩)
  simp only [impl_read.j1]
  rw [if_neg (by decide), if_pos (by omega), if_pos (by omega), rd_rng hb, if_neg (by omega), if_neg (by omega), if_neg (by omega), wrap_id (x := (b.length : Int) - (i : Int)) (by omega) (by omega), if_pos (by omega)]
  rfl
theorem impl_walk_lab (b : List Int) (hn : b.length ≤ 140737488350000) (hb : Bytes b) (i : Nat) (ls : List ByteArray) (nx lim j : Int) {r : NameT} (hi : i < b.length) (h : 1 ≤ rd b i) (h1 : rd b i ≤ 12) (h2 : rd b i < (b.length : Int) - i) (hl : ls.length < 8796093022208) (hz : ∀ p : ByteArray, p.size ≤ 12 → szSs (ls ++ [p]) + (ls ++ [p]).length ≤ 1048576)
    (hbad : (getLabel b i).2.2 = false → r = badName 2 j)
    (hgood : (getLabel b i).2.2 = true → (nameOk (joinS (ls ++ [(getLabel b i).1])) = false → r = badName 4 j) ∧ (nameOk (joinS (ls ++ [(getLabel b i).1])) = true → Ev (fun k => impl_read.l0 k b (ls ++ [(getLabel b i).1]) nx lim j (getLabel b i).2.1) r)) (hsz : (getLabel b i).2.2 = true → (getLabel b i).1.size ≤ 12) : Ev (fun k => impl_read.l0 k b ls nx lim j (i : Int)) r := by
  refine impl_walk_in b hn i ls nx lim j hi (Ev.step (f := fun k => (impl_GetLabel.f k b (i : Int)).bind fun t => if t.2.2 = true then ((impl_JoinLabels.f (ls ++ [t.1])).bind fun u => (impl_NameOk.f k u).bind fun v => if v = true then impl_read.l0 k b (ls ++ [t.1]) nx lim j t.2.1 else some (badName 4 j)) else some (badName 2 j)) (fun k => ?_) ?_)
  · simp only [impl_read.j1]
    rw [if_neg (by decide), if_pos (by omega), if_pos (by omega), rd_rng hb, if_neg (by omega), if_neg (by omega), if_neg (by omega), wrap_id (x := (b.length : Int) - (i : Int)) (by omega) (by omega), if_neg (by omega)]
    simp only [if_pos hl, Option.bind_some]
    rfl
  · refine Ev.bind (impl_GetLabel_eq b (by omega) hb i (by omega)) ?_
    cases hg : (getLabel b i).2.2 with
    | false =>
      rw [hbad hg]
      exact Ev_ifn (by decide) ⟨0, fun _ _ => rfl⟩
    | true =>
      obtain ⟨g1, g2⟩ := hgood hg
      have h3 := hz _ (hsz hg)
      have h4 := joinS_size (ls ++ [(getLabel b i).1])
      rw [impl_JoinLabels_eq _ (by omega)]
      simp only [Option.bind_some]
      refine Ev_if (by trivial) (Ev.bind (impl_NameOk_eq _ (by omega)) ?_)
      cases hk : nameOk (joinS (ls ++ [(getLabel b i).1])) with
      | false =>
        rw [g1 hk]
        exact Ev_ifn (by decide) ⟨0, fun _ _ => rfl⟩
      | true => exact Ev_if rfl (g2 hk)
theorem getLabel_good {b : List Int} (hb : Bytes b) {i : Int} (h : (getLabel b i).2.2 = true) :
    labelOk (getLabel b i).1 = true ∧ (getLabel b i).2.1 = i + 1 + rd b i ∧ 1 ≤ rd b i ∧ rd b i ≤ 12 ∧ rd b i < (b.length : Int) - i ∧ 1 ≤ (getLabel b i).1.size ∧ (getLabel b i).1.size ≤ 12 := by
  have hr := rd_byte hb i
  unfold getLabel at h ⊢
  split at h
  · rename_i c
    rw [if_pos c]
    obtain ⟨⟨c1, c2, c3, c4⟩, c5⟩ := c
    have hs := labelOk_size c5
    refine ⟨c5, rfl, ?_, c3, c4, hs⟩
    have e : (labAt b i).size = (rd b i).toNat := by
      unfold labAt
      rw [strOfNums_size, List.length_map, List.length_take, List.length_drop]
      omega
    omega
  · cases h
theorem empty_toList : (⟨#[]⟩ : ByteArray).toList = [] := by
  rw [ByteArray.toList_eq]
theorem join_toList_nil {ls : List ByteArray} (hall : ∀ x ∈ ls, labelOk x = true) : (joinS ls).toList = [] ↔ ls = [] := by
  constructor
  · intro h
    cases ls with
    | nil => rfl
    | cons x l =>
      rw [ByteArray.toList_eq] at h
      exact absurd h (joinS_ne (labelOk_ne (hall x List.mem_cons_self)))
  · rintro rfl
    exact empty_toList
theorem spec_walk_go (b : List Int) (hn : b.length ≤ 140737488350000) (hb : Bytes b) (i : Nat) (ls : List ByteArray) (nx lim j : Int) {r : NameT} (hi : i < b.length) (hl : ls.length ≤ 6) (hall : ∀ x ∈ ls, labelOk x = true)
    (hbad : (getLabel b i).2.2 = false → r = badName 2 j)
    (hgood : (getLabel b i).2.2 = true → (nameOk (joinS (ls ++ [(getLabel b i).1])) = false → r = badName 4 j) ∧ (nameOk (joinS (ls ++ [(getLabel b i).1])) = true → Ev (fun k => spec_l4Walk.l0 k b (getLabel b i).2.1 (joinS (ls ++ [(getLabel b i).1])) nx lim j) r)) : Ev (fun k => spec_l4Walk.j2 k b (i : Int) (joinS ls) nx lim j false) r := by
  have hzl := szSs_ok ls hall
  have hjl := joinS_size ls
  refine Ev.step (f := fun k => (spec_GetLabel.f k b (i : Int)).bind fun t => if t.2.2 = true then (if (joinS ls).toList = ([] : List UInt8) then (if (joinS ls).size + t.1.size ≤ 9223372036854775807 then ((spec_NameOk.f k (joinS ls ++ t.1)).bind fun u => (if u = true then (spec_l4Walk.l0 k b t.2.1 (joinS ls ++ t.1) nx lim j) else (some (badName 4 j)))) else (none)) else (if (joinS ls).size + 1 ≤ 9223372036854775807 then (if (joinS ls ++ (⟨#[46]⟩ : ByteArray)).size + t.1.size ≤ 9223372036854775807 then ((spec_NameOk.f k ((joinS ls ++ (⟨#[46]⟩ : ByteArray)) ++ t.1)).bind fun u => (if u = true then (spec_l4Walk.l0 k b t.2.1 ((joinS ls ++ (⟨#[46]⟩ : ByteArray)) ++ t.1) nx lim j) else (some (badName 4 j)))) else (none)) else (none))) else some (badName 2 j)) (fun k => ?_) ?_
  · simp only [spec_l4Walk.j2]
    rw [if_neg (by decide)]
    rfl
  · refine Ev.bind (spec_GetLabel_eq b (by omega) hb i (by omega)) ?_
    cases hg : (getLabel b i).2.2 with
    | false =>
      rw [hbad hg]
      exact Ev_ifn (by decide) ⟨0, fun _ _ => rfl⟩
    | true =>
      obtain ⟨g1, g2⟩ := hgood hg
      obtain ⟨h1, _, _, _, _, h5, h6⟩ := getLabel_good hb hg
      have hsz : (joinS (ls ++ [(getLabel b i).1])).size ≤ 1048576 := by
        have := joinS_size (ls ++ [(getLabel b i).1])
        have hall2 : ∀ x ∈ ls ++ [(getLabel b i).1], labelOk x = true := by
          intro x hx
          rcases List.mem_append.1 hx with h | h
          · exact hall x h
          · rw [List.mem_singleton.1 h]
            exact h1
        have := szSs_ok _ hall2
        rw [List.length_append, List.length_singleton] at *
        omega
      refine Ev_if rfl ?_
      generalize (getLabel b i).1 = p at *
      by_cases c : ls = []
      · subst c
        refine Ev_if empty_toList (Ev_if (by rw [show (joinS []).size = 0 from rfl]; omega) ?_)
        have e : joinS [] ++ p = joinS ([] ++ [p]) := empty_append p
        rw [e]
        refine Ev.bind (spec_NameOk_eq _ hsz) ?_
        cases hk : nameOk (joinS ([] ++ [p])) with
        | false =>
          rw [g1 hk]
          exact Ev_ifn (by decide) ⟨0, fun _ _ => rfl⟩
        | true => exact Ev_if rfl (g2 hk)
      · refine Ev_ifn (fun h => c ((join_toList_nil hall).1 h)) (Ev_if (by omega) (Ev_if (by rw [ByteArray.size_append]; have : (⟨#[46]⟩ : ByteArray).size = 1 := rfl; omega) ?_))
        rw [← joinS_snoc ls p c]
        refine Ev.bind (spec_NameOk_eq _ hsz) ?_
        cases hk : nameOk (joinS (ls ++ [p])) with
        | false =>
          rw [g1 hk]
          exact Ev_ifn (by decide) ⟨0, fun _ _ => rfl⟩
        | true => exact Ev_if rfl (g2 hk)
/-- What is known of what a walk over a name hands back. -/
def WalkPost (b : List Int) (i nx : Int) (r : NameT) : Prop :=
  (0 ≤ r.2.2.2 ∧ r.2.2.2 ≤ (b.length : Int)) ∧ ((r.2.2.1 = 0 ∧ nameOk r.1 = true ∧ (nx < 0 → i < r.2.1) ∧ (0 ≤ nx → r.2.1 = nx) ∧ (0 ≤ r.2.1 ∧ r.2.1 ≤ (b.length : Int))) ∨ (r.2.2.1 ≠ 0 ∧ 0 ≤ r.2.2.1 ∧ r.2.2.1 ≤ 4 ∧ r.1 = (⟨#[]⟩ : ByteArray) ∧ r.2.1 = 0))
theorem post_bad {b : List Int} {i nx c j : Int} (hc : 1 ≤ c ∧ c ≤ 4) (hj : 0 ≤ j ∧ j ≤ (b.length : Int)) : WalkPost b i nx (badName c j) := by
  refine ⟨hj, .inr ⟨?_, ?_, hc.2, rfl, rfl⟩⟩
  · show c ≠ 0
    omega
  · show 0 ≤ c
    omega
theorem walk_total (b : List Int) (hn : b.length ≤ 140737488350000) (hb : Bytes b) : ∀ (L D i : Nat) (ls : List ByteArray) (nx j : Int), i + D = b.length → L ≤ b.length → 0 ≤ j → j + L ≤ b.length → nx ≤ b.length → (∀ x ∈ ls, labelOk x = true) → nameOk (joinS ls) = true →
    ∃ r, Ev (fun k => spec_l4Walk.l0 k b (i : Int) (joinS ls) nx (L : Int) j) r ∧ Ev (fun k => impl_read.l0 k b ls nx (L : Int) j (i : Int)) r ∧ WalkPost b i nx r := by
  intro L
  induction L using Nat.strongRecOn with
  | _ L ihL =>
  intro D
  induction D using Nat.strongRecOn with
  | _ D ihD =>
  intro i ls nx j hD hL hj hjL hnx hall hok
  have hr := rd_byte hb (i : Int)
  have hall_ := hall
  have hok_ := hok
  rw [nameOk_join ls hall, Bool.and_eq_true, decide_eq_true_eq, decide_eq_true_eq] at hok_
  obtain ⟨hok1, hok2⟩ := hok_
  have hzl := szSs_ok ls hall
  by_cases hi : i < b.length
  · by_cases h0 : rd b i = 0
    · refine ⟨_, spec_walk_end b hn hb i (joinS ls) nx L j hi h0, impl_walk_end b hn hb i ls nx L j hi h0 (by omega), ⟨hj, by show j ≤ (b.length : Int); omega⟩, .inl ⟨rfl, hok, ?_, ?_, ?_⟩⟩
      · intro c
        show (i : Int) < if nx < 0 then ((i + 1 : Nat) : Int) else nx
        rw [if_pos c]
        omega
      · intro c
        show (if nx < 0 then ((i + 1 : Nat) : Int) else nx) = nx
        rw [if_neg (by omega)]
      · show 0 ≤ (if nx < 0 then ((i + 1 : Nat) : Int) else nx) ∧ (if nx < 0 then ((i + 1 : Nat) : Int) else nx) ≤ (b.length : Int)
        split <;> omega
    · by_cases h192 : 192 ≤ rd b i
      · by_cases hcut : b.length ≤ i + 1
        · exact ⟨_, spec_walk_cut b hn hb i (joinS ls) nx L j hi h192 hcut, impl_walk_cut b hn hb i ls nx L j hi h192 hcut, post_bad (by omega) (by omega)⟩
        · have ht := toOf_rng hb i h192
          by_cases hh : (L : Int) ≤ toOf b i
          · exact ⟨_, spec_walk_high b hn hb i (joinS ls) nx L j (by omega) h192 hh, impl_walk_high b hn hb i ls nx L j (by omega) h192 hh, post_bad (by omega) (by omega)⟩
          · obtain ⟨t, ht'⟩ : ∃ t : Nat, toOf b i = (t : Int) := ⟨(toOf b i).toNat, by omega⟩
            have hnx' : (if nx < 0 then ((i + 2 : Nat) : Int) else nx) ≤ (b.length : Int) ∧ 0 ≤ (if nx < 0 then ((i + 2 : Nat) : Int) else nx) := by split <;> omega
            obtain ⟨r, r1, r2, r3, r4⟩ := ihL t (by omega) (b.length - t) t ls (if nx < 0 then ((i + 2 : Nat) : Int) else nx) (j + 1) (by omega) (by omega) (by omega) (by omega) hnx'.1 hall hok
            refine ⟨r, spec_walk_jump b hn hb i (joinS ls) nx L j (by omega) h192 (by omega) (by omega) (by rw [ht']; exact r1), impl_walk_jump b hn hb i ls nx L j (by omega) h192 (by omega) (by omega) (by rw [ht']; exact r2), r3, ?_⟩
            rcases r4 with ⟨a1, a2, a3, a4, a5⟩ | a
            · have e := a4 hnx'.2
              refine .inl ⟨a1, a2, fun c => ?_, fun c => ?_, a5⟩
              · rw [e, if_pos c]
                omega
              · rw [e, if_neg (by omega)]
            · exact .inr a
      · by_cases h12 : rd b i ≤ 12
        · by_cases hs : (b.length : Int) - i ≤ rd b i
          · refine ⟨badName 1 j, spec_walk_lab b hn hb i (joinS ls) nx L j hi (by omega) (by omega) true (by rw [decide_eq_true h12, decide_eq_true hs]; rfl) (Ev.step (f := fun _ => some (badName 1 j)) (fun k => ?_) ⟨0, fun _ _ => rfl⟩), impl_walk_short b hn hb i ls nx L j hi (by omega) h12 hs, post_bad (by omega) (by omega)⟩
            simp only [spec_l4Walk.j2, if_true]
            rfl
          · have hgs : (getLabel b i).2.2 = true → (getLabel b i).1.size ≤ 12 := fun h => (getLabel_good hb h).2.2.2.2.2.2
            have hzp : ∀ p : ByteArray, p.size ≤ 12 → szSs (ls ++ [p]) + (ls ++ [p]).length ≤ 1048576 := by
              intro p hp
              have e : szSs (ls ++ [p]) = szSs ls + p.size := by simp [szSs]
              rw [e, List.length_append, List.length_singleton]
              omega
            have hd : false = (decide (rd b i ≤ 12) && decide ((b.length : Int) - i ≤ rd b i)) := by rw [decide_eq_false hs, Bool.and_false]
            cases hg : (getLabel b i).2.2 with
            | false =>
              exact ⟨badName 2 j, spec_walk_lab b hn hb i (joinS ls) nx L j hi (by omega) (by omega) false hd (spec_walk_go b hn hb i ls nx L j hi (by omega) hall (fun _ => rfl) (fun h => by rw [hg] at h; cases h)), impl_walk_lab b hn hb i ls nx L j hi (by omega) h12 (by omega) (by omega) hzp (fun _ => rfl) (fun h => by rw [hg] at h; cases h) hgs, post_bad (by omega) (by omega)⟩
            | true =>
              obtain ⟨g1, g2, g3, g4, g5, g6, g7⟩ := getLabel_good hb hg
              cases hk : nameOk (joinS (ls ++ [(getLabel b i).1])) with
              | false =>
                exact ⟨badName 4 j, spec_walk_lab b hn hb i (joinS ls) nx L j hi (by omega) (by omega) false hd (spec_walk_go b hn hb i ls nx L j hi (by omega) hall (fun h => by rw [hg] at h; cases h) (fun _ => ⟨fun _ => rfl, fun h => by rw [hk] at h; cases h⟩)), impl_walk_lab b hn hb i ls nx L j hi (by omega) h12 (by omega) (by omega) hzp (fun h => by rw [hg] at h; cases h) (fun _ => ⟨fun _ => rfl, fun h => by rw [hk] at h; cases h⟩) hgs, post_bad (by omega) (by omega)⟩
              | true =>
                have hall2 : ∀ x ∈ ls ++ [(getLabel b i).1], labelOk x = true := by
                  intro x hx
                  rcases List.mem_append.1 hx with h | h
                  · exact hall x h
                  · rw [List.mem_singleton.1 h]
                    exact g1
                obtain ⟨i', hi'⟩ : ∃ i' : Nat, (getLabel b i).2.1 = (i' : Int) := ⟨(getLabel b i).2.1.toNat, by omega⟩
                obtain ⟨r, r1, r2, r3, r4⟩ := ihD (b.length - i') (by omega) i' (ls ++ [(getLabel b i).1]) nx j (by omega) hL hj hjL hnx hall2 hk
                refine ⟨r, spec_walk_lab b hn hb i (joinS ls) nx L j hi (by omega) (by omega) false hd (spec_walk_go b hn hb i ls nx L j hi (by omega) hall (fun h => by rw [hg] at h; cases h) (fun _ => ⟨(fun h => by rw [hk] at h; cases h), fun _ => by rw [hi']; exact r1⟩)), impl_walk_lab b hn hb i ls nx L j hi (by omega) h12 (by omega) (by omega) hzp (fun h => by rw [hg] at h; cases h) (fun _ => ⟨(fun h => by rw [hk] at h; cases h), fun _ => by rw [hi']; exact r2⟩) hgs, r3, ?_⟩
                rcases r4 with ⟨a1, a2, a3, a4, a5⟩ | a
                · exact .inl ⟨a1, a2, fun c => by have := a3 c; omega, a4, a5⟩
                · exact .inr a
        · have hg : (getLabel b i).2.2 = false := by
            cases hg : (getLabel b i).2.2 with
            | false => rfl
            | true =>
              have := getLabel_good hb hg
              omega
          exact ⟨badName 2 j, spec_walk_lab b hn hb i (joinS ls) nx L j hi (by omega) (by omega) false (by rw [decide_eq_false h12, Bool.false_and]) (spec_walk_go b hn hb i ls nx L j hi (by omega) hall (fun _ => rfl) (fun h => by rw [hg] at h; cases h)), impl_walk_form b hn hb i ls nx L j hi (by omega) (by omega), post_bad (by omega) (by omega)⟩
  · exact ⟨_, spec_walk_out b hn i (joinS ls) nx L j (by omega), impl_walk_out b hn i ls nx L j (by omega), post_bad (by omega) (by omega)⟩
theorem nameOk_empty : nameOk (⟨#[]⟩ : ByteArray) = true := by
  rw [show (⟨#[]⟩ : ByteArray) = joinS [] from rfl, nameOk_join [] (fun x h => by cases h)]
  rfl
/-- Reading a name at any place, by the reference and by the program: one answer. -/
theorem read_total (b : List Int) (hn : b.length ≤ 140737488350000) (hb : Bytes b) (i : Int) (hi : -9223372036854775808 ≤ i ∧ i ≤ 9223372036854775807) :
    ∃ r, Ev (fun k => spec_l4Walk.f k b i) r ∧ Ev (fun k => impl_read.f k b i) r ∧ WalkPost b i (-1) r := by
  unfold spec_l4Walk.f impl_read.f
  by_cases h0 : i < 0
  · refine ⟨badName 1 0, ?_, ?_, post_bad (by omega) (by omega)⟩
    · refine Ev.step (f := fun k => spec_l4Walk.j1 k b i (⟨#[]⟩ : ByteArray) (-1) i 0 true) (fun k => ?_) (Ev.step (f := fun _ => some (badName 1 0)) (fun k => ?_) ⟨0, fun _ _ => rfl⟩)
      · simp only [spec_l4Walk.l0]
        rw [if_pos h0]
      · simp only [spec_l4Walk.j1, if_true]
        rfl
    · refine Ev.step (f := fun k => impl_read.j1 k b [] (-1) i 0 i true) (fun k => ?_) (Ev.step (f := fun _ => some (badName 1 0)) (fun k => ?_) ⟨0, fun _ _ => rfl⟩)
      · simp only [impl_read.l0]
        rw [if_pos h0]
      · simp only [impl_read.j1, if_true]
        rfl
  · obtain ⟨n, rfl⟩ := Int.eq_ofNat_of_zero_le (Int.not_lt.1 h0)
    by_cases h1 : b.length ≤ n
    · exact ⟨badName 1 0, spec_walk_out b hn n _ _ _ _ h1, impl_walk_out b hn n _ _ _ _ h1, post_bad (by omega) (by omega)⟩
    · have := walk_total b hn hb n (b.length - n) n [] (-1) 0 (by omega) (by omega) (by omega) (by omega) (by omega) (fun x h => by cases h) nameOk_empty
      exact this
theorem Ev_unique {α : Type} {f : Nat → Option α} {x y : α} (h1 : Ev f x) (h2 : Ev f y) : x = y := by
  obtain ⟨a, h1⟩ := h1
  obtain ⟨c, h2⟩ := h2
  have e1 := h1 (max a c) (Nat.le_max_left _ _)
  have e2 := h2 (max a c) (Nat.le_max_right _ _)
  rw [e1] at e2
  exact Option.some.inj e2
theorem name_get (b : List Int) (hn : b.length ≤ 140737488350000) (hb : Bytes b) (i : Int) (hi : -9223372036854775808 ≤ i ∧ i ≤ 9223372036854775807) :
    ∃ r : NameT, Ev (fun k => spec_GetName.f k b i) (r.1, r.2.1, r.2.2.1) ∧ Ev (fun k => impl_GetName.f k b i) (r.1, r.2.1, r.2.2.1) ∧ WalkPost b i (-1) r := by
  obtain ⟨r, h1, h2, h3⟩ := read_total b hn hb i hi
  unfold spec_GetName.f impl_GetName.f
  exact ⟨r, Ev.bind h1 (Ev_some _), Ev.bind h2 (Ev_some _), h3⟩
/-- Where a name stands: what is known of the answer. -/
def PlacePost (b : List Int) (s : ByteArray) (p : Int) : Prop := p = -1 ∨ (0 ≤ p ∧ p < (b.length : Int) ∧ p ≤ 16383 ∧ ∃ nx j, Ev (fun k => impl_GetName.f k b p) (s, nx, 0) ∧ WalkPost b p (-1) (s, nx, 0, j))
theorem place_loop (b : List Int) (hn : b.length ≤ 140737488350000) (hb : Bytes b) (s : ByteArray) : ∀ (d i : Nat), i + d = b.length →
    ∃ p, Ev (fun k => spec_PlaceOf.l0 k b s (i : Int)) p ∧ Ev (fun k => impl_PlaceOf.l0 k b s (i : Int)) p ∧ PlacePost b s p := by
  intro d
  have out : ∀ i : Nat, Ev (fun k => spec_PlaceOf.j1 k b s (i : Int) false) (-1) ∧ Ev (fun k => impl_PlaceOf.j1 k b s (i : Int) false) (-1) := by
    intro i
    refine ⟨Ev.step (f := fun _ => some (-1)) (fun k => ?_) (Ev_some _), Ev.step (f := fun _ => some (-1)) (fun k => ?_) (Ev_some _)⟩
    · simp only [spec_PlaceOf.j1]
      rw [if_neg (by decide)]
    · simp only [impl_PlaceOf.j1]
      rw [if_neg (by decide)]
  induction d with
  | zero =>
    intro i hi
    refine ⟨-1, Ev.step (fun k => ?_) (out i).1, Ev.step (fun k => ?_) (out i).2, .inl rfl⟩
    · simp only [spec_PlaceOf.l0]
      rw [if_neg (by omega)]
    · simp only [impl_PlaceOf.l0]
      rw [if_neg (by omega)]
  | succ d ih =>
    intro i hi
    have w := wrap_succ i b.length (by omega) (by omega)
    by_cases c : i ≤ 16383
    · obtain ⟨r, hs, hi', hp⟩ := name_get b hn hb (i : Int) (by omega)
      obtain ⟨p, p1, p2, p3⟩ := ih (i + 1) (by omega)
      have key : ∃ p, Ev (fun k => if r.2.2.1 = 0 then (if r.1.toList = s.toList then some (i : Int) else spec_PlaceOf.l0 k b s ((i + 1 : Nat) : Int)) else spec_PlaceOf.l0 k b s ((i + 1 : Nat) : Int)) p ∧ Ev (fun k => if r.2.2.1 = 0 then (if r.1.toList = s.toList then some (i : Int) else impl_PlaceOf.l0 k b s ((i + 1 : Nat) : Int)) else impl_PlaceOf.l0 k b s ((i + 1 : Nat) : Int)) p ∧ PlacePost b s p := by
        by_cases c0 : r.2.2.1 = 0
        · by_cases c1 : r.1.toList = s.toList
          · refine ⟨(i : Int), Ev_if c0 (Ev_if c1 (Ev_some _)), Ev_if c0 (Ev_if c1 (Ev_some _)), .inr ⟨by omega, by omega, by omega, r.2.1, r.2.2.2, ?_, ?_⟩⟩
            · rw [← toList_inj.1 c1, ← c0]
              exact hi'
            · rw [← toList_inj.1 c1, ← c0]
              exact hp
          · exact ⟨p, Ev_if c0 (Ev_ifn c1 p1), Ev_if c0 (Ev_ifn c1 p2), p3⟩
        · exact ⟨p, Ev_ifn c0 p1, Ev_ifn c0 p2, p3⟩
      obtain ⟨q, q1, q2, q3⟩ := key
      refine ⟨q, Ev.step (f := fun k => spec_PlaceOf.j1 k b s (i : Int) true) (fun k => ?_) (Ev.step (fun k => ?_) (Ev.bind (f := fun k bt => if bt.2.2 = 0 then (if bt.1.toList = s.toList then some (i : Int) else spec_PlaceOf.l0 k b s ((i + 1 : Nat) : Int)) else spec_PlaceOf.l0 k b s ((i + 1 : Nat) : Int)) hs q1)), Ev.step (f := fun k => impl_PlaceOf.j1 k b s (i : Int) true) (fun k => ?_) (Ev.step (fun k => ?_) (Ev.bind (f := fun k bt => if bt.2.2 = 0 then (if bt.1.toList = s.toList then some (i : Int) else impl_PlaceOf.l0 k b s ((i + 1 : Nat) : Int)) else impl_PlaceOf.l0 k b s ((i + 1 : Nat) : Int)) hi' q2)), q3⟩
      · simp only [spec_PlaceOf.l0]
        rw [if_pos (by omega), decide_eq_true (by omega)]
      · simp only [spec_PlaceOf.j1, if_true]
        rw [w]
      · simp only [impl_PlaceOf.l0]
        rw [if_pos (by omega), decide_eq_true (by omega)]
      · simp only [impl_PlaceOf.j1, if_true]
        rw [w]
    · refine ⟨-1, Ev.step (fun k => ?_) (out i).1, Ev.step (fun k => ?_) (out i).2, .inl rfl⟩
      · simp only [spec_PlaceOf.l0]
        rw [if_pos (by omega), decide_eq_false (by omega)]
      · simp only [impl_PlaceOf.l0]
        rw [if_pos (by omega), decide_eq_false (by omega)]
theorem place_total (b : List Int) (hn : b.length ≤ 140737488350000) (hb : Bytes b) (s : ByteArray) :
    ∃ p, Ev (fun k => spec_PlaceOf.f k b s) p ∧ Ev (fun k => impl_PlaceOf.f k b s) p ∧ PlacePost b s p := by
  unfold spec_PlaceOf.f impl_PlaceOf.f
  exact place_loop b hn hb s b.length 0 (by omega)
/-- A jump to p, as bytes. -/
def jumpW (p : Int) : List Int := [(192 + p / 256) % 256, p % 256]
/-- What PutName appends for labels: each in full, up to the first end that stands at a place already. -/
def nameW (pl : ByteArray → Int) : List ByteArray → List Int
  | [] => [0]
  | x :: l => if 0 ≤ pl (joinS (x :: l)) then jumpW (pl (joinS (x :: l))) else labW x ++ nameW pl l
theorem nameW_le (pl : ByteArray → Int) : ∀ (l : List ByteArray), (∀ x ∈ l, labelOk x = true) → (nameW pl l).length ≤ 13 * l.length + 2
  | [], _ => by simp [nameW]
  | x :: l, h => by
    have h1 := labelOk_size (h x List.mem_cons_self)
    have h2 := nameW_le pl l (fun y hy => h y (List.mem_cons_of_mem _ hy))
    have h3 := bytesOf_length x
    unfold nameW
    split
    · simp [jumpW]
    · unfold labW
      simp only [List.length_append, List.length_cons]
      omega
/-- What is known of a table of places. -/
def Places (b : List Int) (pl : ByteArray → Int) : Prop := ∀ s, Ev (fun k => spec_PlaceOf.f k b s) (pl s) ∧ Ev (fun k => impl_PlaceOf.f k b s) (pl s) ∧ PlacePost b s (pl s)
theorem places_exist (b : List Int) (hn : b.length ≤ 140737488350000) (hb : Bytes b) : ∃ pl, Places b pl := by
  refine ⟨fun s => Classical.choose (place_total b hn hb s), fun s => Classical.choose_spec (place_total b hn hb s)⟩
theorem jump_eq {p : Int} (h : 0 ≤ p ∧ p ≤ 16383) : [(wrap64 (192 + (wrap64 (Int.tdiv p 256)))) % 256, (Int.tmod p 256) % 256] = jumpW p := by
  obtain ⟨n, rfl⟩ := Int.eq_ofNat_of_zero_le h.1
  have e1 : Int.tdiv (n : Int) 256 = (n : Int) / 256 := Int.tdiv_eq_ediv_of_nonneg h.1
  have e2 : Int.tmod (n : Int) 256 = (n : Int) % 256 := Int.tmod_eq_emod_of_nonneg h.1
  rw [e1, e2, wrap_id (x := (n : Int) / 256) (by omega) (by omega), wrap_id (x := 192 + (n : Int) / 256) (by omega) (by omega)]
  unfold jumpW
  congr 2
  omega
theorem place_rng {b : List Int} {s : ByteArray} {p : Int} (h : PlacePost b s p) : -1 ≤ p ∧ p ≤ 16383 := by
  rcases h with h | h
  · omega
  · omega
theorem above_get : ∀ (ls : List ByteArray) (i : Nat) (h : i < (aboveL ls).length), (aboveL ls)[i] = joinS (ls.drop i)
  | [], i, h => by
    have : i = 0 := by rw [aboveL_length] at h; simp at h; exact h
    subst this
    rfl
  | x :: l, 0, h => rfl
  | x :: l, i + 1, h => by
    have := above_get l i (by rw [aboveL_length] at h ⊢; simp at h; omega)
    simpa [aboveL] using this
theorem spec_PutName_loop (b : List Int) (pl : ByteArray → Int) (hpl : Places b pl) (ls : List ByteArray) (hn : ls.length ≤ 6) (hall : ∀ x ∈ ls, labelOk x = true) : ∀ (d i : Nat) (out : List Int), i + d = ls.length → out.length + 13 * d ≤ 140737488351000 →
    Ev (fun k => spec_PutName.l0 k b out (aboveL ls) ls (i : Int)) (out ++ nameW pl (ls.drop i)) := by
  intro d
  induction d with
  | zero =>
    intro i out hi ho
    rw [show ls.drop i = [] from List.drop_of_length_le (by omega)]
    refine Ev.step (f := fun _ => some (out ++ [0])) (fun k => ?_) ⟨0, fun _ _ => rfl⟩
    simp only [spec_PutName.l0]
    rw [if_neg (by omega), if_pos (by omega)]
  | succ d ih =>
    intro i out hi ho
    have hil : i < ls.length := by omega
    have hia : i < (aboveL ls).length := by rw [aboveL_length]; omega
    have w := wrap_succ i ls.length hil (by omega)
    have hx := hall _ (List.getElem_mem hil)
    have hs := labelOk_size hx
    have hp := putLabel_le out ls[i]
    have hal := aboveL_length ls
    obtain ⟨q1, q2, q3⟩ := hpl (joinS (ls.drop i))
    have hr := place_rng q3
    have e := ih (i + 1) (putLabel out ls[i]) (by omega) (by omega)
    rw [putLabel_ok out _ hx] at e hp
    have hd : ls.drop i = ls[i] :: ls.drop (i + 1) := List.drop_eq_getElem_cons hil
    refine Ev.step (f := fun k => (spec_PlaceOf.f k b (joinS (ls.drop i))).bind fun p => if p ≥ 0 then (some ([(wrap64 (192 + (wrap64 (Int.tdiv p 256)))) % 256, (Int.tmod p 256) % 256] : List Int)).bind fun y => (if out.length + y.length < 140737488355328 then some (out ++ y) else none) else (spec_PutLabel.f k out ls[i]).bind fun t => spec_PutName.l0 k b t (aboveL ls) ls ((i + 1 : Nat) : Int)) (fun k => ?_) (Ev.bind q1 ?_)
    · simp only [spec_PutName.l0]
      rw [if_pos (by omega), if_pos (by omega), if_pos (by omega), rdS_getElem (aboveL ls) i hia, above_get ls i hia, rdS_getElem ls i hil, w]
    · rw [hd, nameW]
      rw [← hd]
      by_cases c : 0 ≤ pl (joinS (ls.drop i))
      · rw [if_pos c]
        refine Ev_if c ⟨0, fun _ _ => ?_⟩
        rw [jump_eq ⟨c, hr.2⟩, Option.bind_some, if_pos (by simp [jumpW]; omega)]
      · rw [if_neg c]
        refine Ev_ifn c (Ev.bind (spec_PutLabel_eq out (by omega) ls[i] (by omega)) ?_)
        rw [putLabel_ok out _ hx]
        simpa using e
theorem nameW_plain (pl : ByteArray → Int) : ∀ (ls : List ByteArray), (∀ i, i < ls.length → pl (joinS (ls.drop i)) < 0) → nameW pl ls = wire ls ++ [0]
  | [], _ => rfl
  | x :: l, h => by
    have h0 := h 0 (by simp)
    have ih := nameW_plain pl l (fun i hi => by have := h (i + 1) (by simp; omega); simpa using this)
    simp only [List.drop_zero] at h0
    rw [nameW, if_neg (by omega), ih, wire, List.append_assoc]
theorem nameW_jump (pl : ByteArray → Int) : ∀ (ls : List ByteArray) (n : Nat), n < ls.length → (∀ i, i < n → pl (joinS (ls.drop i)) < 0) → 0 ≤ pl (joinS (ls.drop n)) → nameW pl ls = wire (ls.take n) ++ jumpW (pl (joinS (ls.drop n)))
  | [], n, h, _, _ => absurd h (by simp)
  | x :: l, 0, _, _, h => by
    simp only [List.drop_zero] at h
    rw [nameW, if_pos h]
    rfl
  | x :: l, n + 1, hn, h, h2 => by
    have h0 := h 0 (by omega)
    simp only [List.drop_zero] at h0
    have ih := nameW_jump pl l n (by simp at hn; omega) (fun i hi => by have := h (i + 1) (by omega); simpa using this) (by simpa using h2)
    rw [nameW, if_neg (by omega), ih, List.take_succ_cons, wire, List.append_assoc]
    rfl
theorem impl_PutName_l1 (p : Int) (hp : 0 ≤ p ∧ p ≤ 16383) (ls : List ByteArray) (hn : ls.length ≤ 6) (hall : ∀ x ∈ ls, labelOk x = true) : ∀ (d i : Nat) (out : List Int), i + d = ls.length → out.length + 13 * d ≤ 140737488351000 →
    Ev (fun k => impl_PutName.l1 k out p ls (ls.length : Int) (i : Int)) (out ++ (wire (ls.drop i) ++ jumpW p)) := by
  intro d
  induction d with
  | zero =>
    intro i out hi ho
    rw [show ls.drop i = [] from List.drop_of_length_le (by omega)]
    refine Ev.step (f := fun _ => some (out ++ jumpW p)) (fun k => ?_) ⟨0, fun _ _ => rfl⟩
    simp only [impl_PutName.l1]
    rw [if_neg (by omega), jump_eq hp, Option.bind_some, if_pos (by simp [jumpW]; omega)]
  | succ d ih =>
    intro i out hi ho
    have hil : i < ls.length := by omega
    have w := wrap_succ i ls.length hil (by omega)
    have hx := hall _ (List.getElem_mem hil)
    have hs := labelOk_size hx
    have hpl := putLabel_le out ls[i]
    rw [List.drop_eq_getElem_cons hil, wire]
    have e := ih (i + 1) (putLabel out ls[i]) (by omega) (by omega)
    rw [putLabel_ok out _ hx] at e hpl
    refine Ev.step (f := fun k => (impl_PutLabel.f k out ls[i]).bind fun t => impl_PutName.l1 k t p ls (ls.length : Int) ((i + 1 : Nat) : Int)) (fun k => ?_) (Ev.bind (impl_PutLabel_eq out (by omega) ls[i] (by omega)) ?_)
    · simp only [impl_PutName.l1]
      rw [if_pos (by omega), if_pos (by omega), if_pos (by omega), rdS_getElem ls i hil, w]
    · rw [putLabel_ok out _ hx]
      simpa using e
theorem impl_PutName_loop (b : List Int) (hb : b.length ≤ 140737488350000) (s : ByteArray) (hs : s.size ≤ 1048576) (hok : nameOk s = true) (pl : ByteArray → Int) (hpl : Places b pl) : ∀ (d i : Nat), i + d = (labelsL s).length + 1 → (∀ j, j < i → j < (labelsL s).length → pl (joinS ((labelsL s).drop j)) < 0) →
    Ev (fun k => impl_PutName.l0 k b s b (labelsL s) (aboveL (labelsL s)) ((aboveL (labelsL s)).length : Int) (i : Int)) (b ++ nameW pl (labelsL s)) := by
  obtain ⟨hall, _, hn⟩ := nameOk_all hok
  have hal := aboveL_length (labelsL s)
  intro d
  induction d with
  | zero =>
    intro i hi hj
    refine Ev.step (f := fun k => (impl_PutPlain.f k b s).bind fun t => some t) (fun k => ?_) ?_
    · simp only [impl_PutName.l0]
      rw [if_neg (by omega)]
    · rw [nameW_plain pl _ (fun j h => hj j (by omega) h)]
      have e := impl_PutPlain_eq b hb s hs
      unfold putPlain at e
      rw [if_pos hok] at e
      exact Ev_ret e
  | succ d ih =>
    intro i hi hj
    have hia : i < (aboveL (labelsL s)).length := by omega
    have w := wrap_succ i (i + 1) (by omega) (by omega)
    obtain ⟨q1, q2, q3⟩ := hpl (joinS ((labelsL s).drop i))
    have hr := place_rng q3
    have next : (∀ j, j < i + 1 → j < (labelsL s).length → pl (joinS ((labelsL s).drop j)) < 0) → ∀ x7 x9 : Int, Ev (fun k => impl_PutName.j1 k b s b (labelsL s) x7 x9 (aboveL (labelsL s)) ((aboveL (labelsL s)).length : Int) (i : Int) true) (b ++ nameW pl (labelsL s)) := by
      intro h x7 x9
      refine Ev.step (fun k => ?_) (ih (i + 1) (by omega) h)
      simp only [impl_PutName.j1, if_true]
      rw [w]
    refine Ev.step (f := fun k => (impl_PlaceOf.f k b (joinS ((labelsL s).drop i))).bind fun p => if (joinS ((labelsL s).drop i)).toList = ([] : List UInt8) then impl_PutName.j1 k b s b (labelsL s) (i : Int) p (aboveL (labelsL s)) ((aboveL (labelsL s)).length : Int) (i : Int) true else impl_PutName.j1 k b s b (labelsL s) (i : Int) p (aboveL (labelsL s)) ((aboveL (labelsL s)).length : Int) (i : Int) (decide (p < 0))) (fun k => ?_) (Ev.bind q2 ?_)
    · simp only [impl_PutName.l0]
      rw [if_pos (by omega), if_pos (by omega), if_pos (by omega), rdS_getElem _ i hia, above_get _ i hia]
    · have hall2 : ∀ x ∈ (labelsL s).drop i, labelOk x = true := fun x hx => hall x (List.mem_of_mem_drop hx)
      by_cases c : (labelsL s).drop i = []
      · refine Ev_if ((join_toList_nil hall2).2 c) (next (fun j h1 h2 => hj j (by
          have := congrArg List.length c
          rw [List.length_drop] at this
          simp at this
          omega) h2) _ _)
      · have hil : i < (labelsL s).length := by
          apply Nat.lt_of_not_le
          intro h
          exact c (List.drop_of_length_le h)
        refine Ev_ifn (fun h => c ((join_toList_nil hall2).1 h)) ?_
        by_cases c2 : pl (joinS ((labelsL s).drop i)) < 0
        · rw [decide_eq_true c2]
          refine next (fun j h1 h2 => ?_) _ _
          by_cases e : j = i
          · rw [e]
            exact c2
          · exact hj j (by omega) h2
        · rw [decide_eq_false c2]
          have ht : ((labelsL s).take i).length = i := by rw [List.length_take]; omega
          have e := impl_PutName_l1 (pl (joinS ((labelsL s).drop i))) (by omega) ((labelsL s).take i) (by omega) (fun x hx => hall x (List.mem_of_mem_take hx)) i 0 b (by omega) (by omega)
          rw [List.drop_zero, ht] at e
          rw [nameW_jump pl (labelsL s) i hil (fun j h => hj j h (by omega)) (by omega)]
          refine Ev.step (f := fun k => impl_PutName.l1 k b (pl (joinS ((labelsL s).drop i))) ((labelsL s).take i) (i : Int) 0) (fun k => ?_) e
          simp only [impl_PutName.j1]
          rw [if_neg (by decide), if_pos (by omega), if_pos (by omega), Int.toNat_natCast, Option.bind_some, ht]
/-- What PutName returns, given where names stand. -/
def putName (pl : ByteArray → Int) (b : List Int) (s : ByteArray) : List Int := if nameOk s = true then b ++ nameW pl (labelsL s) else b
theorem putName_le (pl : ByteArray → Int) (b : List Int) (s : ByteArray) : (putName pl b s).length ≤ b.length + 80 := by
  unfold putName
  split
  · rename_i h
    obtain ⟨hall, _, hn⟩ := nameOk_all h
    have := nameW_le pl _ hall
    rw [List.length_append]
    omega
  · omega
theorem spec_PutName_eq (b : List Int) (hn : b.length ≤ 140737488350000) (pl : ByteArray → Int) (hpl : Places b pl) (s : ByteArray) (hs : s.size ≤ 1048576) : Ev (fun k => spec_PutName.f k b s) (putName pl b s) := by
  unfold spec_PutName.f putName
  simp only [Option.bind_some, List.length_nil, List.nil_append, Nat.zero_add]
  refine Ev_if (show b.length < 140737488355328 by omega) (Ev.bind (spec_NameOk_eq s hs) ?_)
  cases h : nameOk s with
  | false => exact Ev_ifn (by decide) (Ev_some _)
  | true =>
    obtain ⟨hall, _, hl⟩ := nameOk_all h
    refine Ev_if rfl (Ev.bind (spec_Above_eq s hs) (Ev.bind (spec_Labels_eq s hs) ?_))
    rw [if_pos rfl]
    have := spec_PutName_loop b pl hpl (labelsL s) hl hall (labelsL s).length 0 b (by omega) (by omega)
    unfold above
    simpa using this
theorem impl_PutName_eq (b : List Int) (hn : b.length ≤ 140737488350000) (pl : ByteArray → Int) (hpl : Places b pl) (s : ByteArray) (hs : s.size ≤ 1048576) : Ev (fun k => impl_PutName.f k b s) (putName pl b s) := by
  unfold impl_PutName.f putName
  rw [clone_bytes_eq b (by omega), impl_Labels_eq s (by omega)]
  simp only [Option.bind_some]
  refine Ev.bind (impl_NameOk_eq s hs) ?_
  cases h : nameOk s with
  | false => exact Ev_ifn (by decide) (Ev_some _)
  | true =>
    refine Ev_if rfl (Ev.bind (impl_Above_eq s hs) ?_)
    rw [if_pos rfl]
    exact impl_PutName_loop b hn s hs h pl hpl ((labelsL s).length + 1) 0 (by omega) (fun j h => absurd h (Nat.not_lt_zero _))
/-- What PutRecord returns, given where names stand. -/
def putRecord (pl : ByteArray → Int) (b : List Int) (a0 : ByteArray) (a1 a2 a3 : Int) (a4 a5 : ByteArray) : List Int :=
  if recOk a0 a1 a2 a3 a4 a5 = true then put2 (put4 (put2 (put2 (putName pl b a0) a1) 1) a2) ((putData a0 a1 a2 a3 a4 a5).length : Int) ++ putData a0 a1 a2 a3 a4 a5 else b
theorem putRecord_le (pl : ByteArray → Int) (b : List Int) (a0 : ByteArray) (a1 a2 a3 : Int) (a4 a5 : ByteArray) (h5 : a5.size ≤ 1048576) : (putRecord pl b a0 a1 a2 a3 a4 a5).length ≤ b.length + 1048876 := by
  unfold putRecord
  split
  · have h1 := putName_le pl b a0
    have h2 := put2_le (putName pl b a0) a1
    have h3 := put2_le (put2 (putName pl b a0) a1) 1
    have h4 := put4_le (put2 (put2 (putName pl b a0) a1) 1) a2
    have h6 := put2_le (put4 (put2 (put2 (putName pl b a0) a1) 1) a2) ((putData a0 a1 a2 a3 a4 a5).length : Int)
    have h7 := putData_le a0 a1 a2 a3 a4 a5
    rw [List.length_append]
    omega
  · omega
theorem spec_PutRecord_eq (pl : ByteArray → Int) (b : List Int) (hn : b.length ≤ 140737487000000) (hpl : Places b pl) (a0 : ByteArray) (a1 a2 a3 : Int) (a4 a5 : ByteArray) (h0 : a0.size ≤ 1048576) (h4 : a4.size ≤ 1048576) (h5 : a5.size ≤ 1048576) :
    Ev (fun k => spec_PutRecord.f k b a0 a1 a2 a3 a4 a5) (putRecord pl b a0 a1 a2 a3 a4 a5) := by
  unfold spec_PutRecord.f putRecord
  refine Ev.bind (spec_RecordOk_eq a0 a1 a2 a3 a4 a5 h0 h4 h5) ?_
  have l1 := putName_le pl b a0
  have l2 := put2_le (putName pl b a0) a1
  have l3 := put2_le (put2 (putName pl b a0) a1) 1
  have l4 := put4_le (put2 (put2 (putName pl b a0) a1) 1) a2
  have l6 := put2_le (put4 (put2 (put2 (putName pl b a0) a1) 1) a2) ((putData a0 a1 a2 a3 a4 a5).length : Int)
  have l7 := putData_le a0 a1 a2 a3 a4 a5
  by_cases h : recOk a0 a1 a2 a3 a4 a5 = true
  · rw [if_pos h]
    refine Ev_if h (Ev.bind (spec_PutName_eq b (by omega) pl hpl a0 h0) ?_)
    rw [spec_Put2_eq (putName pl b a0) (by omega)]
    simp only [Option.bind_some]
    rw [spec_Put2_eq (put2 (putName pl b a0) a1) (by omega)]
    simp only [Option.bind_some]
    rw [spec_Put4_eq (put2 (put2 (putName pl b a0) a1) 1) (by omega)]
    simp only [Option.bind_some]
    refine Ev.bind (spec_PutData_eq a0 a1 a2 a3 a4 a5 h0 h4 h5) ?_
    rw [spec_Put2_eq (put4 (put2 (put2 (putName pl b a0) a1) 1) a2) (by omega)]
    simp only [Option.bind_some]
    exact Ev_if (by omega) (Ev_some _)
  · rw [if_neg h]
    refine Ev_ifn h ?_
    simp only [Option.bind_some, List.length_nil, Nat.zero_add, List.nil_append]
    exact Ev_if (by omega) (Ev_some _)
theorem impl_PutRecord_eq (pl : ByteArray → Int) (b : List Int) (hn : b.length ≤ 140737487000000) (hpl : Places b pl) (a0 : ByteArray) (a1 a2 a3 : Int) (a4 a5 : ByteArray) (h0 : a0.size ≤ 1048576) (h4 : a4.size ≤ 1048576) (h5 : a5.size ≤ 1048576) :
    Ev (fun k => impl_PutRecord.f k b a0 a1 a2 a3 a4 a5) (putRecord pl b a0 a1 a2 a3 a4 a5) := by
  unfold impl_PutRecord.f putRecord
  simp only [Option.bind_some, List.length_nil, Nat.zero_add, List.nil_append]
  refine Ev_if (by omega) (Ev.bind (impl_RecordOk_eq a0 a1 a2 a3 a4 a5 h0 h4 h5) ?_)
  have l1 := putName_le pl b a0
  have l2 := put2_le (putName pl b a0) a1
  have l3 := put2_le (put2 (putName pl b a0) a1) 1
  have l4 := put4_le (put2 (put2 (putName pl b a0) a1) 1) a2
  have l6 := put2_le (put4 (put2 (put2 (putName pl b a0) a1) 1) a2) ((putData a0 a1 a2 a3 a4 a5).length : Int)
  have l7 := putData_le a0 a1 a2 a3 a4 a5
  by_cases h : recOk a0 a1 a2 a3 a4 a5 = true
  · rw [if_pos h]
    exact Ev_if h (Ev.bind (impl_PutData_eq a0 a1 a2 a3 a4 a5 h0 h4 h5) (Ev.bind (impl_PutName_eq b (by omega) pl hpl a0 h0) (Ev.bind (impl_Put2_eq _ (by omega) a1) (Ev.bind (impl_Put2_eq _ (by omega) 1) (Ev.bind (impl_Put4_eq _ (by omega) a2) (Ev.bind (impl_Put2_eq _ (by omega) _) (Ev_if (by omega) (Ev_some _))))))))
  · rw [if_neg h]
    exact Ev_ifn h (Ev_some _)
theorem getBytes_loop (l : List Int) (m : Int) (hl : l.length ≤ 4) (hb : Bytes l) : ∀ (d i : Nat) (n : Int), i + d = l.length → 0 ≤ n → n < 256 ^ i →
    Ev (fun k => impl_getBytes.l0 k m n l (l.length : Int) (i : Int)) (if numOf n (l.drop i) > m then (0, false) else (numOf n (l.drop i), true)) := by
  intro d
  induction d with
  | zero =>
    intro i n hi h0 h1
    refine Ev.step (f := fun _ => if n > m then some (0, false) else some (n, true)) (fun k => ?_) ⟨0, fun _ _ => ?_⟩
    · simp only [impl_getBytes.l0]
      rw [if_neg (by omega)]
    · rw [List.drop_of_length_le (by omega)]
      unfold numOf
      split <;> rfl
  | succ d ih =>
    intro i n hi h0 h1
    have hd := rd_drop l i (by omega)
    have hm := rd_byte hb (i : Int)
    have hi4 : i ≤ 3 := by omega
    have hp : (256 : Int) ^ i ≤ 16777216 := by
      have : i = 0 ∨ i = 1 ∨ i = 2 ∨ i = 3 := by omega
      rcases this with rfl | rfl | rfl | rfl <;> decide
    have hps : (256 : Int) ^ (i + 1) = 256 ^ i * 256 := by rw [Int.pow_succ]
    have w1 : wrap64 (256 * n) = 256 * n := wrap_id (by omega) (by omega)
    have w2 : wrap64 (rd l i) = rd l i := wrap_id (by omega) (by omega)
    have w3 : wrap64 (256 * n + rd l i) = 256 * n + rd l i := wrap_id (by omega) (by omega)
    have w4 : wrap64 ((i : Int) + 1) = ((i + 1 : Nat) : Int) := wrap_succ i 4 (by omega) (by decide)
    rw [hd]
    refine Ev.step (f := fun k => impl_getBytes.l0 k m (256 * n + rd l i) l (l.length : Int) ((i + 1 : Nat) : Int)) (fun k => ?_) (ih (i + 1) _ (by omega) (by omega) (by omega))
    simp only [impl_getBytes.l0]
    rw [if_pos (by omega), if_pos (by omega), if_pos (by omega), w1, w2, w3, w4]
/-- getBytes at an offset that fits, and at one that does not. -/
theorem getBytes_eq (l : List Int) (hn : l.length ≤ 140737488351232) (hb : Bytes l) (i : Int) (hi : -9223372036854775808 ≤ i ∧ i ≤ 9223372036854775807) (c : Nat) (hc : c ≤ 4) (m : Int) :
    Ev (fun k => impl_getBytes.f k l i c m) (if 0 ≤ i ∧ i ≤ (l.length : Int) - c then (if numOf 0 ((l.drop i.toNat).take c) > m then (0, false) else (numOf 0 ((l.drop i.toNat).take c), true)) else (0, false)) := by
  have hw : wrap64 ((l.length : Int) - c) = (l.length : Int) - c := wrap_id (by omega) (by omega)
  unfold impl_getBytes.f
  rw [hw]
  by_cases h : 0 ≤ i ∧ i ≤ (l.length : Int) - c
  · have h0 : ¬ i < 0 := by omega
    have h1 : ¬ i > (l.length : Int) - c := by omega
    simp only [if_neg h0, decide_eq_false h1, if_pos h]
    have w2 : wrap64 (i + c) = i + c := wrap_id (by omega) (by omega)
    have hq : ((l.take ((i + c : Int)).toNat).drop (i : Int).toNat) = (l.drop i.toNat).take c := by
      rw [List.drop_take]
      congr 1
      omega
    have hl : ((l.drop i.toNat).take c).length = c := by
      rw [List.length_take, List.length_drop]
      omega
    refine Ev.step (f := fun k => impl_getBytes.l0 k m 0 ((l.drop i.toNat).take c) (((l.drop i.toNat).take c).length : Int) 0) (fun k => ?_) ?_
    · simp only [impl_getBytes.j0]
      rw [if_neg (by decide), w2, if_pos h.1, if_pos (by omega), if_pos (by omega), hq]
      rfl
    · have := getBytes_loop ((l.drop i.toNat).take c) m (by omega) ((hb.drop _).take _) c 0 0 (by omega) (by omega) (by decide)
      simpa using this
  · rw [if_neg h]
    by_cases h0 : i < 0
    · simp only [if_pos h0]
      refine Ev.step (f := fun _ => some (0, false)) (fun k => ?_) ⟨0, fun _ _ => rfl⟩
      simp only [impl_getBytes.j0]
      rfl
    · have h1 : i > (l.length : Int) - c := by omega
      simp only [if_neg h0, decide_eq_true h1]
      refine Ev.step (f := fun _ => some (0, false)) (fun k => ?_) ⟨0, fun _ _ => rfl⟩
      simp only [impl_getBytes.j0]
      rfl
/-- What Get2 returns: the two bytes at an offset, if they are there. -/
def get2 (l : List Int) (i : Int) : Int × Bool := if 0 ≤ i ∧ i ≤ (l.length : Int) - 2 then (256 * rd l i + rd l (i + 1), true) else (0, false)
theorem take2 (l : List Int) (i : Int) (h0 : 0 ≤ i) (h1 : i ≤ (l.length : Int) - 2) : (l.drop i.toNat).take 2 = [rd l i, rd l (i + 1)] := by
  obtain ⟨n, rfl⟩ := Int.eq_ofNat_of_zero_le h0
  have e2 : ((n : Int) + 1) = ((n + 1 : Nat) : Int) := by omega
  rw [e2, Int.toNat_natCast, rd_drop l n (by omega), rd_drop l (n + 1) (by omega)]
  rfl
theorem impl_Get2_eq (l : List Int) (hn : l.length ≤ 140737488351232) (hb : Bytes l) (i : Int) (hi : -9223372036854775808 ≤ i ∧ i ≤ 9223372036854775807) : Ev (fun k => impl_Get2.f k l i) (get2 l i) := by
  unfold impl_Get2.f
  refine Ev.bind (a := get2 l i) ?_ ⟨0, fun _ _ => rfl⟩
  have := getBytes_eq l hn hb i hi 2 (by decide) 65535
  unfold get2
  by_cases h : 0 ≤ i ∧ i ≤ (l.length : Int) - 2
  · have b0 := rd_byte hb i
    have b1 := rd_byte hb (i + 1)
    rw [if_pos h]
    rw [if_pos (by exact h), take2 l i h.1 h.2] at this
    have e : numOf 0 [rd l i, rd l (i + 1)] = 256 * rd l i + rd l (i + 1) := by
      simp only [numOf]
      omega
    rw [e, if_neg (by omega)] at this
    exact this
  · rw [if_neg h]
    rw [if_neg (by exact h)] at this
    exact this
/-- What Get4 returns: the four bytes at an offset, if they are there and the number is no greater than MaxFour. -/
def get4 (l : List Int) (i : Int) : Int × Bool :=
  if 0 ≤ i ∧ i ≤ (l.length : Int) - 4 then
    (if 16777216 * rd l i + 65536 * rd l (i + 1) + 256 * rd l (i + 2) + rd l (i + 3) > 2147483647 then (0, false)
     else (16777216 * rd l i + 65536 * rd l (i + 1) + 256 * rd l (i + 2) + rd l (i + 3), true)) else (0, false)
theorem take4 (l : List Int) (i : Int) (h0 : 0 ≤ i) (h1 : i ≤ (l.length : Int) - 4) : (l.drop i.toNat).take 4 = [rd l i, rd l (i + 1), rd l (i + 2), rd l (i + 3)] := by
  obtain ⟨n, rfl⟩ := Int.eq_ofNat_of_zero_le h0
  have e1 : ((n : Int) + 1) = ((n + 1 : Nat) : Int) := by omega
  have e2 : ((n : Int) + 2) = ((n + 1 + 1 : Nat) : Int) := by omega
  have e3 : ((n : Int) + 3) = ((n + 1 + 1 + 1 : Nat) : Int) := by omega
  rw [e1, e2, e3, Int.toNat_natCast, rd_drop l n (by omega), rd_drop l (n + 1) (by omega), rd_drop l (n + 1 + 1) (by omega), rd_drop l (n + 1 + 1 + 1) (by omega)]
  rfl
theorem impl_Get4_eq (l : List Int) (hn : l.length ≤ 140737488351232) (hb : Bytes l) (i : Int) (hi : -9223372036854775808 ≤ i ∧ i ≤ 9223372036854775807) : Ev (fun k => impl_Get4.f k l i) (get4 l i) := by
  unfold impl_Get4.f
  refine Ev.bind (a := get4 l i) ?_ ⟨0, fun _ _ => rfl⟩
  have := getBytes_eq l hn hb i hi 4 (by decide) 2147483647
  unfold get4
  by_cases h : 0 ≤ i ∧ i ≤ (l.length : Int) - 4
  · rw [if_pos h]
    rw [if_pos (by exact h), take4 l i h.1 h.2] at this
    have e : numOf 0 [rd l i, rd l (i + 1), rd l (i + 2), rd l (i + 3)] = 16777216 * rd l i + 65536 * rd l (i + 1) + 256 * rd l (i + 2) + rd l (i + 3) := by
      simp only [numOf]
      omega
    rw [e] at this
    exact this
  · rw [if_neg h]
    rw [if_neg (by exact h)] at this
    exact this
theorem rd_app (b l : List Int) (j : Nat) (i : Int) (h : i = (b.length : Int) + (j : Int)) : rd (b ++ l) i = rd l (j : Int) := by
  have e : i.toNat = b.length + j := by omega
  unfold rd
  rw [e, Int.toNat_natCast, List.getD_eq_getElem?_getD, List.getD_eq_getElem?_getD, List.getElem?_append_right (by omega)]
  congr 2
  omega
theorem rt_get2 (b : List Int) (n : Int) (rest : List Int) (h : 0 ≤ n ∧ n ≤ 65535) : get2 (put2 b n ++ rest) (b.length : Int) = (n, true) := by
  unfold put2
  rw [if_pos h, List.append_assoc]
  unfold get2
  have e0 := rd_app b (be2 n ++ rest) 0 (b.length : Int) (by omega)
  have e1 := rd_app b (be2 n ++ rest) 1 ((b.length : Int) + 1) (by omega)
  have d0 : rd (be2 n ++ rest) ((0 : Nat) : Int) = n / 256 % 256 := rfl
  have d1 : rd (be2 n ++ rest) ((1 : Nat) : Int) = n % 256 := rfl
  rw [if_pos ⟨by omega, by simp [be2]; omega⟩, e0, e1, d0, d1]
  congr 1
  omega
theorem rt_get4 (b : List Int) (n : Int) (rest : List Int) (h : 0 ≤ n ∧ n ≤ 2147483647) : get4 (put4 b n ++ rest) (b.length : Int) = (n, true) := by
  unfold put4
  rw [if_pos h, List.append_assoc]
  unfold get4
  have e0 := rd_app b (be4 n ++ rest) 0 (b.length : Int) (by omega)
  have e1 := rd_app b (be4 n ++ rest) 1 ((b.length : Int) + 1) (by omega)
  have e2 := rd_app b (be4 n ++ rest) 2 ((b.length : Int) + 2) (by omega)
  have e3 := rd_app b (be4 n ++ rest) 3 ((b.length : Int) + 3) (by omega)
  have d0 : rd (be4 n ++ rest) ((0 : Nat) : Int) = n / 16777216 % 256 := rfl
  have d1 : rd (be4 n ++ rest) ((1 : Nat) : Int) = n / 65536 % 256 := rfl
  have d2 : rd (be4 n ++ rest) ((2 : Nat) : Int) = n / 256 % 256 := rfl
  have d3 : rd (be4 n ++ rest) ((3 : Nat) : Int) = n % 256 := rfl
  rw [if_pos ⟨by omega, by simp [be4]; omega⟩, e0, e1, e2, e3, d0, d1, d2, d3]
  have z : 16777216 * (n / 16777216 % 256) + 65536 * (n / 65536 % 256) + 256 * (n / 256 % 256) + n % 256 = n := by omega
  rw [z, if_neg (by omega)]
theorem foldB_ok {c : Int} (h : okB c = true) : foldB c = c := by
  unfold foldB
  have hk : (97 ≤ c ∧ c ≤ 122) ∨ (48 ≤ c ∧ c ≤ 57) ∨ c = 45 ∨ c = 95 := by simpa [okB, or_assoc] using h
  rw [if_neg (by omega)]
theorem fold_ok (s : ByteArray) (h : labelOk s = true) : strOfNums ((bytesOf s).map foldB) = s := by
  unfold labelOk at h
  rw [Bool.and_eq_true] at h
  have e : (bytesOf s).map foldB = bytesOf s := by
    conv => rhs; rw [← List.map_id (bytesOf s)]
    exact List.map_congr_left fun x hx => foldB_ok (List.all_eq_true.1 h.1 x hx)
  rw [e, strOfNums_bytesOf]
/-- A label that stands at the place i is read there. -/
theorem rt_label (b : List Int) (s : ByteArray) (rest : List Int) (h : labelOk s = true) : getLabel (b ++ (labW s ++ rest)) (b.length : Int) = (s, (b.length : Int) + 1 + (s.size : Int), true) := by
  have hs := labelOk_size h
  have hl := bytesOf_length s
  have e0 := rd_app b (labW s ++ rest) 0 (b.length : Int) (by omega)
  have d0 : rd (labW s ++ rest) ((0 : Nat) : Int) = (s.size : Int) := rfl
  have la : labAt (b ++ (labW s ++ rest)) (b.length : Int) = s := by
    unfold labAt
    rw [e0, d0, Int.toNat_natCast, Int.toNat_natCast]
    have e : (b ++ (labW s ++ rest)).drop (b.length + 1) = bytesOf s ++ rest := by
      rw [List.drop_append, List.drop_of_length_le (by omega)]
      simp [labW]
    rw [e, List.take_append_of_le_length (by omega), List.take_of_length_le (by omega)]
    exact fold_ok s h
  unfold getLabel
  have hc : (0 ≤ (b.length : Int) ∧ (b.length : Int) < ((b ++ (labW s ++ rest)).length : Int) ∧ rd (b ++ (labW s ++ rest)) (b.length : Int) ≤ 12 ∧ rd (b ++ (labW s ++ rest)) (b.length : Int) < ((b ++ (labW s ++ rest)).length : Int) - (b.length : Int)) ∧ labelOk (labAt (b ++ (labW s ++ rest)) (b.length : Int)) = true := by
    rw [e0, d0, la]
    have hlen : (b ++ (labW s ++ rest)).length = b.length + (1 + s.size + rest.length) := by simp [labW, hl]; omega
    rw [hlen]
    exact ⟨⟨by omega, by omega, by omega, by omega⟩, h⟩
  rw [if_pos hc, la, e0, d0]
/-- The labels that a reader of a name meets from a place on; lim: it jumps below it alone. -/
inductive Reads (b : List Int) : Nat → Nat → List ByteArray → Prop
  | fin (lim i : Nat) (hi : i < b.length) (h : rd b i = 0) : Reads b lim i []
  | jump (lim i t : Nat) (ls : List ByteArray) (hi : i + 1 < b.length) (h : 192 ≤ rd b i) (ht : toOf b i = t) (hl : t < lim) (r : Reads b t t ls) : Reads b lim i ls
  | lab (lim i j : Nat) (x : ByteArray) (ls : List ByteArray) (hi : i < b.length) (h : getLabel b i = (x, (j : Int), true)) (r : Reads b lim j ls) : Reads b lim i (x :: ls)
theorem reads_ok {b : List Int} (hb : Bytes b) {lim i : Nat} {ls : List ByteArray} (h : Reads b lim i ls) : ∀ x ∈ ls, labelOk x = true := by
  induction h with
  | fin => intro x hx; cases hx
  | jump lim i t ls hi h ht hl r ih => exact ih
  | lab lim i j x ls hi h r ih =>
    intro y hy
    rcases List.mem_cons.1 hy with e | hy
    · subst e
      have := (getLabel_good (i := (i : Int)) hb (by rw [h])).1
      rw [h] at this
      exact this
    · exact ih y hy
theorem rd_left (b c : List Int) (i : Int) (h0 : 0 ≤ i) (h : i < (b.length : Int)) : rd (b ++ c) i = rd b i := by
  unfold rd
  rw [List.getD_eq_getElem?_getD, List.getD_eq_getElem?_getD, List.getElem?_append_left (by omega)]
theorem toOf_left (b c : List Int) (i : Nat) (h : i + 1 < b.length) : toOf (b ++ c) i = toOf b i := by
  unfold toOf
  rw [rd_left b c (i : Int) (by omega) (by omega), rd_left b c ((i + 1 : Nat) : Int) (by omega) (by omega)]
theorem getLabel_left (b c : List Int) (hb : Bytes b) (i : Nat) (h : (getLabel b (i : Int)).2.2 = true) : getLabel (b ++ c) (i : Int) = getLabel b (i : Int) := by
  obtain ⟨h1, h2, h3, h4, h5, _⟩ := getLabel_good hb h
  have hr := rd_left b c (i : Int) (by omega) (by omega)
  have la : labAt (b ++ c) (i : Int) = labAt b (i : Int) := by
    unfold labAt
    rw [hr, Int.toNat_natCast, List.drop_append_of_le_length (by omega), List.take_append_of_le_length (by rw [List.length_drop]; omega)]
  unfold getLabel at h ⊢
  rw [hr, la]
  split at h
  · rename_i q
    rw [if_pos q, if_pos ⟨⟨q.1.1, by rw [List.length_append]; omega, q.1.2.2.1, by rw [List.length_append]; omega⟩, q.2⟩]
  · cases h
theorem reads_ext {b : List Int} (c : List Int) (hb : Bytes b) {lim i : Nat} {ls : List ByteArray} (h : Reads b lim i ls) : ∀ lim', lim ≤ lim' → Reads (b ++ c) lim' i ls := by
  induction h with
  | fin lim i hi h =>
    intro lim' _
    exact .fin lim' i (by rw [List.length_append]; omega) (by rw [rd_left b c (i : Int) (by omega) (by omega)]; exact h)
  | jump lim i t ls hi h ht hl r ih =>
    intro lim' hle
    exact .jump lim' i t ls (by rw [List.length_append]; omega) (by rw [rd_left b c (i : Int) (by omega) (by omega)]; exact h) (by rw [toOf_left b c i hi]; exact ht) (by omega) (ih t (Nat.le_refl _))
  | lab lim i j x ls hi h r ih =>
    intro lim' hle
    exact .lab lim' i j x ls (by rw [List.length_append]; omega) (by rw [getLabel_left b c hb i (by rw [h])]; exact h) (ih lim' hle)
theorem joinS_size_eq : ∀ (l : List ByteArray), (joinS l).size = szSs l + (l.length - 1)
  | [] => rfl
  | [x] => by simp [joinS, szSs]
  | x :: y :: l => by
    have ih := joinS_size_eq (y :: l)
    have e : (⟨#[46]⟩ : ByteArray).size = 1 := rfl
    rw [joinS, ByteArray.size_append, ByteArray.size_append, ih, e, szSs_cons x]
    simp only [List.length_cons]
    omega
theorem szSs_append (a c : List ByteArray) : szSs (a ++ c) = szSs a + szSs c := by simp [szSs]
theorem nameOk_take {a c : List ByteArray} (h : ∀ x ∈ a ++ c, labelOk x = true) (hk : nameOk (joinS (a ++ c)) = true) : nameOk (joinS a) = true := by
  have ha : ∀ x ∈ a, labelOk x = true := fun x hx => h x (List.mem_append_left _ hx)
  rw [nameOk_join _ h, Bool.and_eq_true, decide_eq_true_eq, decide_eq_true_eq, joinS_size_eq, szSs_append, List.length_append] at hk
  rw [nameOk_join _ ha, Bool.and_eq_true, decide_eq_true_eq, decide_eq_true_eq, joinS_size_eq]
  omega
/-- One label is read. -/
theorem impl_walk_one (b : List Int) (hn : b.length ≤ 140737488350000) (hb : Bytes b) (i j : Nat) (x : ByteArray) (acc : List ByteArray) (nx lim jj : Int) {r : NameT} (hi : i < b.length) (h : getLabel b i = (x, (j : Int), true)) (hall : ∀ y ∈ acc, labelOk y = true) (hk : nameOk (joinS (acc ++ [x])) = true)
    (hr : Ev (fun k => impl_read.l0 k b (acc ++ [x]) nx lim jj (j : Int)) r) : Ev (fun k => impl_read.l0 k b acc nx lim jj (i : Int)) r := by
  obtain ⟨q1, q2, q3, q4, q5, q6, q7⟩ := getLabel_good (i := (i : Int)) hb (by rw [h])
  rw [h] at q1 q7
  have hall2 : ∀ y ∈ acc ++ [x], labelOk y = true := by
    intro y hy
    rcases List.mem_append.1 hy with z | z
    · exact hall y z
    · rw [List.mem_singleton.1 z]
      exact q1
  have hk' := hk
  rw [nameOk_join _ hall2, Bool.and_eq_true, decide_eq_true_eq, decide_eq_true_eq, List.length_append, List.length_singleton] at hk'
  have hzl := szSs_ok acc hall
  refine impl_walk_lab b hn hb i acc nx lim jj hi (by omega) q4 q5 (by omega) (fun p hp => ?_) (fun z => by rw [h] at z; cases z) (fun _ => ⟨fun z => ?_, fun _ => ?_⟩) (fun _ => by rw [h]; exact q7)
  · rw [szSs_append, List.length_append, List.length_singleton]
    have : szSs [p] = p.size := by simp [szSs]
    omega
  · rw [h] at z
    rw [hk] at z
    cases z
  · rw [h]
    exact hr
theorem read_fwd {b : List Int} (hn : b.length ≤ 140737488350000) (hb : Bytes b) {lim i : Nat} {ls : List ByteArray} (h : Reads b lim i ls) : ∀ (acc : List ByteArray) (nx j : Int), (∀ x ∈ acc, labelOk x = true) → nameOk (joinS (acc ++ ls)) = true → 0 ≤ j → j + lim ≤ b.length →
    ∃ nx' j', Ev (fun k => impl_read.l0 k b acc nx (lim : Int) j (i : Int)) (joinS (acc ++ ls), nx', 0, j') ∧ (0 ≤ nx → nx' = nx) := by
  induction h with
  | fin lim i hi h =>
    intro acc nx j hall hk hj hjl
    rw [List.append_nil] at hk ⊢
    have hzl := szSs_ok acc hall
    have hk' := hk
    rw [nameOk_join _ hall, Bool.and_eq_true, decide_eq_true_eq, decide_eq_true_eq] at hk'
    exact ⟨_, _, impl_walk_end b hn hb i acc nx lim j hi h (by omega), fun c => by rw [if_neg (by omega)]⟩
  | jump lim i t ls hi h ht hl r ih =>
    intro acc nx j hall hk hj hjl
    obtain ⟨nx', j', e, hx⟩ := ih acc (if nx < 0 then ((i + 2 : Nat) : Int) else nx) (j + 1) hall hk (by omega) (by omega)
    refine ⟨nx', j', impl_walk_jump b hn hb i acc nx lim j hi h (by omega) (by omega) (by rw [ht]; exact e), fun c => ?_⟩
    rw [hx (by split <;> omega), if_neg (by omega)]
  | lab lim i j x ls hi h r ih =>
    intro acc nx jj hall hk hj hjl
    have q1 := (getLabel_good (i := (i : Int)) hb (by rw [h])).1
    rw [h] at q1
    have hls := reads_ok hb r
    have hall2 : ∀ y ∈ acc ++ [x], labelOk y = true := by
      intro y hy
      rcases List.mem_append.1 hy with z | z
      · exact hall y z
      · rw [List.mem_singleton.1 z]
        exact q1
    have e : acc ++ x :: ls = (acc ++ [x]) ++ ls := by simp
    rw [e] at hk ⊢
    obtain ⟨nx', j', h1, h2⟩ := ih (acc ++ [x]) nx jj hall2 hk hj hjl
    have hk1 : nameOk (joinS (acc ++ [x])) = true := nameOk_take (fun y hy => by
      rcases List.mem_append.1 hy with z | z
      · exact hall2 y z
      · exact hls y z) hk
    exact ⟨nx', j', impl_walk_one b hn hb i j x acc nx lim jj hi h hall hk1 h1, h2⟩
/-- Labels in full, and what follows. -/
theorem read_pre : ∀ (ls : List ByteArray) (pre rest acc : List _) (_hn : (pre ++ (wire ls ++ rest)).length ≤ 140737488350000) (_hb : Bytes (pre ++ (wire ls ++ rest))) (nx lim j : Int) (r : NameT), (∀ x ∈ acc ++ ls, labelOk x = true) → nameOk (joinS (acc ++ ls)) = true →
    Ev (fun k => impl_read.l0 k (pre ++ (wire ls ++ rest)) (acc ++ ls) nx lim j ((pre.length + (wire ls).length : Nat) : Int)) r → Ev (fun k => impl_read.l0 k (pre ++ (wire ls ++ rest)) acc nx lim j (pre.length : Int)) r
  | [], pre, rest, acc, hn, hb, nx, lim, j, r, hall, hk, h => by
    have e : (wire []).length = 0 := rfl
    rw [e, Nat.add_zero, List.append_nil] at h
    exact h
  | x :: ls, pre, rest, acc, hn, hb, nx, lim, j, r, hall, hk, h => by
    have hx : labelOk x = true := hall x (by simp)
    have hs := labelOk_size hx
    have hl := bytesOf_length x
    have e : pre ++ (wire (x :: ls) ++ rest) = (pre ++ labW x) ++ (wire ls ++ rest) := by simp [wire]
    have e2 : pre ++ (wire (x :: ls) ++ rest) = pre ++ (labW x ++ (wire ls ++ rest)) := by simp [wire]
    have e3 : acc ++ x :: ls = (acc ++ [x]) ++ ls := by simp
    have e4 : (pre ++ labW x).length = pre.length + 1 + x.size := by simp [labW, hl]; omega
    have e5 : pre.length + (wire (x :: ls)).length = (pre ++ labW x).length + (wire ls).length := by simp [wire]; omega
    have g := rt_label pre x (wire ls ++ rest) hx
    rw [← e2] at g
    have ih := read_pre ls (pre ++ labW x) rest (acc ++ [x]) (by rw [← e]; exact hn) (by rw [← e]; exact hb) nx lim j r (by rw [← e3]; exact hall) (by rw [← e3]; exact hk) (by rw [← e, ← e3, ← e5]; exact h)
    rw [← e] at ih
    have hk1 : nameOk (joinS (acc ++ [x])) = true := nameOk_take (by rw [← e3]; exact hall) (by rw [← e3]; exact hk)
    refine impl_walk_one _ hn hb pre.length (pre ++ labW x).length x acc nx lim j ?_ ?_ (fun y hy => hall y (List.mem_append_left _ hy)) hk1 ih
    · rw [e2]
      simp [labW]
    · rw [g, e4]
      congr 2
/-- What was read well was read label by label. -/
theorem reads_of (b : List Int) (hn : b.length ≤ 140737488350000) (hb : Bytes b) : ∀ (L D i : Nat) (ls : List ByteArray) (nx j : Int) (r : NameT), i + D = b.length → L ≤ b.length → 0 ≤ j → j + L ≤ b.length → nx ≤ b.length → (∀ x ∈ ls, labelOk x = true) → nameOk (joinS ls) = true →
    Ev (fun k => impl_read.l0 k b ls nx (L : Int) j (i : Int)) r → r.2.2.1 = 0 → ∃ ls', Reads b L i ls' ∧ r.1 = joinS (ls ++ ls') := by
  intro L
  induction L using Nat.strongRecOn with
  | _ L ihL =>
  intro D
  induction D using Nat.strongRecOn with
  | _ D ihD =>
  intro i ls nx j r hD hL hj hjL hnx hall hok hr hc
  have hrb := rd_byte hb (i : Int)
  have hok_ := hok
  rw [nameOk_join ls hall, Bool.and_eq_true, decide_eq_true_eq, decide_eq_true_eq] at hok_
  obtain ⟨hok1, hok2⟩ := hok_
  have hzl := szSs_ok ls hall
  have no : ∀ c : Int, c ≠ 0 → Ev (fun k => impl_read.l0 k b ls nx (L : Int) j (i : Int)) (badName c j) → ∃ ls', Reads b L i ls' ∧ r.1 = joinS (ls ++ ls') := fun c h0 h => by
    have e := Ev_unique hr h
    rw [e] at hc
    exact absurd hc h0
  by_cases hi : i < b.length
  · by_cases h0 : rd b i = 0
    · have e := Ev_unique hr (impl_walk_end b hn hb i ls nx L j hi h0 (by omega))
      exact ⟨[], .fin L i hi h0, by rw [e, List.append_nil]⟩
    · by_cases h192 : 192 ≤ rd b i
      · by_cases hcut : b.length ≤ i + 1
        · exact no 1 (by decide) (impl_walk_cut b hn hb i ls nx L j hi h192 hcut)
        · have ht := toOf_rng hb i h192
          by_cases hh : (L : Int) ≤ toOf b i
          · exact no 3 (by decide) (impl_walk_high b hn hb i ls nx L j (by omega) h192 hh)
          · obtain ⟨t, ht'⟩ : ∃ t : Nat, toOf b i = (t : Int) := ⟨(toOf b i).toNat, by omega⟩
            have hnx' : (if nx < 0 then ((i + 2 : Nat) : Int) else nx) ≤ (b.length : Int) := by split <;> omega
            obtain ⟨r0, _, i0, _⟩ := walk_total b hn hb t (b.length - t) t ls (if nx < 0 then ((i + 2 : Nat) : Int) else nx) (j + 1) (by omega) (by omega) (by omega) (by omega) hnx' hall hok
            have e := Ev_unique hr (impl_walk_jump b hn hb i ls nx L j (by omega) h192 (by omega) (by omega) (by rw [ht']; exact i0))
            rw [← e] at i0
            obtain ⟨ls', q1, q2⟩ := ihL t (by omega) (b.length - t) t ls _ (j + 1) r (by omega) (by omega) (by omega) (by omega) hnx' hall hok i0 hc
            exact ⟨ls', .jump L i t ls' (by omega) h192 ht' (by omega) q1, q2⟩
      · by_cases h12 : rd b i ≤ 12
        · by_cases hs : (b.length : Int) - i ≤ rd b i
          · exact no 1 (by decide) (impl_walk_short b hn hb i ls nx L j hi (by omega) h12 hs)
          · have hgs : (getLabel b i).2.2 = true → (getLabel b i).1.size ≤ 12 := fun h => (getLabel_good hb h).2.2.2.2.2.2
            have hzp : ∀ p : ByteArray, p.size ≤ 12 → szSs (ls ++ [p]) + (ls ++ [p]).length ≤ 1048576 := by
              intro p hp
              have e : szSs (ls ++ [p]) = szSs ls + p.size := by simp [szSs]
              rw [e, List.length_append, List.length_singleton]
              omega
            cases hg : (getLabel b i).2.2 with
            | false => exact no 2 (by decide) (impl_walk_lab b hn hb i ls nx L j hi (by omega) h12 (by omega) (by omega) hzp (fun _ => rfl) (fun h => by rw [hg] at h; cases h) hgs)
            | true =>
              obtain ⟨g1, g2, g3, g4, g5, g6, g7⟩ := getLabel_good hb hg
              cases hk : nameOk (joinS (ls ++ [(getLabel b i).1])) with
              | false => exact no 4 (by decide) (impl_walk_lab b hn hb i ls nx L j hi (by omega) h12 (by omega) (by omega) hzp (fun h => by rw [hg] at h; cases h) (fun _ => ⟨fun _ => rfl, fun h => by rw [hk] at h; cases h⟩) hgs)
              | true =>
                have hall2 : ∀ x ∈ ls ++ [(getLabel b i).1], labelOk x = true := by
                  intro x hx
                  rcases List.mem_append.1 hx with h | h
                  · exact hall x h
                  · rw [List.mem_singleton.1 h]
                    exact g1
                obtain ⟨i', hi'⟩ : ∃ i' : Nat, (getLabel b i).2.1 = (i' : Int) := ⟨(getLabel b i).2.1.toNat, by omega⟩
                have hgl : getLabel b i = ((getLabel b i).1, (i' : Int), true) := by rw [← hi', ← hg]
                obtain ⟨r0, _, i0, _⟩ := walk_total b hn hb L (b.length - i') i' (ls ++ [(getLabel b i).1]) nx j (by omega) hL hj hjL hnx hall2 hk
                have e := Ev_unique hr (impl_walk_one b hn hb i i' (getLabel b i).1 ls nx L j hi hgl hall hk i0)
                rw [← e] at i0
                obtain ⟨ls', q1, q2⟩ := ihD (b.length - i') (by omega) i' (ls ++ [(getLabel b i).1]) nx j r (by omega) hL hj hjL hnx hall2 hk i0 hc
                exact ⟨(getLabel b i).1 :: ls', .lab L i i' _ ls' hi hgl q1, by rw [q2, List.append_assoc]; rfl⟩
        · exact no 2 (by decide) (impl_walk_form b hn hb i ls nx L j hi (by omega) (by omega))
  · exact no 1 (by decide) (impl_walk_out b hn i ls nx L j (by omega))
theorem least_of (P : Nat → Prop) : ∀ n, P n → ∃ m, P m ∧ m ≤ n ∧ ∀ j, j < m → ¬ P j := by
  intro n
  induction n using Nat.strongRecOn with
  | _ n ih =>
    intro h
    by_cases c : ∃ j, j < n ∧ P j
    · obtain ⟨j, hj, hp⟩ := c
      obtain ⟨m, h1, h2, h3⟩ := ih j hj hp
      exact ⟨m, h1, by omega, h3⟩
    · exact ⟨n, h, Nat.le_refl n, fun j hj hp => c ⟨j, hj, hp⟩⟩
/-- A name that is read at a place: its labels are met from there on. -/
theorem name_reads (b : List Int) (hn : b.length ≤ 140737488350000) (hb : Bytes b) (p : Nat) (hp : p < b.length) (s : ByteArray) (nx : Int) (h : Ev (fun k => impl_GetName.f k b (p : Int)) (s, nx, 0)) : Reads b p p (labelsL s) := by
  obtain ⟨r, _, i1, _⟩ := read_total b hn hb (p : Int) (by omega)
  have e : (s, nx, (0 : Int)) = (r.1, r.2.1, r.2.2.1) := by
    refine Ev_unique h ?_
    unfold impl_GetName.f
    exact Ev.bind i1 (Ev_some _)
  have e1 : s = r.1 := congrArg (fun x : ByteArray × Int × Int => x.1) e
  have e3 : (0 : Int) = r.2.2.1 := congrArg (fun x : ByteArray × Int × Int => x.2.2) e
  unfold impl_read.f at i1
  obtain ⟨ls, q1, q2⟩ := reads_of b hn hb p (b.length - p) p [] (-1) 0 r (by omega) (by omega) (by omega) (by omega) (by omega) (fun x hx => by cases hx) nameOk_empty i1 e3.symm
  rw [List.nil_append] at q2
  rw [e1, q2, labels_join ls (reads_ok hb q1)]
  exact q1
theorem plain_walk (b rest : List Int) (s : ByteArray) (hok : nameOk s = true) (hn : (b ++ (wire (labelsL s) ++ (0 :: rest))).length ≤ 140737488350000) (hb : Bytes (b ++ (wire (labelsL s) ++ (0 :: rest)))) :
    Ev (fun k => impl_read.f k (b ++ (wire (labelsL s) ++ (0 :: rest))) (b.length : Int)) (s, ((b.length + (wire (labelsL s)).length + 1 : Nat) : Int), 0, 0) := by
  obtain ⟨hall, _, hl⟩ := nameOk_all hok
  have hj := join_labels s
  have hzl := szSs_ok _ hall
  unfold impl_read.f
  have hpos : rd (b ++ (wire (labelsL s) ++ (0 :: rest))) ((b.length + (wire (labelsL s)).length : Nat) : Int) = 0 := by
    rw [rd_app b _ (wire (labelsL s)).length _ (by omega), rd_app (wire (labelsL s)) (0 :: rest) 0 _ (by omega)]
    rfl
  have e := impl_walk_end _ hn hb (b.length + (wire (labelsL s)).length) ([] ++ labelsL s) (-1) (b.length : Int) 0 (by rw [List.length_append, List.length_append, List.length_cons]; omega) hpos (by rw [List.nil_append]; omega)
  rw [List.nil_append, hj] at e
  exact read_pre (labelsL s) b (0 :: rest) [] hn hb (-1) (b.length : Int) 0 _ (by rw [List.nil_append]; exact hall) (by rw [List.nil_append, hj]; exact hok) (by rw [List.nil_append]; exact e)
theorem jump_to (B : List Int) (i : Nat) (p : Int) (hp : 0 ≤ p ∧ p ≤ 16383) (h0 : rd B (i : Int) = (192 + p / 256) % 256) (h1 : rd B ((i + 1 : Nat) : Int) = p % 256) : 192 ≤ rd B (i : Int) ∧ toOf B i = p := by
  unfold toOf
  rw [h0, h1]
  omega
/-- A name that PutName wrote is read again. -/
theorem name_walk (b rest : List Int) (pl : ByteArray → Int) (hpl : Places b pl) (s : ByteArray) (hok : nameOk s = true) (hn : (b ++ (nameW pl (labelsL s) ++ rest)).length ≤ 140737488350000) (hb : Bytes (b ++ (nameW pl (labelsL s) ++ rest))) :
    ∃ j, Ev (fun k => impl_read.f k (b ++ (nameW pl (labelsL s) ++ rest)) (b.length : Int)) (s, ((b.length + (nameW pl (labelsL s)).length : Nat) : Int), 0, j) := by
  obtain ⟨hall, _, hl⟩ := nameOk_all hok
  have hj := join_labels s
  have hbb : Bytes b := fun x hx => hb x (List.mem_append_left _ hx)
  have hbn : b.length ≤ 140737488350000 := by rw [List.length_append] at hn; omega
  by_cases c : ∃ n, n < (labelsL s).length ∧ 0 ≤ pl (joinS ((labelsL s).drop n))
  · obtain ⟨n0, hn0⟩ := c
    obtain ⟨n, ⟨h1, h2⟩, _, h3⟩ := least_of (fun n => n < (labelsL s).length ∧ 0 ≤ pl (joinS ((labelsL s).drop n))) n0 hn0
    have hw := nameW_jump pl (labelsL s) n h1 (fun i hi => by
      apply Int.not_le.1
      intro q
      exact h3 i hi ⟨by omega, q⟩) h2
    have hpp := (hpl (joinS ((labelsL s).drop n))).2.2
    have hr := place_rng hpp
    rw [hw] at hn hb ⊢
    generalize pl (joinS ((labelsL s).drop n)) = p at h2 hpp hr hn hb hw
    rcases hpp with hpp | ⟨_, hp2, _, nx, j0, hg, _⟩
    · omega
    · obtain ⟨q, rfl⟩ := Int.eq_ofNat_of_zero_le h2
      have hd : ∀ x ∈ (labelsL s).drop n, labelOk x = true := fun x hx => hall x (List.mem_of_mem_drop hx)
      have rr := name_reads b hbn hbb q (by omega) _ nx hg
      rw [labels_join _ hd] at rr
      have hB : b ++ ((wire ((labelsL s).take n) ++ jumpW (q : Int)) ++ rest) = b ++ (wire ((labelsL s).take n) ++ (jumpW (q : Int) ++ rest)) := by simp
      rw [hB] at hn hb ⊢
      have rb := reads_ext (wire ((labelsL s).take n) ++ (jumpW (q : Int) ++ rest)) hbb rr q (Nat.le_refl _)
      have ht : ∀ x ∈ (labelsL s).take n, labelOk x = true := fun x hx => hall x (List.mem_of_mem_take hx)
      have etd : (labelsL s).take n ++ (labelsL s).drop n = labelsL s := List.take_append_drop n _
      obtain ⟨nx', j', e1, e2⟩ := read_fwd hn hb rb ((labelsL s).take n) ((b.length + (wire ((labelsL s).take n)).length + 2 : Nat) : Int) 1 ht (by rw [etd, hj]; exact hok) (by omega) (by rw [List.length_append]; simp [jumpW]; omega)
      rw [etd, hj, e2 (by omega)] at e1
      obtain ⟨z1, z2⟩ := jump_to (b ++ (wire ((labelsL s).take n) ++ (jumpW (q : Int) ++ rest))) (b.length + (wire ((labelsL s).take n)).length) (q : Int) (by omega) (by
        rw [rd_app b _ (wire ((labelsL s).take n)).length _ (by omega), rd_app (wire ((labelsL s).take n)) _ 0 _ (by omega)]
        rfl) (by
        rw [rd_app b _ ((wire ((labelsL s).take n)).length + 1) _ (by omega), rd_app (wire ((labelsL s).take n)) _ 1 _ (by omega)]
        rfl)
      refine ⟨j', ?_⟩
      unfold impl_read.f
      have hlen : ((b.length + (wire ((labelsL s).take n) ++ jumpW (q : Int)).length : Nat) : Int) = ((b.length + (wire ((labelsL s).take n)).length + 2 : Nat) : Int) := by simp [jumpW]; omega
      rw [hlen]
      refine read_pre ((labelsL s).take n) b (jumpW (q : Int) ++ rest) [] hn hb (-1) (b.length : Int) 0 _ (by rw [List.nil_append]; exact ht) ?_ ?_
      · rw [List.nil_append]
        refine nameOk_take (c := (labelsL s).drop n) ?_ ?_
        · rw [etd]
          exact hall
        · rw [etd, hj]
          exact hok
      · rw [List.nil_append]
        refine impl_walk_jump _ hn hb _ _ (-1) (b.length : Int) 0 (by simp [jumpW]; omega) z1 (by omega) (by omega) ?_
        rw [z2, if_pos (by decide)]
        exact e1
  · have hw := nameW_plain pl (labelsL s) (fun i hi => by
      apply Int.not_le.1
      intro q
      exact c ⟨i, hi, q⟩)
    have hB : b ++ (nameW pl (labelsL s) ++ rest) = b ++ (wire (labelsL s) ++ (0 :: rest)) := by rw [hw]; simp
    have hlen : ((b.length + (nameW pl (labelsL s)).length : Nat) : Int) = ((b.length + (wire (labelsL s)).length + 1 : Nat) : Int) := by rw [hw]; simp; omega
    rw [hlen, hB]
    rw [hB] at hn hb
    exact ⟨0, plain_walk b rest s hok hn hb⟩
theorem bytes_be2 (n : Int) : Bytes (be2 n) := by
  intro x hx
  unfold be2 at hx
  simp only [List.mem_cons, List.not_mem_nil, or_false] at hx
  omega
theorem bytes_be4 (n : Int) : Bytes (be4 n) := by
  intro x hx
  unfold be4 at hx
  simp only [List.mem_cons, List.not_mem_nil, or_false] at hx
  omega
theorem bytes_put2 {b : List Int} (hb : Bytes b) (n : Int) : Bytes (put2 b n) := by
  unfold put2
  split
  · exact hb.append (bytes_be2 n)
  · exact hb
theorem bytes_put4 {b : List Int} (hb : Bytes b) (n : Int) : Bytes (put4 b n) := by
  unfold put4
  split
  · exact hb.append (bytes_be4 n)
  · exact hb
theorem bytes_nil : Bytes [] := fun x hx => by cases hx
theorem bytes_labW {x : ByteArray} (h : labelOk x = true) : Bytes (labW x) := by
  intro y hy
  have hs := labelOk_size h
  unfold labW at hy
  rcases List.mem_cons.1 hy with e | e
  · omega
  · exact bytes_bytesOf x y e
theorem bytes_wire : ∀ {ls : List ByteArray}, (∀ x ∈ ls, labelOk x = true) → Bytes (wire ls)
  | [], _ => bytes_nil
  | x :: ls, h => (bytes_labW (h x List.mem_cons_self)).append (bytes_wire (fun y hy => h y (List.mem_cons_of_mem _ hy)))
theorem bytes_zero : Bytes [0] := fun x hx => by
  rw [List.mem_singleton.1 hx]
  omega
theorem bytes_jumpW (p : Int) : Bytes (jumpW p) := by
  intro x hx
  unfold jumpW at hx
  simp only [List.mem_cons, List.not_mem_nil, or_false] at hx
  omega
theorem bytes_nameW (pl : ByteArray → Int) : ∀ {ls : List ByteArray}, (∀ x ∈ ls, labelOk x = true) → Bytes (nameW pl ls)
  | [], _ => bytes_zero
  | x :: ls, h => by
    unfold nameW
    split
    · exact bytes_jumpW _
    · exact (bytes_labW (h x List.mem_cons_self)).append (bytes_nameW pl (fun y hy => h y (List.mem_cons_of_mem _ hy)))
theorem bytes_putName (pl : ByteArray → Int) {b : List Int} (hb : Bytes b) (s : ByteArray) : Bytes (putName pl b s) := by
  unfold putName
  split
  · rename_i h
    exact hb.append (bytes_nameW pl (nameOk_all h).1)
  · exact hb
theorem bytes_putPlain {b : List Int} (hb : Bytes b) (s : ByteArray) : Bytes (putPlain b s) := by
  unfold putPlain
  split
  · rename_i h
    exact hb.append ((bytes_wire (nameOk_all h).1).append bytes_zero)
  · exact hb
theorem bytes_putData (a0 : ByteArray) (a1 a2 a3 : Int) (a4 a5 : ByteArray) : Bytes (putData a0 a1 a2 a3 a4 a5) := by
  unfold putData
  split
  · split
    · exact bytes_put4 bytes_nil _
    · split
      · exact bytes_put4 (bytes_putPlain bytes_nil _) _
      · split
        · intro x hx
          rcases List.mem_cons.1 hx with e | e
          · omega
          · exact bytes_bytesOf a5 x e
        · exact bytes_putPlain bytes_nil _
  · exact bytes_nil
theorem bytes_putRecord (pl : ByteArray → Int) {b : List Int} (hb : Bytes b) (a0 : ByteArray) (a1 a2 a3 : Int) (a4 a5 : ByteArray) : Bytes (putRecord pl b a0 a1 a2 a3 a4 a5) := by
  unfold putRecord
  split
  · exact (bytes_put2 (bytes_put4 (bytes_put2 (bytes_put2 (bytes_putName pl hb a0) a1) 1) a2) _).append (bytes_putData a0 a1 a2 a3 a4 a5)
  · exact hb
theorem recOk_parts {a0 : ByteArray} {a1 a2 a3 : Int} {a4 a5 : ByteArray} (h : recOk a0 a1 a2 a3 a4 a5 = true) : nameOk a0 = true ∧ (0 ≤ a2 ∧ a2 ≤ 100000) ∧ ((a1 = 2 ∨ a1 = 5 ∨ a1 = 6) → nameOk a4 = true) := by
  unfold recOk at h
  simp only [Bool.and_eq_true] at h
  obtain ⟨h0, h2, hr⟩ := h
  unfold inTo at h2
  rw [Bool.and_eq_true, decide_eq_true_eq, decide_eq_true_eq] at h2
  refine ⟨h0, h2, fun c => ?_⟩
  rw [if_neg (by omega)] at hr
  by_cases c2 : a1 = 2 ∨ a1 = 5
  · rw [if_pos c2] at hr
    simp only [Bool.and_eq_true] at hr
    exact hr.2.1
  · rw [if_neg c2, if_pos (by omega)] at hr
    simp only [Bool.and_eq_true] at hr
    exact hr.2.1
/-- The host of a record's data is read where the data begin. -/
theorem host_walk (Y rest : List Int) (a0 : ByteArray) (a1 a2 a3 : Int) (a4 a5 : ByteArray) (h : recOk a0 a1 a2 a3 a4 a5 = true) (c : a1 = 2 ∨ a1 = 5 ∨ a1 = 6) (hn : (Y ++ (putData a0 a1 a2 a3 a4 a5 ++ rest)).length ≤ 140737488350000) (hb : Bytes (Y ++ (putData a0 a1 a2 a3 a4 a5 ++ rest))) :
    Ev (fun k => impl_read.f k (Y ++ (putData a0 a1 a2 a3 a4 a5 ++ rest)) (Y.length : Int)) (a4, (Y.length : Int) + ((putPlain [] a4).length : Int), 0, 0) := by
  have h4 := (recOk_parts h).2.2 c
  have hp : putPlain [] a4 = wire (labelsL a4) ++ [0] := by unfold putPlain; rw [if_pos h4, List.nil_append]
  have e : ∃ r2, putData a0 a1 a2 a3 a4 a5 ++ rest = wire (labelsL a4) ++ (0 :: r2) := by
    unfold putData
    rw [if_pos h, if_neg (by omega)]
    by_cases c6 : a1 = 6
    · rw [if_pos c6]
      unfold put4
      split
      · exact ⟨be4 a3 ++ rest, by rw [hp]; simp⟩
      · exact ⟨rest, by rw [hp]; simp⟩
    · rw [if_neg c6, if_neg (by omega)]
      exact ⟨rest, by rw [hp]; simp⟩
  obtain ⟨r2, e⟩ := e
  rw [e] at hn hb ⊢
  have w := plain_walk Y r2 a4 h4 hn hb
  have e2 : ((Y.length + (wire (labelsL a4)).length + 1 : Nat) : Int) = (Y.length : Int) + ((putPlain [] a4).length : Int) := by rw [hp]; simp; omega
  rw [e2] at w
  exact w
/-- Reading a name where reading it is known. -/
theorem name_known (b : List Int) (hn : b.length ≤ 140737488350000) (hb : Bytes b) (i : Int) (hi : -9223372036854775808 ≤ i ∧ i ≤ 9223372036854775807) (nm : NameT) (h : Ev (fun k => impl_read.f k b i) nm) :
    Ev (fun k => spec_GetName.f k b i) (nm.1, nm.2.1, nm.2.2.1) ∧ Ev (fun k => impl_GetName.f k b i) (nm.1, nm.2.1, nm.2.2.1) ∧ WalkPost b i (-1) nm := by
  obtain ⟨r, h1, h2, h3⟩ := read_total b hn hb i hi
  have e := Ev_unique h2 h
  subst e
  unfold spec_GetName.f impl_GetName.f
  exact ⟨Ev.bind h1 (Ev_some _), Ev.bind h2 (Ev_some _), h3⟩
theorem small_all (l : List ByteArray) (n : Nat) (h : l.all (fun x => decide (x.size ≤ n)) = true) : ∀ x ∈ l, x.size ≤ n := by
  intro x hx
  have := List.all_eq_true.1 h x hx
  rwa [decide_eq_true_eq] at this
theorem l3Name_dr (b : List Int) (hn : b.length ≤ 140737488351232) (i h : Int) (c : CurOk b i) : Dr b (spec_l3Name.f b i h) (fun s => s.size ≤ 60) := by
  unfold spec_l3Name.f
  obtain ⟨x, j, g, e, p, c2⟩ := l1Str_dr b hn i h [(⟨#[]⟩ : ByteArray), (⟨#[99, 111, 109]⟩ : ByteArray), (⟨#[101, 120, 46, 99, 111, 109]⟩ : ByteArray), (⟨#[119, 119, 119, 46, 101, 120, 46, 99, 111, 109]⟩ : ByteArray), (⟨#[110, 115, 46, 101, 120, 46, 99, 111, 109]⟩ : ByteArray), (⟨#[111, 114, 103]⟩ : ByteArray), (⟨#[97, 46, 111, 114, 103]⟩ : ByteArray), (⟨#[98, 46, 97, 46, 111, 114, 103]⟩ : ByteArray), (⟨#[110, 115, 49, 46, 111, 114, 103]⟩ : ByteArray), (⟨#[120, 46, 121, 46, 122, 46, 101, 120, 46, 99, 111, 109]⟩ : ByteArray)] (by simp) c
  rw [e]
  exact ⟨_, _, _, rfl, small_all _ 60 (by decide) x p, c2⟩
theorem l3Any_dr (b : List Int) (hn : b.length ≤ 140737488351232) (i h : Int) (c : CurOk b i) : Dr b (spec_l3Any.f b i h) (fun s => s.size ≤ 60) := by
  unfold spec_l3Any.f
  obtain ⟨x, j, g, e, p, c2⟩ := l1Once_dr b hn i h 5 c
  rw [e]
  simp only [Option.bind_some]
  by_cases q : x = true
  · rw [if_pos q]
    obtain ⟨y, j2, g2, e2, p2, c3⟩ := l1Str_dr b hn j g [(⟨#[46]⟩ : ByteArray), (⟨#[97, 46]⟩ : ByteArray), (⟨#[65, 46, 99, 111, 109]⟩ : ByteArray), (⟨#[97, 46, 46, 98]⟩ : ByteArray), (⟨#[97, 46, 98, 46, 99, 46, 100, 46, 101, 46, 102]⟩ : ByteArray), (⟨#[97, 46, 98, 46, 99, 46, 100, 46, 101, 46, 102, 46, 103]⟩ : ByteArray), (⟨#[116, 119, 101, 108, 118, 101, 98, 121, 116, 101, 115, 48, 46, 116, 119, 101, 108, 118, 101, 98, 121, 116, 101, 115, 48, 46, 116, 119, 101, 108, 118, 101, 98, 121, 116, 101, 115, 48, 46, 116, 119, 101, 108, 118, 101, 98, 121, 116, 101, 115, 48]⟩ : ByteArray), (⟨#[116, 104, 105, 114, 116, 101, 101, 110, 98, 121, 116, 101, 115, 46, 97]⟩ : ByteArray)] (by simp) c2
    rw [e2]
    exact ⟨_, _, _, rfl, small_all _ 60 (by decide) y p2, c3⟩
  · rw [if_neg q]
    obtain ⟨y, j2, g2, e2, p2, c3⟩ := l3Name_dr b hn j g c2
    rw [e2]
    exact ⟨_, _, _, rfl, p2, c3⟩
theorem l5Draw_ev (b : List Int) (hn : b.length ≤ 140737488351232) (i h : Int) (c : CurOk b i) : ∃ a0 a1 a2 a3 a4 a5 j g, Ev (fun k => spec_l5Draw.f k b i h) (a0, a1, a2, a3, a4, a5, j, g) ∧ (a0.size ≤ 60 ∧ a4.size ≤ 60 ∧ a5.size ≤ 20) ∧ CurOk b j := by
  have z : (⟨#[]⟩ : ByteArray).size = 0 := rfl
  obtain ⟨nm, j1, g1, e1, p1, c1⟩ := l3Name_dr b hn i h c
  obtain ⟨ty, j2, g2, e2, p2, c2⟩ := l1Int_dr b hn j1 g1 [1, 1, 1, 2, 2, 5, 6, 16] (by simp) c1
  obtain ⟨tt, j3, g3, e3, p3, c3⟩ := l1Int_dr b hn j2 g2 [0, 1, 5, 60, 300, 100000] (by simp) c2
  have e2' : spec_l5Type.f b j1 g1 = some (ty, j2, g2) := by
    unfold spec_l5Type.f
    rw [e2]
    rfl
  have hj : ∀ f : Bool, ∃ a0 a1 a2 a3 a4 a5 j g, Ev (fun k => spec_l5Draw.j0 k ty f b j3 g3 nm ty tt 0 (⟨#[]⟩ : ByteArray) (⟨#[]⟩ : ByteArray)) (a0, a1, a2, a3, a4, a5, j, g) ∧ (a0.size ≤ 60 ∧ a4.size ≤ 60 ∧ a5.size ≤ 20) ∧ CurOk b j := by
    intro f
    by_cases q : f = true
    · obtain ⟨x, j4, g4, e4, p4, c4⟩ := l3Name_dr b hn j3 g3 c3
      refine ⟨nm, ty, tt, 0, x, (⟨#[]⟩ : ByteArray), j4, g4, Ev.step (f := fun _ => some (nm, ty, tt, 0, x, (⟨#[]⟩ : ByteArray), j4, g4)) (fun k => ?_) (Ev_some _), ⟨p1, p4, by omega⟩, c4⟩
      simp only [spec_l5Draw.j0]
      rw [if_pos q, e4]
      rfl
    · by_cases q6 : ty = 6
      · obtain ⟨x, j4, g4, e4, p4, c4⟩ := l3Name_dr b hn j3 g3 c3
        obtain ⟨y, j5, g5, e5, p5, c5⟩ := l1Int_dr b hn j4 g4 [0, 5, 60] (by simp) c4
        refine ⟨nm, ty, tt, y, x, (⟨#[]⟩ : ByteArray), j5, g5, Ev.step (f := fun _ => some (nm, ty, tt, y, x, (⟨#[]⟩ : ByteArray), j5, g5)) (fun k => ?_) (Ev_some _), ⟨p1, p4, by omega⟩, c5⟩
        simp only [spec_l5Draw.j0]
        rw [if_neg q, if_pos q6, e4]
        simp only [Option.bind_some]
        rw [e5]
        rfl
      · by_cases q16 : ty = 16
        · obtain ⟨x, j4, g4, e4, p4, c4⟩ := l1Str_dr b hn j3 g3 [(⟨#[]⟩ : ByteArray), (⟨#[104, 105]⟩ : ByteArray), (⟨#[116, 119, 101, 108, 118, 101, 98, 121, 116, 101, 115, 33]⟩ : ByteArray)] (by simp) c3
          refine ⟨nm, ty, tt, 0, (⟨#[]⟩ : ByteArray), x, j4, g4, Ev.step (f := fun _ => some (nm, ty, tt, 0, (⟨#[]⟩ : ByteArray), x, j4, g4)) (fun k => ?_) (Ev_some _), ⟨p1, by omega, small_all _ 20 (by decide) x p4⟩, c4⟩
          simp only [spec_l5Draw.j0]
          rw [if_neg q, if_neg q6, if_pos q16, e4]
          rfl
        · refine ⟨nm, ty, tt, 0, (⟨#[]⟩ : ByteArray), (⟨#[]⟩ : ByteArray), j3, g3, Ev.step (f := fun _ => some (nm, ty, tt, 0, (⟨#[]⟩ : ByteArray), (⟨#[]⟩ : ByteArray), j3, g3)) (fun k => ?_) (Ev_some _), ⟨p1, by omega, by omega⟩, c3⟩
          simp only [spec_l5Draw.j0]
          rw [if_neg q, if_neg q6, if_neg q16]
  unfold spec_l5Draw.f
  rw [e1]
  simp only [Option.bind_some]
  rw [e2']
  simp only [Option.bind_some]
  rw [e3]
  simp only [Option.bind_some]
  by_cases q1 : ty = 1
  · obtain ⟨x, j4, g4, e4, p4, c4⟩ := l1Below_dr b hn j3 g3 9 c3
    refine ⟨nm, ty, tt, wrap64 (1 + x), (⟨#[]⟩ : ByteArray), (⟨#[]⟩ : ByteArray), j4, g4, Ev_if q1 (Ev_c ?_), ⟨p1, by omega, by omega⟩, c4⟩
    rw [e4]
    rfl
  · by_cases q2 : ty = 2
    · obtain ⟨a0, a1, a2, a3, a4, a5, j, g, h1, h2, h3⟩ := hj (ty == 2)
      exact ⟨a0, a1, a2, a3, a4, a5, j, g, Ev_ifn q1 (Ev_if q2 h1), h2, h3⟩
    · obtain ⟨a0, a1, a2, a3, a4, a5, j, g, h1, h2, h3⟩ := hj (ty == 5)
      exact ⟨a0, a1, a2, a3, a4, a5, j, g, Ev_ifn q1 (Ev_ifn q2 h1), h2, h3⟩
theorem l5Any_ev (b : List Int) (hn : b.length ≤ 140737488351232) (i h : Int) (c : CurOk b i) : ∃ a0 a1 a2 a3 a4 a5 j g, Ev (fun k => spec_l5Any.f k b i h) (a0, a1, a2, a3, a4, a5, j, g) ∧ (a0.size ≤ 60 ∧ a4.size ≤ 60 ∧ a5.size ≤ 20) ∧ CurOk b j := by
  unfold spec_l5Any.f
  obtain ⟨a0, a1, a2, a3, a4, a5, j1, g1, d1, ⟨p0, p4, p5⟩, c1⟩ := l5Draw_ev b hn i h c
  obtain ⟨x, j2, g2, e2, p2, c2⟩ := l1Below_dr b hn j1 g1 12 c1
  by_cases q0 : x = 0
  · obtain ⟨s, j3, g3, e3, p3, c3⟩ := l3Any_dr b hn j2 g2 c2
    refine ⟨s, a1, a2, a3, a4, a5, j3, g3, Ev.bind d1 (Ev_c ?_), ⟨p3, p4, p5⟩, c3⟩
    simp only [e2, Option.bind_some]
    rw [if_pos q0, e3]
    rfl
  · by_cases q1 : x = 1
    · obtain ⟨s, j3, g3, e3, p3, c3⟩ := l1Int_dr b hn j2 g2 [0, 3, 15, 1, 2, 6] (by simp) c2
      refine ⟨a0, s, a2, a3, a4, a5, j3, g3, Ev.bind d1 (Ev_c ?_), ⟨p0, p4, p5⟩, c3⟩
      simp only [e2, Option.bind_some]
      rw [if_neg q0, if_pos q1, e3]
      rfl
    · by_cases q2 : x = 2
      · obtain ⟨s, j3, g3, e3, p3, c3⟩ := l1Int_dr b hn j2 g2 [-1, 100000, 100001] (by simp) c2
        refine ⟨a0, a1, s, a3, a4, a5, j3, g3, Ev.bind d1 (Ev_c ?_), ⟨p0, p4, p5⟩, c3⟩
        simp only [e2, Option.bind_some]
        rw [if_neg q0, if_neg q1, if_pos q2, e3]
        rfl
      · by_cases q3 : x = 3
        · obtain ⟨s, j3, g3, e3, p3, c3⟩ := l1Int_dr b hn j2 g2 [-1, 2147483647, 2147483648, 100001, 0] (by simp) c2
          refine ⟨a0, a1, a2, s, a4, a5, j3, g3, Ev.bind d1 (Ev_c ?_), ⟨p0, p4, p5⟩, c3⟩
          simp only [e2, Option.bind_some]
          rw [if_neg q0, if_neg q1, if_neg q2, if_pos q3, e3]
          rfl
        · by_cases q4 : x = 4
          · obtain ⟨s, j3, g3, e3, p3, c3⟩ := l3Any_dr b hn j2 g2 c2
            refine ⟨a0, a1, a2, a3, s, a5, j3, g3, Ev.bind d1 (Ev_c ?_), ⟨p0, p3, p5⟩, c3⟩
            simp only [e2, Option.bind_some]
            rw [if_neg q0, if_neg q1, if_neg q2, if_neg q3, if_pos q4, e3]
            rfl
          · by_cases q5 : x = 5
            · obtain ⟨s, j3, g3, e3, p3, c3⟩ := l1Str_dr b hn j2 g2 [(⟨#[32]⟩ : ByteArray), (⟨#[127]⟩ : ByteArray), (⟨#[116, 104, 105, 114, 116, 101, 101, 110, 98, 121, 116, 101, 115]⟩ : ByteArray), (⟨#[120]⟩ : ByteArray)] (by simp) c2
              refine ⟨a0, a1, a2, a3, a4, s, j3, g3, Ev.bind d1 (Ev_c ?_), ⟨p0, p4, small_all _ 20 (by decide) s p3⟩, c3⟩
              simp only [e2, Option.bind_some]
              rw [if_neg q0, if_neg q1, if_neg q2, if_neg q3, if_neg q4, if_pos q5, e3]
              rfl
            · refine ⟨a0, a1, a2, a3, a4, a5, j2, g2, Ev.bind d1 (Ev_c ?_), ⟨p0, p4, p5⟩, c2⟩
              simp only [e2, Option.bind_some]
              rw [if_neg q0, if_neg q1, if_neg q2, if_neg q3, if_neg q4, if_neg q5]
/-- What a drawn record fits into. -/
def smallR (x : S25) : Prop := x.f0.size ≤ 60 ∧ x.f4.size ≤ 60 ∧ x.f5.size ≤ 20
theorem l5List_loop (b : List Int) (hn : b.length ≤ 140737488351232) : ∀ (d : Nat) (acc : List S25) (j g : Int), acc.length + d ≤ 100 → (∀ x ∈ acc, smallR x) → CurOk b j →
    ∃ r j2 g2, Ev (fun k => spec_l5List.l0 k acc (d : Int) b j g) (r, j2, g2) ∧ r.length ≤ acc.length + d ∧ (∀ x ∈ r, smallR x) ∧ CurOk b j2 := by
  intro d
  induction d with
  | zero =>
    intro acc j g h hs c
    refine ⟨acc, j, g, Ev.step (f := fun _ => some (acc, j, g)) (fun k => ?_) (Ev_some _), by omega, hs, c⟩
    simp only [spec_l5List.l0]
    rw [if_neg (by omega)]
  | succ d ih =>
    intro acc j g h hs c
    obtain ⟨a0, a1, a2, a3, a4, a5, j1, g1, d1, p, c1⟩ := l5Draw_ev b hn j g c
    obtain ⟨r, j2, g2, e, p1, p2, c2⟩ := ih (acc ++ [(⟨a0, a1, a2, a3, a4, a5⟩ : S25)]) j1 g1 (by simp; omega) (fun x hx => by
      rcases List.mem_append.1 hx with q | q
      · exact hs x q
      · rw [List.mem_singleton.1 q]
        exact p) c1
    have w : wrap64 (((d + 1 : Nat) : Int) - 1) = (d : Int) := by rw [wrap_id (by omega) (by omega)]; omega
    refine ⟨r, j2, g2, Ev.step (f := fun k => (spec_l5Draw.f k b j g).bind fun t => if acc.length < 1954687338268 then spec_l5List.l0 k (acc ++ [(⟨t.1, t.2.1, t.2.2.1, t.2.2.2.1, t.2.2.2.2.1, t.2.2.2.2.2.1⟩ : S25)]) (d : Int) b t.2.2.2.2.2.2.1 t.2.2.2.2.2.2.2 else none) (fun k => ?_) (Ev.bind d1 (Ev_if (by omega) e)), by simp at p1; omega, p2, c2⟩
    simp only [spec_l5List.l0]
    rw [if_pos (by omega), w]
theorem l5List_ev (b : List Int) (hn : b.length ≤ 140737488351232) (i h : Int) (m : Nat) (hm : m ≤ 20) (c : CurOk b i) : ∃ r j g, Ev (fun k => spec_l5List.f k b i h (m : Int)) (r, j, g) ∧ r.length ≤ m ∧ (∀ x ∈ r, smallR x) ∧ CurOk b j := by
  unfold spec_l5List.f
  have w : wrap64 ((m : Int) + 1) = (m : Int) + 1 := wrap_id (by omega) (by omega)
  rw [w]
  obtain ⟨x, j1, g1, e1, ⟨p1, p2, _⟩, c1⟩ := l1Below_dr b hn i h ((m : Int) + 1) c
  obtain ⟨n, rfl⟩ := Int.eq_ofNat_of_zero_le p1
  have p2 := p2 (by omega)
  rw [e1]
  simp only [Option.bind_some]
  obtain ⟨r, j, g, e, q1, q2, q3⟩ := l5List_loop b hn n [] j1 g1 (by simp; omega) (fun x hx => by cases hx) c1
  exact ⟨r, j, g, e, by simp at q1; omega, q2, q3⟩
/-- What TypeOk answers. -/
def typeOk (n : Int) : Bool := decide (n = 1 ∨ n = 2 ∨ n = 5 ∨ n = 6 ∨ n = 16)
theorem impl_TypeOk_eq (n : Int) : impl_TypeOk.f n = some (typeOk n) := by
  unfold impl_TypeOk.f impl_TypeText.f typeOk
  by_cases h1 : n = 1
  · simp [h1]
  · by_cases h2 : n = 2
    · simp [h2]
    · by_cases h5 : n = 5
      · simp [h5]
      · by_cases h6 : n = 6
        · simp [h6]
        · by_cases h16 : n = 16
          · simp [h16]
          · simp [h1, h2, h5, h6, h16]
theorem Ev_vt {α : Type} {c : Prop} [Decidable c] {f : Nat → Option α} {x y : α} (h : c) (e : Ev f x) : Ev f (if c then x else y) := by
  rw [if_pos h]
  exact e
theorem Ev_vn {α : Type} {c : Prop} [Decidable c] {f : Nat → Option α} {x y : α} (h : ¬ c) (e : Ev f y) : Ev f (if c then x else y) := by
  rw [if_neg h]
  exact e
theorem Ev_viff {α : Type} {c d : Prop} [Decidable c] [Decidable d] {f : Nat → Option α} {x y : α} (h : c ↔ d) (e : Ev f (if c then x else y)) : Ev f (if d then x else y) := by
  by_cases q : c
  · rw [if_pos q] at e
    rw [if_pos (h.1 q)]
    exact e
  · rw [if_neg q] at e
    rw [if_neg (fun z => q (h.2 z))]
    exact e
abbrev RecT := ByteArray × Int × Int × Int × ByteArray × ByteArray × Int
def noRec (c : Int) : RecT := ((⟨#[]⟩ : ByteArray), 0, 0, 0, (⟨#[]⟩ : ByteArray), (⟨#[]⟩ : ByteArray), c)
/-- The text of a record's data. -/
def txtOf (b : List Int) (i n : Int) : ByteArray := strOfNums ((b.take (i + n).toNat).drop (i + 1).toNat)
theorem txtOf_size (b : List Int) (hn : b.length ≤ 140737488350000) (i n : Int) : (txtOf b i n).size ≤ 140737488355328 := by
  unfold txtOf
  rw [strOfNums_size, List.length_drop, List.length_take]
  omega
/-- What follows once length, place and type are right. -/
def dataIn (nm : NameT) (b : List Int) (i n ty : Int) : RecT :=
  if ty = 1 then (if (get4 b i).2 = true ∧ n = 4 then ((⟨#[]⟩ : ByteArray), ty, 0, (get4 b i).1, (⟨#[]⟩ : ByteArray), (⟨#[]⟩ : ByteArray), 0) else noRec 2)
  else if ty = 16 then (if (1 ≤ n ∧ rd b i = n - 1) ∧ textOk (txtOf b i n) = true then ((⟨#[]⟩ : ByteArray), ty, 0, 0, (⟨#[]⟩ : ByteArray), txtOf b i n, 0) else noRec 2)
  else if nm.2.2.1 = 0 then (if ty = 6 then (if (get4 b nm.2.1).2 = true ∧ nm.2.1 + 4 = i + n then ((⟨#[]⟩ : ByteArray), ty, 0, (get4 b nm.2.1).1, nm.1, (⟨#[]⟩ : ByteArray), 0) else noRec 2)
    else (if nm.2.1 = i + n then ((⟨#[]⟩ : ByteArray), ty, 0, 0, nm.1, (⟨#[]⟩ : ByteArray), 0) else noRec 2))
  else noRec nm.2.2.1
/-- What GetData returns, given the name that stands at its place. -/
def dataOf (nm : NameT) (b : List Int) (i n ty : Int) : RecT :=
  if 0 ≤ n ∧ n ≤ 255 then (if 0 ≤ i ∧ i ≤ (b.length : Int) - n then (if typeOk ty = true then dataIn nm b i n ty else noRec 2) else noRec 1) else noRec 2
theorem impl_GetData_j5 (i n e : Int) (d : Bool) (x0 : ByteArray) (x1 x2 x3 : Int) (x4 x5 : ByteArray) (hw : wrap64 (i + n) = i + n) : Ev (fun k => impl_GetData.j5 k i n e d x0 x1 x2 x3 x4 x5) (if d = true ∧ e = i + n then (x0, x1, x2, x3, x4, x5, 0) else noRec 2) := by
  refine Ev.step (f := fun _ => some (if d = true ∧ e = i + n then ((x0, x1, x2, x3, x4, x5, 0) : RecT) else noRec 2)) (fun k => ?_) (Ev_some _)
  simp only [impl_GetData.j5]
  rw [hw]
  cases d with
  | true =>
    rw [if_pos rfl]
    by_cases c : e = i + n
    · rw [if_pos c, if_pos ⟨rfl, c⟩]
    · rw [if_neg c, if_neg (fun q => c q.2)]
      rfl
  | false =>
    rw [if_neg (by decide), if_neg (by simp)]
    rfl
theorem impl_GetData_j2 (b : List Int) (hn : b.length ≤ 140737488350000) (hb : Bytes b) (i n ty : Int) (nm : NameT) (h1 : Ev (fun k => impl_GetName.f k b i) (nm.1, nm.2.1, nm.2.2.1)) (hp : WalkPost b i (-1) nm)
    (hi : 0 ≤ i ∧ i ≤ (b.length : Int) - n) (hn0 : 0 ≤ n ∧ n ≤ 255) : Ev (fun k => impl_GetData.j2 k b i n ty) (dataIn nm b i n ty) := by
  have w1 : wrap64 (i + n) = i + n := wrap_id (by omega) (by omega)
  have w2 : wrap64 (i + 1) = i + 1 := wrap_id (by omega) (by omega)
  have w4 : wrap64 (i + 4) = i + 4 := wrap_id (by omega) (by omega)
  unfold dataIn
  by_cases c1 : ty = 1
  · refine Ev_vt c1 ?_
    refine Ev.step (f := fun k => (impl_Get4.f k b i).bind fun t => impl_GetData.j5 k i n (i + 4) t.2 (⟨#[]⟩ : ByteArray) ty 0 t.1 (⟨#[]⟩ : ByteArray) (⟨#[]⟩ : ByteArray)) (fun k => ?_) (Ev.bind (impl_Get4_eq b (by omega) hb i (by omega)) ?_)
    · simp only [impl_GetData.j2]
      rw [if_pos c1, w4]
    · have e := impl_GetData_j5 i n (i + 4) (get4 b i).2 (⟨#[]⟩ : ByteArray) ty 0 (get4 b i).1 (⟨#[]⟩ : ByteArray) (⟨#[]⟩ : ByteArray) w1
      have q : ((get4 b i).2 = true ∧ i + 4 = i + n) ↔ ((get4 b i).2 = true ∧ n = 4) := by
        constructor
        · rintro ⟨a, c⟩
          exact ⟨a, by omega⟩
        · rintro ⟨a, c⟩
          exact ⟨a, by omega⟩
      exact Ev_viff q e
  · refine Ev_vn c1 ?_
    by_cases c16 : ty = 16
    · refine Ev_vt c16 ?_
      by_cases cn : n = 0
      · refine Ev_vn (by omega) ?_
        refine Ev.step (f := fun _ => some (noRec 2)) (fun k => ?_) (Ev_some _)
        simp only [impl_GetData.j2]
        rw [if_neg c1, if_pos c16, if_pos cn]
        rfl
      · refine Ev.step (f := fun k => impl_GetData.j3 k b i n i true (⟨#[]⟩ : ByteArray) ty 0 0 (⟨#[]⟩ : ByteArray) (⟨#[]⟩ : ByteArray)) (fun k => ?_) ?_
        · simp only [impl_GetData.j2]
          rw [if_neg c1, if_pos c16, if_neg cn]
        · have hr := rd_byte hb i
          have w5 : wrap64 (1 + rd b i) = 1 + rd b i := wrap_id (by omega) (by omega)
          have w6 : wrap64 (i + (1 + rd b i)) = i + (1 + rd b i) := wrap_id (by omega) (by omega)
          by_cases q : rd b i = n - 1
          · have q2 : i + (1 + rd b i) = i + n := by omega
            refine Ev.step (f := fun k => (impl_isText.f k (txtOf b i n)).bind fun t => impl_GetData.j5 k i n (i + n) t (⟨#[]⟩ : ByteArray) ty 0 0 (⟨#[]⟩ : ByteArray) (txtOf b i n)) (fun k => ?_) (Ev.bind (impl_isText_eq _ (txtOf_size b hn i n)) ?_)
            · simp only [impl_GetData.j3]
              rw [rd_rng hb, w5, w6, q2, w1, w2, if_pos (by omega), if_pos (by omega), if_pos rfl, if_pos (by omega), if_pos (by omega), if_pos (by omega)]
              rfl
            · have e := impl_GetData_j5 i n (i + n) (textOk (txtOf b i n)) (⟨#[]⟩ : ByteArray) ty 0 0 (⟨#[]⟩ : ByteArray) (txtOf b i n) w1
              have z : (textOk (txtOf b i n) = true ∧ i + n = i + n) ↔ ((1 ≤ n ∧ rd b i = n - 1) ∧ textOk (txtOf b i n) = true) := by
                constructor
                · rintro ⟨a, _⟩
                  exact ⟨⟨by omega, q⟩, a⟩
                · rintro ⟨_, a⟩
                  exact ⟨a, rfl⟩
              exact Ev_viff z e
          · refine Ev_vn (fun z => q z.1.2) ?_
            have e := impl_GetData_j5 i n (i + (1 + rd b i)) true (⟨#[]⟩ : ByteArray) ty 0 0 (⟨#[]⟩ : ByteArray) (⟨#[]⟩ : ByteArray) w1
            rw [if_neg (by rintro ⟨_, z⟩; omega)] at e
            refine Ev.step (fun k => ?_) e
            simp only [impl_GetData.j3]
            rw [rd_rng hb, w5, w6, w1, if_pos (by omega), if_pos (by omega), if_neg (by omega)]
    · refine Ev_vn c16 ?_
      refine Ev.step (f := fun k => (impl_GetName.f k b i).bind fun t => if t.2.2 = 0 then impl_GetData.j4 k b i n ty true t.1 t.2.1 (⟨#[]⟩ : ByteArray) ty 0 0 (⟨#[]⟩ : ByteArray) (⟨#[]⟩ : ByteArray) else some (noRec t.2.2)) (fun k => ?_) (Ev.bind h1 ?_)
      · simp only [impl_GetData.j2]
        rw [if_neg c1, if_neg c16]
        rfl
      · obtain ⟨_, hp | hp⟩ := hp
        · obtain ⟨p1, p2, p3, _, p5⟩ := hp
          have p3 := p3 (by omega)
          refine Ev_vt p1 ?_
          refine Ev_if p1 ?_
          have w7 : wrap64 (nm.2.1 + 4) = nm.2.1 + 4 := wrap_id (by omega) (by omega)
          by_cases c6 : ty = 6
          · refine Ev_vt c6 ?_
            refine Ev.step (f := fun k => (impl_Get4.f k b nm.2.1).bind fun t => impl_GetData.j5 k i n (nm.2.1 + 4) t.2 (⟨#[]⟩ : ByteArray) ty 0 t.1 nm.1 (⟨#[]⟩ : ByteArray)) (fun k => ?_) (Ev.bind (impl_Get4_eq b (by omega) hb nm.2.1 (by omega)) (impl_GetData_j5 i n (nm.2.1 + 4) _ _ _ _ _ _ _ w1))
            simp only [impl_GetData.j4]
            rw [if_pos c6, w7]
          · refine Ev_vn c6 ?_
            have e := impl_GetData_j5 i n nm.2.1 true (⟨#[]⟩ : ByteArray) ty 0 0 nm.1 (⟨#[]⟩ : ByteArray) w1
            simp only [true_and] at e
            refine Ev.step (fun k => ?_) e
            simp only [impl_GetData.j4]
            rw [if_neg c6]
        · refine Ev_vn hp.1 ?_
          exact Ev_ifn hp.1 (Ev_some _)
theorem impl_GetData_eq (b : List Int) (hn : b.length ≤ 140737488350000) (hb : Bytes b) (i n ty : Int) (nm : NameT) (h1 : Ev (fun k => impl_GetName.f k b i) (nm.1, nm.2.1, nm.2.2.1)) (hp : WalkPost b i (-1) nm) :
    Ev (fun k => impl_GetData.f k b i n ty) (dataOf nm b i n ty) := by
  unfold impl_GetData.f dataOf
  have hj0 : Ev (fun k => impl_GetData.j0 k b i n ty true) (noRec 2) := by
    refine Ev.step (f := fun _ => some (noRec 2)) (fun k => ?_) (Ev_some _)
    simp only [impl_GetData.j0, if_true]
    rfl
  by_cases hN : 0 ≤ n ∧ n ≤ 255
  · refine Ev_vt hN ?_
    have w : wrap64 ((b.length : Int) - n) = (b.length : Int) - n := wrap_id (by omega) (by omega)
    refine Ev_ifn (by omega) ?_
    rw [decide_eq_false (show ¬ n > 255 by omega)]
    have hj1 : Ev (fun k => impl_GetData.j1 k b i n ty true) (noRec 1) := by
      refine Ev.step (f := fun _ => some (noRec 1)) (fun k => ?_) (Ev_some _)
      simp only [impl_GetData.j1, if_true]
      rfl
    by_cases hi : 0 ≤ i ∧ i ≤ (b.length : Int) - n
    · refine Ev_vt hi ?_
      refine Ev.step (f := fun k => impl_GetData.j1 k b i n ty false) (fun k => ?_) (Ev.step (f := fun k => if typeOk ty = true then impl_GetData.j2 k b i n ty else some (noRec 2)) (fun k => ?_) ?_)
      · simp only [impl_GetData.j0]
        rw [if_neg (by decide), if_neg (by omega), w, decide_eq_false (by omega)]
      · simp only [impl_GetData.j1]
        rw [if_neg (by decide), impl_TypeOk_eq]
        rfl
      · by_cases ht : typeOk ty = true
        · refine Ev_vt ht ?_
          exact Ev_if ht (impl_GetData_j2 b hn hb i n ty nm h1 hp hi hN)
        · refine Ev_vn ht ?_
          exact Ev_ifn ht (Ev_some _)
    · refine Ev_vn hi ?_
      by_cases h0 : i < 0
      · refine Ev.step (fun k => ?_) hj1
        simp only [impl_GetData.j0]
        rw [if_neg (by decide), if_pos h0]
      · refine Ev.step (fun k => ?_) hj1
        simp only [impl_GetData.j0]
        rw [if_neg (by decide), if_neg h0, w, decide_eq_true (by omega)]
  · refine Ev_vn hN ?_
    by_cases h0 : n < 0
    · exact Ev_if h0 hj0
    · refine Ev_ifn h0 ?_
      rw [decide_eq_true (show n > 255 by omega)]
      exact hj0
abbrev RecN := ByteArray × Int × Int × Int × ByteArray × ByteArray × Int × Int
def noRecN (c : Int) : RecN := ((⟨#[]⟩ : ByteArray), 0, 0, 0, (⟨#[]⟩ : ByteArray), (⟨#[]⟩ : ByteArray), 0, c)
theorem textOk_size {s : ByteArray} (h : textOk s = true) : s.size ≤ 12 := by
  unfold textOk at h
  rw [Bool.and_eq_true, decide_eq_true_eq] at h
  exact h.2
theorem walk_name_size {b : List Int} {i nx : Int} {r : NameT} (h : WalkPost b i nx r) : r.1.size ≤ 50 := by
  obtain ⟨_, h | h⟩ := h
  · exact (nameOk_all h.2.1).2.1
  · rw [h.2.2.2.1]
    decide
theorem dataIn_fit (nm : NameT) (b : List Int) (i n ty : Int) (h : nm.1.size ≤ 50) : (dataIn nm b i n ty).2.2.2.2.1.size ≤ 50 ∧ (dataIn nm b i n ty).2.2.2.2.2.1.size ≤ 12 := by
  have e : (⟨#[]⟩ : ByteArray).size = 0 := rfl
  unfold dataIn noRec
  split
  · split <;> exact ⟨by show (⟨#[]⟩ : ByteArray).size ≤ 50; omega, by show (⟨#[]⟩ : ByteArray).size ≤ 12; omega⟩
  · split
    · split
      · rename_i c
        exact ⟨by show (⟨#[]⟩ : ByteArray).size ≤ 50; omega, textOk_size c.2⟩
      · exact ⟨by show (⟨#[]⟩ : ByteArray).size ≤ 50; omega, by show (⟨#[]⟩ : ByteArray).size ≤ 12; omega⟩
    · split
      · split
        · split
          · exact ⟨h, by show (⟨#[]⟩ : ByteArray).size ≤ 12; omega⟩
          · exact ⟨by show (⟨#[]⟩ : ByteArray).size ≤ 50; omega, by show (⟨#[]⟩ : ByteArray).size ≤ 12; omega⟩
        · split
          · exact ⟨h, by show (⟨#[]⟩ : ByteArray).size ≤ 12; omega⟩
          · exact ⟨by show (⟨#[]⟩ : ByteArray).size ≤ 50; omega, by show (⟨#[]⟩ : ByteArray).size ≤ 12; omega⟩
      · exact ⟨by show (⟨#[]⟩ : ByteArray).size ≤ 50; omega, by show (⟨#[]⟩ : ByteArray).size ≤ 12; omega⟩
theorem dataOf_fit (nm : NameT) (b : List Int) (i n ty : Int) (h : nm.1.size ≤ 50) : (dataOf nm b i n ty).2.2.2.2.1.size ≤ 50 ∧ (dataOf nm b i n ty).2.2.2.2.2.1.size ≤ 12 := by
  have e : (⟨#[]⟩ : ByteArray).size = 0 := rfl
  have z : ∀ c, (noRec c).2.2.2.2.1.size ≤ 50 ∧ (noRec c).2.2.2.2.2.1.size ≤ 12 := fun c => ⟨by show (⟨#[]⟩ : ByteArray).size ≤ 50; omega, by show (⟨#[]⟩ : ByteArray).size ≤ 12; omega⟩
  unfold dataOf
  split
  · split
    · split
      · exact dataIn_fit nm b i n ty h
      · exact z _
    · exact z _
  · exact z _
/-- A record out of its parts, if they fit. -/
def recIf (s : ByteArray) (p n : Int) (cl ttl : Int) (ok : Bool) (d : RecT) : RecN :=
  if (ok = true ∧ cl = 1) ∧ recOk s d.2.1 ttl d.2.2.2.1 d.2.2.2.2.1 d.2.2.2.2.2.1 = true then (s, d.2.1, ttl, d.2.2.2.1, d.2.2.2.2.1, d.2.2.2.2.2.1, p + 10 + n, 0) else noRecN 2
theorem dataOf_code_n {nm : NameT} {b : List Int} {i n ty : Int} (h : (dataOf nm b i n ty).2.2.2.2.2.2 = 0) : 0 ≤ n ∧ n ≤ 255 ∧ i ≤ (b.length : Int) - n := by
  unfold dataOf at h
  split at h
  · rename_i c
    split at h
    · rename_i c2
      exact ⟨c.1, c.2, c2.2⟩
    · exact absurd h (by show ¬ (1 : Int) = 0; omega)
  · exact absurd h (by show ¬ (2 : Int) = 0; omega)
/-- What GetRecord returns, given the names that stand at its two places. -/
def recAt (nm nm2 : NameT) (b : List Int) : RecN :=
  if nm.2.2.1 = 0 then (if nm.2.1 > (b.length : Int) - 10 then noRecN 1
    else if (dataOf nm2 b (nm.2.1 + 10) (get2 b (nm.2.1 + 8)).1 (get2 b nm.2.1).1).2.2.2.2.2.2 = 0 then recIf nm.1 nm.2.1 (get2 b (nm.2.1 + 8)).1 (get2 b (nm.2.1 + 2)).1 (get4 b (nm.2.1 + 4)).1 (get4 b (nm.2.1 + 4)).2 (dataOf nm2 b (nm.2.1 + 10) (get2 b (nm.2.1 + 8)).1 (get2 b nm.2.1).1)
    else noRecN (dataOf nm2 b (nm.2.1 + 10) (get2 b (nm.2.1 + 8)).1 (get2 b nm.2.1).1).2.2.2.2.2.2)
  else noRecN nm.2.2.1
theorem isE_nil {s : ByteArray} (h : isE s = true) : s = (⟨#[]⟩ : ByteArray) := by
  unfold isE at h
  have e : s.toList = (⟨#[]⟩ : ByteArray).toList := by rw [empty_toList]; simpa using h
  exact toList_inj.1 e
theorem putData_small (a0 : ByteArray) (a1 a2 a3 : Int) (a4 a5 : ByteArray) (h : recOk a0 a1 a2 a3 a4 a5 = true) : (putData a0 a1 a2 a3 a4 a5).length ≤ 90 := by
  have ht := recOk_type h
  unfold putData
  rw [if_pos h]
  have h1 := putPlain_le [] a4
  have h2 := put4_le [] a3
  have h3 := put4_le (putPlain [] a4) a3
  have h4 := bytesOf_length a5
  simp only [List.length_nil] at h1 h2
  split
  · omega
  · split
    · omega
    · split
      · rename_i c1 c6 c16
        unfold recOk at h
        rw [if_neg c1, if_neg (by omega), if_neg c6, if_pos c16] at h
        simp only [Bool.and_eq_true] at h
        have := textOk_size h.2.2.2.2
        rw [List.length_cons]
        omega
      · omega
/-- The data of a record that is right is read again, wherever it stands. -/
theorem data_rt (Y rest : List Int) (a0 : ByteArray) (a1 a2 a3 : Int) (a4 a5 : ByteArray) (h : recOk a0 a1 a2 a3 a4 a5 = true) (nm : NameT) (hnm : (a1 = 2 ∨ a1 = 5 ∨ a1 = 6) → nm.1 = a4 ∧ nm.2.1 = (Y.length : Int) + (putPlain [] a4).length ∧ nm.2.2.1 = 0) :
    dataOf nm (Y ++ (putData a0 a1 a2 a3 a4 a5 ++ rest)) (Y.length : Int) ((putData a0 a1 a2 a3 a4 a5).length : Int) a1 = ((⟨#[]⟩ : ByteArray), a1, 0, a3, a4, a5, 0) := by
  have ht := recOk_type h
  have hsm := putData_small a0 a1 a2 a3 a4 a5 h
  have hty : typeOk a1 = true := by unfold typeOk; exact decide_eq_true ht
  unfold dataOf
  rw [if_pos ⟨by omega, by omega⟩, if_pos ⟨by omega, by rw [List.length_append, List.length_append]; omega⟩, if_pos hty]
  have hr := h
  unfold recOk at hr
  simp only [Bool.and_eq_true] at hr
  obtain ⟨_, _, hr⟩ := hr
  have hd : putData a0 a1 a2 a3 a4 a5 = (if a1 = 1 then put4 [] a3 else if a1 = 6 then put4 (putPlain [] a4) a3 else if a1 = 16 then ((a5.size : Int) % 256) :: bytesOf a5 else putPlain [] a4) := by unfold putData; rw [if_pos h]
  rw [hd] at hsm ⊢
  unfold dataIn
  by_cases c1 : a1 = 1
  · rw [if_pos c1] at hr hsm ⊢
    rw [if_pos c1]
    simp only [Bool.and_eq_true] at hr
    obtain ⟨r1, r2, r3⟩ := hr
    unfold inTo at r1
    rw [Bool.and_eq_true, decide_eq_true_eq, decide_eq_true_eq] at r1
    have g := rt_get4 Y a3 rest r1
    have e : put4 Y a3 ++ rest = Y ++ (put4 [] a3 ++ rest) := by unfold put4; rw [if_pos r1, if_pos r1]; simp
    rw [e] at g
    rw [g, if_pos ⟨rfl, by unfold put4; rw [if_pos r1]; rfl⟩, isE_nil r2, isE_nil r3]
  · rw [if_neg c1] at hr hsm ⊢
    rw [if_neg c1]
    by_cases c16 : a1 = 16
    · rw [if_neg (by omega), if_neg (by omega), if_pos c16] at hr
      rw [if_neg (show ¬ a1 = 6 by omega), if_pos c16] at hsm ⊢
      rw [if_pos c16]
      simp only [Bool.and_eq_true, decide_eq_true_eq] at hr
      obtain ⟨r1, r2, r3⟩ := hr
      have hs := textOk_size r3
      have hl := bytesOf_length a5
      have e0 := rd_app Y ((((a5.size : Int) % 256) :: bytesOf a5) ++ rest) 0 (Y.length : Int) (by omega)
      have d0 : rd ((((a5.size : Int) % 256) :: bytesOf a5) ++ rest) ((0 : Nat) : Int) = (a5.size : Int) % 256 := rfl
      have tx : txtOf (Y ++ ((((a5.size : Int) % 256) :: bytesOf a5) ++ rest)) (Y.length : Int) ((((a5.size : Int) % 256) :: bytesOf a5).length : Int) = a5 := by
        unfold txtOf
        have e1 : ((Y.length : Int) + ((((a5.size : Int) % 256) :: bytesOf a5).length : Int)).toNat = Y.length + (((a5.size : Int) % 256) :: bytesOf a5).length := by omega
        have e2 : ((Y.length : Int) + 1).toNat = Y.length + 1 := by omega
        rw [e1, e2, List.take_append, List.take_of_length_le (by omega), Nat.add_sub_cancel_left, List.take_append_of_le_length (Nat.le_refl _), List.take_length, List.drop_append, List.drop_of_length_le (by omega)]
        simp only [List.nil_append, Nat.add_sub_cancel_left, List.drop_succ_cons, List.drop_zero]
        exact strOfNums_bytesOf a5
      rw [e0, d0, tx, if_pos ⟨⟨by rw [List.length_cons]; omega, by rw [List.length_cons]; omega⟩, r3⟩, r1, isE_nil r2]
    · rw [if_neg c16]
      by_cases c6 : a1 = 6
      · obtain ⟨n1, n2, n3⟩ := hnm (.inr (.inr c6))
        rw [if_neg (by omega), if_pos c6] at hr
        rw [if_pos c6] at hsm ⊢
        rw [if_pos n3, if_pos c6]
        simp only [Bool.and_eq_true] at hr
        obtain ⟨r1, r2, r3⟩ := hr
        unfold inTo at r1
        rw [Bool.and_eq_true, decide_eq_true_eq, decide_eq_true_eq] at r1
        have g := rt_get4 (Y ++ putPlain [] a4) a3 rest (by omega)
        have e : put4 (Y ++ putPlain [] a4) a3 ++ rest = Y ++ (put4 (putPlain [] a4) a3 ++ rest) := by unfold put4; rw [if_pos (by omega), if_pos (by omega)]; simp
        have e2 : (((Y ++ putPlain [] a4).length : Nat) : Int) = nm.2.1 := by rw [n2, List.length_append]; omega
        rw [e, e2] at g
        have e3 : ((put4 (putPlain [] a4) a3).length : Int) = (putPlain [] a4).length + 4 := by unfold put4; rw [if_pos (by omega)]; simp [be4]
        rw [g, if_pos ⟨rfl, by rw [e3]; omega⟩, n1, isE_nil r3]
      · obtain ⟨n1, n2, n3⟩ := hnm (by omega)
        rw [if_pos (by omega)] at hr
        rw [if_neg c6, if_neg c16] at hsm ⊢
        rw [if_pos n3, if_neg c6]
        simp only [Bool.and_eq_true, decide_eq_true_eq] at hr
        obtain ⟨r1, r2, r3⟩ := hr
        rw [if_pos (by omega), n1, r1, isE_nil r3]
theorem rdR_getElem (l : List S25) (i : Nat) (h : i < l.length) : rd_T25 l i = l[i] := by
  unfold rd_T25
  rw [Int.toNat_natCast, List.getD_eq_getElem?_getD, List.getElem?_eq_getElem h, Option.getD_some]
/-- A record, as RecordOk sees it. -/
def recOkR (x : S25) : Bool := recOk x.f0 x.f1 x.f2 x.f3 x.f4 x.f5
/-- Strings that are not too long for the laws. -/
def fitR (x : S25) : Prop := x.f0.size ≤ 1048576 ∧ x.f4.size ≤ 1048576 ∧ x.f5.size ≤ 1048576
theorem smallR_fit {x : S25} (h : smallR x) : fitR x := ⟨Nat.le_trans h.1 (by decide), Nat.le_trans h.2.1 (by decide), Nat.le_trans h.2.2 (by decide)⟩
theorem sameRecs_loop (a : List S25) (hn : a.length ≤ 1000000) : ∀ (d i : Nat), i + d = a.length → Ev (fun k => laws_sameRecs.l0 k a a (i : Int)) true := by
  intro d
  induction d with
  | zero =>
    intro i hi
    refine Ev.step (f := fun _ => some true) (fun k => ?_) (Ev_some _)
    simp only [laws_sameRecs.l0]
    rw [if_neg (by omega)]
  | succ d ih =>
    intro i hi
    have w : wrap64 ((i : Int) + 1) = ((i + 1 : Nat) : Int) := by rw [wrap_id (by omega) (by omega)]; omega
    refine Ev.step (fun k => ?_) (ih (i + 1) (by omega))
    simp only [laws_sameRecs.l0, beq_self_eq_true, Bool.not_true, Bool.or_self]
    rw [if_pos (by omega), if_pos (by omega), if_pos (by omega), if_neg (by decide), w]
theorem sameRecs_eq (a : List S25) (hn : a.length ≤ 1000000) : Ev (fun k => laws_sameRecs.f k a a) true := by
  unfold laws_sameRecs.f
  exact Ev_if rfl (sameRecs_loop a hn a.length 0 (by omega))
/-- A flag's bit. -/
def fl (b : Bool) (c : Int) : Int := if b = true then c else 0
/-- The two bytes of flags. -/
def flags (a1 a2 a3 a4 a5 : Bool) (a6 : Int) : List Int := [(wrap64 ((wrap64 ((wrap64 (fl a1 128 + fl a2 4)) + fl a3 2)) + fl a4 1)) % 256, (wrap64 (fl a5 128 + (Go.bits .and .i64 a6 15))) % 256]
/-- What PutHead writes. -/
def hdr (a0 : Int) (a1 a2 a3 a4 a5 : Bool) (a6 : Int) (n9 n10 n11 : Nat) : List Int := put2 (put2 (put2 (put2 (put2 [] a0 ++ flags a1 a2 a3 a4 a5 a6) 1) n9) n10) n11
theorem rec_eq_i (b : List Int) (hn : b.length ≤ 140737488350000) (hb : Bytes b) (i : Int) (nm nm2 : NameT) (i1 : Ev (fun k => impl_GetName.f k b i) (nm.1, nm.2.1, nm.2.2.1)) (hp : WalkPost b i (-1) nm)
    (h2 : nm.2.2.1 = 0 → nm.2.1 ≤ (b.length : Int) - 10 → Ev (fun k => impl_GetName.f k b (nm.2.1 + 10)) (nm2.1, nm2.2.1, nm2.2.2.1) ∧ WalkPost b (nm.2.1 + 10) (-1) nm2) :
    Ev (fun k => impl_GetRecord.f k b i) (recAt nm nm2 b) := by
  unfold impl_GetRecord.f recAt
  by_cases c0 : nm.2.2.1 = 0
  · have hp' := hp
    obtain ⟨_, hp | hp⟩ := hp
    · obtain ⟨_, p2, p3, _, p5⟩ := hp
      have p3 := p3 (by omega)
      have hns := walk_name_size hp'
      have hpos : 0 ≤ nm.2.1 ∧ nm.2.1 ≤ (b.length : Int) := p5
      have wd : wrap64 ((b.length : Int) - nm.2.1) = (b.length : Int) - nm.2.1 := wrap_id (by omega) (by omega)
      rw [if_pos c0]
      by_cases cs : nm.2.1 > (b.length : Int) - 10
      · rw [if_pos cs]
        refine Ev.bind i1 (Ev_if c0 (Ev.step (f := fun _ => some (noRecN 1)) (fun k => ?_) (Ev_some _)))
        simp only [impl_GetRecord.j0]
        rw [wd, if_pos (by omega)]
        rfl
      · rw [if_neg cs]
        have w2 : wrap64 (nm.2.1 + 2) = nm.2.1 + 2 := wrap_id (by omega) (by omega)
        have w4 : wrap64 (nm.2.1 + 4) = nm.2.1 + 4 := wrap_id (by omega) (by omega)
        have w8 : wrap64 (nm.2.1 + 8) = nm.2.1 + 8 := wrap_id (by omega) (by omega)
        have wA : wrap64 (nm.2.1 + 10) = nm.2.1 + 10 := wrap_id (by omega) (by omega)
        obtain ⟨i2, hq⟩ := h2 c0 (by omega)
        have hns2 := walk_name_size hq
        obtain ⟨n, hnn⟩ : ∃ n, (get2 b (nm.2.1 + 8)).1 = n := ⟨_, rfl⟩
        obtain ⟨ty, hty⟩ : ∃ ty, (get2 b nm.2.1).1 = ty := ⟨_, rfl⟩
        obtain ⟨cl, hcl⟩ : ∃ cl, (get2 b (nm.2.1 + 2)).1 = cl := ⟨_, rfl⟩
        obtain ⟨tt, htt⟩ : ∃ tt, get4 b (nm.2.1 + 4) = tt := ⟨_, rfl⟩
        have id' := impl_GetData_eq b hn hb (nm.2.1 + 10) n ty nm2 i2 hq
        have hfit := dataOf_fit nm2 b (nm.2.1 + 10) n ty hns2
        rw [hnn, hty, hcl, htt]
        have hcode := dataOf_code_n (nm := nm2) (b := b) (i := nm.2.1 + 10) (n := n) (ty := ty)
        generalize dataOf nm2 b (nm.2.1 + 10) n ty = d at id' hfit hcode
        have ij1 : Ev (fun k => impl_GetRecord.j1 k b nm.1 nm.2.1) (if d.2.2.2.2.2.2 = 0 then recIf nm.1 nm.2.1 n cl tt.1 tt.2 d else noRecN d.2.2.2.2.2.2) := by
          have g1 := impl_Get2_eq b (by omega) hb nm.2.1 (by omega)
          have g2 := impl_Get2_eq b (by omega) hb (nm.2.1 + 2) (by omega)
          have g3 := impl_Get4_eq b (by omega) hb (nm.2.1 + 4) (by omega)
          have g4 := impl_Get2_eq b (by omega) hb (nm.2.1 + 8) (by omega)
          refine Ev.step (f := fun k => (impl_Get2.f k b nm.2.1).bind fun t1 => (impl_Get2.f k b (nm.2.1 + 2)).bind fun t2 => (impl_Get4.f k b (nm.2.1 + 4)).bind fun t3 => (impl_Get2.f k b (nm.2.1 + 8)).bind fun t4 => (impl_GetData.f k b (nm.2.1 + 10) t4.1 t1.1).bind fun d => if d.2.2.2.2.2.2 = 0 then impl_GetRecord.j2 k nm.1 nm.2.1 t2.1 t3.1 t3.2 t4.1 d.1 d.2.1 d.2.2.1 d.2.2.2.1 d.2.2.2.2.1 d.2.2.2.2.2.1 else some (noRecN d.2.2.2.2.2.2)) (fun k => ?_) (Ev.bind g1 (Ev.bind g2 (Ev.bind g3 (Ev.bind g4 ?_))))
          · simp only [impl_GetRecord.j1]
            rw [w2, w4, w8, wA]
            rfl
          · rw [hnn, hty, hcl, htt]
            refine Ev.bind id' ?_
            by_cases cd : d.2.2.2.2.2.2 = 0
            · rw [if_pos cd]
              refine Ev_if cd ?_
              have hnb := hcode cd
              have wn : wrap64 (nm.2.1 + 10 + n) = nm.2.1 + 10 + n := wrap_id (by omega) (by omega)
              have hj3 : ∀ f : Bool, Ev (fun k => impl_GetRecord.j3 k nm.2.1 n f nm.1 d.2.1 tt.1 d.2.2.2.1 d.2.2.2.2.1 d.2.2.2.2.2.1) (if f = true then noRecN 2 else (nm.1, d.2.1, tt.1, d.2.2.2.1, d.2.2.2.2.1, d.2.2.2.2.2.1, nm.2.1 + 10 + n, 0)) := by
                intro f
                refine Ev.step (f := fun _ => some (if f = true then noRecN 2 else (nm.1, d.2.1, tt.1, d.2.2.2.1, d.2.2.2.2.1, d.2.2.2.2.2.1, nm.2.1 + 10 + n, 0))) (fun k => ?_) (Ev_some _)
                simp only [impl_GetRecord.j3]
                rw [wA, wn]
                split <;> rfl
              unfold recIf
              by_cases q2 : cl = 1
              · by_cases q1 : tt.2 = true
                · refine Ev.step (f := fun k => (impl_RecordOk.f k nm.1 d.2.1 tt.1 d.2.2.2.1 d.2.2.2.2.1 d.2.2.2.2.2.1).bind fun t => impl_GetRecord.j3 k nm.2.1 n (!t) nm.1 d.2.1 tt.1 d.2.2.2.1 d.2.2.2.2.1 d.2.2.2.2.2.1) (fun k => ?_) (Ev.bind (impl_RecordOk_eq _ _ _ _ _ _ (by omega) (by omega) (by omega)) ?_)
                  · simp only [impl_GetRecord.j2]
                    rw [if_pos q2, if_pos q1]
                  · cases q3 : recOk nm.1 d.2.1 tt.1 d.2.2.2.1 d.2.2.2.2.1 d.2.2.2.2.2.1 with
                    | true =>
                      rw [if_pos ⟨⟨q1, q2⟩, rfl⟩]
                      exact hj3 false
                    | false =>
                      rw [if_neg (fun z => by cases z.2)]
                      exact hj3 true
                · rw [if_neg (fun z => q1 z.1.1)]
                  refine Ev.step (fun k => ?_) (hj3 true)
                  simp only [impl_GetRecord.j2]
                  rw [if_pos q2, if_neg q1]
              · rw [if_neg (fun z => q2 z.1.2)]
                refine Ev.step (fun k => ?_) (hj3 true)
                simp only [impl_GetRecord.j2]
                rw [if_neg q2]
            · rw [if_neg cd]
              exact Ev_ifn cd (Ev_some _)
        refine Ev.bind i1 (Ev_if c0 (Ev.step (fun k => ?_) ij1))
        simp only [impl_GetRecord.j0]
        rw [wd, if_neg (by omega)]
    · exact absurd c0 hp.1
  · rw [if_neg c0]
    exact Ev.bind i1 (Ev_ifn c0 (Ev_some _))
/-- A record that PutRecord wrote is read again. -/
theorem rec_rt_i (pl : ByteArray → Int) (b rest : List Int) (hpl : Places b pl) (a0 : ByteArray) (a1 a2 a3 : Int) (a4 a5 : ByteArray) (h : recOk a0 a1 a2 a3 a4 a5 = true) (hn : (putRecord pl b a0 a1 a2 a3 a4 a5 ++ rest).length ≤ 140737488350000) (hb : Bytes (putRecord pl b a0 a1 a2 a3 a4 a5 ++ rest)) :
    Ev (fun k => impl_GetRecord.f k (putRecord pl b a0 a1 a2 a3 a4 a5 ++ rest) (b.length : Int)) (a0, a1, a2, a3, a4, a5, ((putRecord pl b a0 a1 a2 a3 a4 a5).length : Int), 0) := by
  obtain ⟨h0, h2, h4⟩ := recOk_parts h
  have ht := recOk_type h
  have hd := putData_small a0 a1 a2 a3 a4 a5 h
  have hdr := fun Y r => data_rt Y r a0 a1 a2 a3 a4 a5 h
  have hhw := fun Y r c => host_walk Y r a0 a1 a2 a3 a4 a5 h c
  have hx : putRecord pl b a0 a1 a2 a3 a4 a5 = b ++ nameW pl (labelsL a0) ++ be2 a1 ++ be2 1 ++ be4 a2 ++ be2 ((putData a0 a1 a2 a3 a4 a5).length : Int) ++ putData a0 a1 a2 a3 a4 a5 := by
    unfold putRecord putName put2 put4
    rw [if_pos h, if_pos h0, if_pos (show 0 ≤ a1 ∧ a1 ≤ 65535 by omega), if_pos (show (0 : Int) ≤ 1 ∧ (1 : Int) ≤ 65535 by omega), if_pos (show 0 ≤ a2 ∧ a2 ≤ 2147483647 by omega), if_pos (show 0 ≤ ((putData a0 a1 a2 a3 a4 a5).length : Int) ∧ ((putData a0 a1 a2 a3 a4 a5).length : Int) ≤ 65535 by omega)]
  rw [hx] at hn hb ⊢
  generalize putData a0 a1 a2 a3 a4 a5 = d at hd hdr hhw hn hb hx
  obtain ⟨W, hW⟩ : ∃ W, nameW pl (labelsL a0) = W := ⟨_, rfl⟩
  obtain ⟨Y, hY⟩ : ∃ Y, b ++ W ++ be2 a1 ++ be2 1 ++ be4 a2 ++ be2 (d.length : Int) = Y := ⟨_, rfl⟩
  have hYl : Y.length = b.length + W.length + 10 := by rw [← hY]; simp [be2, be4]; omega
  have e1 : b ++ W ++ be2 a1 ++ be2 1 ++ be4 a2 ++ be2 (d.length : Int) ++ d ++ rest = b ++ (W ++ (be2 a1 ++ (be2 1 ++ (be4 a2 ++ (be2 (d.length : Int) ++ (d ++ rest)))))) := by simp
  have e2 : b ++ W ++ be2 a1 ++ be2 1 ++ be4 a2 ++ be2 (d.length : Int) ++ d ++ rest = Y ++ (d ++ rest) := by rw [hY]; simp
  rw [hW] at hn hb ⊢
  obtain ⟨j, nw⟩ := name_walk b (be2 a1 ++ (be2 1 ++ (be4 a2 ++ (be2 (d.length : Int) ++ (d ++ rest))))) pl hpl a0 h0 (by rw [hW, ← e1]; exact hn) (by rw [hW, ← e1]; exact hb)
  rw [hW, ← e1] at nw
  obtain ⟨B, hB⟩ : ∃ B, b ++ W ++ be2 a1 ++ be2 1 ++ be4 a2 ++ be2 (d.length : Int) ++ d ++ rest = B := ⟨_, rfl⟩
  have hlen : ((b ++ W ++ be2 a1 ++ be2 1 ++ be4 a2 ++ be2 (d.length : Int) ++ d).length : Int) = (b.length : Int) + W.length + 10 + d.length := by simp [be2, be4]; omega
  rw [hlen]
  have f1 := rt_get2 (b ++ W) a1 (be2 1 ++ (be4 a2 ++ (be2 (d.length : Int) ++ (d ++ rest)))) (by omega)
  have f2 := rt_get2 (b ++ W ++ be2 a1) 1 (be4 a2 ++ (be2 (d.length : Int) ++ (d ++ rest))) (by omega)
  have f3 := rt_get4 (b ++ W ++ be2 a1 ++ be2 1) a2 (be2 (d.length : Int) ++ (d ++ rest)) (by omega)
  have f4 := rt_get2 (b ++ W ++ be2 a1 ++ be2 1 ++ be4 a2) (d.length : Int) (d ++ rest) (by omega)
  have k1 : put2 (b ++ W) a1 ++ (be2 1 ++ (be4 a2 ++ (be2 (d.length : Int) ++ (d ++ rest)))) = B := by unfold put2; rw [if_pos (by omega), ← hB]; simp
  have k2 : put2 (b ++ W ++ be2 a1) 1 ++ (be4 a2 ++ (be2 (d.length : Int) ++ (d ++ rest))) = B := by unfold put2; rw [if_pos (by omega), ← hB]; simp
  have k3 : put4 (b ++ W ++ be2 a1 ++ be2 1) a2 ++ (be2 (d.length : Int) ++ (d ++ rest)) = B := by unfold put4; rw [if_pos (by omega), ← hB]; simp
  have k4 : put2 (b ++ W ++ be2 a1 ++ be2 1 ++ be4 a2) (d.length : Int) ++ (d ++ rest) = B := by unfold put2; rw [if_pos (by omega), ← hB]; simp
  have p1 : ((b ++ W).length : Int) = (b.length : Int) + W.length := by simp
  have p2 : ((b ++ W ++ be2 a1).length : Int) = (b.length : Int) + W.length + 2 := by simp [be2]; omega
  have p3 : ((b ++ W ++ be2 a1 ++ be2 1).length : Int) = (b.length : Int) + W.length + 4 := by simp [be2]; omega
  have p4 : ((b ++ W ++ be2 a1 ++ be2 1 ++ be4 a2).length : Int) = (b.length : Int) + W.length + 8 := by simp [be2, be4]; omega
  rw [k1, p1] at f1
  rw [k2, p2] at f2
  rw [k3, p3] at f3
  rw [k4, p4] at f4
  rw [hB] at hn hb nw e2 ⊢
  have hBl : (B.length : Int) = (b.length : Int) + W.length + 10 + d.length + rest.length := by rw [← hB]; simp [be2, be4]; omega
  have nk := name_known B hn hb (b.length : Int) (by omega) _ nw
  have q0 : (((b.length + W.length : Nat) : Int)) = (b.length : Int) + W.length := by omega
  rw [q0] at nk
  have hYi : (Y.length : Int) = (b.length : Int) + W.length + 10 := by omega
  obtain ⟨nm2, t1, t2, t5⟩ := name_get B hn hb ((b.length : Int) + W.length + 10) (by omega)
  have hnm : (a1 = 2 ∨ a1 = 5 ∨ a1 = 6) → nm2.1 = a4 ∧ nm2.2.1 = (Y.length : Int) + (putPlain [] a4).length ∧ nm2.2.2.1 = 0 := by
    intro c
    have w := hhw Y rest c (by rw [← e2]; exact hn) (by rw [← e2]; exact hb)
    rw [← e2, hYi] at w
    have u := Ev_unique (name_known B hn hb _ (by omega) _ w).2.1 t2
    have u1 := congrArg (fun x : ByteArray × Int × Int => x.1) u
    have u2 := congrArg (fun x : ByteArray × Int × Int => x.2.1) u
    have u3 := congrArg (fun x : ByteArray × Int × Int => x.2.2) u
    simp only at u1 u2 u3
    exact ⟨u1.symm, by rw [hYi]; exact u2.symm, u3.symm⟩
  have dd := hdr Y rest nm2 hnm
  rw [← e2, hYi] at dd
  have fin := rec_eq_i B hn hb (b.length : Int) (a0, (b.length : Int) + W.length, 0, j) nm2 nk.2.1 nk.2.2 (fun _ _ => ⟨t2, t5⟩)
  have val : recAt (a0, (b.length : Int) + W.length, 0, j) nm2 B = (a0, a1, a2, a3, a4, a5, (b.length : Int) + W.length + 10 + d.length, 0) := by
    unfold recAt recIf
    simp only [f1, f2, f3, f4, dd]
    rw [if_pos (by first | trivial | rfl), if_neg (by omega)]
    simp [h]
  rw [val] at fin
  exact fin
/-- A record out of what GetRecord hands back. -/
def recOf (r : RecN) : S25 := ⟨r.1, r.2.1, r.2.2.1, r.2.2.2.1, r.2.2.2.2.1, r.2.2.2.2.2.1⟩
theorem lin_step {y b c i a : Nat} (h : y ≤ b + c) (h2 : b ≤ a + c * i) : y ≤ a + c * (i + 1) := by
  rw [Nat.mul_succ]
  omega
/-- Records, put one behind the other. -/
inductive Chain : List Int → List S25 → List Int → Prop
  | nil (b : List Int) : Chain b [] b
  | cons (b : List Int) (x : S25) (l : List S25) (pl : ByteArray → Int) (z : List Int) (hpl : Places b pl) (r : Chain (putRecord pl b x.f0 x.f1 x.f2 x.f3 x.f4 x.f5) l z) : Chain b (x :: l) z
theorem putRecord_app (pl : ByteArray → Int) (b : List Int) (a0 : ByteArray) (a1 a2 a3 : Int) (a4 a5 : ByteArray) : ∃ c, putRecord pl b a0 a1 a2 a3 a4 a5 = b ++ c := by
  unfold putRecord
  split
  · unfold put2 put4 putName
    repeat' split
    all_goals first | exact ⟨_, by simp only [List.append_assoc]; rfl⟩ | exact ⟨_, rfl⟩ | exact ⟨[], (List.append_nil _).symm⟩
  · exact ⟨[], by simp⟩
theorem chain_app {b : List Int} {l : List S25} {z : List Int} (h : Chain b l z) : ∃ c, z = b ++ c := by
  induction h with
  | nil b => exact ⟨[], by simp⟩
  | cons b x l pl z hpl r ih =>
    obtain ⟨c, e⟩ := ih
    obtain ⟨d, e2⟩ := putRecord_app pl b x.f0 x.f1 x.f2 x.f3 x.f4 x.f5
    exact ⟨d ++ c, by rw [e, e2, List.append_assoc]⟩
theorem chain_bytes {b : List Int} {l : List S25} {z : List Int} (h : Chain b l z) : Bytes b → Bytes z := by
  induction h with
  | nil b => exact fun hb => hb
  | cons b x l pl z hpl r ih => exact fun hb => ih (bytes_putRecord pl hb x.f0 x.f1 x.f2 x.f3 x.f4 x.f5)
theorem chain_le {b : List Int} {l : List S25} {z : List Int} (h : Chain b l z) : (∀ x ∈ l, x.f5.size ≤ 1048576) → z.length ≤ b.length + 1048876 * l.length := by
  induction h with
  | nil b => intro _; simp
  | cons b x l pl z hpl r ih =>
    intro hz
    have h1 := putRecord_le pl b x.f0 x.f1 x.f2 x.f3 x.f4 x.f5 (hz x List.mem_cons_self)
    have h2 := ih (fun y hy => hz y (List.mem_cons_of_mem _ hy))
    rw [List.length_cons]
    omega
/-- Records that were put behind each other are read again. -/
theorem chain_read {b : List Int} {l : List S25} {z : List Int} (h : Chain b l z) (hz : z.length ≤ 140737488350000) (hb : Bytes z) : (∀ x ∈ l, recOkR x = true) → ∀ (m i : Nat) (acc : List S25), i + l.length = m → m ≤ 8 → acc.length = i →
    Ev (fun k => impl_GetRecords.l0 k z (b.length : Int) acc (m : Int) (i : Int)) (acc ++ l, (z.length : Int), 0) := by
  induction h with
  | nil b =>
    intro _ m i acc hi hm ha
    rw [List.append_nil]
    refine Ev.step (f := fun _ => some (acc, (b.length : Int), 0)) (fun k => ?_) (Ev_some _)
    simp only [impl_GetRecords.l0]
    rw [if_neg (by simp at hi; omega)]
  | cons b x l pl z hpl r ih =>
    intro hok m i acc hi hm ha
    rw [List.length_cons] at hi
    have w := wrap_succ i m (by omega) (by omega)
    obtain ⟨c, e⟩ := chain_app r
    have hx := hok x List.mem_cons_self
    unfold recOkR at hx
    have rt := rec_rt_i pl b c hpl x.f0 x.f1 x.f2 x.f3 x.f4 x.f5 hx (by rw [← e]; exact hz) (by rw [← e]; exact hb)
    rw [← e] at rt
    have ih' := ih hz hb (fun y hy => hok y (List.mem_cons_of_mem _ hy)) m (i + 1) (acc ++ [x]) (by omega) hm (by simp; omega)
    rw [List.append_assoc] at ih'
    refine Ev.step (f := fun k => (impl_GetRecord.f k z (b.length : Int)).bind fun r => if r.2.2.2.2.2.2.2 = 0 then (if acc.length < 1954687338268 then impl_GetRecords.l0 k z r.2.2.2.2.2.2.1 (acc ++ [recOf r]) (m : Int) ((i + 1 : Nat) : Int) else none) else some ([], 0, r.2.2.2.2.2.2.2)) (fun k => ?_) (Ev.bind rt (Ev_if rfl (Ev_if (by omega) ih')))
    simp only [impl_GetRecords.l0]
    rw [if_pos (by omega), w]
    rfl
theorem putRecords_chain (x : List S25) (hx : ∀ y ∈ x, fitR y) (hn : x.length ≤ 1048576) : ∀ (d i : Nat) (b : List Int), i + d = x.length → b.length ≤ 1048576 + 1048876 * i → Bytes b →
    ∃ z, Ev (fun k => spec_PutRecords.l0 k x b (i : Int)) z ∧ Ev (fun k => impl_PutRecords.l0 k b x (x.length : Int) (i : Int)) z ∧ Chain b (x.drop i) z := by
  intro d
  induction d with
  | zero =>
    intro i b hi hb h
    refine ⟨b, Ev.step (f := fun _ => some b) (fun k => ?_) (Ev_some _), Ev.step (f := fun _ => some b) (fun k => ?_) (Ev_some _), ?_⟩
    · simp only [spec_PutRecords.l0]
      rw [if_neg (by omega)]
    · simp only [impl_PutRecords.l0]
      rw [if_neg (by omega)]
    · rw [List.drop_of_length_le (by omega)]
      exact Chain.nil b
  | succ d ih =>
    intro i b hi hb h
    have hil : i < x.length := by omega
    have w := wrap_succ i x.length (by omega) (by omega)
    obtain ⟨f0, f4, f5⟩ := hx x[i] (List.getElem_mem _)
    obtain ⟨pl, hpl⟩ := places_exist b (by omega) h
    have hle := putRecord_le pl b x[i].f0 x[i].f1 x[i].f2 x[i].f3 x[i].f4 x[i].f5 f5
    have hbb := bytes_putRecord pl h x[i].f0 x[i].f1 x[i].f2 x[i].f3 x[i].f4 x[i].f5
    have hs := spec_PutRecord_eq pl b (by omega) hpl x[i].f0 x[i].f1 x[i].f2 x[i].f3 x[i].f4 x[i].f5 f0 f4 f5
    have hi' := impl_PutRecord_eq pl b (by omega) hpl x[i].f0 x[i].f1 x[i].f2 x[i].f3 x[i].f4 x[i].f5 f0 f4 f5
    have hd : x.drop i = x[i] :: x.drop (i + 1) := List.drop_eq_getElem_cons hil
    obtain ⟨z, z1, z2, z3⟩ := ih (i + 1) (putRecord pl b x[i].f0 x[i].f1 x[i].f2 x[i].f3 x[i].f4 x[i].f5) (by omega) (lin_step hle hb) hbb
    refine ⟨z, Ev.step (fun k => ?_) (Ev.bind (f := fun k t => spec_PutRecords.l0 k x t ((i + 1 : Nat) : Int)) hs z1), Ev.step (fun k => ?_) (Ev.bind (f := fun k t => impl_PutRecords.l0 k t x (x.length : Int) ((i + 1 : Nat) : Int)) hi' z2), ?_⟩
    · simp only [spec_PutRecords.l0]
      rw [if_pos (by omega), if_pos (by omega), rdR_getElem x i hil, w]
    · simp only [impl_PutRecords.l0]
      rw [if_pos (by omega), if_pos (by omega), if_pos (by omega), rdR_getElem x i hil, w]
    · rw [hd]
      exact Chain.cons b x[i] _ pl z hpl z3
theorem drawPutRecords_ev (l : List Int) (hn : l.length ≤ 140737488351232) : ∃ b r, Ev (fun k => spec_DrawPutRecords.f k l) (b, r) ∧ Bytes b ∧ b.length ≤ 10 ∧ r.length ≤ 5 ∧ ∀ x ∈ r, smallR x := by
  unfold spec_DrawPutRecords.f
  obtain ⟨g, e0⟩ := l1New_ev l hn
  obtain ⟨r, j1, g1, e1, p1, p2, c1⟩ := l5List_ev l hn 0 g 4 (by omega) (cur0 l)
  obtain ⟨x, j2, g2, e2, _, c2⟩ := l1Once_dr l hn j1 g1 5 c1
  by_cases q : x = true
  · obtain ⟨a0, a1, a2, a3, a4, a5, j3, g3, e3, p3, c3⟩ := l5Any_ev l hn j2 g2 c2
    obtain ⟨n, j4, g4, e4, ⟨n0, n1, _⟩, c4⟩ := l1Below_dr l hn j3 g3 3 c3
    have n1 := n1 (by omega)
    obtain ⟨b, j5, g5, e5, p5, q5, c5⟩ := l1Bytes_ev l hn j4 g4 n c4 n0 (by omega)
    refine ⟨b, r ++ [⟨a0, a1, a2, a3, a4, a5⟩], Ev.bind e0 (Ev.bind e1 (Ev.bind (Ev_c e2) (Ev_if q (Ev.bind e3 (Ev_if (by show r.length < 1954687338268; omega) (Ev.bind (Ev_c e4) (Ev.bind e5 (Ev_some _)))))))), p5, by omega, by simp; omega, ?_⟩
    intro y hy
    rcases List.mem_append.1 hy with h | h
    · exact p2 y h
    · rw [List.mem_singleton] at h
      rw [h]
      exact p3
  · obtain ⟨n, j4, g4, e4, ⟨n0, n1, _⟩, c4⟩ := l1Below_dr l hn j2 g2 3 c2
    have n1 := n1 (by omega)
    obtain ⟨b, j5, g5, e5, p5, q5, c5⟩ := l1Bytes_ev l hn j4 g4 n c4 n0 (by omega)
    exact ⟨b, r, Ev.bind e0 (Ev.bind e1 (Ev.bind (Ev_c e2) (Ev_ifn q (Ev.bind (Ev_c e4) (Ev.bind e5 (Ev_some _)))))), p5, by omega, by omega, p2⟩
theorem lists_loop (b : List Int) (l : List S25) (z : List Int) (hl : l.length ≤ 8) (hf : ∀ x ∈ l, smallR x) (hz : z.length ≤ 140737488350000) (hb : Bytes z) (h : Chain b l z) : ∀ (d i : Nat), i + d = l.length → (∀ x ∈ l.take i, recOkR x = true) → Ev (fun k => laws_FnLists.l0 k b l z (i : Int)) true := by
  intro d
  induction d with
  | zero =>
    intro i hi ok
    rw [List.take_of_length_le (by omega)] at ok
    have c := chain_read h hz hb ok l.length 0 [] (by omega) hl rfl
    have sm := sameRecs_eq l (by omega)
    have gr : Ev (fun k => impl_GetRecords.f k z (b.length : Int) (l.length : Int)) (l, (z.length : Int), 0) := by
      unfold impl_GetRecords.f
      refine Ev_ifn (by omega) ?_
      refine Ev.step (fun k => ?_) c
      simp only [impl_GetRecords.j0]
      rw [if_neg (by simp; omega)]
      rfl
    refine Ev.step (f := fun k => (impl_GetRecords.f k z (b.length : Int) (l.length : Int)).bind fun t => if t.2.2 = 0 then (laws_sameRecs.f k t.1 l).bind fun s => if s = true then some (t.2.1 == (z.length : Int)) else some false else some false) (fun k => ?_) (Ev.bind gr (Ev_if rfl (Ev.bind sm (Ev_if rfl ?_))))
    · simp only [laws_FnLists.l0]
      rw [if_neg (by omega)]
    · rw [beq_self_eq_true]
      exact Ev_some _
  | succ d ih =>
    intro i hi ok
    have hil : i < l.length := by omega
    have w : wrap64 ((i : Int) + 1) = ((i + 1 : Nat) : Int) := by rw [wrap_id (by omega) (by omega)]; omega
    obtain ⟨f0, f4, f5⟩ := hf l[i] (List.getElem_mem _)
    have rk := impl_RecordOk_eq l[i].f0 l[i].f1 l[i].f2 l[i].f3 l[i].f4 l[i].f5 (by omega) (by omega) (by omega)
    have e : l.take (i + 1) = l.take i ++ [l[i]] := List.take_succ_eq_append_getElem hil
    by_cases c : recOk l[i].f0 l[i].f1 l[i].f2 l[i].f3 l[i].f4 l[i].f5 = true
    · have ih' := ih (i + 1) (by omega) (by
        intro x hx
        rw [e] at hx
        rcases List.mem_append.1 hx with h | h
        · exact ok x h
        · rw [List.mem_singleton] at h
          rw [h]
          exact c)
      refine Ev.step (f := fun k => (impl_RecordOk.f k l[i].f0 l[i].f1 l[i].f2 l[i].f3 l[i].f4 l[i].f5).bind fun t => if t = true then laws_FnLists.l0 k b l z ((i + 1 : Nat) : Int) else some true) (fun k => ?_) (Ev.bind rk (Ev_if c ih'))
      simp only [laws_FnLists.l0]
      rw [if_pos (by omega), if_pos (by omega), rdR_getElem l i hil, w]
    · refine Ev.step (f := fun k => (impl_RecordOk.f k l[i].f0 l[i].f1 l[i].f2 l[i].f3 l[i].f4 l[i].f5).bind fun t => if t = true then laws_FnLists.l0 k b l z ((i + 1 : Nat) : Int) else some true) (fun k => ?_) (Ev.bind rk (Ev_ifn c (Ev_some _)))
      simp only [laws_FnLists.l0]
      rw [if_pos (by omega), if_pos (by omega), rdR_getElem l i hil, w]
theorem big_eq (l : List Int) : laws_big.f l = some (decide ((l.length : Int) > 1048576)) := by
  unfold laws_big.f
  rfl

end Go.Proofs.YtdigilidomimdaaDoor.Lem
