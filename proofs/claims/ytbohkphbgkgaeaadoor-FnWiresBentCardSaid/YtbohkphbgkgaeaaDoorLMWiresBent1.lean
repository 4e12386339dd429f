/- Lemmas on the printed functions, of this session. -/
import Derived.Test.YtbohkphbgkgaeaaDoorY
import Derived.Test.YtbohkphbgkgaeaaDoorPrx0
import Derived.Test.YtbohkphbgkgaeaaDoorPrx1
import Derived.Test.YtbohkphbgkgaeaaDoorPrx2
import Derived.Test.YtbohkphbgkgaeaaDoorPrx3
import Derived.Test.YtbohkphbgkgaeaaDoorPrx4
import Derived.Test.YtbohkphbgkgaeaaDoorPrx5
import Derived.Test.YtbohkphbgkgaeaaDoorPrx6
import Derived.Test.YtbohkphbgkgaeaaDoorPrx7
namespace Go.Proofs.YtbohkphbgkgaeaaDoor.Lem
open Go.RowKit Go.Proofs.YtbohkphbgkgaeaaDoor.Pr Go.Proofs.YtbohkphbgkgaeaaDoor.X Go.Proofs.YtbohkphbgkgaeaaDoor.Y Go.Proofs.YtbohkphbgkgaeaaDoorW.PrintWords Go.Proofs.YtbohkphbgkgaeaaDoorW.PrintLast Go.Proofs.YtbohkphbgkgaeaaDoorW.PrintMore
set_option linter.unusedVariables false
set_option linter.unusedSimpArgs false
theorem rdS_getElem (l : List ByteArray) (i : Nat) (h : i < l.length) : rdOf ByteArray.empty l i = l[i] := by
  unfold rdOf
  rw [Int.toNat_natCast, List.getD_eq_getElem?_getD, List.getElem?_eq_getElem h, Option.getD_some]
/-- How many bytes a list of strings holds. -/
def szSs (l : List ByteArray) : Nat := (l.map ByteArray.size).sum
/-- Strings with a dot between them. -/
def joinS : List ByteArray → ByteArray
  | [] => (⟨#[]⟩ : ByteArray)
  | [x] => x
  | x :: y :: l => x ++ ((⟨#[46]⟩ : ByteArray) ++ joinS (y :: l))
theorem joinS_cons (x : ByteArray) (l : List ByteArray) (h : l ≠ []) : joinS (x :: l) = x ++ ((⟨#[46]⟩ : ByteArray) ++ joinS l) := by
  cases l with
  | nil => exact absurd rfl h
  | cons y l => rfl
theorem joinS_data : ∀ (l : List ByteArray), (joinS l).data.toList = Lib.join (l.map (·.data.toList)) [46]
  | [] => rfl
  | [x] => by simp [joinS, Lib.join, List.intercalate]
  | x :: y :: l => by
    have ih := joinS_data (y :: l)
    rw [joinS, ByteArray.data_append, ByteArray.data_append, Array.toList_append, Array.toList_append, ih]
    simp [Lib.join, List.intercalate]
theorem joinS_size : ∀ (l : List ByteArray), (joinS l).size ≤ szSs l + l.length
  | [] => Nat.zero_le _
  | [x] => by simp [joinS, szSs]
  | x :: y :: l => by
    have ih := joinS_size (y :: l)
    rw [joinS, ByteArray.size_append, ByteArray.size_append]
    have e : (⟨#[46]⟩ : ByteArray).size = 1 := rfl
    have e2 : szSs (x :: y :: l) = x.size + szSs (y :: l) := by simp [szSs]
    rw [e, e2, List.length_cons]
    omega
theorem impl_JoinLabels_eq (l : List ByteArray) (h : szSs l + l.length ≤ 140737488355328) : impl_JoinLabels.f l = some (joinS l) := by
  have hs := joinS_size l
  have hd := joinS_data l
  unfold impl_JoinLabels.f strings_Join.f
  have e : (⟨#[46]⟩ : ByteArray).data.toList = [46] := rfl
  rw [e, ← hd, if_pos ⟨by rw [data_length]; omega, by omega⟩]
  simp
theorem empty_append (s : ByteArray) : (⟨#[]⟩ : ByteArray) ++ s = s := by
  apply ByteArray.ext
  rw [ByteArray.data_append]
  simp
theorem szSs_drop (l : List ByteArray) (i : Nat) (h : i < l.length) : szSs (l.drop i) = l[i].size + szSs (l.drop (i + 1)) := by
  unfold szSs
  rw [List.drop_eq_getElem_cons h, List.map_cons, List.sum_cons]
theorem spec_JoinLabels_loop (l : List ByteArray) (hn : l.length ≤ 140737488355328) : ∀ (d i : Nat) (s : ByteArray), i + d = l.length → (0 < i ∨ s = (⟨#[]⟩ : ByteArray)) → s.size + szSs (l.drop i) + d ≤ 281474976710656 →
    Ev (fun k => spec_JoinLabels.l0 k l s (i : Int)) (if i = 0 then joinS l else if l.drop i = [] then s else s ++ ((⟨#[46]⟩ : ByteArray) ++ joinS (l.drop i))) := by
  intro d
  induction d with
  | zero =>
    intro i s hi hs hsz
    refine Ev.step (f := fun _ => some s) (fun k => ?_) ⟨0, fun _ _ => ?_⟩
    · simp only [spec_JoinLabels.l0]
      rw [if_neg (by omega)]
    · rw [List.drop_of_length_le (by omega), if_pos rfl]
      by_cases z : i = 0
      · subst z
        have hl : l = [] := List.eq_nil_of_length_eq_zero (by omega)
        subst hl
        rcases hs with h | h
        · exact absurd h (Nat.lt_irrefl _)
        · rw [if_pos rfl, h]
          rfl
      · rw [if_neg z]
  | succ d ih =>
    intro i s hi hs hsz
    have hil : i < l.length := by omega
    have hw := wrap_succ i l.length hil hn
    have hd : l.drop i = l[i] :: l.drop (i + 1) := List.drop_eq_getElem_cons hil
    have hdz := szSs_drop l i hil
    have e1 : (⟨#[46]⟩ : ByteArray).size = 1 := rfl
    by_cases z : i = 0
    · subst z
      have hs' : s = (⟨#[]⟩ : ByteArray) := hs.resolve_left (Nat.lt_irrefl _)
      subst hs'
      have e0 : (⟨#[]⟩ : ByteArray).size = 0 := rfl
      simp only [Nat.zero_add] at hdz
      have := ih 1 l[0] (by omega) (.inl (by decide)) (by omega)
      rw [if_neg (by decide)] at this
      rw [if_pos rfl]
      have hj : joinS l = if l.drop 1 = [] then l[0] else l[0] ++ ((⟨#[46]⟩ : ByteArray) ++ joinS (l.drop 1)) := by
        clear this ih hdz hd hsz hi hw
        cases l with
        | nil => exact absurd hil (by simp)
        | cons x rest =>
          show joinS (x :: rest) = if rest = [] then x else x ++ ((⟨#[46]⟩ : ByteArray) ++ joinS rest)
          by_cases q : rest = []
          · rw [if_pos q, q]
            rfl
          · rw [if_neg q]
            exact joinS_cons _ _ q
      rw [hj]
      refine Ev.step (f := fun k => spec_JoinLabels.l0 k l l[0] ((1 : Nat) : Int)) (fun k => ?_) this
      simp only [spec_JoinLabels.l0]
      rw [if_pos (by omega), if_neg (by omega), if_pos (by omega)]
      have er := rdS_getElem l 0 hil
      rw [er, if_pos (by omega), empty_append, hw]
    · rw [if_neg z, hd, if_neg (List.cons_ne_nil _ _)]
      have hsz2 : ((s ++ (⟨#[46]⟩ : ByteArray)) ++ l[i]).size = s.size + 1 + l[i].size := by rw [ByteArray.size_append, ByteArray.size_append, e1]
      have := ih (i + 1) ((s ++ (⟨#[46]⟩ : ByteArray)) ++ l[i]) (by omega) (.inl (by omega)) (by omega)
      rw [if_neg (by omega)] at this
      have hj : (if l.drop (i + 1) = [] then (s ++ (⟨#[46]⟩ : ByteArray)) ++ l[i] else ((s ++ (⟨#[46]⟩ : ByteArray)) ++ l[i]) ++ ((⟨#[46]⟩ : ByteArray) ++ joinS (l.drop (i + 1)))) = s ++ ((⟨#[46]⟩ : ByteArray) ++ joinS (l[i] :: l.drop (i + 1))) := by
        by_cases q : l.drop (i + 1) = []
        · rw [if_pos q, q, ByteArray.append_assoc]
          rfl
        · rw [if_neg q, joinS_cons _ _ q, @ByteArray.append_assoc (s ++ (⟨#[46]⟩ : ByteArray)), @ByteArray.append_assoc s]
      rw [hj] at this
      refine Ev.step (f := fun k => spec_JoinLabels.l0 k l ((s ++ (⟨#[46]⟩ : ByteArray)) ++ l[i]) ((i + 1 : Nat) : Int)) (fun k => ?_) this
      simp only [spec_JoinLabels.l0]
      rw [if_pos (by omega), if_pos (by omega), if_pos (by omega), if_pos (by omega), rdS_getElem l i hil, if_pos (by rw [ByteArray.size_append, e1]; omega), hw]
theorem spec_JoinLabels_eq (l : List ByteArray) (h : szSs l + l.length ≤ 140737488355328) : Ev (fun k => spec_JoinLabels.f k l) (joinS l) := by
  have := spec_JoinLabels_loop l (by omega) l.length 0 (⟨#[]⟩ : ByteArray) (by omega) (.inr rfl) (by rw [List.drop_zero, show (⟨#[]⟩ : ByteArray).size = 0 from rfl]; omega)
  rw [if_pos rfl] at this
  unfold spec_JoinLabels.f
  simpa using this
/-- What stands between the dots of a list of bytes; 'acc' stands ahead of it. -/
def cutA : List UInt8 → List UInt8 → List (List UInt8)
  | acc, [] => [acc]
  | acc, c :: t => if c = 46 then acc :: cutA [] t else cutA (acc ++ [c]) t
def mkB (l : List UInt8) : ByteArray := ⟨l.toArray⟩
theorem mkB_data (s : ByteArray) : mkB s.data.toList = s := rfl
/-- The labels of a name. -/
def labelsL (s : ByteArray) : List ByteArray := if s.data.toList = [] then [] else (cutA [] s.data.toList).map mkB
theorem cutA_acc : ∀ (t acc : List UInt8), cutA acc t = match cutA [] t with | [] => [] | x :: r => (acc ++ x) :: r
  | [], acc => by simp [cutA]
  | c :: t, acc => by
    by_cases h : c = 46
    · simp [cutA, h]
    · have e1 := cutA_acc t (acc ++ [c])
      have e2 := cutA_acc t ([] ++ [c])
      simp only [cutA, if_neg h]
      rw [e1, e2]
      cases cutA [] t with
      | nil => rfl
      | cons x r => simp [List.append_assoc]
theorem split_cut : ∀ (l : List UInt8), Lib.splitK [46] 0 (l.count 46) l = cutA [] l
  | [] => rfl
  | c :: t => by
    have ih := split_cut t
    by_cases h : c = 46
    · subst h
      rw [List.count_cons_self]
      simp only [Lib.splitK, cutA, if_true]
      rw [Lib.index_one]
      simp only [Lib.indexByte]
      simp [ih]
    · rw [List.count_cons_of_ne (by simpa using h)]
      have e2 := cutA_acc t ([] ++ [c])
      simp only [cutA, if_neg h]
      rw [e2, ← ih]
      have hb : (c == 46) = false := by simpa using h
      cases hk : t.count 46 with
      | zero => simp [Lib.splitK]
      | succ k =>
        simp only [Lib.splitK]
        rw [Lib.index_one, Lib.index_one]
        simp only [Lib.indexByte, hb]
        have hge := Lib.indexByte_ge t 46
        by_cases hi : Lib.indexByte t 46 = -1
        · simp [hi]
        · have h1 : (Lib.indexByte t 46 == -1) = false := by simpa using hi
          have h2 : (Lib.indexByte t 46 + 1 == -1) = false := by simp; omega
          have h3 : (Lib.indexByte t 46 + 1).toNat = (Lib.indexByte t 46).toNat + 1 := by omega
          simp only [h1, h2, h3, Bool.false_eq_true, if_false]
          simp [List.take_succ_cons, Nat.add_right_comm]
theorem impl_Labels_eq (s : ByteArray) (hs : s.size < 4294967281) : impl_Labels.f s = some (labelsL s) := by
  unfold impl_Labels.f labelsL
  rw [ByteArray.toList_eq]
  by_cases h : s.data.toList = []
  · rw [if_pos h, if_pos h]
  · rw [if_neg h, if_neg h]
    have e : strings_Split.f s (⟨#[46]⟩ : ByteArray) = some (Lib.splitB ⟨#[46]⟩ 0 (Lib.countB s ⟨#[46]⟩) s) := by
      unfold strings_Split.f
      exact if_pos ⟨rfl, hs⟩
    rw [e]
    simp only [Option.bind_some]
    congr 1
    have d := Lib.splitB_data ⟨#[46]⟩ 0 (Lib.countB s ⟨#[46]⟩) s
    have k : Lib.countB s ⟨#[46]⟩ = s.data.toList.count 46 := Lib.count_one 46 s.data.toList
    rw [k] at d ⊢
    have d2 : (Lib.splitB ⟨#[46]⟩ 0 (s.data.toList.count 46) s).map (·.data.toList) = cutA [] s.data.toList := d.trans (split_cut _)
    rw [← d2, List.map_map]
    exact (List.map_id'' (fun x => mkB_data x) _).symm
theorem extract_mkB (s : ByteArray) (f i : Nat) : s.extract f i = mkB ((s.data.toList.take i).drop f) := by
  have h : (s.extract f i).data.toList = (s.data.toList.take i).drop f := by
    rw [ByteArray.data_extract, Array.toList_extract, List.extract_eq_take_drop, List.drop_take]
  rw [← mkB_data (s.extract f i), h]
theorem bt_data (s : ByteArray) (i : Nat) (h : i < s.data.toList.length) : (bt s (i : Int) = 46) ↔ s.data.toList[i] = 46 := by
  have h' : (i : Int).toNat < s.size := by simpa using h
  have e := bt_at s (i : Int) h'
  have e2 : s[(i : Int).toNat]'h' = s.data.toList[i] := by
    rw [Array.getElem_toList]
    rfl
  rw [← e, e2, ← UInt8.toNat_inj]
  have t : UInt8.toNat 46 = 46 := rfl
  generalize s.data.toList[i].toNat = z
  generalize UInt8.toNat 46 = z' at t ⊢
  omega
theorem size_data (s : ByteArray) : s.size = s.data.toList.length := rfl
theorem spec_Labels_loop (s : ByteArray) (hn : s.size ≤ 1048576) (hne : s.toList ≠ []) : ∀ (d i f : Nat) (out : List ByteArray), i + d = s.size → f ≤ i → out.length ≤ i →
    Ev (fun k => spec_Labels.l0 k s out (f : Int) (i : Int)) (out ++ (cutA ((s.data.toList.take i).drop f) (s.data.toList.drop i)).map mkB) := by
  have hz := size_data s
  have hb : (s.toList != ([] : List UInt8)) = true := bne_iff_ne.2 hne
  intro d
  induction d with
  | zero =>
    intro i f out hi hf ho
    have w : wrap64 ((i : Int) + 1) = ((i + 1 : Nat) : Int) := wrap_succ i 1048577 (by omega) (by omega)
    have hx : s.extract f i = mkB ((s.data.toList.take i).drop f) := extract_mkB s f i
    refine Ev.step (f := fun k => spec_Labels.j1 k s out (f : Int) (i : Int) true) (fun k => ?_) ?_
    · simp only [spec_Labels.l0]
      rw [if_pos (by omega), hb]
    refine Ev.step (f := fun k => spec_Labels.l0 k s (out ++ [mkB ((s.data.toList.take i).drop f)]) ((i + 1 : Nat) : Int) ((i + 1 : Nat) : Int)) (fun k => ?_) ?_
    · simp only [spec_Labels.j1, if_true]
      rw [if_pos (by omega), if_pos (by omega), if_pos (by omega), if_pos (by omega), if_pos (by omega), w, Int.toNat_natCast, Int.toNat_natCast, hx]
    refine Ev.step (f := fun k => spec_Labels.j1 k s (out ++ [mkB ((s.data.toList.take i).drop f)]) ((i + 1 : Nat) : Int) ((i + 1 : Nat) : Int) false) (fun k => ?_) ?_
    · simp only [spec_Labels.l0]
      rw [if_neg (by omega)]
    refine Ev.step (f := fun _ => some (out ++ [mkB ((s.data.toList.take i).drop f)])) (fun k => ?_) ⟨0, fun _ _ => ?_⟩
    · simp only [spec_Labels.j1]
      rw [if_neg (by decide)]
    · rw [show s.data.toList.drop i = [] from List.drop_of_length_le (by omega)]
      rfl
  | succ d ih =>
    intro i f out hi hf ho
    have hil : i < s.data.toList.length := by omega
    have w : wrap64 ((i : Int) + 1) = ((i + 1 : Nat) : Int) := wrap_succ i 1048577 (by omega) (by omega)
    have hx : s.extract f i = mkB ((s.data.toList.take i).drop f) := extract_mkB s f i
    rw [List.drop_eq_getElem_cons hil]
    refine Ev.step (f := fun k => spec_Labels.j1 k s out (f : Int) (i : Int) true) (fun k => ?_) ?_
    · simp only [spec_Labels.l0]
      rw [if_pos (by omega), hb]
    by_cases c : s.data.toList[i] = 46
    · have cb := (bt_data s i hil).2 c
      have := ih (i + 1) (i + 1) (out ++ [mkB ((s.data.toList.take i).drop f)]) (by omega) (by omega) (by simp; omega)
      have e0 : (s.data.toList.take (i + 1)).drop (i + 1) = [] := List.drop_of_length_le (by rw [List.length_take]; omega)
      rw [e0] at this
      refine Ev.step (f := fun k => spec_Labels.l0 k s (out ++ [mkB ((s.data.toList.take i).drop f)]) ((i + 1 : Nat) : Int) ((i + 1 : Nat) : Int)) (fun k => ?_) ?_
      · simp only [spec_Labels.j1, if_true]
        rw [if_neg (by omega), if_pos (by omega), if_pos (by omega), if_pos cb, if_pos (by omega), if_pos (by omega), if_pos (by omega), if_pos (by omega), w, Int.toNat_natCast, Int.toNat_natCast, hx]
      · simp only [cutA, if_pos c, List.map_cons]
        rw [List.append_assoc] at this
        exact this
    · have cb : ¬ bt s (i : Int) = 46 := fun e => c ((bt_data s i hil).1 e)
      have := ih (i + 1) f out (by omega) (by omega) (by omega)
      have e0 : (s.data.toList.take (i + 1)).drop f = (s.data.toList.take i).drop f ++ [s.data.toList[i]] := by
        rw [← List.take_append_getElem hil, List.drop_append_of_le_length (by rw [List.length_take]; omega)]
      rw [e0] at this
      refine Ev.step (f := fun k => spec_Labels.l0 k s out (f : Int) ((i + 1 : Nat) : Int)) (fun k => ?_) ?_
      · simp only [spec_Labels.j1, if_true]
        rw [if_neg (by omega), if_pos (by omega), if_pos (by omega), if_neg cb, w]
      · simp only [cutA, if_neg c]
        exact this
theorem spec_Labels_eq (s : ByteArray) (hn : s.size ≤ 1048576) : Ev (fun k => spec_Labels.f k s) (labelsL s) := by
  unfold spec_Labels.f labelsL
  by_cases h : s.data.toList = []
  · rw [if_pos h]
    have hb : (s.toList != ([] : List UInt8)) = false := by rw [ByteArray.toList_eq, h]; rfl
    refine Ev.step (f := fun k => spec_Labels.j1 k s [] 0 0 false) (fun k => ?_) ?_
    · simp only [spec_Labels.l0]
      rw [if_pos (by omega), hb]
    refine Ev.step (f := fun _ => some []) (fun k => ?_) ⟨0, fun _ _ => rfl⟩
    simp only [spec_Labels.j1]
    rw [if_neg (by decide)]
  · rw [if_neg h]
    have := spec_Labels_loop s hn (by rw [ByteArray.toList_eq]; exact h) s.size 0 0 [] (by omega) (by omega) (by simp)
    simpa using this
theorem cutA_length : ∀ (t acc : List UInt8), (cutA acc t).length ≤ t.length + 1
  | [], _ => Nat.le_refl _
  | c :: t, acc => by
    unfold cutA
    split
    · have := cutA_length t []
      simp only [List.length_cons]
      omega
    · have := cutA_length t (acc ++ [c])
      simp only [List.length_cons]
      omega
theorem labelsL_length (s : ByteArray) : (labelsL s).length ≤ s.size + 1 := by
  unfold labelsL
  split
  · simp
  · rw [List.length_map, size_data]
    exact cutA_length _ _
theorem mkB_append (a b : List UInt8) : mkB a ++ mkB b = mkB (a ++ b) := by
  apply ByteArray.ext
  rw [ByteArray.data_append]
  simp [mkB]
theorem cutA_ne : ∀ (t acc : List UInt8), cutA acc t ≠ []
  | [], acc => by simp [cutA]
  | c :: t, acc => by
    unfold cutA
    split
    · simp
    · exact cutA_ne t _
theorem join_cutA : ∀ (t acc : List UInt8), joinS ((cutA acc t).map mkB) = mkB (acc ++ t)
  | [], acc => by simp [cutA, joinS]
  | c :: t, acc => by
    by_cases h : c = 46
    · subst h
      simp only [cutA, if_true, List.map_cons]
      rw [joinS_cons _ _ (by simpa using cutA_ne t []), join_cutA t []]
      have e : (⟨#[46]⟩ : ByteArray) = mkB [46] := rfl
      rw [e, mkB_append, mkB_append]
      rfl
    · simp only [cutA, if_neg h]
      rw [join_cutA t (acc ++ [c])]
      simp
theorem join_labels (s : ByteArray) : joinS (labelsL s) = s := by
  unfold labelsL
  by_cases h : s.data.toList = []
  · rw [if_pos h]
    have e : mkB s.data.toList = s := mkB_data s
    rw [h] at e
    exact e
  · rw [if_neg h, join_cutA]
    exact mkB_data s
theorem szSs_cons (x : ByteArray) (l : List ByteArray) : szSs (x :: l) = x.size + szSs l := by
  unfold szSs
  rw [List.map_cons, List.sum_cons]
theorem szSs_nil : szSs [] = 0 := rfl
theorem cutA_size : ∀ (t acc : List UInt8), szSs ((cutA acc t).map mkB) ≤ acc.length + t.length
  | [], acc => by
    have e : (mkB acc).size = acc.length := rfl
    simp only [cutA, List.map_cons, List.map_nil, szSs_cons, szSs_nil, e, List.length_nil]
    omega
  | c :: t, acc => by
    unfold cutA
    split
    · have := cutA_size t []
      have e : (mkB acc).size = acc.length := rfl
      simp only [List.length_nil] at this
      simp only [List.map_cons, szSs_cons, e, List.length_cons]
      omega
    · have := cutA_size t (acc ++ [c])
      simp only [List.length_append, List.length_cons, List.length_nil] at this ⊢
      omega
theorem labelsL_size (s : ByteArray) : szSs (labelsL s) ≤ s.size := by
  unfold labelsL
  split
  · rw [szSs_nil]
    omega
  · have := cutA_size s.data.toList []
    rw [size_data]
    simpa using this
theorem szSs_drop_le : ∀ (l : List ByteArray) (i : Nat), szSs (l.drop i) ≤ szSs l
  | [], i => by simp
  | x :: l, 0 => Nat.le_refl _
  | x :: l, i + 1 => by
    have := szSs_drop_le l i
    simp only [List.drop_succ_cons, szSs_cons]
    omega
/-- A name and all above it, given its labels. -/
def aboveL : List ByteArray → List ByteArray
  | [] => [(⟨#[]⟩ : ByteArray)]
  | x :: l => joinS (x :: l) :: aboveL l
theorem aboveL_length : ∀ l : List ByteArray, (aboveL l).length = l.length + 1
  | [] => rfl
  | x :: l => by rw [aboveL, List.length_cons, aboveL_length l, List.length_cons]
theorem aboveL_drop (ls : List ByteArray) (i : Nat) (h : i < ls.length) : aboveL (ls.drop i) = joinS (ls.drop i) :: aboveL (ls.drop (i + 1)) := by
  rw [List.drop_eq_getElem_cons h, aboveL]
theorem spec_Above_loop (ls : List ByteArray) (hn : ls.length ≤ 1048577) (hz : szSs ls ≤ 1048576) : ∀ (d i : Nat) (acc : List ByteArray), i + d = ls.length → acc.length ≤ i + 1 →
    Ev (fun k => spec_Above.l0 k acc ls (i : Int)) (acc ++ aboveL (ls.drop i)) := by
  intro d
  induction d with
  | zero =>
    intro i acc hi ha
    have w := wrap_succ i (i + 1) (by omega) (by omega)
    have e : ls.drop i = [] := List.drop_of_length_le (by omega)
    rw [e]
    refine Ev.step (f := fun k => (spec_JoinLabels.f k (ls.drop i)).bind fun t => spec_Above.l0 k (acc ++ [t]) ls ((i + 1 : Nat) : Int)) (fun k => ?_) (Ev.bind (spec_JoinLabels_eq _ (by rw [e]; simp [szSs])) ?_)
    · simp only [spec_Above.l0]
      rw [if_pos (by omega), if_pos (by omega), w, Int.toNat_natCast]
      congr 1
      funext t
      rw [if_pos (by omega)]
    · rw [e]
      refine Ev.step (f := fun _ => some (acc ++ [joinS []])) (fun k => ?_) ⟨0, fun _ _ => rfl⟩
      simp only [spec_Above.l0]
      rw [if_neg (by omega)]
  | succ d ih =>
    intro i acc hi ha
    have w := wrap_succ i (i + 1) (by omega) (by omega)
    have hz' := szSs_drop_le ls i
    rw [aboveL_drop ls i (by omega)]
    refine Ev.step (f := fun k => (spec_JoinLabels.f k (ls.drop i)).bind fun t => spec_Above.l0 k (acc ++ [t]) ls ((i + 1 : Nat) : Int)) (fun k => ?_) (Ev.bind (spec_JoinLabels_eq _ (by rw [List.length_drop]; omega)) ?_)
    · simp only [spec_Above.l0]
      rw [if_pos (by omega), if_pos (by omega), w, Int.toNat_natCast]
      congr 1
      funext t
      rw [if_pos (by omega)]
    · have := ih (i + 1) (acc ++ [joinS (ls.drop i)]) (by omega) (by rw [List.length_append]; simp; omega)
      simpa using this
/-- What Above returns. -/
def above (s : ByteArray) : List ByteArray := aboveL (labelsL s)
theorem spec_Above_eq (s : ByteArray) (hs : s.size ≤ 1048576) : Ev (fun k => spec_Above.f k s) (above s) := by
  have h1 := labelsL_length s
  have h2 := labelsL_size s
  unfold spec_Above.f above
  refine Ev.bind (spec_Labels_eq s hs) ?_
  cases hl : labelsL s with
  | nil =>
    have e := join_labels s
    rw [hl] at e
    refine Ev.step (f := fun _ => some [s]) (fun k => ?_) ⟨0, fun _ _ => by rw [← e]; rfl⟩
    simp only [spec_Above.l0]
    rw [if_neg (by simp)]
  | cons x l =>
    have e := join_labels s
    rw [hl] at e h1 h2
    have := spec_Above_loop (x :: l) (by omega) (by omega) l.length 1 [s] (by simp; omega) (by simp)
    rw [aboveL]
    rw [e]
    simpa using this
theorem Ev_if {α : Type} {c : Prop} [Decidable c] {f g : Nat → Option α} {x : α} (h : c) (h1 : Ev f x) : Ev (fun k => if c then f k else g k) x := by
  simp only [if_pos h]
  exact h1
theorem Ev_ifn {α : Type} {c : Prop} [Decidable c] {f g : Nat → Option α} {x : α} (h : ¬ c) (h1 : Ev g x) : Ev (fun k => if c then f k else g k) x := by
  simp only [if_neg h]
  exact h1
/-- A byte of a label. -/
def okB (c : Int) : Bool := (decide (97 ≤ c) && decide (c ≤ 122)) || (decide (48 ≤ c) && decide (c ≤ 57)) || decide (c = 45) || decide (c = 95)
/-- A label: what LabelOk answers. -/
def labelOk (s : ByteArray) : Bool := (bytesOf s).all okB && (decide (1 ≤ s.size) && decide (s.size ≤ 12))
theorem l1In_dec (a b c : Int) : spec_l1In.f a b c = some (decide (b ≤ a) && decide (a ≤ c)) := by
  unfold spec_l1In.f
  by_cases h : a ≥ b
  · rw [if_pos h]
    have h' : b ≤ a := h
    simp [h']
  · rw [if_neg h]
    have h' : ¬ b ≤ a := h
    simp [h']
theorem l2Byte_eq (c : Int) (h0 : 0 ≤ c) (h1 : c ≤ 255) : spec_l2Byte.f c = some (okB c) := by
  unfold spec_l2Byte.f okB
  rw [wrap_id (x := c) (by omega) (by omega), l1In_dec, l1In_dec]
  simp only [Option.bind_some]
  by_cases a : (decide (97 ≤ c) && decide (c ≤ 122)) = true
  · simp [a]
  · by_cases b : (decide (48 ≤ c) && decide (c ≤ 57)) = true
    · simp [a, b]
    · by_cases d : c = 45
      · simp [a, b, d]
      · simp only [Bool.not_eq_true] at a b
        have e : (c == 95) = decide (c = 95) := by by_cases z : c = 95 <;> simp [z]
        simp [a, b, d, e]
theorem drop_bytesOf (s : ByteArray) (i : Nat) (h : i < s.size) : (bytesOf s).drop i = bt s i :: (bytesOf s).drop (i + 1) := by
  rw [rd_drop _ i (by rw [bytesOf_length]; exact h), rd_bytesOf]
theorem spec_LabelOk_loop (s : ByteArray) (hn : s.size ≤ 140737488355328) : ∀ (d i : Nat), i + d = s.size →
    Ev (fun k => spec_LabelOk.l0 k s (i : Int)) (((bytesOf s).drop i).all okB && (decide (1 ≤ s.size) && decide (s.size ≤ 12))) := by
  intro d
  induction d with
  | zero =>
    intro i hi
    refine Ev.step (f := fun _ => some (decide (1 ≤ s.size) && decide (s.size ≤ 12))) (fun k => ?_) ⟨0, fun _ _ => by rw [List.drop_of_length_le (by rw [bytesOf_length]; omega)]; rfl⟩
    simp only [spec_LabelOk.l0]
    rw [if_neg (by omega), l1In_dec]
    have e1 : decide ((1 : Int) ≤ (s.size : Int)) = decide (1 ≤ s.size) := decide_eq_decide.2 (by omega)
    have e2 : decide ((s.size : Int) ≤ 12) = decide (s.size ≤ 12) := decide_eq_decide.2 (by omega)
    rw [e1, e2]
    rfl
  | succ d ih =>
    intro i hi
    have hb := bt_range s i
    have hw := wrap_succ i s.size (by omega) hn
    rw [drop_bytesOf s i (by omega), List.all_cons]
    cases h : okB (bt s i) with
    | true =>
      rw [Bool.true_and]
      refine Ev.step (f := fun k => spec_LabelOk.l0 k s ((i + 1 : Nat) : Int)) (fun k => ?_) (ih (i + 1) (by omega))
      simp only [spec_LabelOk.l0]
      rw [if_pos (by omega), if_pos (by omega), l2Byte_eq _ hb.1 hb.2, h, hw]
      rfl
    | false =>
      refine Ev.step (f := fun _ => some false) (fun k => ?_) ⟨0, fun _ _ => rfl⟩
      simp only [spec_LabelOk.l0]
      rw [if_pos (by omega), if_pos (by omega), l2Byte_eq _ hb.1 hb.2, h]
      rfl
theorem impl_LabelOk_body (c : Int) (x : Option Bool) :
    (if c < 97 then (if c < 48 then (if c = 45 then x else (if c = 95 then x else (some false))) else (if c > 57 then (if c = 45 then x else (if c = 95 then x else (some false))) else x))
      else (if c > 122 then (if c < 48 then (if c = 45 then x else (if c = 95 then x else (some false))) else (if c > 57 then (if c = 45 then x else (if c = 95 then x else (some false))) else x)) else x)) = if okB c = true then x else some false := by
  have hk : okB c = true ↔ (97 ≤ c ∧ c ≤ 122) ∨ (48 ≤ c ∧ c ≤ 57) ∨ c = 45 ∨ c = 95 := by simp [okB, or_assoc]
  by_cases h : okB c = true
  · have h' := hk.1 h
    rw [show (if okB c = true then x else some false) = x from if_pos h]
    repeat' split
    all_goals first | rfl | (exfalso; omega)
  · have h' : ¬ ((97 ≤ c ∧ c ≤ 122) ∨ (48 ≤ c ∧ c ≤ 57) ∨ c = 45 ∨ c = 95) := fun z => h (hk.2 z)
    rw [show (if okB c = true then x else some false) = some false from if_neg h]
    repeat' split
    all_goals first | rfl | (exfalso; omega)
theorem impl_LabelOk_loop (s : ByteArray) (hn : s.size ≤ 140737488355328) : ∀ (d i : Nat), i + d = s.size →
    Ev (fun k => impl_LabelOk.l0 k s (s.size : Int) (i : Int)) (((bytesOf s).drop i).all okB && (decide (1 ≤ s.size) && decide (s.size ≤ 12))) := by
  intro d
  induction d with
  | zero =>
    intro i hi
    refine Ev.step (f := fun _ => some (decide (1 ≤ s.size) && decide (s.size ≤ 12))) (fun k => ?_) ⟨0, fun _ _ => by rw [List.drop_of_length_le (by rw [bytesOf_length]; omega)]; rfl⟩
    simp only [impl_LabelOk.l0]
    rw [if_neg (by omega)]
    have e2 : decide ((s.size : Int) ≤ 12) = decide (s.size ≤ 12) := decide_eq_decide.2 (by omega)
    by_cases h : (s.size : Int) ≥ 1
    · rw [if_pos h, e2, decide_eq_true (show 1 ≤ s.size by omega), Bool.true_and]
    · rw [if_neg h, decide_eq_false (show ¬ 1 ≤ s.size by omega), Bool.false_and]
  | succ d ih =>
    intro i hi
    have hw := wrap_succ i s.size (by omega) hn
    rw [drop_bytesOf s i (by omega), List.all_cons]
    refine Ev.step (f := fun k => if okB (bt s i) = true then impl_LabelOk.l0 k s (s.size : Int) ((i + 1 : Nat) : Int) else some false) (fun k => ?_) ?_
    · simp only [impl_LabelOk.l0]
      rw [if_pos (by omega), if_pos (by omega), if_pos (by omega), hw]
      exact impl_LabelOk_body _ _
    · cases h : okB (bt s i) with
      | true =>
        have := ih (i + 1) (by omega)
        simpa using this
      | false => exact ⟨0, fun _ _ => by simp⟩
theorem spec_LabelOk_eq (s : ByteArray) (hn : s.size ≤ 140737488355328) : Ev (fun k => spec_LabelOk.f k s) (labelOk s) := by
  have := spec_LabelOk_loop s hn s.size 0 (by omega)
  unfold spec_LabelOk.f labelOk
  simpa using this
theorem impl_LabelOk_eq (s : ByteArray) (hn : s.size ≤ 140737488355328) : Ev (fun k => impl_LabelOk.f k s) (labelOk s) := by
  have := impl_LabelOk_loop s hn s.size 0 (by omega)
  unfold impl_LabelOk.f labelOk
  simpa using this
theorem szSs_mem : ∀ (l : List ByteArray) (x : ByteArray), x ∈ l → x.size ≤ szSs l
  | [], x, h => by cases h
  | y :: l, x, h => by
    rw [szSs_cons]
    rcases List.mem_cons.1 h with e | h
    · subst e
      omega
    · have := szSs_mem l x h
      omega
theorem labels_mem_size (s x : ByteArray) (h : x ∈ labelsL s) : x.size ≤ s.size := Nat.le_trans (szSs_mem _ x h) (labelsL_size s)
/-- What NameOk answers. -/
def nameOk (s : ByteArray) : Bool := (labelsL s).all labelOk && (decide (s.size ≤ 50) && decide ((labelsL s).length ≤ 6))
theorem spec_NameOk_loop (s : ByteArray) (l : List ByteArray) (hn : l.length ≤ 140737488351232) (hz : ∀ x ∈ l, x.size ≤ 1048576) : ∀ (d i : Nat), i + d = l.length →
    Ev (fun k => spec_NameOk.l0 k s l (i : Int)) ((l.drop i).all labelOk && (decide (s.size ≤ 50) && decide (l.length ≤ 6))) := by
  intro d
  induction d with
  | zero =>
    intro i hi
    rw [show l.drop i = [] from List.drop_of_length_le (by omega)]
    refine Ev.step (f := fun _ => some (decide (s.size ≤ 50) && decide (l.length ≤ 6))) (fun k => ?_) ⟨0, fun _ _ => rfl⟩
    simp only [spec_NameOk.l0]
    rw [if_neg (by omega)]
    by_cases c : s.size ≤ 50
    · rw [if_pos (by omega), decide_eq_true c, Bool.true_and]
      congr 1
      exact decide_eq_decide.2 (by omega)
    · rw [if_neg (by omega), decide_eq_false c, Bool.false_and]
  | succ d ih =>
    intro i hi
    have hil : i < l.length := by omega
    have w := wrap_succ i l.length hil (by omega)
    rw [List.drop_eq_getElem_cons hil, List.all_cons]
    have hx := hz _ (List.getElem_mem hil)
    refine Ev.step (f := fun k => (spec_LabelOk.f k l[i]).bind fun t => if t = true then spec_NameOk.l0 k s l ((i + 1 : Nat) : Int) else some false) (fun k => ?_) ?_
    · simp only [spec_NameOk.l0]
      rw [if_pos (by omega), if_pos (by omega), rdS_getElem l i hil, w]
    · refine Ev.bind (spec_LabelOk_eq l[i] (by omega)) ?_
      cases h : labelOk l[i] with
      | true =>
        rw [Bool.true_and]
        exact Ev_if rfl (ih (i + 1) (by omega))
      | false => exact Ev_ifn (by decide) ⟨0, fun _ _ => rfl⟩
theorem spec_NameOk_eq (s : ByteArray) (hs : s.size ≤ 1048576) : Ev (fun k => spec_NameOk.f k s) (nameOk s) := by
  unfold spec_NameOk.f nameOk
  have h1 := labelsL_length s
  refine Ev.bind (spec_Labels_eq s hs) ?_
  have := spec_NameOk_loop s (labelsL s) (by omega) (fun x hx => Nat.le_trans (labels_mem_size s x hx) hs) (labelsL s).length 0 (by omega)
  simpa using this
theorem impl_NameOk_1_eq (s : ByteArray) (hs : s.size ≤ 1048576) : Ev (fun k => impl_NameOk_1.f k s) (!labelOk s) := by
  unfold impl_NameOk_1.f
  exact Ev.bind (impl_LabelOk_eq s (by omega)) ⟨0, fun _ _ => rfl⟩
theorem slices_IndexFunc_string_loop (l : List ByteArray) (hn : l.length ≤ 140737488351232) (hz : ∀ x ∈ l, x.size ≤ 1048576) : ∀ (d i : Nat), i + d = l.length →
    ∃ r : Int, Ev (fun k => slices_IndexFunc_string.l0 k l (l.length : Int) (i : Int)) r ∧ decide (r ≥ 0) = !(l.drop i).all labelOk := by
  intro d
  induction d with
  | zero =>
    intro i hi
    rw [show l.drop i = [] from List.drop_of_length_le (by omega)]
    refine ⟨-1, Ev.step (f := fun _ => some (-1)) (fun k => ?_) ⟨0, fun _ _ => rfl⟩, rfl⟩
    simp only [slices_IndexFunc_string.l0]
    rw [if_neg (by omega)]
  | succ d ih =>
    intro i hi
    have hil : i < l.length := by omega
    have w := wrap_succ i l.length hil (by omega)
    rw [List.drop_eq_getElem_cons hil, List.all_cons]
    have hx := hz _ (List.getElem_mem hil)
    obtain ⟨r, hr, hd⟩ := ih (i + 1) (by omega)
    have hs : ∀ k, slices_IndexFunc_string.l0 (k + 1) l (l.length : Int) (i : Int) = (impl_NameOk_1.f k l[i]).bind fun t => if t = true then some (i : Int) else slices_IndexFunc_string.l0 k l (l.length : Int) ((i + 1 : Nat) : Int) := by
      intro k
      simp only [slices_IndexFunc_string.l0]
      rw [if_pos (by omega), if_pos (by omega), if_pos (by omega), rdS_getElem l i hil, w]
    cases h : labelOk l[i] with
    | true =>
      refine ⟨r, Ev.step hs (Ev.bind (impl_NameOk_1_eq l[i] hx) ?_), by rw [hd, Bool.true_and]⟩
      rw [h]
      exact Ev_ifn (by decide) hr
    | false =>
      refine ⟨(i : Int), Ev.step hs (Ev.bind (impl_NameOk_1_eq l[i] hx) ?_), by rw [decide_eq_true (by omega)]; rfl⟩
      rw [h]
      exact Ev_if rfl ⟨0, fun _ _ => rfl⟩
theorem slices_ContainsFunc_string_eq (l : List ByteArray) (hn : l.length ≤ 140737488351232) (hz : ∀ x ∈ l, x.size ≤ 1048576) : Ev (fun k => slices_ContainsFunc_string.f k l) (!l.all labelOk) := by
  unfold slices_ContainsFunc_string.f slices_IndexFunc_string.f
  obtain ⟨r, hr, hd⟩ := slices_IndexFunc_string_loop l hn hz l.length 0 (by omega)
  rw [List.drop_zero] at hd
  rw [← hd]
  exact Ev.bind hr ⟨0, fun _ _ => rfl⟩
theorem impl_NameOk_eq (s : ByteArray) (hs : s.size ≤ 1048576) : Ev (fun k => impl_NameOk.f k s) (nameOk s) := by
  unfold impl_NameOk.f nameOk
  have h1 := labelsL_length s
  rw [impl_Labels_eq s (by omega)]
  simp only [Option.bind_some]
  by_cases c1 : s.size ≤ 50
  · refine Ev_if (by omega) ?_
    rw [decide_eq_true c1, Bool.true_and]
    by_cases c2 : (labelsL s).length ≤ 6
    · refine Ev_if (by omega) ?_
      rw [decide_eq_true c2, Bool.and_true]
      refine Ev.bind (slices_ContainsFunc_string_eq _ (by omega) (fun x hx => Nat.le_trans (labels_mem_size s x hx) hs)) ⟨0, fun _ _ => ?_⟩
      rw [Bool.not_not]
    · refine Ev_ifn (by omega) ?_
      rw [decide_eq_false c2, Bool.and_false]
      exact ⟨0, fun _ _ => rfl⟩
  · refine Ev_ifn (by omega) ?_
    rw [decide_eq_false c1, Bool.false_and, Bool.and_false]
    exact ⟨0, fun _ _ => rfl⟩
theorem Ev_some {α : Type} (x : α) : Ev (fun _ => some x) x := ⟨0, fun _ _ => rfl⟩
theorem Ev_c {α : Type} {o : Option α} {x : α} (h : o = some x) : Ev (fun _ => o) x := ⟨0, fun _ _ => h⟩
theorem and255 (y : Int) : 0 ≤ Go.bits .and .i64 y 255 ∧ Go.bits .and .i64 y 255 ≤ 255 := by
  have h : (BitVec.ofInt 64 y &&& BitVec.ofInt 64 255).toNat ≤ 255 := by
    rw [BitVec.toNat_and]
    exact Nat.le_trans Nat.and_le_right (by decide)
  have e : Go.bits .and .i64 y 255 = IntKind.i64.wrap ((BitVec.ofInt 64 y &&& BitVec.ofInt 64 255).toNat : Int) := rfl
  rw [e, Go.IntKind.wrap_i64]
  omega
/-- A place in a draw's bytes. -/
def CurOk (b : List Int) (i : Int) : Prop := 0 ≤ i ∧ i ≤ (b.length : Int)
/-- A draw that answers: what it draws is so, and the place stays one. -/
def Dr {α : Type} (b : List Int) (f : Option (α × Int × Int)) (P : α → Prop) : Prop := ∃ x j g, f = some (x, j, g) ∧ P x ∧ CurOk b j
theorem l1Byte_dr (b : List Int) (hn : b.length ≤ 140737488351232) (i h : Int) (c : CurOk b i) : Dr b (spec_l1Byte.f b i h) (fun x => 0 ≤ x ∧ x ≤ 255) := by
  unfold spec_l1Byte.f
  obtain ⟨c0, c1⟩ := c
  by_cases q : i < (b.length : Int)
  · rw [if_pos q, if_pos c0]
    have w : wrap64 (i + 1) = i + 1 := wrap_id (by omega) (by omega)
    refine ⟨_, _, _, rfl, and255 _, ?_⟩
    rw [w]
    exact ⟨by omega, by omega⟩
  · rw [if_neg q]
    exact ⟨_, _, _, rfl, and255 _, ⟨c0, c1⟩⟩
theorem tmod_rng (x n : Int) (hx : 0 ≤ x) (hn : 0 < n) : 0 ≤ Int.tmod x n ∧ Int.tmod x n < n := by
  rw [Int.tmod_eq_emod_of_nonneg hx]
  exact ⟨Int.emod_nonneg _ (by omega), Int.emod_lt_of_pos _ hn⟩
theorem l1Below_dr (b : List Int) (hn : b.length ≤ 140737488351232) (i h n : Int) (c : CurOk b i) : Dr b (spec_l1Below.f b i h n) (fun x => 0 ≤ x ∧ (0 < n → x < n) ∧ (n ≤ 0 → x = 0)) := by
  unfold spec_l1Below.f
  by_cases q : n ≤ 0
  · rw [if_pos q]
    exact ⟨_, _, _, rfl, ⟨Int.le_refl _, fun z => by omega, fun _ => rfl⟩, c⟩
  · rw [if_neg q]
    by_cases q2 : n ≤ 256
    · rw [if_pos q2]
      obtain ⟨x, j, g, e, p, c2⟩ := l1Byte_dr b hn i h c
      rw [e]
      simp only [Option.bind_some]
      rw [if_neg (by omega)]
      have t := tmod_rng x n p.1 (by omega)
      exact ⟨_, _, _, rfl, ⟨t.1, fun _ => t.2, fun z => by omega⟩, c2⟩
    · rw [if_neg q2]
      obtain ⟨x, j, g, e, p, c2⟩ := l1Byte_dr b hn i h c
      rw [e]
      simp only [Option.bind_some]
      obtain ⟨x2, j2, g2, e2, p2, c3⟩ := l1Byte_dr b hn j g c2
      rw [e2]
      simp only [Option.bind_some]
      obtain ⟨x3, j3, g3, e3, p3, c4⟩ := l1Byte_dr b hn j2 g2 c3
      rw [e3]
      simp only [Option.bind_some]
      rw [if_neg (by omega)]
      have w1 : wrap64 (x * 65536) = x * 65536 := wrap_id (by omega) (by omega)
      have w2 : wrap64 (x2 * 256) = x2 * 256 := wrap_id (by omega) (by omega)
      have w3 : wrap64 (x * 65536 + x2 * 256) = x * 65536 + x2 * 256 := wrap_id (by omega) (by omega)
      have w4 : wrap64 (x * 65536 + x2 * 256 + x3) = x * 65536 + x2 * 256 + x3 := wrap_id (by omega) (by omega)
      rw [w1, w2, w3, w4]
      have t := tmod_rng (x * 65536 + x2 * 256 + x3) n (by omega) (by omega)
      exact ⟨_, _, _, rfl, ⟨t.1, fun _ => t.2, fun z => by omega⟩, c4⟩
theorem l1Once_dr (b : List Int) (hn : b.length ≤ 140737488351232) (i h n : Int) (c : CurOk b i) : Dr b (spec_l1Once.f b i h n) (fun _ => True) := by
  unfold spec_l1Once.f
  obtain ⟨x, j, g, e, p, c2⟩ := l1Below_dr b hn i h n c
  rw [e]
  exact ⟨_, _, _, rfl, trivial, c2⟩
theorem l1Int_dr (b : List Int) (hn : b.length ≤ 140737488351232) (i h : Int) (l : List Int) (hl : 0 < l.length) (c : CurOk b i) : Dr b (spec_l1Int.f b i h l) (fun x => x ∈ l) := by
  unfold spec_l1Int.f
  obtain ⟨x, j, g, e, p, c2⟩ := l1Below_dr b hn i h (l.length : Int) c
  rw [e]
  simp only [Option.bind_some]
  have := p.2.1 (by omega)
  rw [if_pos p.1, if_pos this]
  exact ⟨_, _, _, rfl, rd_mem l x p.1 this, c2⟩
theorem rdS_mem (l : List ByteArray) (x : Int) (h0 : 0 ≤ x) (h : x < (l.length : Int)) : rdOf ByteArray.empty l x ∈ l := by
  obtain ⟨n, rfl⟩ := Int.eq_ofNat_of_zero_le h0
  rw [rdS_getElem l n (by omega)]
  exact List.getElem_mem _
theorem l1Str_dr (b : List Int) (hn : b.length ≤ 140737488351232) (i h : Int) (l : List ByteArray) (hl : 0 < l.length) (c : CurOk b i) : Dr b (spec_l1Str.f b i h l) (fun x => x ∈ l) := by
  unfold spec_l1Str.f
  obtain ⟨x, j, g, e, p, c2⟩ := l1Below_dr b hn i h (l.length : Int) c
  rw [e]
  simp only [Option.bind_some]
  have := p.2.1 (by omega)
  rw [if_pos p.1, if_pos this]
  exact ⟨_, _, _, rfl, rdS_mem l x p.1 this, c2⟩
def I64 (x : Int) : Prop := -9223372036854775808 ≤ x ∧ x ≤ 9223372036854775807
theorem i64_all (l : List Int) (h : l.all (fun x => decide (-9223372036854775808 ≤ x) && decide (x ≤ 9223372036854775807)) = true) : ∀ x ∈ l, I64 x := by
  intro x hx
  have := List.all_eq_true.1 h x hx
  rw [Bool.and_eq_true, decide_eq_true_eq, decide_eq_true_eq] at this
  exact this
theorem l1New_loop (l : List Int) (hn : l.length ≤ 140737488351232) : ∀ (d i : Nat) (h : Int), i + d = l.length → ∃ g, Ev (fun k => spec_l1New.l0 k l h (i : Int)) (l, 0, g) := by
  intro d
  induction d with
  | zero =>
    intro i h hi
    refine ⟨h, Ev.step (f := fun _ => some (l, 0, h)) (fun k => ?_) (Ev_some _)⟩
    simp only [spec_l1New.l0]
    rw [if_neg (by omega)]
  | succ d ih =>
    intro i h hi
    have w := wrap_succ i l.length (by omega) (by omega)
    by_cases q : i < 4000
    · obtain ⟨g, e⟩ := ih (i + 1) (Go.bits .and .i64 (wrap64 ((wrap64 ((wrap64 (h * 137)) + (wrap64 (rd l (i : Int))))) + 11)) 1073741823) (by omega)
      refine ⟨g, Ev.step (fun k => ?_) e⟩
      simp only [spec_l1New.l0]
      rw [if_pos (by omega), if_pos (by omega), if_pos (by omega), w]
    · refine ⟨h, Ev.step (f := fun _ => some (l, 0, h)) (fun k => ?_) (Ev_some _)⟩
      simp only [spec_l1New.l0]
      rw [if_pos (by omega), if_neg (by omega)]
theorem l1New_ev (l : List Int) (hn : l.length ≤ 140737488351232) : ∃ g, Ev (fun k => spec_l1New.f k l) (l, 0, g) := by
  unfold spec_l1New.f
  exact l1New_loop l hn l.length 0 _ (by omega)
theorem cur0 (l : List Int) : CurOk l 0 := ⟨Int.le_refl _, by omega⟩
theorem l1Bytes_loop (b : List Int) (hn : b.length ≤ 140737488351232) (n : Nat) (hN : n ≤ 1000000) : ∀ (d i : Nat) (acc : List Int) (j g : Int), i + d = n → acc.length = i → Bytes acc → CurOk b j →
    ∃ xs j' g', Ev (fun k => spec_l1Bytes.l0 k (n : Int) acc (i : Int) b j g) (xs, j', g') ∧ Bytes xs ∧ xs.length = n ∧ CurOk b j' := by
  intro d
  induction d with
  | zero =>
    intro i acc j g hi ha hb hc
    refine ⟨acc, j, g, Ev.step (f := fun _ => some (acc, j, g)) (fun k => ?_) (Ev_some _), hb, by omega, hc⟩
    simp only [spec_l1Bytes.l0]
    rw [if_neg (by omega)]
  | succ d ih =>
    intro i acc j g hi ha hb hc
    have w := wrap_succ i n (by omega) (by omega)
    obtain ⟨x, j2, g2, e, p, c2⟩ := l1Byte_dr b hn j g hc
    obtain ⟨xs, j', g', h1, h2⟩ := ih (i + 1) (acc ++ [x % 256]) j2 g2 (by omega) (by simp; omega) (hb.append (fun y hy => by rw [List.mem_singleton.1 hy]; omega)) c2
    refine ⟨xs, j', g', Ev.step (fun k => ?_) h1, h2⟩
    simp only [spec_l1Bytes.l0]
    rw [if_pos (by omega), e]
    simp only [Option.bind_some]
    rw [if_pos (by omega), w]
theorem l1Bytes_ev (b : List Int) (hn : b.length ≤ 140737488351232) (i h n : Int) (c : CurOk b i) (h0 : 0 ≤ n) (h1 : n ≤ 1000000) : ∃ xs j g, Ev (fun k => spec_l1Bytes.f k b i h n) (xs, j, g) ∧ Bytes xs ∧ (xs.length : Int) = n ∧ CurOk b j := by
  obtain ⟨m, rfl⟩ := Int.eq_ofNat_of_zero_le h0
  obtain ⟨xs, j, g, e, p, q, r⟩ := l1Bytes_loop b hn m (by omega) m 0 [] i h (by omega) rfl (fun x hx => by cases hx) c
  unfold spec_l1Bytes.f
  exact ⟨xs, j, g, e, p, by omega, r⟩
theorem big_eq (l : List Int) : laws_big.f l = some (decide ((l.length : Int) > 1048576)) := by
  unfold laws_big.f
  rfl
/-- What PutLabel returns. -/
def putLabel (l : List Int) (s : ByteArray) : List Int := if labelOk s = true then l ++ ((s.size : Int) :: bytesOf s) else l
theorem labelOk_size {s : ByteArray} (h : labelOk s = true) : 1 ≤ s.size ∧ s.size ≤ 12 := by
  unfold labelOk at h
  simp only [Bool.and_eq_true, decide_eq_true_eq] at h
  exact h.2
theorem putLabel_le (l : List Int) (s : ByteArray) : (putLabel l s).length ≤ l.length + 13 := by
  unfold putLabel
  split
  · rename_i h
    have := labelOk_size h
    rw [List.length_append, List.length_cons, bytesOf_length]
    omega
  · omega
theorem spec_PutLabel_eq (l : List Int) (hl : l.length ≤ 140737488351232) (s : ByteArray) (hs : s.size ≤ 140737488355328) : Ev (fun k => spec_PutLabel.f k l s) (putLabel l s) := by
  unfold spec_PutLabel.f putLabel
  simp only [Option.bind_some, List.length_nil, List.nil_append, Nat.zero_add]
  have h1 : l.length < 140737488355328 := by omega
  simp only [if_pos h1]
  refine Ev.bind (spec_LabelOk_eq s hs) ?_
  cases h : labelOk s with
  | true =>
    have hz := labelOk_size h
    refine ⟨0, fun _ _ => ?_⟩
    simp only [if_true, Option.bind_some]
    rw [if_pos (by rw [List.length_append]; simp; omega), List.append_assoc, show ((s.size : Int)) % 256 = (s.size : Int) by omega]
    rfl
  | false => exact ⟨0, fun _ _ => rfl⟩
/-- The folded bytes behind the length byte at i. -/
def labAt (l : List Int) (i : Int) : ByteArray := strOfNums (((l.drop (i.toNat + 1)).take (rd l i).toNat).map foldB)
/-- What GetLabel returns. -/
def getLabel (l : List Int) (i : Int) : ByteArray × Int × Bool :=
  if (0 ≤ i ∧ i < (l.length : Int) ∧ rd l i ≤ 12 ∧ rd l i < (l.length : Int) - i) ∧ labelOk (labAt l i) = true then (labAt l i, i + 1 + rd l i, true) else ((⟨#[]⟩ : ByteArray), 0, false)
theorem labelOk_empty : labelOk (⟨#[]⟩ : ByteArray) = false := by
  unfold labelOk
  simp [show (⟨#[]⟩ : ByteArray).size = 0 from rfl]
theorem cut_label (l : List Int) (i n : Int) (h0 : 0 ≤ i) (hn : 0 ≤ n) : (l.take ((i + 1 + n : Int)).toNat).drop ((i + 1 : Int)).toNat = (l.drop (i.toNat + 1)).take n.toNat := by
  rw [List.drop_take]
  have e1 : (i + 1).toNat = i.toNat + 1 := by omega
  have e2 : (i + 1 + n).toNat - (i + 1).toNat = n.toNat := by omega
  rw [e2, e1]
theorem fold_cut (l : List Int) (hb : Bytes l) (i : Int) : strOfNums ((bytesOf (strOfNums ((l.drop (i.toNat + 1)).take (rd l i).toNat))).map foldB) = labAt l i := by
  rw [bytesOf_strOfNums ((hb.drop _).take _)]
  rfl
theorem strOfNums_cut_size (l : List Int) (hn : l.length ≤ 140737488351232) (a b : Nat) : (strOfNums ((l.drop a).take b)).size ≤ 140737488355328 := by
  rw [strOfNums_size, List.length_take, List.length_drop]
  omega
theorem labAt_size (l : List Int) (hn : l.length ≤ 140737488351232) (i : Int) : (labAt l i).size ≤ 140737488355328 := by
  unfold labAt
  rw [strOfNums_size, List.length_map, List.length_take, List.length_drop]
  omega
theorem impl_GetLabel_eq (l : List Int) (hn : l.length ≤ 140737488351232) (hb : Bytes l) (i : Int) (hi : -9223372036854775808 ≤ i ∧ i ≤ 9223372036854775807) : Ev (fun k => impl_GetLabel.f k l i) (getLabel l i) := by
  have hr := rd_byte hb i
  have fail : ¬ ((0 ≤ i ∧ i < (l.length : Int) ∧ rd l i ≤ 12 ∧ rd l i < (l.length : Int) - i)) → Ev (fun k => impl_GetLabel.j0 k l i true) (getLabel l i) := by
    intro h
    refine Ev.step (f := fun _ => some ((⟨#[]⟩ : ByteArray), 0, false)) (fun k => ?_) ⟨0, fun _ _ => ?_⟩
    · simp only [impl_GetLabel.j0]
      rfl
    · unfold getLabel
      rw [if_neg (fun q => h q.1)]
  unfold impl_GetLabel.f
  by_cases h0 : i < 0
  · simp only [if_pos h0]
    exact fail (by omega)
  · simp only [if_neg h0]
    by_cases h1 : i ≥ (l.length : Int)
    · simp only [if_pos h1]
      exact fail (by omega)
    · have g0 : 0 ≤ i := by omega
      have g1 : i < (l.length : Int) := by omega
      simp only [if_neg h1, if_pos g0, if_pos g1]
      by_cases h2 : rd l i > 12
      · simp only [if_pos h2]
        exact fail (by omega)
      · simp only [if_neg h2, wrap_id (x := rd l i) (by omega) (by omega), wrap_id (x := (l.length : Int) - i) (by omega) (by omega)]
        by_cases h3 : rd l i ≥ (l.length : Int) - i
        · simp only [decide_eq_true h3]
          exact fail (by omega)
        · simp only [decide_eq_false h3]
          refine Ev.step (f := fun k => (impl_LabelOk.f k (labAt l i)).bind fun t => if t = true then some (labAt l i, i + 1 + rd l i, true) else some ((⟨#[]⟩ : ByteArray), 0, false)) (fun k => ?_) (Ev.bind (impl_LabelOk_eq (labAt l i) (labAt_size l hn i)) ?_)
          · simp only [impl_GetLabel.j0]
            rw [if_neg (by decide), if_pos g0, if_pos g1, wrap_id (x := i + 1) (by omega) (by omega), wrap_id (x := rd l i) (by omega) (by omega), wrap_id (x := i + 1 + rd l i) (by omega) (by omega), if_pos (by omega), if_pos (by omega), if_pos (by omega), cut_label l i (rd l i) g0 hr.1]
            unfold impl_Fold.f
            rw [if_pos (strOfNums_cut_size l hn _ _), fold_cut l hb i]
            rfl
          · refine ⟨0, fun _ _ => ?_⟩
            unfold getLabel
            cases h : labelOk (labAt l i) with
            | true =>
              rw [if_pos rfl, if_pos ⟨⟨g0, g1, by omega, by omega⟩, rfl⟩]
            | false =>
              rw [if_neg (by decide), if_neg (fun q => by cases q.2)]
theorem spec_GetLabel_eq (l : List Int) (hn : l.length ≤ 140737488351232) (hb : Bytes l) (i : Int) (hi : -9223372036854775808 ≤ i ∧ i ≤ 9223372036854775807) : Ev (fun k => spec_GetLabel.f k l i) (getLabel l i) := by
  have hr := rd_byte hb i
  have none1 : ∀ n, ¬ ((0 ≤ i ∧ i < (l.length : Int) ∧ rd l i ≤ 12 ∧ rd l i < (l.length : Int) - i) ∧ labelOk (labAt l i) = true) → Ev (fun k => spec_GetLabel.j1 k l i n true) (getLabel l i) := by
    intro n h
    refine Ev.step (f := fun _ => some ((⟨#[]⟩ : ByteArray), 0, false)) (fun k => ?_) ⟨0, fun _ _ => ?_⟩
    · simp only [spec_GetLabel.j1]
      rfl
    · unfold getLabel
      rw [if_neg h]
  have fail : ¬ (0 ≤ i ∧ i < (l.length : Int)) → Ev (fun k => spec_GetLabel.j0 k l i true) (getLabel l i) := by
    intro h
    refine Ev.step (f := fun _ => some ((⟨#[]⟩ : ByteArray), 0, false)) (fun k => ?_) ⟨0, fun _ _ => ?_⟩
    · simp only [spec_GetLabel.j0]
      rfl
    · unfold getLabel
      rw [if_neg (fun q => h ⟨q.1.1, q.1.2.1⟩)]
  unfold spec_GetLabel.f
  by_cases h0 : i < 0
  · simp only [if_pos h0]
    exact fail (by omega)
  · simp only [if_neg h0]
    by_cases h1 : i ≥ (l.length : Int)
    · simp only [decide_eq_true h1]
      exact fail (by omega)
    · have g0 : 0 ≤ i := by omega
      have g1 : i < (l.length : Int) := by omega
      simp only [decide_eq_false h1]
      refine Ev.step (f := fun k => if (decide (1 ≤ rd l i) && decide (rd l i ≤ 12)) = true then spec_GetLabel.j1 k l i (rd l i) (decide (rd l i > (l.length : Int) - i - 1)) else spec_GetLabel.j1 k l i (rd l i) true) (fun k => ?_) ?_
      · simp only [spec_GetLabel.j0]
        rw [if_neg (by decide), if_pos g0, if_pos g1, wrap_id (x := rd l i) (by omega) (by omega), wrap_id (x := (l.length : Int) - i) (by omega) (by omega), wrap_id (x := (l.length : Int) - i - 1) (by omega) (by omega), l1In_dec]
        rfl
      · by_cases h2 : 1 ≤ rd l i ∧ rd l i ≤ 12
        · have e2 : (decide (1 ≤ rd l i) && decide (rd l i ≤ 12)) = true := by simp [h2.1, h2.2]
          simp only [e2, if_true]
          by_cases h3 : rd l i > (l.length : Int) - i - 1
          · simp only [decide_eq_true h3]
            exact none1 _ (by omega)
          · simp only [decide_eq_false h3]
            refine Ev.step (f := fun k => (spec_LabelOk.f k (labAt l i)).bind fun t => if t = true then some (labAt l i, i + 1 + rd l i, true) else some ((⟨#[]⟩ : ByteArray), 0, false)) (fun k => ?_) (Ev.bind (spec_LabelOk_eq (labAt l i) (labAt_size l hn i)) ?_)
            · simp only [spec_GetLabel.j1]
              rw [if_neg (by decide), wrap_id (x := i + 1) (by omega) (by omega), wrap_id (x := i + 1 + rd l i) (by omega) (by omega), if_pos (by omega), if_pos (by omega), if_pos (by omega), cut_label l i (rd l i) g0 hr.1]
              unfold spec_Fold.f
              rw [if_pos (strOfNums_cut_size l hn _ _), fold_cut l hb i]
              rfl
            · refine ⟨0, fun _ _ => ?_⟩
              unfold getLabel
              cases h : labelOk (labAt l i) with
              | true =>
                rw [if_pos rfl, if_pos ⟨⟨g0, g1, by omega, by omega⟩, rfl⟩]
              | false =>
                rw [if_neg (by decide), if_neg (fun q => by cases q.2)]
        · have e2 : (decide (1 ≤ rd l i) && decide (rd l i ≤ 12)) = false := by
            rw [Bool.and_eq_false_iff, decide_eq_false_iff_not, decide_eq_false_iff_not]
            omega
          simp only [e2, if_neg (show ¬ (false = true) by decide)]
          refine none1 _ (fun q => ?_)
          have hz : rd l i = 0 := by omega
          have : labAt l i = (⟨#[]⟩ : ByteArray) := by
            unfold labAt
            rw [hz]
            rfl
          rw [this, labelOk_empty] at q
          cases q.2
/-- A label as bytes: its length, and itself. -/
def labW (x : ByteArray) : List Int := (x.size : Int) :: bytesOf x
theorem putLabel_ok (l : List Int) (x : ByteArray) (h : labelOk x = true) : putLabel l x = l ++ labW x := by
  unfold putLabel labW
  rw [if_pos h]
theorem nameOk_all {s : ByteArray} (h : nameOk s = true) : (∀ x ∈ labelsL s, labelOk x = true) ∧ s.size ≤ 50 ∧ (labelsL s).length ≤ 6 := by
  unfold nameOk at h
  simp only [Bool.and_eq_true, decide_eq_true_eq] at h
  exact ⟨fun x hx => List.all_eq_true.1 h.1 x hx, h.2.1, h.2.2⟩
theorem cutA_noDot : ∀ (x acc t : List UInt8), (∀ c ∈ x, c ≠ 46) → cutA acc (x ++ t) = cutA (acc ++ x) t
  | [], acc, t, _ => by simp
  | c :: x, acc, t, h => by
    have hc := h c List.mem_cons_self
    have e := cutA_noDot x (acc ++ [c]) t (fun z hz => h z (List.mem_cons_of_mem _ hz))
    rw [List.cons_append, cutA, if_neg hc, e, List.append_assoc]
    rfl
theorem cut_joinS : ∀ (l : List ByteArray) (x : ByteArray), (∀ y ∈ x :: l, ∀ c ∈ y.data.toList, c ≠ 46) → cutA [] (joinS (x :: l)).data.toList = (x :: l).map (·.data.toList)
  | [], x, h => by
    have e := cutA_noDot x.data.toList [] [] (h x List.mem_cons_self)
    rw [List.append_nil] at e
    show cutA [] x.data.toList = _
    rw [e]
    rfl
  | y :: l, x, h => by
    have ih := cut_joinS l y (fun z hz => h z (List.mem_cons_of_mem _ hz))
    have e := cutA_noDot x.data.toList [] (46 :: (joinS (y :: l)).data.toList) (h x List.mem_cons_self)
    have hd : (joinS (x :: y :: l)).data.toList = x.data.toList ++ 46 :: (joinS (y :: l)).data.toList := by
      rw [joinS, ByteArray.data_append, ByteArray.data_append, Array.toList_append, Array.toList_append]
      rfl
    rw [hd, e, List.nil_append, cutA, if_pos rfl, ih]
    rfl
theorem labelOk_noDot {x : ByteArray} (h : labelOk x = true) : ∀ c ∈ x.data.toList, c ≠ 46 := by
  intro c hc e
  subst e
  unfold labelOk at h
  simp only [Bool.and_eq_true] at h
  have hm : (46 : Int) ∈ bytesOf x := List.mem_map.2 ⟨46, hc, rfl⟩
  have := List.all_eq_true.1 h.1 46 hm
  revert this
  decide
theorem labelOk_ne {x : ByteArray} (h : labelOk x = true) : x.data.toList ≠ [] := by
  have := (labelOk_size h).1
  intro e
  rw [size_data, e] at this
  exact absurd this (by decide)
theorem joinS_ne {x : ByteArray} {l : List ByteArray} (h : x.data.toList ≠ []) : (joinS (x :: l)).data.toList ≠ [] := by
  cases l with
  | nil => exact h
  | cons y l =>
    rw [joinS, ByteArray.data_append, Array.toList_append]
    intro e
    exact h (List.append_eq_nil_iff.1 e).1
/-- The labels of joined labels are they. -/
theorem labels_join (l : List ByteArray) (h : ∀ x ∈ l, labelOk x = true) : labelsL (joinS l) = l := by
  cases l with
  | nil => rfl
  | cons x l =>
    unfold labelsL
    rw [if_neg (joinS_ne (labelOk_ne (h x List.mem_cons_self))), cut_joinS l x (fun y hy => labelOk_noDot (h y hy)), List.map_map]
    exact List.map_id'' (fun y => mkB_data y) _
theorem joinS_snoc : ∀ (l : List ByteArray) (x : ByteArray), l ≠ [] → joinS (l ++ [x]) = (joinS l ++ (⟨#[46]⟩ : ByteArray)) ++ x
  | [], _, h => absurd rfl h
  | [y], x, _ => by
    show y ++ ((⟨#[46]⟩ : ByteArray) ++ x) = _
    rw [ByteArray.append_assoc]
    rfl
  | y :: z :: l, x, _ => by
    have ih := joinS_snoc (z :: l) x (List.cons_ne_nil _ _)
    show y ++ ((⟨#[46]⟩ : ByteArray) ++ joinS ((z :: l) ++ [x])) = _
    rw [ih, joinS, @ByteArray.append_assoc y, @ByteArray.append_assoc y, @ByteArray.append_assoc (⟨#[46]⟩ : ByteArray), @ByteArray.append_assoc (⟨#[46]⟩ : ByteArray)]
theorem nameOk_join (l : List ByteArray) (h : ∀ x ∈ l, labelOk x = true) : nameOk (joinS l) = (decide ((joinS l).size ≤ 50) && decide (l.length ≤ 6)) := by
  unfold nameOk
  rw [labels_join l h, List.all_eq_true.2 h, Bool.true_and]
theorem szSs_ok : ∀ (l : List ByteArray), (∀ x ∈ l, labelOk x = true) → szSs l ≤ 12 * l.length
  | [], _ => Nat.zero_le _
  | x :: l, h => by
    have h1 := labelOk_size (h x List.mem_cons_self)
    have h2 := szSs_ok l (fun y hy => h y (List.mem_cons_of_mem _ hy))
    rw [szSs_cons, List.length_cons]
    omega
/-- Where a jump goes. -/
def toOf (b : List Int) (i : Nat) : Int := 256 * (rd b i - 192) + rd b ((i + 1 : Nat) : Int)
abbrev NameT := ByteArray × Int × Int × Int
def badName (c j : Int) : NameT := ((⟨#[]⟩ : ByteArray), 0, c, j)
theorem rd_rng {b : List Int} (hb : Bytes b) (i : Int) : wrap64 (rd b i) = rd b i := by
  have := rd_byte hb i
  exact wrap_id (by omega) (by omega)
theorem toOf_rng {b : List Int} (hb : Bytes b) (i : Nat) (h : 192 ≤ rd b i) : 0 ≤ toOf b i ∧ toOf b i ≤ 16383 := by
  have h1 := rd_byte hb (i : Int)
  have h2 := rd_byte hb ((i + 1 : Nat) : Int)
  unfold toOf
  omega
theorem toOf_wrap {b : List Int} (hb : Bytes b) (i : Nat) (h : 192 ≤ rd b i) : wrap64 ((wrap64 (256 * (wrap64 (rd b i - 192)))) + rd b ((i + 1 : Nat) : Int)) = toOf b i := by
  have h1 := rd_byte hb (i : Int)
  have h2 := rd_byte hb ((i + 1 : Nat) : Int)
  rw [wrap_id (x := rd b i - 192) (by omega) (by omega), wrap_id (x := 256 * (rd b i - 192)) (by omega) (by omega), wrap_id (x := 256 * (rd b i - 192) + rd b ((i + 1 : Nat) : Int)) (by omega) (by omega)]
  rfl
theorem spec_walk_out (b : List Int) (hn : b.length ≤ 140737488350000) (i : Nat) (s : ByteArray) (nx lim j : Int) (hi : b.length ≤ i) : Ev (fun k => spec_l4Walk.l0 k b (i : Int) s nx lim j) (badName 1 j) := by
  refine Ev.step (f := fun k => spec_l4Walk.j1 k b (i : Int) s nx lim j true) (fun k => ?_) (Ev.step (f := fun _ => some (badName 1 j)) (fun k => ?_) ⟨0, fun _ _ => rfl⟩)
  · simp only [spec_l4Walk.l0]
    rw [if_neg (by omega), decide_eq_true (by omega)]
  · simp only [spec_l4Walk.j1, if_true]
    rfl
theorem spec_walk_in (b : List Int) (hn : b.length ≤ 140737488350000) (i : Nat) (s : ByteArray) (nx lim j : Int) {r : NameT} (hi : i < b.length) (h : Ev (fun k => spec_l4Walk.j1 k b (i : Int) s nx lim j false) r) : Ev (fun k => spec_l4Walk.l0 k b (i : Int) s nx lim j) r := by
  refine Ev.step (fun k => ?_) h
  simp only [spec_l4Walk.l0]
  rw [if_neg (by omega), decide_eq_false (by omega)]
theorem spec_walk_end (b : List Int) (hn : b.length ≤ 140737488350000) (hb : Bytes b) (i : Nat) (s : ByteArray) (nx lim j : Int) (hi : i < b.length) (h : rd b i = 0) : Ev (fun k => spec_l4Walk.l0 k b (i : Int) s nx lim j) (s, (if nx < 0 then ((i + 1 : Nat) : Int) else nx), 0, j) := by
  have w := wrap_succ i b.length hi (by omega)
  refine spec_walk_in b hn i s nx lim j hi (Ev.step (f := fun _ => some (s, (if nx < 0 then ((i + 1 : Nat) : Int) else nx), 0, j)) (fun k => ?_) ⟨0, fun _ _ => rfl⟩)
  simp only [spec_l4Walk.j1]
  rw [if_neg (by decide), if_pos (by omega), if_pos (by omega), rd_rng hb, if_pos h, w]
  split <;> rfl
theorem spec_walk_cut (b : List Int) (hn : b.length ≤ 140737488350000) (hb : Bytes b) (i : Nat) (s : ByteArray) (nx lim j : Int) (hi : i < b.length) (h : 192 ≤ rd b i) (h2 : b.length ≤ i + 1) : Ev (fun k => spec_l4Walk.l0 k b (i : Int) s nx lim j) (badName 1 j) := by
  have w := wrap_succ i b.length hi (by omega)
  refine spec_walk_in b hn i s nx lim j hi (Ev.step (f := fun _ => some (badName 1 j)) (fun k => ?_) ⟨0, fun _ _ => rfl⟩)
  simp only [spec_l4Walk.j1]
  rw [if_neg (by decide), if_pos (by omega), if_pos (by omega), rd_rng hb, if_neg (by omega), if_pos (by omega), w, if_pos (by omega)]
  rfl
theorem spec_walk_high (b : List Int) (hn : b.length ≤ 140737488350000) (hb : Bytes b) (i : Nat) (s : ByteArray) (nx lim j : Int) (hi : i + 1 < b.length) (h : 192 ≤ rd b i) (h2 : lim ≤ toOf b i) : Ev (fun k => spec_l4Walk.l0 k b (i : Int) s nx lim j) (badName 3 j) := by
  have w := wrap_succ i b.length (by omega) (by omega)
  refine spec_walk_in b hn i s nx lim j (by omega) (Ev.step (f := fun _ => some (badName 3 j)) (fun k => ?_) ⟨0, fun _ _ => rfl⟩)
  simp only [spec_l4Walk.j1]
  rw [if_neg (by decide), if_pos (by omega), if_pos (by omega), rd_rng hb, if_neg (by omega), if_pos (by omega), w, if_neg (by omega), if_pos (by omega), if_pos (by omega), rd_rng hb, toOf_wrap hb i h, if_pos h2]
  rfl
theorem spec_walk_jump (b : List Int) (hn : b.length ≤ 140737488350000) (hb : Bytes b) (i : Nat) (s : ByteArray) (nx lim j : Int) {r : NameT} (hi : i + 1 < b.length) (h : 192 ≤ rd b i) (h2 : toOf b i < lim) (hj : 0 ≤ j ∧ j ≤ 1000000000000000000) (hr : Ev (fun k => spec_l4Walk.l0 k b (toOf b i) s (if nx < 0 then ((i + 2 : Nat) : Int) else nx) (toOf b i) (j + 1)) r) : Ev (fun k => spec_l4Walk.l0 k b (i : Int) s nx lim j) r := by
  have w := wrap_succ i b.length (by omega) (by omega)
  have w2 : wrap64 ((i : Int) + 2) = ((i + 2 : Nat) : Int) := by rw [wrap_id (by omega) (by omega)]; omega
  refine spec_walk_in b hn i s nx lim j (by omega) (Ev.step (fun k => ?_) hr)
  simp only [spec_l4Walk.j1]
  rw [if_neg (by decide), if_pos (by omega), if_pos (by omega), rd_rng hb, if_neg (by omega), if_pos (by omega), w, if_neg (by omega), if_pos (by omega), if_pos (by omega), rd_rng hb, toOf_wrap hb i h, if_neg (by omega), w2, wrap_id (x := j + 1) (by omega) (by omega)]
  split <;> rfl
theorem spec_walk_lab (b : List Int) (hn : b.length ≤ 140737488350000) (hb : Bytes b) (i : Nat) (s : ByteArray) (nx lim j : Int) {r : NameT} (hi : i < b.length) (h : 1 ≤ rd b i) (h1 : rd b i < 192) (d : Bool) (hd : d = (decide (rd b i ≤ 12) && decide ((b.length : Int) - i ≤ rd b i))) (hr : Ev (fun k => spec_l4Walk.j2 k b (i : Int) s nx lim j d) r) : Ev (fun k => spec_l4Walk.l0 k b (i : Int) s nx lim j) r := by
  refine spec_walk_in b hn i s nx lim j hi (Ev.step (fun k => ?_) hr)
  have e : wrap64 (wrap64 ((b.length : Int) - (i : Int)) - 1) = (b.length : Int) - (i : Int) - 1 := by rw [wrap_id (x := (b.length : Int) - (i : Int)) (by omega) (by omega), wrap_id (by omega) (by omega)]
  simp only [spec_l4Walk.j1]
  rw [if_neg (by decide), if_pos (by omega), if_pos (by omega), rd_rng hb, if_neg (by omega), if_neg (by omega), e]
  by_cases c : rd b i ≤ 12
  · rw [if_pos c, hd, decide_eq_true c, Bool.true_and]
    congr 1
    exact decide_eq_decide.2 (by omega)
  · rw [if_neg c, hd, decide_eq_false c, Bool.false_and]
theorem impl_walk_out (b : List Int) (hn : b.length ≤ 140737488350000) (i : Nat) (ls : List ByteArray) (nx lim j : Int) (hi : b.length ≤ i) : Ev (fun k => impl_read.l0 k b ls nx lim j (i : Int)) (badName 1 j) := by
  refine Ev.step (f := fun k => impl_read.j1 k b ls nx lim j (i : Int) true) (fun k => ?_) (Ev.step (f := fun _ => some (badName 1 j)) (fun k => ?_) ⟨0, fun _ _ => rfl⟩)
  · simp only [impl_read.l0]
    rw [if_neg (by omega), decide_eq_true (by omega)]
  · simp only [impl_read.j1, if_true]
    rfl
theorem impl_walk_in (b : List Int) (hn : b.length ≤ 140737488350000) (i : Nat) (ls : List ByteArray) (nx lim j : Int) {r : NameT} (hi : i < b.length) (h : Ev (fun k => impl_read.j1 k b ls nx lim j (i : Int) false) r) : Ev (fun k => impl_read.l0 k b ls nx lim j (i : Int)) r := by
  refine Ev.step (fun k => ?_) h
  simp only [impl_read.l0]
  rw [if_neg (by omega), decide_eq_false (by omega)]
theorem impl_walk_end (b : List Int) (hn : b.length ≤ 140737488350000) (hb : Bytes b) (i : Nat) (ls : List ByteArray) (nx lim j : Int) (hi : i < b.length) (h : rd b i = 0) (hz : szSs ls + ls.length ≤ 140737488355328) : Ev (fun k => impl_read.l0 k b ls nx lim j (i : Int)) (joinS ls, (if nx < 0 then ((i + 1 : Nat) : Int) else nx), 0, j) := by
  have w := wrap_succ i b.length hi (by omega)
  refine impl_walk_in b hn i ls nx lim j hi (Ev.step (f := fun _ => some (joinS ls, (if nx < 0 then ((i + 1 : Nat) : Int) else nx), 0, j)) (fun k => ?_) ⟨0, fun _ _ => rfl⟩)
  simp only [impl_read.j1]
  rw [if_neg (by decide), if_pos (by omega), if_pos (by omega), rd_rng hb, if_pos h, w, impl_JoinLabels_eq ls hz]
  simp only [Option.bind_some]
  split <;> rfl
theorem impl_walk_cut (b : List Int) (hn : b.length ≤ 140737488350000) (hb : Bytes b) (i : Nat) (ls : List ByteArray) (nx lim j : Int) (hi : i < b.length) (h : 192 ≤ rd b i) (h2 : b.length ≤ i + 1) : Ev (fun k => impl_read.l0 k b ls nx lim j (i : Int)) (badName 1 j) := by
  have w := wrap_succ i b.length hi (by omega)
  refine impl_walk_in b hn i ls nx lim j hi (Ev.step (f := fun _ => some (badName 1 j)) (fun k => ?_) ⟨0, fun _ _ => rfl⟩)
  simp only [impl_read.j1]
  rw [if_neg (by decide), if_pos (by omega), if_pos (by omega), rd_rng hb, if_neg (by omega), if_pos (by omega), w, if_pos (by omega)]
  rfl
theorem impl_walk_high (b : List Int) (hn : b.length ≤ 140737488350000) (hb : Bytes b) (i : Nat) (ls : List ByteArray) (nx lim j : Int) (hi : i + 1 < b.length) (h : 192 ≤ rd b i) (h2 : lim ≤ toOf b i) : Ev (fun k => impl_read.l0 k b ls nx lim j (i : Int)) (badName 3 j) := by
  have w := wrap_succ i b.length (by omega) (by omega)
  refine impl_walk_in b hn i ls nx lim j (by omega) (Ev.step (f := fun _ => some (badName 3 j)) (fun k => ?_) ⟨0, fun _ _ => rfl⟩)
  simp only [impl_read.j1]
  rw [if_neg (by decide), if_pos (by omega), if_pos (by omega), rd_rng hb, if_neg (by omega), if_pos (by omega), w, if_neg (by omega), if_pos (by omega), if_pos (by omega), rd_rng hb, toOf_wrap hb i h, if_pos h2]
  rfl
theorem impl_walk_jump (b : List Int) (hn : b.length ≤ 140737488350000) (hb : Bytes b) (i : Nat) (ls : List ByteArray) (nx lim j : Int) {r : NameT} (hi : i + 1 < b.length) (h : 192 ≤ rd b i) (h2 : toOf b i < lim) (hj : 0 ≤ j ∧ j ≤ 1000000000000000000) (hr : Ev (fun k => impl_read.l0 k b ls (if nx < 0 then ((i + 2 : Nat) : Int) else nx) (toOf b i) (j + 1) (toOf b i)) r) : Ev (fun k => impl_read.l0 k b ls nx lim j (i : Int)) r := by
  have w := wrap_succ i b.length (by omega) (by omega)
  have w2 : wrap64 ((i : Int) + 2) = ((i + 2 : Nat) : Int) := by rw [wrap_id (by omega) (by omega)]; omega
  refine impl_walk_in b hn i ls nx lim j (by omega) (Ev.step (fun k => ?_) hr)
  simp only [impl_read.j1]
  rw [if_neg (by decide), if_pos (by omega), if_pos (by omega), rd_rng hb, if_neg (by omega), if_pos (by omega), w, if_neg (by omega), if_pos (by omega), if_pos (by omega), rd_rng hb, toOf_wrap hb i h, if_neg (by omega), w2, wrap_id (x := j + 1) (by omega) (by omega)]
  split <;> rfl
theorem impl_walk_form (b : List Int) (hn : b.length ≤ 140737488350000) (hb : Bytes b) (i : Nat) (ls : List ByteArray) (nx lim j : Int) (hi : i < b.length) (h : 12 < rd b i) (h1 : rd b i < 192) : Ev (fun k => impl_read.l0 k b ls nx lim j (i : Int)) (badName 2 j) := by
  refine impl_walk_in b hn i ls nx lim j hi (Ev.step (f := fun _ => some (badName 2 j)) (fun k => ?_) ⟨0, fun _ _ => rfl⟩)
  simp only [impl_read.j1]
  rw [if_neg (by decide), if_pos (by omega), if_pos (by omega), rd_rng hb, if_neg (by omega), if_neg (by omega), if_pos (by omega)]
  rfl
theorem impl_walk_short (b : List Int) (hn : b.length ≤ 140737488350000) (hb : Bytes b) (i : Nat) (ls : List ByteArray) (nx lim j : Int) (hi : i < b.length) (h : 1 ≤ rd b i) (h1 : rd b i ≤ 12) (h2 : (b.length : Int) - i ≤ rd b i) : Ev (fun k => impl_read.l0 k b ls nx lim j (i : Int)) (badName 1 j) := by
  refine impl_walk_in b hn i ls nx lim j hi (Ev.step (f := fun _ => some (badName 1 j)) (fun k => ?_) ⟨0, fun _ _ => rfl⟩)
  simp only [impl_read.j1]
  rw [if_neg (by decide), if_pos (by omega), if_pos (by omega), rd_rng hb, if_neg (by omega), if_neg (by omega), if_neg (by omega), wrap_id (x := (b.length : Int) - (i : Int)) (by omega) (by omega), if_pos (by omega)]
  rfl
theorem impl_walk_lab (b : List Int) (hn : b.length ≤ 140737488350000) (hb : Bytes b) (i : Nat) (ls : List ByteArray) (nx lim j : Int) {r : NameT} (hi : i < b.length) (h : 1 ≤ rd b i) (h1 : rd b i ≤ 12) (h2 : rd b i < (b.length : Int) - i) (hl : ls.length < 8796093022208) (hz : ∀ p : ByteArray, p.size ≤ 12 → szSs (ls ++ [p]) + (ls ++ [p]).length ≤ 1048576)
    (hbad : (getLabel b i).2.2 = false → r = badName 2 j)
    (hgood : (getLabel b i).2.2 = true → (nameOk (joinS (ls ++ [(getLabel b i).1])) = false → r = badName 4 j) ∧ (nameOk (joinS (ls ++ [(getLabel b i).1])) = true → Ev (fun k => impl_read.l0 k b (ls ++ [(getLabel b i).1]) nx lim j (getLabel b i).2.1) r)) (hsz : (getLabel b i).2.2 = true → (getLabel b i).1.size ≤ 12) : Ev (fun k => impl_read.l0 k b ls nx lim j (i : Int)) r := by
  refine impl_walk_in b hn i ls nx lim j hi (Ev.step (f := fun k => (impl_GetLabel.f k b (i : Int)).bind fun t => if t.2.2 = true then ((impl_JoinLabels.f (ls ++ [t.1])).bind fun u => (impl_NameOk.f k u).bind fun v => if v = true then impl_read.l0 k b (ls ++ [t.1]) nx lim j t.2.1 else some (badName 4 j)) else some (badName 2 j)) (fun k => ?_) ?_)
  · simp only [impl_read.j1]
    rw [if_neg (by decide), if_pos (by omega), if_pos (by omega), rd_rng hb, if_neg (by omega), if_neg (by omega), if_neg (by omega), wrap_id (x := (b.length : Int) - (i : Int)) (by omega) (by omega), if_neg (by omega)]
    simp only [if_pos hl, Option.bind_some]
    rfl
  · refine Ev.bind (impl_GetLabel_eq b (by omega) hb i (by omega)) ?_
    cases hg : (getLabel b i).2.2 with
    | false =>
      rw [hbad hg]
      exact Ev_ifn (by decide) ⟨0, fun _ _ => rfl⟩
    | true =>
      obtain ⟨g1, g2⟩ := hgood hg
      have h3 := hz _ (hsz hg)
      have h4 := joinS_size (ls ++ [(getLabel b i).1])
      rw [impl_JoinLabels_eq _ (by omega)]
      simp only [Option.bind_some]
      refine Ev_if (by trivial) (Ev.bind (impl_NameOk_eq _ (by omega)) ?_)
      cases hk : nameOk (joinS (ls ++ [(getLabel b i).1])) with
      | false =>
        rw [g1 hk]
        exact Ev_ifn (by decide) ⟨0, fun _ _ => rfl⟩
      | true => exact Ev_if rfl (g2 hk)
theorem getLabel_good {b : List Int} (hb : Bytes b) {i : Int} (h : (getLabel b i).2.2 = true) :
    labelOk (getLabel b i).1 = true ∧ (getLabel b i).2.1 = i + 1 + rd b i ∧ 1 ≤ rd b i ∧ rd b i ≤ 12 ∧ rd b i < (b.length : Int) - i ∧ 1 ≤ (getLabel b i).1.size ∧ (getLabel b i).1.size ≤ 12 := by
  have hr := rd_byte hb i
  unfold getLabel at h ⊢
  split at h
  · rename_i c
    rw [if_pos c]
    obtain ⟨⟨c1, c2, c3, c4⟩, c5⟩ := c
    have hs := labelOk_size c5
    refine ⟨c5, rfl, ?_, c3, c4, hs⟩
    have e : (labAt b i).size = (rd b i).toNat := by
      unfold labAt
      rw [strOfNums_size, List.length_map, List.length_take, List.length_drop]
      omega
    omega
  · cases h
theorem empty_toList : (⟨#[]⟩ : ByteArray).toList = [] := by
  rw [ByteArray.toList_eq]
theorem join_toList_nil {ls : List ByteArray} (hall : ∀ x ∈ ls, labelOk x = true) : (joinS ls).toList = [] ↔ ls = [] := by
  constructor
  · intro h
    cases ls with
    | nil => rfl
    | cons x l =>
      rw [ByteArray.toList_eq] at h
      exact absurd h (joinS_ne (labelOk_ne (hall x List.mem_cons_self)))
  · rintro rfl
    exact empty_toList
theorem spec_walk_go (b : List Int) (hn : b.length ≤ 140737488350000) (hb : Bytes b) (i : Nat) (ls : List ByteArray) (nx lim j : Int) {r : NameT} (hi : i < b.length) (hl : ls.length ≤ 6) (hall : ∀ x ∈ ls, labelOk x = true)
    (hbad : (getLabel b i).2.2 = false → r = badName 2 j)
    (hgood : (getLabel b i).2.2 = true → (nameOk (joinS (ls ++ [(getLabel b i).1])) = false → r = badName 4 j) ∧ (nameOk (joinS (ls ++ [(getLabel b i).1])) = true → Ev (fun k => spec_l4Walk.l0 k b (getLabel b i).2.1 (joinS (ls ++ [(getLabel b i).1])) nx lim j) r)) : Ev (fun k => spec_l4Walk.j2 k b (i : Int) (joinS ls) nx lim j false) r := by
  have hzl := szSs_ok ls hall
  have hjl := joinS_size ls
  refine Ev.step (f := fun k => (spec_GetLabel.f k b (i : Int)).bind fun t => if t.2.2 = true then (if (joinS ls).toList = ([] : List UInt8) then (if (joinS ls).size + t.1.size ≤ 9223372036854775807 then ((spec_NameOk.f k (joinS ls ++ t.1)).bind fun u => (if u = true then (spec_l4Walk.l0 k b t.2.1 (joinS ls ++ t.1) nx lim j) else (some (badName 4 j)))) else (none)) else (if (joinS ls).size + 1 ≤ 9223372036854775807 then (if (joinS ls ++ (⟨#[46]⟩ : ByteArray)).size + t.1.size ≤ 9223372036854775807 then ((spec_NameOk.f k ((joinS ls ++ (⟨#[46]⟩ : ByteArray)) ++ t.1)).bind fun u => (if u = true then (spec_l4Walk.l0 k b t.2.1 ((joinS ls ++ (⟨#[46]⟩ : ByteArray)) ++ t.1) nx lim j) else (some (badName 4 j)))) else (none)) else (none))) else some (badName 2 j)) (fun k => ?_) ?_
  · simp only [spec_l4Walk.j2]
    rw [if_neg (by decide)]
    rfl
  · refine Ev.bind (spec_GetLabel_eq b (by omega) hb i (by omega)) ?_
    cases hg : (getLabel b i).2.2 with
    | false =>
      rw [hbad hg]
      exact Ev_ifn (by decide) ⟨0, fun _ _ => rfl⟩
    | true =>
      obtain ⟨g1, g2⟩ := hgood hg
      obtain ⟨h1, _, _, _, _, h5, h6⟩ := getLabel_good hb hg
      have hsz : (joinS (ls ++ [(getLabel b i).1])).size ≤ 1048576 := by
        have := joinS_size (ls ++ [(getLabel b i).1])
        have hall2 : ∀ x ∈ ls ++ [(getLabel b i).1], labelOk x = true := by
          intro x hx
          rcases List.mem_append.1 hx with h | h
          · exact hall x h
          · rw [List.mem_singleton.1 h]
            exact h1
        have := szSs_ok _ hall2
        rw [List.length_append, List.length_singleton] at *
        omega
      refine Ev_if rfl ?_
      generalize (getLabel b i).1 = p at *
      by_cases c : ls = []
      · subst c
        refine Ev_if empty_toList (Ev_if (by rw [show (joinS []).size = 0 from rfl]; omega) ?_)
        have e : joinS [] ++ p = joinS ([] ++ [p]) := empty_append p
        rw [e]
        refine Ev.bind (spec_NameOk_eq _ hsz) ?_
        cases hk : nameOk (joinS ([] ++ [p])) with
        | false =>
          rw [g1 hk]
          exact Ev_ifn (by decide) ⟨0, fun _ _ => rfl⟩
        | true => exact Ev_if rfl (g2 hk)
      · refine Ev_ifn (fun h => c ((join_toList_nil hall).1 h)) (Ev_if (by omega) (Ev_if (by rw [ByteArray.size_append]; have : (⟨#[46]⟩ : ByteArray).size = 1 := rfl; omega) ?_))
        rw [← joinS_snoc ls p c]
        refine Ev.bind (spec_NameOk_eq _ hsz) ?_
        cases hk : nameOk (joinS (ls ++ [p])) with
        | false =>
          rw [g1 hk]
          exact Ev_ifn (by decide) ⟨0, fun _ _ => rfl⟩
        | true => exact Ev_if rfl (g2 hk)
/-- What is known of what a walk over a name hands back. -/
def WalkPost (b : List Int) (i nx : Int) (r : NameT) : Prop :=
  (0 ≤ r.2.2.2 ∧ r.2.2.2 ≤ (b.length : Int)) ∧ ((r.2.2.1 = 0 ∧ nameOk r.1 = true ∧ (nx < 0 → i < r.2.1) ∧ (0 ≤ nx → r.2.1 = nx) ∧ (0 ≤ r.2.1 ∧ r.2.1 ≤ (b.length : Int))) ∨ (r.2.2.1 ≠ 0 ∧ 0 ≤ r.2.2.1 ∧ r.2.2.1 ≤ 4 ∧ r.1 = (⟨#[]⟩ : ByteArray) ∧ r.2.1 = 0))
theorem post_bad {b : List Int} {i nx c j : Int} (hc : 1 ≤ c ∧ c ≤ 4) (hj : 0 ≤ j ∧ j ≤ (b.length : Int)) : WalkPost b i nx (badName c j) := by
  refine ⟨hj, .inr ⟨?_, ?_, hc.2, rfl, rfl⟩⟩
  · show c ≠ 0
    omega
  · show 0 ≤ c
    omega
theorem walk_total (b : List Int) (hn : b.length ≤ 140737488350000) (hb : Bytes b) : ∀ (L D i : Nat) (ls : List ByteArray) (nx j : Int), i + D = b.length → L ≤ b.length → 0 ≤ j → j + L ≤ b.length → nx ≤ b.length → (∀ x ∈ ls, labelOk x = true) → nameOk (joinS ls) = true →
    ∃ r, Ev (fun k => spec_l4Walk.l0 k b (i : Int) (joinS ls) nx (L : Int) j) r ∧ Ev (fun k => impl_read.l0 k b ls nx (L : Int) j (i : Int)) r ∧ WalkPost b i nx r := by
  intro L
  induction L using Nat.strongRecOn with
  | _ L ihL =>
  intro D
  induction D using Nat.strongRecOn with
  | _ D ihD =>
  intro i ls nx j hD hL hj hjL hnx hall hok
  have hr := rd_byte hb (i : Int)
  have hall_ := hall
  have hok_ := hok
  rw [nameOk_join ls hall, Bool.and_eq_true, decide_eq_true_eq, decide_eq_true_eq] at hok_
  obtain ⟨hok1, hok2⟩ := hok_
  have hzl := szSs_ok ls hall
  by_cases hi : i < b.length
  · by_cases h0 : rd b i = 0
    · refine ⟨_, spec_walk_end b hn hb i (joinS ls) nx L j hi h0, impl_walk_end b hn hb i ls nx L j hi h0 (by omega), ⟨hj, by show j ≤ (b.length : Int); omega⟩, .inl ⟨rfl, hok, ?_, ?_, ?_⟩⟩
      · intro c
        show (i : Int) < if nx < 0 then ((i + 1 : Nat) : Int) else nx
        rw [if_pos c]
        omega
      · intro c
        show (if nx < 0 then ((i + 1 : Nat) : Int) else nx) = nx
        rw [if_neg (by omega)]
      · show 0 ≤ (if nx < 0 then ((i + 1 : Nat) : Int) else nx) ∧ (if nx < 0 then ((i + 1 : Nat) : Int) else nx) ≤ (b.length : Int)
        split <;> omega
    · by_cases h192 : 192 ≤ rd b i
      · by_cases hcut : b.length ≤ i + 1
        · exact ⟨_, spec_walk_cut b hn hb i (joinS ls) nx L j hi h192 hcut, impl_walk_cut b hn hb i ls nx L j hi h192 hcut, post_bad (by omega) (by omega)⟩
        · have ht := toOf_rng hb i h192
          by_cases hh : (L : Int) ≤ toOf b i
          · exact ⟨_, spec_walk_high b hn hb i (joinS ls) nx L j (by omega) h192 hh, impl_walk_high b hn hb i ls nx L j (by omega) h192 hh, post_bad (by omega) (by omega)⟩
          · obtain ⟨t, ht'⟩ : ∃ t : Nat, toOf b i = (t : Int) := ⟨(toOf b i).toNat, by omega⟩
            have hnx' : (if nx < 0 then ((i + 2 : Nat) : Int) else nx) ≤ (b.length : Int) ∧ 0 ≤ (if nx < 0 then ((i + 2 : Nat) : Int) else nx) := by split <;> omega
            obtain ⟨r, r1, r2, r3, r4⟩ := ihL t (by omega) (b.length - t) t ls (if nx < 0 then ((i + 2 : Nat) : Int) else nx) (j + 1) (by omega) (by omega) (by omega) (by omega) hnx'.1 hall hok
            refine ⟨r, spec_walk_jump b hn hb i (joinS ls) nx L j (by omega) h192 (by omega) (by omega) (by rw [ht']; exact r1), impl_walk_jump b hn hb i ls nx L j (by omega) h192 (by omega) (by omega) (by rw [ht']; exact r2), r3, ?_⟩
            rcases r4 with ⟨a1, a2, a3, a4, a5⟩ | a
            · have e := a4 hnx'.2
              refine .inl ⟨a1, a2, fun c => ?_, fun c => ?_, a5⟩
              · rw [e, if_pos c]
                omega
              · rw [e, if_neg (by omega)]
            · exact .inr a
      · by_cases h12 : rd b i ≤ 12
        · by_cases hs : (b.length : Int) - i ≤ rd b i
          · refine ⟨badName 1 j, spec_walk_lab b hn hb i (joinS ls) nx L j hi (by omega) (by omega) true (by rw [decide_eq_true h12, decide_eq_true hs]; rfl) (Ev.step (f := fun _ => some (badName 1 j)) (fun k => ?_) ⟨0, fun _ _ => rfl⟩), impl_walk_short b hn hb i ls nx L j hi (by omega) h12 hs, post_bad (by omega) (by omega)⟩
            simp only [spec_l4Walk.j2, if_true]
            rfl
          · have hgs : (getLabel b i).2.2 = true → (getLabel b i).1.size ≤ 12 := fun h => (getLabel_good hb h).2.2.2.2.2.2
            have hzp : ∀ p : ByteArray, p.size ≤ 12 → szSs (ls ++ [p]) + (ls ++ [p]).length ≤ 1048576 := by
              intro p hp
              have e : szSs (ls ++ [p]) = szSs ls + p.size := by simp [szSs]
              rw [e, List.length_append, List.length_singleton]
              omega
            have hd : false = (decide (rd b i ≤ 12) && decide ((b.length : Int) - i ≤ rd b i)) := by rw [decide_eq_false hs, Bool.and_false]
            cases hg : (getLabel b i).2.2 with
            | false =>
              exact ⟨badName 2 j, spec_walk_lab b hn hb i (joinS ls) nx L j hi (by omega) (by omega) false hd (spec_walk_go b hn hb i ls nx L j hi (by omega) hall (fun _ => rfl) (fun h => by rw [hg] at h; cases h)), impl_walk_lab b hn hb i ls nx L j hi (by omega) h12 (by omega) (by omega) hzp (fun _ => rfl) (fun h => by rw [hg] at h; cases h) hgs, post_bad (by omega) (by omega)⟩
            | true =>
              obtain ⟨g1, g2, g3, g4, g5, g6, g7⟩ := getLabel_good hb hg
              cases hk : nameOk (joinS (ls ++ [(getLabel b i).1])) with
              | false =>
                exact ⟨badName 4 j, spec_walk_lab b hn hb i (joinS ls) nx L j hi (by omega) (by omega) false hd (spec_walk_go b hn hb i ls nx L j hi (by omega) hall (fun h => by rw [hg] at h; cases h) (fun _ => ⟨fun _ => rfl, fun h => by rw [hk] at h; cases h⟩)), impl_walk_lab b hn hb i ls nx L j hi (by omega) h12 (by omega) (by omega) hzp (fun h => by rw [hg] at h; cases h) (fun _ => ⟨fun _ => rfl, fun h => by rw [hk] at h; cases h⟩) hgs, post_bad (by omega) (by omega)⟩
              | true =>
                have hall2 : ∀ x ∈ ls ++ [(getLabel b i).1], labelOk x = true := by
                  intro x hx
                  rcases List.mem_append.1 hx with h | h
                  · exact hall x h
                  · rw [List.mem_singleton.1 h]
                    exact g1
                obtain ⟨i', hi'⟩ : ∃ i' : Nat, (getLabel b i).2.1 = (i' : Int) := ⟨(getLabel b i).2.1.toNat, by omega⟩
                obtain ⟨r, r1, r2, r3, r4⟩ := ihD (b.length - i') (by omega) i' (ls ++ [(getLabel b i).1]) nx j (by omega) hL hj hjL hnx hall2 hk
                refine ⟨r, spec_walk_lab b hn hb i (joinS ls) nx L j hi (by omega) (by omega) false hd (spec_walk_go b hn hb i ls nx L j hi (by omega) hall (fun h => by rw [hg] at h; cases h) (fun _ => ⟨(fun h => by rw [hk] at h; cases h), fun _ => by rw [hi']; exact r1⟩)), impl_walk_lab b hn hb i ls nx L j hi (by omega) h12 (by omega) (by omega) hzp (fun h => by rw [hg] at h; cases h) (fun _ => ⟨(fun h => by rw [hk] at h; cases h), fun _ => by rw [hi']; exact r2⟩) hgs, r3, ?_⟩
                rcases r4 with ⟨a1, a2, a3, a4, a5⟩ | a
                · exact .inl ⟨a1, a2, fun c => by have := a3 c; omega, a4, a5⟩
                · exact .inr a
        · have hg : (getLabel b i).2.2 = false := by
            cases hg : (getLabel b i).2.2 with
            | false => rfl
            | true =>
              have := getLabel_good hb hg
              omega
          exact ⟨badName 2 j, spec_walk_lab b hn hb i (joinS ls) nx L j hi (by omega) (by omega) false (by rw [decide_eq_false h12, Bool.false_and]) (spec_walk_go b hn hb i ls nx L j hi (by omega) hall (fun _ => rfl) (fun h => by rw [hg] at h; cases h)), impl_walk_form b hn hb i ls nx L j hi (by omega) (by omega), post_bad (by omega) (by omega)⟩
  · exact ⟨_, spec_walk_out b hn i (joinS ls) nx L j (by omega), impl_walk_out b hn i ls nx L j (by omega), post_bad (by omega) (by omega)⟩
theorem nameOk_empty : nameOk (⟨#[]⟩ : ByteArray) = true := by
  rw [show (⟨#[]⟩ : ByteArray) = joinS [] from rfl, nameOk_join [] (fun x h => by cases h)]
  rfl
/-- Reading a name at any place, by the reference and by the program: one answer. -/
theorem read_total (b : List Int) (hn : b.length ≤ 140737488350000) (hb : Bytes b) (i : Int) (hi : -9223372036854775808 ≤ i ∧ i ≤ 9223372036854775807) :
    ∃ r, Ev (fun k => spec_l4Walk.f k b i) r ∧ Ev (fun k => impl_read.f k b i) r ∧ WalkPost b i (-1) r := by
  unfold spec_l4Walk.f impl_read.f
  by_cases h0 : i < 0
  · refine ⟨badName 1 0, ?_, ?_, post_bad (by omega) (by omega)⟩
    · refine Ev.step (f := fun k => spec_l4Walk.j1 k b i (⟨#[]⟩ : ByteArray) (-1) i 0 true) (fun k => ?_) (Ev.step (f := fun _ => some (badName 1 0)) (fun k => ?_) ⟨0, fun _ _ => rfl⟩)
      · simp only [spec_l4Walk.l0]
        rw [if_pos h0]
      · simp only [spec_l4Walk.j1, if_true]
        rfl
    · refine Ev.step (f := fun k => impl_read.j1 k b [] (-1) i 0 i true) (fun k => ?_) (Ev.step (f := fun _ => some (badName 1 0)) (fun k => ?_) ⟨0, fun _ _ => rfl⟩)
      · simp only [impl_read.l0]
        rw [if_pos h0]
      · simp only [impl_read.j1, if_true]
        rfl
  · obtain ⟨n, rfl⟩ := Int.eq_ofNat_of_zero_le (Int.not_lt.1 h0)
    by_cases h1 : b.length ≤ n
    · exact ⟨badName 1 0, spec_walk_out b hn n _ _ _ _ h1, impl_walk_out b hn n _ _ _ _ h1, post_bad (by omega) (by omega)⟩
    · have := walk_total b hn hb n (b.length - n) n [] (-1) 0 (by omega) (by omega) (by omega) (by omega) (by omega) (fun x h => by cases h) nameOk_empty
      exact this
theorem name_get (b : List Int) (hn : b.length ≤ 140737488350000) (hb : Bytes b) (i : Int) (hi : -9223372036854775808 ≤ i ∧ i ≤ 9223372036854775807) :
    ∃ r : NameT, Ev (fun k => spec_GetName.f k b i) (r.1, r.2.1, r.2.2.1) ∧ Ev (fun k => impl_GetName.f k b i) (r.1, r.2.1, r.2.2.1) ∧ WalkPost b i (-1) r := by
  obtain ⟨r, h1, h2, h3⟩ := read_total b hn hb i hi
  unfold spec_GetName.f impl_GetName.f
  exact ⟨r, Ev.bind h1 (Ev_some _), Ev.bind h2 (Ev_some _), h3⟩
theorem name_total (b : List Int) (hn : b.length ≤ 140737488350000) (hb : Bytes b) (i : Int) (hi : -9223372036854775808 ≤ i ∧ i ≤ 9223372036854775807) :
    ∃ r, Ev (fun k => spec_GetName.f k b i) (r.1, r.2.1, r.2.2.1) ∧ Ev (fun k => impl_GetName.f k b i) (r.1, r.2.1, r.2.2.1) ∧ Ev (fun k => spec_JumpsIn.f k b i) r.2.2.2 ∧ Ev (fun k => impl_JumpsIn.f k b i) r.2.2.2 ∧ WalkPost b i (-1) r := by
  obtain ⟨r, h1, h2, h3⟩ := read_total b hn hb i hi
  unfold spec_GetName.f impl_GetName.f spec_JumpsIn.f impl_JumpsIn.f
  exact ⟨r, Ev.bind h1 (Ev_some _), Ev.bind h2 (Ev_some _), Ev.bind h1 (Ev_some _), Ev.bind h2 (Ev_some _), h3⟩
/-- Where a name stands: what is known of the answer. -/
def PlacePost (b : List Int) (s : ByteArray) (p : Int) : Prop := p = -1 ∨ (0 ≤ p ∧ p < (b.length : Int) ∧ p ≤ 16383 ∧ ∃ nx j, Ev (fun k => impl_GetName.f k b p) (s, nx, 0) ∧ WalkPost b p (-1) (s, nx, 0, j))
theorem place_loop (b : List Int) (hn : b.length ≤ 140737488350000) (hb : Bytes b) (s : ByteArray) : ∀ (d i : Nat), i + d = b.length →
    ∃ p, Ev (fun k => spec_PlaceOf.l0 k b s (i : Int)) p ∧ Ev (fun k => impl_PlaceOf.l0 k b s (i : Int)) p ∧ PlacePost b s p := by
  intro d
  have out : ∀ i : Nat, Ev (fun k => spec_PlaceOf.j1 k b s (i : Int) false) (-1) ∧ Ev (fun k => impl_PlaceOf.j1 k b s (i : Int) false) (-1) := by
    intro i
    refine ⟨Ev.step (f := fun _ => some (-1)) (fun k => ?_) (Ev_some _), Ev.step (f := fun _ => some (-1)) (fun k => ?_) (Ev_some _)⟩
    · simp only [spec_PlaceOf.j1]
      rw [if_neg (by decide)]
    · simp only [impl_PlaceOf.j1]
      rw [if_neg (by decide)]
  induction d with
  | zero =>
    intro i hi
    refine ⟨-1, Ev.step (fun k => ?_) (out i).1, Ev.step (fun k => ?_) (out i).2, .inl rfl⟩
    · simp only [spec_PlaceOf.l0]
      rw [if_neg (by omega)]
    · simp only [impl_PlaceOf.l0]
      rw [if_neg (by omega)]
  | succ d ih =>
    intro i hi
    have w := wrap_succ i b.length (by omega) (by omega)
    by_cases c : i ≤ 16383
    · obtain ⟨r, hs, hi', hp⟩ := name_get b hn hb (i : Int) (by omega)
      obtain ⟨p, p1, p2, p3⟩ := ih (i + 1) (by omega)
      have key : ∃ p, Ev (fun k => if r.2.2.1 = 0 then (if r.1.toList = s.toList then some (i : Int) else spec_PlaceOf.l0 k b s ((i + 1 : Nat) : Int)) else spec_PlaceOf.l0 k b s ((i + 1 : Nat) : Int)) p ∧ Ev (fun k => if r.2.2.1 = 0 then (if r.1.toList = s.toList then some (i : Int) else impl_PlaceOf.l0 k b s ((i + 1 : Nat) : Int)) else impl_PlaceOf.l0 k b s ((i + 1 : Nat) : Int)) p ∧ PlacePost b s p := by
        by_cases c0 : r.2.2.1 = 0
        · by_cases c1 : r.1.toList = s.toList
          · refine ⟨(i : Int), Ev_if c0 (Ev_if c1 (Ev_some _)), Ev_if c0 (Ev_if c1 (Ev_some _)), .inr ⟨by omega, by omega, by omega, r.2.1, r.2.2.2, ?_, ?_⟩⟩
            · rw [← toList_inj.1 c1, ← c0]
              exact hi'
            · rw [← toList_inj.1 c1, ← c0]
              exact hp
          · exact ⟨p, Ev_if c0 (Ev_ifn c1 p1), Ev_if c0 (Ev_ifn c1 p2), p3⟩
        · exact ⟨p, Ev_ifn c0 p1, Ev_ifn c0 p2, p3⟩
      obtain ⟨q, q1, q2, q3⟩ := key
      refine ⟨q, Ev.step (f := fun k => spec_PlaceOf.j1 k b s (i : Int) true) (fun k => ?_) (Ev.step (fun k => ?_) (Ev.bind (f := fun k bt => if bt.2.2 = 0 then (if bt.1.toList = s.toList then some (i : Int) else spec_PlaceOf.l0 k b s ((i + 1 : Nat) : Int)) else spec_PlaceOf.l0 k b s ((i + 1 : Nat) : Int)) hs q1)), Ev.step (f := fun k => impl_PlaceOf.j1 k b s (i : Int) true) (fun k => ?_) (Ev.step (fun k => ?_) (Ev.bind (f := fun k bt => if bt.2.2 = 0 then (if bt.1.toList = s.toList then some (i : Int) else impl_PlaceOf.l0 k b s ((i + 1 : Nat) : Int)) else impl_PlaceOf.l0 k b s ((i + 1 : Nat) : Int)) hi' q2)), q3⟩
      · simp only [spec_PlaceOf.l0]
        rw [if_pos (by omega), decide_eq_true (by omega)]
      · simp only [spec_PlaceOf.j1, if_true]
        rw [w]
      · simp only [impl_PlaceOf.l0]
        rw [if_pos (by omega), decide_eq_true (by omega)]
      · simp only [impl_PlaceOf.j1, if_true]
        rw [w]
    · refine ⟨-1, Ev.step (fun k => ?_) (out i).1, Ev.step (fun k => ?_) (out i).2, .inl rfl⟩
      · simp only [spec_PlaceOf.l0]
        rw [if_pos (by omega), decide_eq_false (by omega)]
      · simp only [impl_PlaceOf.l0]
        rw [if_pos (by omega), decide_eq_false (by omega)]
theorem place_total (b : List Int) (hn : b.length ≤ 140737488350000) (hb : Bytes b) (s : ByteArray) :
    ∃ p, Ev (fun k => spec_PlaceOf.f k b s) p ∧ Ev (fun k => impl_PlaceOf.f k b s) p ∧ PlacePost b s p := by
  unfold spec_PlaceOf.f impl_PlaceOf.f
  exact place_loop b hn hb s b.length 0 (by omega)
/-- A jump to p, as bytes. -/
def jumpW (p : Int) : List Int := [(192 + p / 256) % 256, p % 256]
/-- What PutName appends for labels: each in full, up to the first end that stands at a place already. -/
def nameW (pl : ByteArray → Int) : List ByteArray → List Int
  | [] => [0]
  | x :: l => if 0 ≤ pl (joinS (x :: l)) then jumpW (pl (joinS (x :: l))) else labW x ++ nameW pl l
theorem nameW_le (pl : ByteArray → Int) : ∀ (l : List ByteArray), (∀ x ∈ l, labelOk x = true) → (nameW pl l).length ≤ 13 * l.length + 2
  | [], _ => by simp [nameW]
  | x :: l, h => by
    have h1 := labelOk_size (h x List.mem_cons_self)
    have h2 := nameW_le pl l (fun y hy => h y (List.mem_cons_of_mem _ hy))
    have h3 := bytesOf_length x
    unfold nameW
    split
    · simp [jumpW]
    · unfold labW
      simp only [List.length_append, List.length_cons]
      omega
/-- What is known of a table of places. -/
def Places (b : List Int) (pl : ByteArray → Int) : Prop := ∀ s, Ev (fun k => spec_PlaceOf.f k b s) (pl s) ∧ Ev (fun k => impl_PlaceOf.f k b s) (pl s) ∧ PlacePost b s (pl s)
theorem places_exist (b : List Int) (hn : b.length ≤ 140737488350000) (hb : Bytes b) : ∃ pl, Places b pl := by
  refine ⟨fun s => Classical.choose (place_total b hn hb s), fun s => Classical.choose_spec (place_total b hn hb s)⟩
theorem jump_eq {p : Int} (h : 0 ≤ p ∧ p ≤ 16383) : [(wrap64 (192 + (wrap64 (Int.tdiv p 256)))) % 256, (Int.tmod p 256) % 256] = jumpW p := by
  obtain ⟨n, rfl⟩ := Int.eq_ofNat_of_zero_le h.1
  have e1 : Int.tdiv (n : Int) 256 = (n : Int) / 256 := Int.tdiv_eq_ediv_of_nonneg h.1
  have e2 : Int.tmod (n : Int) 256 = (n : Int) % 256 := Int.tmod_eq_emod_of_nonneg h.1
  rw [e1, e2, wrap_id (x := (n : Int) / 256) (by omega) (by omega), wrap_id (x := 192 + (n : Int) / 256) (by omega) (by omega)]
  unfold jumpW
  congr 2
  omega
theorem place_rng {b : List Int} {s : ByteArray} {p : Int} (h : PlacePost b s p) : -1 ≤ p ∧ p ≤ 16383 := by
  rcases h with h | h
  · omega
  · omega
theorem above_get : ∀ (ls : List ByteArray) (i : Nat) (h : i < (aboveL ls).length), (aboveL ls)[i] = joinS (ls.drop i)
  | [], i, h => by
    have : i = 0 := by rw [aboveL_length] at h; simp at h; exact h
    subst this
    rfl
  | x :: l, 0, h => rfl
  | x :: l, i + 1, h => by
    have := above_get l i (by rw [aboveL_length] at h ⊢; simp at h; omega)
    simpa [aboveL] using this
theorem spec_PutName_loop (b : List Int) (pl : ByteArray → Int) (hpl : Places b pl) (ls : List ByteArray) (hn : ls.length ≤ 6) (hall : ∀ x ∈ ls, labelOk x = true) : ∀ (d i : Nat) (out : List Int), i + d = ls.length → out.length + 13 * d ≤ 140737488351000 →
    Ev (fun k => spec_PutName.l0 k b out (aboveL ls) ls (i : Int)) (out ++ nameW pl (ls.drop i)) := by
  intro d
  induction d with
  | zero =>
    intro i out hi ho
    rw [show ls.drop i = [] from List.drop_of_length_le (by omega)]
    refine Ev.step (f := fun _ => some (out ++ [0])) (fun k => ?_) ⟨0, fun _ _ => rfl⟩
    simp only [spec_PutName.l0]
    rw [if_neg (by omega), if_pos (by omega)]
  | succ d ih =>
    intro i out hi ho
    have hil : i < ls.length := by omega
    have hia : i < (aboveL ls).length := by rw [aboveL_length]; omega
    have w := wrap_succ i ls.length hil (by omega)
    have hx := hall _ (List.getElem_mem hil)
    have hs := labelOk_size hx
    have hp := putLabel_le out ls[i]
    have hal := aboveL_length ls
    obtain ⟨q1, q2, q3⟩ := hpl (joinS (ls.drop i))
    have hr := place_rng q3
    have e := ih (i + 1) (putLabel out ls[i]) (by omega) (by omega)
    rw [putLabel_ok out _ hx] at e hp
    have hd : ls.drop i = ls[i] :: ls.drop (i + 1) := List.drop_eq_getElem_cons hil
    refine Ev.step (f := fun k => (spec_PlaceOf.f k b (joinS (ls.drop i))).bind fun p => if p ≥ 0 then (some ([(wrap64 (192 + (wrap64 (Int.tdiv p 256)))) % 256, (Int.tmod p 256) % 256] : List Int)).bind fun y => (if out.length + y.length < 140737488355328 then some (out ++ y) else none) else (spec_PutLabel.f k out ls[i]).bind fun t => spec_PutName.l0 k b t (aboveL ls) ls ((i + 1 : Nat) : Int)) (fun k => ?_) (Ev.bind q1 ?_)
    · simp only [spec_PutName.l0]
      rw [if_pos (by omega), if_pos (by omega), if_pos (by omega), rdS_getElem (aboveL ls) i hia, above_get ls i hia, rdS_getElem ls i hil, w]
    · rw [hd, nameW]
      rw [← hd]
      by_cases c : 0 ≤ pl (joinS (ls.drop i))
      · rw [if_pos c]
        refine Ev_if c ⟨0, fun _ _ => ?_⟩
        rw [jump_eq ⟨c, hr.2⟩, Option.bind_some, if_pos (by simp [jumpW]; omega)]
      · rw [if_neg c]
        refine Ev_ifn c (Ev.bind (spec_PutLabel_eq out (by omega) ls[i] (by omega)) ?_)
        rw [putLabel_ok out _ hx]
        simpa using e
/-- What PutName returns, given where names stand. -/
def putName (pl : ByteArray → Int) (b : List Int) (s : ByteArray) : List Int := if nameOk s = true then b ++ nameW pl (labelsL s) else b
theorem putName_le (pl : ByteArray → Int) (b : List Int) (s : ByteArray) : (putName pl b s).length ≤ b.length + 80 := by
  unfold putName
  split
  · rename_i h
    obtain ⟨hall, _, hn⟩ := nameOk_all h
    have := nameW_le pl _ hall
    rw [List.length_append]
    omega
  · omega
theorem spec_PutName_eq (b : List Int) (hn : b.length ≤ 140737488350000) (pl : ByteArray → Int) (hpl : Places b pl) (s : ByteArray) (hs : s.size ≤ 1048576) : Ev (fun k => spec_PutName.f k b s) (putName pl b s) := by
  unfold spec_PutName.f putName
  simp only [Option.bind_some, List.length_nil, List.nil_append, Nat.zero_add]
  refine Ev_if (show b.length < 140737488355328 by omega) (Ev.bind (spec_NameOk_eq s hs) ?_)
  cases h : nameOk s with
  | false => exact Ev_ifn (by decide) (Ev_some _)
  | true =>
    obtain ⟨hall, _, hl⟩ := nameOk_all h
    refine Ev_if rfl (Ev.bind (spec_Above_eq s hs) (Ev.bind (spec_Labels_eq s hs) ?_))
    rw [if_pos rfl]
    have := spec_PutName_loop b pl hpl (labelsL s) hl hall (labelsL s).length 0 b (by omega) (by omega)
    unfold above
    simpa using this
theorem bytes_labW {x : ByteArray} (h : labelOk x = true) : Bytes (labW x) := by
  intro y hy
  have hs := labelOk_size h
  unfold labW at hy
  rcases List.mem_cons.1 hy with e | e
  · omega
  · exact bytes_bytesOf x y e
theorem bytes_zero : Bytes [0] := fun x hx => by
  rw [List.mem_singleton.1 hx]
  omega
theorem bytes_jumpW (p : Int) : Bytes (jumpW p) := by
  intro x hx
  unfold jumpW at hx
  simp only [List.mem_cons, List.not_mem_nil, or_false] at hx
  omega
theorem bytes_nameW (pl : ByteArray → Int) : ∀ {ls : List ByteArray}, (∀ x ∈ ls, labelOk x = true) → Bytes (nameW pl ls)
  | [], _ => bytes_zero
  | x :: ls, h => by
    unfold nameW
    split
    · exact bytes_jumpW _
    · exact (bytes_labW (h x List.mem_cons_self)).append (bytes_nameW pl (fun y hy => h y (List.mem_cons_of_mem _ hy)))
theorem bytes_putName (pl : ByteArray → Int) {b : List Int} (hb : Bytes b) (s : ByteArray) : Bytes (putName pl b s) := by
  unfold putName
  split
  · rename_i h
    exact hb.append (bytes_nameW pl (nameOk_all h).1)
  · exact hb
theorem small_all (l : List ByteArray) (n : Nat) (h : l.all (fun x => decide (x.size ≤ n)) = true) : ∀ x ∈ l, x.size ≤ n := by
  intro x hx
  have := List.all_eq_true.1 h x hx
  rwa [decide_eq_true_eq] at this
theorem bytes_set {l : List Int} (h : Bytes l) (i : Nat) (v : Int) (hv : 0 ≤ v ∧ v ≤ 255) : Bytes (l.set i v) := by
  intro x hx
  rcases List.mem_or_eq_of_mem_set hx with q | q
  · exact h x q
  · rw [q]
    exact hv
theorem xor8_rng (x y : Int) : 0 ≤ Go.bits .xor .u8 x y ∧ Go.bits .xor .u8 x y ≤ 255 := by
  have h := (BitVec.ofInt 8 x ^^^ BitVec.ofInt 8 y).isLt
  have e : Go.bits .xor .u8 x y = IntKind.u8.wrap ((BitVec.ofInt 8 x ^^^ BitVec.ofInt 8 y).toNat : Int) := rfl
  rw [e, Go.IntKind.wrap_u8]
  omega
theorem l1Bent_dr (b : List Int) (hn : b.length ≤ 140737488351232) (i h : Int) (l : List Int) (hl : l.length ≤ 1000000) (hb : Bytes l) (c : CurOk b i) : Dr b (spec_l1Bent.f b i h l) (fun r => Bytes r ∧ r.length ≤ l.length + 1) := by
  unfold spec_l1Bent.f
  simp only [Option.bind_some, List.length_nil, List.nil_append, Nat.zero_add]
  rw [if_pos (by omega)]
  obtain ⟨x, j, g, e, p, c2⟩ := l1Below_dr b hn i h 7 c
  rw [e]
  simp only [Option.bind_some]
  by_cases q0 : x = 0
  · rw [if_pos q0]
    by_cases z : (l.length : Int) > 0
    · rw [if_pos z]
      obtain ⟨y, j2, g2, e2, p2, c3⟩ := l1Below_dr b hn j g (l.length : Int) c2
      rw [e2]
      simp only [Option.bind_some]
      obtain ⟨v, j3, g3, e3, p3, c4⟩ := l1Below_dr b hn j2 g2 256 c3
      rw [e3]
      simp only [Option.bind_some]
      rw [if_pos p2.1, if_pos (p2.2.1 (by omega))]
      exact ⟨_, _, _, rfl, ⟨bytes_set hb _ _ (by omega), by rw [List.length_set]; omega⟩, c4⟩
    · rw [if_neg z]
      exact ⟨_, _, _, rfl, ⟨hb, by omega⟩, c2⟩
  · rw [if_neg q0]
    by_cases q1 : x = 1
    · rw [if_pos q1, wrap_id (x := (l.length : Int) + 1) (by omega) (by omega)]
      obtain ⟨y, j2, g2, e2, p2, c3⟩ := l1Below_dr b hn j g ((l.length : Int) + 1) c2
      rw [e2]
      simp only [Option.bind_some]
      have := p2.2.1 (by omega)
      rw [if_pos p2.1, if_pos (by omega)]
      exact ⟨_, _, _, rfl, ⟨hb.take _, by rw [List.length_take]; omega⟩, c3⟩
    · rw [if_neg q1]
      by_cases q2 : x = 2
      · rw [if_pos q2]
        obtain ⟨y, j2, g2, e2, p2, c3⟩ := l1Int_dr b hn j g [0, 1, 192, 255] (by decide) c2
        rw [e2]
        simp only [Option.bind_some]
        rw [if_pos (by omega)]
        exact ⟨_, _, _, rfl, ⟨hb.append (fun v hv => by rw [List.mem_singleton.1 hv]; omega), by simp⟩, c3⟩
      · rw [if_neg q2]
        by_cases q3 : x = 3
        · rw [if_pos q3]
          by_cases z : (l.length : Int) > 0
          · rw [if_pos z]
            obtain ⟨y, j2, g2, e2, p2, c3⟩ := l1Below_dr b hn j g (l.length : Int) c2
            rw [e2]
            simp only [Option.bind_some]
            rw [if_pos p2.1, if_pos (p2.2.1 (by omega))]
            obtain ⟨v, j3, g3, e3, p3, c4⟩ := l1Below_dr b hn j2 g2 8 c3
            rw [e3]
            simp only [Option.bind_some]
            rw [if_pos p3.1]
            exact ⟨_, _, _, rfl, ⟨bytes_set hb _ _ (xor8_rng _ _), by rw [List.length_set]; omega⟩, c4⟩
          · rw [if_neg z]
            exact ⟨_, _, _, rfl, ⟨hb, by omega⟩, c2⟩
        · rw [if_neg q3]
          exact ⟨_, _, _, rfl, ⟨hb, by omega⟩, c2⟩
theorem l3Name_dr (b : List Int) (hn : b.length ≤ 140737488351232) (i h : Int) (c : CurOk b i) : Dr b (spec_l3Name.f b i h) (fun s => s.size ≤ 60) := by
  unfold spec_l3Name.f
  obtain ⟨x, j, g, e, p, c2⟩ := l1Str_dr b hn i h [(⟨#[]⟩ : ByteArray), (⟨#[99, 111, 109]⟩ : ByteArray), (⟨#[101, 120, 46, 99, 111, 109]⟩ : ByteArray), (⟨#[119, 119, 119, 46, 101, 120, 46, 99, 111, 109]⟩ : ByteArray), (⟨#[110, 115, 46, 101, 120, 46, 99, 111, 109]⟩ : ByteArray), (⟨#[111, 114, 103]⟩ : ByteArray), (⟨#[97, 46, 111, 114, 103]⟩ : ByteArray), (⟨#[98, 46, 97, 46, 111, 114, 103]⟩ : ByteArray), (⟨#[110, 115, 49, 46, 111, 114, 103]⟩ : ByteArray), (⟨#[120, 46, 121, 46, 122, 46, 101, 120, 46, 99, 111, 109]⟩ : ByteArray)] (by simp) c
  rw [e]
  exact ⟨_, _, _, rfl, small_all _ 60 (by decide) x p, c2⟩
theorem l4Bytes_loop (b : List Int) (hn : b.length ≤ 140737488351232) : ∀ (d : Nat) (acc : List Int) (x5 j g : Int), acc.length + 82 * d ≤ 900 → Bytes acc → 0 ≤ x5 ∧ x5 ≤ 1000 → CurOk b j →
    ∃ r q j2 g2, Ev (fun k => spec_l4Bytes.l0 k acc x5 ((d : Int) - 1) b j g) (r, q, j2, g2) ∧ Bytes r ∧ r.length ≤ 1000 ∧ (0 ≤ q ∧ q ≤ 1000) ∧ CurOk b j2 := by
  intro d
  induction d with
  | zero =>
    intro acc x5 j g h1 h2 h3 c
    obtain ⟨o, j2, g2, e, _, c2⟩ := l1Once_dr b hn j g 4 c
    by_cases q : o = true
    · obtain ⟨z, j3, g3, e3, p3, c3⟩ := l1Bent_dr b hn j2 g2 acc (by omega) h2 c2
      refine ⟨z, x5, j3, g3, Ev.step (f := fun _ => some (z, x5, j3, g3)) (fun k => ?_) (Ev_some _), p3.1, by omega, h3, c3⟩
      simp only [spec_l4Bytes.l0]
      rw [if_neg (by omega), e]
      simp only [Option.bind_some]
      rw [if_pos q, e3]
      rfl
    · refine ⟨acc, x5, j2, g2, Ev.step (f := fun _ => some (acc, x5, j2, g2)) (fun k => ?_) (Ev_some _), h2, by omega, h3, c2⟩
      simp only [spec_l4Bytes.l0]
      rw [if_neg (by omega), e]
      simp only [Option.bind_some]
      rw [if_neg q]
  | succ d ih =>
    intro acc x5 j g h1 h2 h3 c
    obtain ⟨s, j1, g1, e1, p1, c1⟩ := l3Name_dr b hn j g c
    obtain ⟨pl, hpl⟩ := places_exist acc (by omega) h2
    have e2 := spec_PutName_eq acc (by omega) pl hpl s (by omega)
    have n1 := putName_le pl acc s
    have n2 := bytes_putName pl h2 s
    have w : wrap64 ((((d + 1 : Nat) : Int) - 1) - 1) = (d : Int) - 1 := by
      rw [wrap_id (by omega) (by omega)]
      omega
    have step : ∀ r : List Int × Int × Int × Int, Ev (fun k => (spec_PutName.f k acc s).bind fun t => ((spec_l1Once.f b j1 g1 5).bind fun bt967 => (if bt967.1 = true then ((spec_l1Int.f b bt967.2.1 bt967.2.2 [192, 193, 255, 3, 13, 0]).bind fun bt973 => ((spec_l1Below.f b bt973.2.1 bt973.2.2 12).bind fun bt976 => ((some ([(bt973.1) % 256, (bt976.1) % 256] : List Int)).bind fun y979 => (if t.length + y979.length < 140737488355328 then (spec_l4Bytes.l0 k (t ++ y979) (acc.length : Int) ((d : Int) - 1) b bt976.2.1 bt976.2.2) else none)))) else (spec_l4Bytes.l0 k t (acc.length : Int) ((d : Int) - 1) b bt967.2.1 bt967.2.2)))) r → Ev (fun k => spec_l4Bytes.l0 k acc x5 (((d + 1 : Nat) : Int) - 1) b j g) r := by
      intro r h
      refine Ev.step (fun k => ?_) h
      simp only [spec_l4Bytes.l0]
      rw [if_pos (by omega), e1, w]
      simp only [Option.bind_some]
    obtain ⟨o, j2, g2, e3, _, c2⟩ := l1Once_dr b hn j1 g1 5 c1
    by_cases q : o = true
    · obtain ⟨x, j3, g3, e4, p4, c3⟩ := l1Int_dr b hn j2 g2 [192, 193, 255, 3, 13, 0] (by decide) c2
      obtain ⟨y, j4, g4, e5, p5, c4⟩ := l1Below_dr b hn j3 g3 12 c3
      obtain ⟨r, t, j5, g5, r1, r2⟩ := ih (putName pl acc s ++ [x % 256, y % 256]) (acc.length : Int) j4 g4 (by simp; omega) (n2.append (fun v hv => by
        rcases List.mem_cons.1 hv with z | z
        · rw [z]; omega
        · rw [List.mem_singleton.1 z]; omega)) (by omega) c4
      exact ⟨r, t, j5, g5, step _ (Ev.bind e2 (Ev.bind (Ev_c e3) (Ev_if q (Ev.bind (Ev_c e4) (Ev.bind (Ev_c e5) (Ev.bind (Ev_some [x % 256, y % 256]) (Ev_if (show (putName pl acc s).length + 2 < 140737488355328 by omega) r1))))))), r2⟩
    · obtain ⟨r, t, j5, g5, r1, r2⟩ := ih (putName pl acc s) (acc.length : Int) j2 g2 (by omega) n2 (by omega) c2
      exact ⟨r, t, j5, g5, step _ (Ev.bind e2 (Ev.bind (Ev_c e3) (Ev_ifn q r1))), r2⟩
theorem l4Bytes_ev (b : List Int) (hn : b.length ≤ 140737488351232) (i h : Int) (c : CurOk b i) : ∃ r q j g, Ev (fun k => spec_l4Bytes.f k b i h) (r, q, j, g) ∧ Bytes r ∧ r.length ≤ 1000 ∧ (0 ≤ q ∧ q ≤ 1000) ∧ CurOk b j := by
  unfold spec_l4Bytes.f
  obtain ⟨x, j1, g1, e1, p1, c1⟩ := l1Below_dr b hn i h 3 c
  have q1 := p1.2.1 (by omega)
  obtain ⟨xs, j2, g2, e2, p2, q2, c2⟩ := l1Bytes_ev b hn j1 g1 x c1 p1.1 (by omega)
  obtain ⟨y, j3, g3, e3, p3, c3⟩ := l1Below_dr b hn j2 g2 4 c2
  have q3 := p3.2.1 (by omega)
  obtain ⟨m, hm⟩ : ∃ m : Nat, y + 1 = (m : Int) := ⟨(y + 1).toNat, by have := p3.1; omega⟩
  have e : y = (m : Int) - 1 := by omega
  subst e
  obtain ⟨r, t, j4, g4, r1, r2⟩ := l4Bytes_loop b hn m xs (xs.length : Int) j3 g3 (by omega) p2 (by omega) c3
  exact ⟨r, t, j4, g4, Ev.bind (Ev_c e1) (Ev.bind e2 (Ev.bind (Ev_c e3) r1)), r2⟩
theorem drawGetName_loop (y : Int) : ∀ (d i : Nat) (acc : List Int), i + d = 8 → acc.length + 2 * d ≤ 2000 → Bytes acc → ∃ r, Ev (fun k => spec_DrawGetName.l0 k acc y (i : Int)) (r, y) ∧ Bytes r ∧ r.length ≤ 2000 := by
  intro d
  induction d with
  | zero =>
    intro i acc h1 h2 h3
    refine ⟨acc, Ev.step (f := fun _ => some (acc, y)) (fun k => ?_) (Ev_some _), h3, by omega⟩
    simp only [spec_DrawGetName.l0]
    rw [if_neg (by omega)]
  | succ d ih =>
    intro i acc h1 h2 h3
    obtain ⟨r, r1, r2⟩ := ih (i + 1) (acc ++ [1, 97]) (by omega) (by simp; omega) (h3.append (fun v hv => by
      rcases List.mem_cons.1 hv with z | z
      · rw [z]; omega
      · rw [List.mem_singleton.1 z]; omega))
    have w := wrap_succ i 8 (by omega) (by omega)
    refine ⟨r, Ev.step (fun k => ?_) r1, r2⟩
    simp only [spec_DrawGetName.l0, Option.bind_some, List.length_cons, List.length_nil]
    rw [if_pos (by omega), if_pos (by omega), w]
theorem drawGetName_ev (l : List Int) (hn : l.length ≤ 140737488351232) : ∃ b i, Ev (fun k => spec_DrawGetName.f k l) (b, i) ∧ Bytes b ∧ b.length ≤ 2000 ∧ I64 i := by
  unfold spec_DrawGetName.f
  obtain ⟨g, e0⟩ := l1New_ev l hn
  obtain ⟨r, t, j1, g1, e1, p1, p2, p3, c1⟩ := l4Bytes_ev l hn 0 g (cur0 l)
  obtain ⟨x, j2, g2, e2, q2, c2⟩ := l1Below_dr l hn j1 g1 8 c1
  have it : I64 t := ⟨by omega, by omega⟩
  by_cases q0 : x = 0
  · obtain ⟨y, j3, g3, e3, q3, c3⟩ := l1Int_dr l hn j2 g2 [(-1), 0, 1, 99] (by decide) c2
    exact ⟨r, y, Ev.bind e0 (Ev.bind e1 (Ev.bind (Ev_c e2) (Ev_if q0 (Ev.bind (Ev_c e3) (Ev_some _))))), p1, by omega, i64_all _ (by decide) y q3⟩
  · by_cases q1 : x = 1
    · obtain ⟨z, z1, z2, z3⟩ := drawGetName_loop t 8 0 r (by omega) (by omega) p1
      exact ⟨z, t, Ev.bind e0 (Ev.bind e1 (Ev.bind (Ev_c e2) (Ev_ifn q0 (Ev_if q1 z1)))), z2, z3, it⟩
    · exact ⟨r, t, Ev.bind e0 (Ev.bind e1 (Ev.bind (Ev_c e2) (Ev_ifn q0 (Ev_ifn q1 (Ev_some _))))), p1, by omega, it⟩
theorem drawPlaceOf_ev (l : List Int) (hn : l.length ≤ 140737488351232) : ∃ b s, Ev (fun k => spec_DrawPlaceOf.f k l) (b, s) ∧ Bytes b ∧ b.length ≤ 2000 ∧ s.size ≤ 60 := by
  unfold spec_DrawPlaceOf.f
  obtain ⟨g, e0⟩ := l1New_ev l hn
  obtain ⟨r, t, j1, g1, e1, p1, p2, p3, c1⟩ := l4Bytes_ev l hn 0 g (cur0 l)
  obtain ⟨x, j2, g2, e2, q2, c2⟩ := l3Name_dr l hn j1 g1 c1
  exact ⟨r, x, Ev.bind e0 (Ev.bind e1 (Ev.bind (Ev_c e2) (Ev_some _))), p1, by omega, q2⟩
theorem drawCodeName_ev (l : List Int) (hn : l.length ≤ 140737488351232) : ∃ n, Ev (fun k => spec_DrawCodeName.f k l) n ∧ (-1 ≤ n ∧ n ≤ 7) := by
  unfold spec_DrawCodeName.f
  obtain ⟨g, e0⟩ := l1New_ev l hn
  obtain ⟨x, j1, g1, e1, p1, c1⟩ := l1Below_dr l hn 0 g 7 (cur0 l)
  have q1 := p1.2.1 (by omega)
  have w : wrap64 (x - 1) = x - 1 := wrap_id (by have := p1.1; omega) (by omega)
  refine ⟨x - 1, Ev.bind e0 (Ev.bind (Ev_c e1) (Ev_c ?_)), by have := p1.1; omega⟩
  show some (wrap64 (x - 1)) = some (x - 1)
  rw [w]

end Go.Proofs.YtbohkphbgkgaeaaDoor.Lem
