/- Lemmas on the printed functions, of this session. -/
import Derived.Test.YtbohkphbgkgaeaaDoorY
import Derived.Test.YtbohkphbgkgaeaaDoorPrx0
import Derived.Test.YtbohkphbgkgaeaaDoorPrx1
import Derived.Test.YtbohkphbgkgaeaaDoorPrx10
import Derived.Test.YtbohkphbgkgaeaaDoorPrx13
import Derived.Test.YtbohkphbgkgaeaaDoorPrx14
import Derived.Test.YtbohkphbgkgaeaaDoorPrx2
import Derived.Test.YtbohkphbgkgaeaaDoorPrx3
import Derived.Test.YtbohkphbgkgaeaaDoorPrx4
import Derived.Test.YtbohkphbgkgaeaaDoorPrx5
namespace Go.Proofs.YtbohkphbgkgaeaaDoor.Lem
open Go.RowKit Go.Proofs.YtbohkphbgkgaeaaDoor.Pr Go.Proofs.YtbohkphbgkgaeaaDoor.X Go.Proofs.YtbohkphbgkgaeaaDoor.Y Go.Proofs.YtbohkphbgkgaeaaDoorW.PrintWords Go.Proofs.YtbohkphbgkgaeaaDoorW.PrintLast Go.Proofs.YtbohkphbgkgaeaaDoorW.PrintMore
set_option linter.unusedVariables false
set_option linter.unusedSimpArgs false
theorem rdS_getElem (l : List ByteArray) (i : Nat) (h : i < l.length) : rdOf ByteArray.empty l i = l[i] := by
  unfold rdOf
  rw [Int.toNat_natCast, List.getD_eq_getElem?_getD, List.getElem?_eq_getElem h, Option.getD_some]
/-- How many bytes a list of strings holds. -/
def szSs (l : List ByteArray) : Nat := (l.map ByteArray.size).sum
/-- Strings with a dot between them. -/
def joinS : List ByteArray → ByteArray
  | [] => (⟨#[]⟩ : ByteArray)
  | [x] => x
  | x :: y :: l => x ++ ((⟨#[46]⟩ : ByteArray) ++ joinS (y :: l))
theorem joinS_cons (x : ByteArray) (l : List ByteArray) (h : l ≠ []) : joinS (x :: l) = x ++ ((⟨#[46]⟩ : ByteArray) ++ joinS l) := by
  cases l with
  | nil => exact absurd rfl h
  | cons y l => rfl
theorem joinS_data : ∀ (l : List ByteArray), (joinS l).data.toList = Lib.join (l.map (·.data.toList)) [46]
  | [] => rfl
  | [x] => by simp [joinS, Lib.join, List.intercalate]
  | x :: y :: l => by
    have ih := joinS_data (y :: l)
    rw [joinS, ByteArray.data_append, ByteArray.data_append, Array.toList_append, Array.toList_append, ih]
    simp [Lib.join, List.intercalate]
theorem joinS_size : ∀ (l : List ByteArray), (joinS l).size ≤ szSs l + l.length
  | [] => Nat.zero_le _
  | [x] => by simp [joinS, szSs]
  | x :: y :: l => by
    have ih := joinS_size (y :: l)
    rw [joinS, ByteArray.size_append, ByteArray.size_append]
    have e : (⟨#[46]⟩ : ByteArray).size = 1 := rfl
    have e2 : szSs (x :: y :: l) = x.size + szSs (y :: l) := by simp [szSs]
    rw [e, e2, List.length_cons]
    omega
theorem impl_JoinLabels_eq (l : List ByteArray) (h : szSs l + l.length ≤ 140737488355328) : impl_JoinLabels.f l = some (joinS l) := by
  have hs := joinS_size l
  have hd := joinS_data l
  unfold impl_JoinLabels.f strings_Join.f
  have e : (⟨#[46]⟩ : ByteArray).data.toList = [46] := rfl
  rw [e, ← hd, if_pos ⟨by rw [data_length]; omega, by omega⟩]
  simp
theorem empty_append (s : ByteArray) : (⟨#[]⟩ : ByteArray) ++ s = s := by
  apply ByteArray.ext
  rw [ByteArray.data_append]
  simp
theorem szSs_drop (l : List ByteArray) (i : Nat) (h : i < l.length) : szSs (l.drop i) = l[i].size + szSs (l.drop (i + 1)) := by
  unfold szSs
  rw [List.drop_eq_getElem_cons h, List.map_cons, List.sum_cons]
theorem spec_JoinLabels_loop (l : List ByteArray) (hn : l.length ≤ 140737488355328) : ∀ (d i : Nat) (s : ByteArray), i + d = l.length → (0 < i ∨ s = (⟨#[]⟩ : ByteArray)) → s.size + szSs (l.drop i) + d ≤ 281474976710656 →
    Ev (fun k => spec_JoinLabels.l0 k l s (i : Int)) (if i = 0 then joinS l else if l.drop i = [] then s else s ++ ((⟨#[46]⟩ : ByteArray) ++ joinS (l.drop i))) := by
  intro d
  induction d with
  | zero =>
    intro i s hi hs hsz
    refine Ev.step (f := fun _ => some s) (fun k => ?_) ⟨0, fun _ _ => ?_⟩
    · simp only [spec_JoinLabels.l0]
      rw [if_neg (by omega)]
    · rw [List.drop_of_length_le (by omega), if_pos rfl]
      by_cases z : i = 0
      · subst z
        have hl : l = [] := List.eq_nil_of_length_eq_zero (by omega)
        subst hl
        rcases hs with h | h
        · exact absurd h (Nat.lt_irrefl _)
        · rw [if_pos rfl, h]
          rfl
      · rw [if_neg z]
  | succ d ih =>
    intro i s hi hs hsz
    have hil : i < l.length := by omega
    have hw := wrap_succ i l.length hil hn
    have hd : l.drop i = l[i] :: l.drop (i + 1) := List.drop_eq_getElem_cons hil
    have hdz := szSs_drop l i hil
    have e1 : (⟨#[46]⟩ : ByteArray).size = 1 := rfl
    by_cases z : i = 0
    · subst z
      have hs' : s = (⟨#[]⟩ : ByteArray) := hs.resolve_left (Nat.lt_irrefl _)
      subst hs'
      have e0 : (⟨#[]⟩ : ByteArray).size = 0 := rfl
      simp only [Nat.zero_add] at hdz
      have := ih 1 l[0] (by omega) (.inl (by decide)) (by omega)
      rw [if_neg (by decide)] at this
      rw [if_pos rfl]
      have hj : joinS l = if l.drop 1 = [] then l[0] else l[0] ++ ((⟨#[46]⟩ : ByteArray) ++ joinS (l.drop 1)) := by
        clear this ih hdz hd hsz hi hw
        cases l with
        | nil => exact absurd hil (by simp)
        | cons x rest =>
          show joinS (x :: rest) = if rest = [] then x else x ++ ((⟨#[46]⟩ : ByteArray) ++ joinS rest)
          by_cases q : rest = []
          · rw [if_pos q, q]
            rfl
          · rw [if_neg q]
            exact joinS_cons _ _ q
      rw [hj]
      refine Ev.step (f := fun k => spec_JoinLabels.l0 k l l[0] ((1 : Nat) : Int)) (fun k => ?_) this
      simp only [spec_JoinLabels.l0]
      rw [if_pos (by omega), if_neg (by omega), if_pos (by omega)]
      have er := rdS_getElem l 0 hil
      rw [er, if_pos (by omega), empty_append, hw]
    · rw [if_neg z, hd, if_neg (List.cons_ne_nil _ _)]
      have hsz2 : ((s ++ (⟨#[46]⟩ : ByteArray)) ++ l[i]).size = s.size + 1 + l[i].size := by rw [ByteArray.size_append, ByteArray.size_append, e1]
      have := ih (i + 1) ((s ++ (⟨#[46]⟩ : ByteArray)) ++ l[i]) (by omega) (.inl (by omega)) (by omega)
      rw [if_neg (by omega)] at this
      have hj : (if l.drop (i + 1) = [] then (s ++ (⟨#[46]⟩ : ByteArray)) ++ l[i] else ((s ++ (⟨#[46]⟩ : ByteArray)) ++ l[i]) ++ ((⟨#[46]⟩ : ByteArray) ++ joinS (l.drop (i + 1)))) = s ++ ((⟨#[46]⟩ : ByteArray) ++ joinS (l[i] :: l.drop (i + 1))) := by
        by_cases q : l.drop (i + 1) = []
        · rw [if_pos q, q, ByteArray.append_assoc]
          rfl
        · rw [if_neg q, joinS_cons _ _ q, @ByteArray.append_assoc (s ++ (⟨#[46]⟩ : ByteArray)), @ByteArray.append_assoc s]
      rw [hj] at this
      refine Ev.step (f := fun k => spec_JoinLabels.l0 k l ((s ++ (⟨#[46]⟩ : ByteArray)) ++ l[i]) ((i + 1 : Nat) : Int)) (fun k => ?_) this
      simp only [spec_JoinLabels.l0]
      rw [if_pos (by omega), if_pos (by omega), if_pos (by omega), if_pos (by omega), rdS_getElem l i hil, if_pos (by rw [ByteArray.size_append, e1]; omega), hw]
theorem spec_JoinLabels_eq (l : List ByteArray) (h : szSs l + l.length ≤ 140737488355328) : Ev (fun k => spec_JoinLabels.f k l) (joinS l) := by
  have := spec_JoinLabels_loop l (by omega) l.length 0 (⟨#[]⟩ : ByteArray) (by omega) (.inr rfl) (by rw [List.drop_zero, show (⟨#[]⟩ : ByteArray).size = 0 from rfl]; omega)
  rw [if_pos rfl] at this
  unfold spec_JoinLabels.f
  simpa using this
/-- What stands between the dots of a list of bytes; 'acc' stands ahead of it. -/
def cutA : List UInt8 → List UInt8 → List (List UInt8)
  | acc, [] => [acc]
  | acc, c :: t => if c = 46 then acc :: cutA [] t else cutA (acc ++ [c]) t
def mkB (l : List UInt8) : ByteArray := ⟨l.toArray⟩
theorem mkB_data (s : ByteArray) : mkB s.data.toList = s := rfl
/-- The labels of a name. -/
def labelsL (s : ByteArray) : List ByteArray := if s.data.toList = [] then [] else (cutA [] s.data.toList).map mkB
theorem cutA_acc : ∀ (t acc : List UInt8), cutA acc t = match cutA [] t with | [] => [] | x :: r => (acc ++ x) :: r
  | [], acc => by simp [cutA]
  | c :: t, acc => by
    by_cases h : c = 46
    · simp [cutA, h]
    · have e1 := cutA_acc t (acc ++ [c])
      have e2 := cutA_acc t ([] ++ [c])
      simp only [cutA, if_neg h]
      rw [e1, e2]
      cases cutA [] t with
      | nil => rfl
      | cons x r => simp [List.append_assoc]
theorem split_cut : ∀ (l : List UInt8), Lib.splitK [46] 0 (l.count 46) l = cutA [] l
  | [] => rfl
  | c :: t => by
    have ih := split_cut t
    by_cases h : c = 46
    · subst h
      rw [List.count_cons_self]
      simp only [Lib.splitK, cutA, if_true]
      rw [Lib.index_one]
      simp only [Lib.indexByte]
      simp [ih]
    · rw [List.count_cons_of_ne (by simpa using h)]
      have e2 := cutA_acc t ([] ++ [c])
      simp only [cutA, if_neg h]
      rw [e2, ← ih]
      have hb : (c == 46) = false := by simpa using h
      cases hk : t.count 46 with
      | zero => simp [Lib.splitK]
      | succ k =>
        simp only [Lib.splitK]
        rw [Lib.index_one, Lib.index_one]
        simp only [Lib.indexByte, hb]
        have hge := Lib.indexByte_ge t 46
        by_cases hi : Lib.indexByte t 46 = -1
        · simp [hi]
        · have h1 : (Lib.indexByte t 46 == -1) = false := by simpa using hi
          have h2 : (Lib.indexByte t 46 + 1 == -1) = false := by simp; omega
          have h3 : (Lib.indexByte t 46 + 1).toNat = (Lib.indexByte t 46).toNat + 1 := by omega
          simp only [h1, h2, h3, Bool.false_eq_true, if_false]
          simp [List.take_succ_cons, Nat.add_right_comm]
theorem impl_Labels_eq (s : ByteArray) (hs : s.size < 4294967281) : impl_Labels.f s = some (labelsL s) := by
  unfold impl_Labels.f labelsL
  rw [ByteArray.toList_eq]
  by_cases h : s.data.toList = []
  · rw [if_pos h, if_pos h]
  · rw [if_neg h, if_neg h]
    have e : strings_Split.f s (⟨#[46]⟩ : ByteArray) = some (Lib.splitB ⟨#[46]⟩ 0 (Lib.countB s ⟨#[46]⟩) s) := by
      unfold strings_Split.f
      exact if_pos ⟨rfl, hs⟩
    rw [e]
    simp only [Option.bind_some]
    congr 1
    have d := Lib.splitB_data ⟨#[46]⟩ 0 (Lib.countB s ⟨#[46]⟩) s
    have k : Lib.countB s ⟨#[46]⟩ = s.data.toList.count 46 := Lib.count_one 46 s.data.toList
    rw [k] at d ⊢
    have d2 : (Lib.splitB ⟨#[46]⟩ 0 (s.data.toList.count 46) s).map (·.data.toList) = cutA [] s.data.toList := d.trans (split_cut _)
    rw [← d2, List.map_map]
    exact (List.map_id'' (fun x => mkB_data x) _).symm
theorem extract_mkB (s : ByteArray) (f i : Nat) : s.extract f i = mkB ((s.data.toList.take i).drop f) := by
  have h : (s.extract f i).data.toList = (s.data.toList.take i).drop f := by
    rw [ByteArray.data_extract, Array.toList_extract, List.extract_eq_take_drop, List.drop_take]
  rw [← mkB_data (s.extract f i), h]
theorem bt_data (s : ByteArray) (i : Nat) (h : i < s.data.toList.length) : (bt s (i : Int) = 46) ↔ s.data.toList[i] = 46 := by
  have h' : (i : Int).toNat < s.size := by simpa using h
  have e := bt_at s (i : Int) h'
  have e2 : s[(i : Int).toNat]'h' = s.data.toList[i] := by
    rw [Array.getElem_toList]
    rfl
  rw [← e, e2, ← UInt8.toNat_inj]
  have t : UInt8.toNat 46 = 46 := rfl
  generalize s.data.toList[i].toNat = z
  generalize UInt8.toNat 46 = z' at t ⊢
  omega
theorem size_data (s : ByteArray) : s.size = s.data.toList.length := rfl
theorem spec_Labels_loop (s : ByteArray) (hn : s.size ≤ 1048576) (hne : s.toList ≠ []) : ∀ (d i f : Nat) (out : List ByteArray), i + d = s.size → f ≤ i → out.length ≤ i →
    Ev (fun k => spec_Labels.l0 k s out (f : Int) (i : Int)) (out ++ (cutA ((s.data.toList.take i).drop f) (s.data.toList.drop i)).map mkB) := by
  have hz := size_data s
  have hb : (s.toList != ([] : List UInt8)) = true := bne_iff_ne.2 hne
  intro d
  induction d with
  | zero =>
    intro i f out hi hf ho
    have w : wrap64 ((i : Int) + 1) = ((i + 1 : Nat) : Int) := wrap_succ i 1048577 (by omega) (by omega)
    have hx : s.extract f i = mkB ((s.data.toList.take i).drop f) := extract_mkB s f i
    refine Ev.step (f := fun k => spec_Labels.j1 k s out (f : Int) (i : Int) true) (fun k => ?_) ?_
    · simp only [spec_Labels.l0]
      rw [if_pos (by omega), hb]
    refine Ev.step (f := fun k => spec_Labels.l0 k s (out ++ [mkB ((s.data.toList.take i).drop f)]) ((i + 1 : Nat) : Int) ((i + 1 : Nat) : Int)) (fun k => ?_) ?_
    · simp only [spec_Labels.j1, if_true]
      rw [if_pos (by omega), if_pos (by omega), if_pos (by omega), if_pos (by omega), if_pos (by omega), w, Int.toNat_natCast, Int.toNat_natCast, hx]
    refine Ev.step (f := fun k => spec_Labels.j1 k s (out ++ [mkB ((s.data.toList.take i).drop f)]) ((i + 1 : Nat) : Int) ((i + 1 : Nat) : Int) false) (fun k => ?_) ?_
    · simp only [spec_Labels.l0]
      rw [if_neg (by omega)]
    refine Ev.step (f := fun _ => some (out ++ [mkB ((s.data.toList.take i).drop f)])) (fun k => ?_) ⟨0, fun _ _ => ?_⟩
    · simp only [spec_Labels.j1]
      rw [if_neg (by decide)]
    · rw [show s.data.toList.drop i = [] from List.drop_of_length_le (by omega)]
      rfl
  | succ d ih =>
    intro i f out hi hf ho
    have hil : i < s.data.toList.length := by omega
    have w : wrap64 ((i : Int) + 1) = ((i + 1 : Nat) : Int) := wrap_succ i 1048577 (by omega) (by omega)
    have hx : s.extract f i = mkB ((s.data.toList.take i).drop f) := extract_mkB s f i
    rw [List.drop_eq_getElem_cons hil]
    refine Ev.step (f := fun k => spec_Labels.j1 k s out (f : Int) (i : Int) true) (fun k => ?_) ?_
    · simp only [spec_Labels.l0]
      rw [if_pos (by omega), hb]
    by_cases c : s.data.toList[i] = 46
    · have cb := (bt_data s i hil).2 c
      have := ih (i + 1) (i + 1) (out ++ [mkB ((s.data.toList.take i).drop f)]) (by omega) (by omega) (by simp; omega)
      have e0 : (s.data.toList.take (i + 1)).drop (i + 1) = [] := List.drop_of_length_le (by rw [List.length_take]; omega)
      rw [e0] at this
      refine Ev.step (f := fun k => spec_Labels.l0 k s (out ++ [mkB ((s.data.toList.take i).drop f)]) ((i + 1 : Nat) : Int) ((i + 1 : Nat) : Int)) (fun k => ?_) ?_
      · simp only [spec_Labels.j1, if_true]
        rw [if_neg (by omega), if_pos (by omega), if_pos (by omega), if_pos cb, if_pos (by omega), if_pos (by omega), if_pos (by omega), if_pos (by omega), w, Int.toNat_natCast, Int.toNat_natCast, hx]
      · simp only [cutA, if_pos c, List.map_cons]
        rw [List.append_assoc] at this
        exact this
    · have cb : ¬ bt s (i : Int) = 46 := fun e => c ((bt_data s i hil).1 e)
      have := ih (i + 1) f out (by omega) (by omega) (by omega)
      have e0 : (s.data.toList.take (i + 1)).drop f = (s.data.toList.take i).drop f ++ [s.data.toList[i]] := by
        rw [← List.take_append_getElem hil, List.drop_append_of_le_length (by rw [List.length_take]; omega)]
      rw [e0] at this
      refine Ev.step (f := fun k => spec_Labels.l0 k s out (f : Int) ((i + 1 : Nat) : Int)) (fun k => ?_) ?_
      · simp only [spec_Labels.j1, if_true]
        rw [if_neg (by omega), if_pos (by omega), if_pos (by omega), if_neg cb, w]
      · simp only [cutA, if_neg c]
        exact this
theorem spec_Labels_eq (s : ByteArray) (hn : s.size ≤ 1048576) : Ev (fun k => spec_Labels.f k s) (labelsL s) := by
  unfold spec_Labels.f labelsL
  by_cases h : s.data.toList = []
  · rw [if_pos h]
    have hb : (s.toList != ([] : List UInt8)) = false := by rw [ByteArray.toList_eq, h]; rfl
    refine Ev.step (f := fun k => spec_Labels.j1 k s [] 0 0 false) (fun k => ?_) ?_
    · simp only [spec_Labels.l0]
      rw [if_pos (by omega), hb]
    refine Ev.step (f := fun _ => some []) (fun k => ?_) ⟨0, fun _ _ => rfl⟩
    simp only [spec_Labels.j1]
    rw [if_neg (by decide)]
  · rw [if_neg h]
    have := spec_Labels_loop s hn (by rw [ByteArray.toList_eq]; exact h) s.size 0 0 [] (by omega) (by omega) (by simp)
    simpa using this
theorem cutA_length : ∀ (t acc : List UInt8), (cutA acc t).length ≤ t.length + 1
  | [], _ => Nat.le_refl _
  | c :: t, acc => by
    unfold cutA
    split
    · have := cutA_length t []
      simp only [List.length_cons]
      omega
    · have := cutA_length t (acc ++ [c])
      simp only [List.length_cons]
      omega
theorem labelsL_length (s : ByteArray) : (labelsL s).length ≤ s.size + 1 := by
  unfold labelsL
  split
  · simp
  · rw [List.length_map, size_data]
    exact cutA_length _ _
theorem mkB_append (a b : List UInt8) : mkB a ++ mkB b = mkB (a ++ b) := by
  apply ByteArray.ext
  rw [ByteArray.data_append]
  simp [mkB]
theorem cutA_ne : ∀ (t acc : List UInt8), cutA acc t ≠ []
  | [], acc => by simp [cutA]
  | c :: t, acc => by
    unfold cutA
    split
    · simp
    · exact cutA_ne t _
theorem join_cutA : ∀ (t acc : List UInt8), joinS ((cutA acc t).map mkB) = mkB (acc ++ t)
  | [], acc => by simp [cutA, joinS]
  | c :: t, acc => by
    by_cases h : c = 46
    · subst h
      simp only [cutA, if_true, List.map_cons]
      rw [joinS_cons _ _ (by simpa using cutA_ne t []), join_cutA t []]
      have e : (⟨#[46]⟩ : ByteArray) = mkB [46] := rfl
      rw [e, mkB_append, mkB_append]
      rfl
    · simp only [cutA, if_neg h]
      rw [join_cutA t (acc ++ [c])]
      simp
theorem join_labels (s : ByteArray) : joinS (labelsL s) = s := by
  unfold labelsL
  by_cases h : s.data.toList = []
  · rw [if_pos h]
    have e : mkB s.data.toList = s := mkB_data s
    rw [h] at e
    exact e
  · rw [if_neg h, join_cutA]
    exact mkB_data s
theorem labelsL_inj {a b : ByteArray} (h : labelsL a = labelsL b) : a = b := by rw [← join_labels a, h, join_labels b]
theorem szSs_cons (x : ByteArray) (l : List ByteArray) : szSs (x :: l) = x.size + szSs l := by
  unfold szSs
  rw [List.map_cons, List.sum_cons]
theorem szSs_nil : szSs [] = 0 := rfl
theorem cutA_size : ∀ (t acc : List UInt8), szSs ((cutA acc t).map mkB) ≤ acc.length + t.length
  | [], acc => by
    have e : (mkB acc).size = acc.length := rfl
    simp only [cutA, List.map_cons, List.map_nil, szSs_cons, szSs_nil, e, List.length_nil]
    omega
  | c :: t, acc => by
    unfold cutA
    split
    · have := cutA_size t []
      have e : (mkB acc).size = acc.length := rfl
      simp only [List.length_nil] at this
      simp only [List.map_cons, szSs_cons, e, List.length_cons]
      omega
    · have := cutA_size t (acc ++ [c])
      simp only [List.length_append, List.length_cons, List.length_nil] at this ⊢
      omega
theorem labelsL_size (s : ByteArray) : szSs (labelsL s) ≤ s.size := by
  unfold labelsL
  split
  · rw [szSs_nil]
    omega
  · have := cutA_size s.data.toList []
    rw [size_data]
    simpa using this
theorem szSs_drop_le : ∀ (l : List ByteArray) (i : Nat), szSs (l.drop i) ≤ szSs l
  | [], i => by simp
  | x :: l, 0 => Nat.le_refl _
  | x :: l, i + 1 => by
    have := szSs_drop_le l i
    simp only [List.drop_succ_cons, szSs_cons]
    omega
/-- A name and all above it, given its labels. -/
def aboveL : List ByteArray → List ByteArray
  | [] => [(⟨#[]⟩ : ByteArray)]
  | x :: l => joinS (x :: l) :: aboveL l
theorem aboveL_length : ∀ l : List ByteArray, (aboveL l).length = l.length + 1
  | [] => rfl
  | x :: l => by rw [aboveL, List.length_cons, aboveL_length l, List.length_cons]
theorem aboveL_drop (ls : List ByteArray) (i : Nat) (h : i < ls.length) : aboveL (ls.drop i) = joinS (ls.drop i) :: aboveL (ls.drop (i + 1)) := by
  rw [List.drop_eq_getElem_cons h, aboveL]
theorem spec_Above_loop (ls : List ByteArray) (hn : ls.length ≤ 1048577) (hz : szSs ls ≤ 1048576) : ∀ (d i : Nat) (acc : List ByteArray), i + d = ls.length → acc.length ≤ i + 1 →
    Ev (fun k => spec_Above.l0 k acc ls (i : Int)) (acc ++ aboveL (ls.drop i)) := by
  intro d
  induction d with
  | zero =>
    intro i acc hi ha
    have w := wrap_succ i (i + 1) (by omega) (by omega)
    have e : ls.drop i = [] := List.drop_of_length_le (by omega)
    rw [e]
    refine Ev.step (f := fun k => (spec_JoinLabels.f k (ls.drop i)).bind fun t => spec_Above.l0 k (acc ++ [t]) ls ((i + 1 : Nat) : Int)) (fun k => ?_) (Ev.bind (spec_JoinLabels_eq _ (by rw [e]; simp [szSs])) ?_)
    · simp only [spec_Above.l0]
      rw [if_pos (by omega), if_pos (by omega), w, Int.toNat_natCast]
      congr 1
      funext t
      rw [if_pos (by omega)]
    · rw [e]
      refine Ev.step (f := fun _ => some (acc ++ [joinS []])) (fun k => ?_) ⟨0, fun _ _ => rfl⟩
      simp only [spec_Above.l0]
      rw [if_neg (by omega)]
  | succ d ih =>
    intro i acc hi ha
    have w := wrap_succ i (i + 1) (by omega) (by omega)
    have hz' := szSs_drop_le ls i
    rw [aboveL_drop ls i (by omega)]
    refine Ev.step (f := fun k => (spec_JoinLabels.f k (ls.drop i)).bind fun t => spec_Above.l0 k (acc ++ [t]) ls ((i + 1 : Nat) : Int)) (fun k => ?_) (Ev.bind (spec_JoinLabels_eq _ (by rw [List.length_drop]; omega)) ?_)
    · simp only [spec_Above.l0]
      rw [if_pos (by omega), if_pos (by omega), w, Int.toNat_natCast]
      congr 1
      funext t
      rw [if_pos (by omega)]
    · have := ih (i + 1) (acc ++ [joinS (ls.drop i)]) (by omega) (by rw [List.length_append]; simp; omega)
      simpa using this
theorem impl_Above_loop (ls : List ByteArray) (hn : ls.length ≤ 1048577) (hz : szSs ls ≤ 1048576) : ∀ (d i : Nat) (acc : List ByteArray), i + d = ls.length → acc.length ≤ i →
    Ev (fun k => impl_Above.l0 k acc ls (ls.length : Int) (i : Int)) (acc ++ aboveL (ls.drop i)) := by
  intro d
  induction d with
  | zero =>
    intro i acc hi ha
    rw [show ls.drop i = [] from List.drop_of_length_le (by omega)]
    refine Ev.step (f := fun _ => some (acc ++ [(⟨#[]⟩ : ByteArray)])) (fun k => ?_) ⟨0, fun _ _ => rfl⟩
    simp only [impl_Above.l0]
    rw [if_neg (by omega), if_pos (by omega)]
  | succ d ih =>
    intro i acc hi ha
    have w := wrap_succ i (i + 1) (by omega) (by omega)
    have hz' := szSs_drop_le ls i
    rw [aboveL_drop ls i (by omega)]
    refine Ev.step (f := fun k => impl_Above.l0 k (acc ++ [joinS (ls.drop i)]) ls (ls.length : Int) ((i + 1 : Nat) : Int)) (fun k => ?_) ?_
    · simp only [impl_Above.l0]
      rw [if_pos (by omega), if_pos (by omega), if_pos (by omega), w, Int.toNat_natCast, impl_JoinLabels_eq _ (by rw [List.length_drop]; omega), Option.bind_some, if_pos (by omega)]
    · have := ih (i + 1) (acc ++ [joinS (ls.drop i)]) (by omega) (by rw [List.length_append]; simp; omega)
      simpa using this
/-- What Above returns. -/
def above (s : ByteArray) : List ByteArray := aboveL (labelsL s)
theorem above_length (s : ByteArray) : (above s).length = (labelsL s).length + 1 := aboveL_length _
theorem spec_Above_eq (s : ByteArray) (hs : s.size ≤ 1048576) : Ev (fun k => spec_Above.f k s) (above s) := by
  have h1 := labelsL_length s
  have h2 := labelsL_size s
  unfold spec_Above.f above
  refine Ev.bind (spec_Labels_eq s hs) ?_
  cases hl : labelsL s with
  | nil =>
    have e := join_labels s
    rw [hl] at e
    refine Ev.step (f := fun _ => some [s]) (fun k => ?_) ⟨0, fun _ _ => by rw [← e]; rfl⟩
    simp only [spec_Above.l0]
    rw [if_neg (by simp)]
  | cons x l =>
    have e := join_labels s
    rw [hl] at e h1 h2
    have := spec_Above_loop (x :: l) (by omega) (by omega) l.length 1 [s] (by simp; omega) (by simp)
    rw [aboveL]
    rw [e]
    simpa using this
theorem impl_Above_eq (s : ByteArray) (hs : s.size ≤ 1048576) : Ev (fun k => impl_Above.f k s) (above s) := by
  have h1 := labelsL_length s
  have h2 := labelsL_size s
  unfold impl_Above.f above
  rw [impl_Labels_eq s (by omega)]
  simp only [Option.bind_some]
  have := impl_Above_loop (labelsL s) (by omega) (by omega) (labelsL s).length 0 [] (by omega) (by simp)
  simpa using this
theorem Ev_if {α : Type} {c : Prop} [Decidable c] {f g : Nat → Option α} {x : α} (h : c) (h1 : Ev f x) : Ev (fun k => if c then f k else g k) x := by
  simp only [if_pos h]
  exact h1
theorem Ev_ifn {α : Type} {c : Prop} [Decidable c] {f g : Nat → Option α} {x : α} (h : ¬ c) (h1 : Ev g x) : Ev (fun k => if c then f k else g k) x := by
  simp only [if_neg h]
  exact h1
/-- A byte of a label. -/
def okB (c : Int) : Bool := (decide (97 ≤ c) && decide (c ≤ 122)) || (decide (48 ≤ c) && decide (c ≤ 57)) || decide (c = 45) || decide (c = 95)
/-- A label: what LabelOk answers. -/
def labelOk (s : ByteArray) : Bool := (bytesOf s).all okB && (decide (1 ≤ s.size) && decide (s.size ≤ 12))
theorem l1In_dec (a b c : Int) : spec_l1In.f a b c = some (decide (b ≤ a) && decide (a ≤ c)) := by
  unfold spec_l1In.f
  by_cases h : a ≥ b
  · rw [if_pos h]
    have h' : b ≤ a := h
    simp [h']
  · rw [if_neg h]
    have h' : ¬ b ≤ a := h
    simp [h']
theorem l2Byte_eq (c : Int) (h0 : 0 ≤ c) (h1 : c ≤ 255) : spec_l2Byte.f c = some (okB c) := by
  unfold spec_l2Byte.f okB
  rw [wrap_id (x := c) (by omega) (by omega), l1In_dec, l1In_dec]
  simp only [Option.bind_some]
  by_cases a : (decide (97 ≤ c) && decide (c ≤ 122)) = true
  · simp [a]
  · by_cases b : (decide (48 ≤ c) && decide (c ≤ 57)) = true
    · simp [a, b]
    · by_cases d : c = 45
      · simp [a, b, d]
      · simp only [Bool.not_eq_true] at a b
        have e : (c == 95) = decide (c = 95) := by by_cases z : c = 95 <;> simp [z]
        simp [a, b, d, e]
theorem drop_bytesOf (s : ByteArray) (i : Nat) (h : i < s.size) : (bytesOf s).drop i = bt s i :: (bytesOf s).drop (i + 1) := by
  rw [rd_drop _ i (by rw [bytesOf_length]; exact h), rd_bytesOf]
theorem spec_LabelOk_loop (s : ByteArray) (hn : s.size ≤ 140737488355328) : ∀ (d i : Nat), i + d = s.size →
    Ev (fun k => spec_LabelOk.l0 k s (i : Int)) (((bytesOf s).drop i).all okB && (decide (1 ≤ s.size) && decide (s.size ≤ 12))) := by
  intro d
  induction d with
  | zero =>
    intro i hi
    refine Ev.step (f := fun _ => some (decide (1 ≤ s.size) && decide (s.size ≤ 12))) (fun k => ?_) ⟨0, fun _ _ => by rw [List.drop_of_length_le (by rw [bytesOf_length]; omega)]; rfl⟩
    simp only [spec_LabelOk.l0]
    rw [if_neg (by omega), l1In_dec]
    have e1 : decide ((1 : Int) ≤ (s.size : Int)) = decide (1 ≤ s.size) := decide_eq_decide.2 (by omega)
    have e2 : decide ((s.size : Int) ≤ 12) = decide (s.size ≤ 12) := decide_eq_decide.2 (by omega)
    rw [e1, e2]
    rfl
  | succ d ih =>
    intro i hi
    have hb := bt_range s i
    have hw := wrap_succ i s.size (by omega) hn
    rw [drop_bytesOf s i (by omega), List.all_cons]
    cases h : okB (bt s i) with
    | true =>
      rw [Bool.true_and]
      refine Ev.step (f := fun k => spec_LabelOk.l0 k s ((i + 1 : Nat) : Int)) (fun k => ?_) (ih (i + 1) (by omega))
      simp only [spec_LabelOk.l0]
      rw [if_pos (by omega), if_pos (by omega), l2Byte_eq _ hb.1 hb.2, h, hw]
      rfl
    | false =>
      refine Ev.step (f := fun _ => some false) (fun k => ?_) ⟨0, fun _ _ => rfl⟩
      simp only [spec_LabelOk.l0]
      rw [if_pos (by omega), if_pos (by omega), l2Byte_eq _ hb.1 hb.2, h]
      rfl
theorem impl_LabelOk_body (c : Int) (x : Option Bool) :
    (if c < 97 then (if c < 48 then (if c = 45 then x else (if c = 95 then x else (some false))) else (if c > 57 then (if c = 45 then x else (if c = 95 then x else (some false))) else x))
      else (if c > 122 then (if c < 48 then (if c = 45 then x else (if c = 95 then x else (some false))) else (if c > 57 then (if c = 45 then x else (if c = 95 then x else (some false))) else x)) else x)) = if okB c = true then x else some false := by
  have hk : okB c = true ↔ (97 ≤ c ∧ c ≤ 122) ∨ (48 ≤ c ∧ c ≤ 57) ∨ c = 45 ∨ c = 95 := by simp [okB, or_assoc]
  by_cases h : okB c = true
  · have h' := hk.1 h
    rw [show (if okB c = true then x else some false) = x from if_pos h]
    repeat' split
    all_goals first | rfl | (exfalso; omega)
  · have h' : ¬ ((97 ≤ c ∧ c ≤ 122) ∨ (48 ≤ c ∧ c ≤ 57) ∨ c = 45 ∨ c = 95) := fun z => h (hk.2 z)
    rw [show (if okB c = true then x else some false) = some false from if_neg h]
    repeat' split
    all_goals first | rfl | (exfalso; omega)
theorem impl_LabelOk_loop (s : ByteArray) (hn : s.size ≤ 140737488355328) : ∀ (d i : Nat), i + d = s.size →
    Ev (fun k => impl_LabelOk.l0 k s (s.size : Int) (i : Int)) (((bytesOf s).drop i).all okB && (decide (1 ≤ s.size) && decide (s.size ≤ 12))) := by
  intro d
  induction d with
  | zero =>
    intro i hi
    refine Ev.step (f := fun _ => some (decide (1 ≤ s.size) && decide (s.size ≤ 12))) (fun k => ?_) ⟨0, fun _ _ => by rw [List.drop_of_length_le (by rw [bytesOf_length]; omega)]; rfl⟩
    simp only [impl_LabelOk.l0]
    rw [if_neg (by omega)]
    have e2 : decide ((s.size : Int) ≤ 12) = decide (s.size ≤ 12) := decide_eq_decide.2 (by omega)
    by_cases h : (s.size : Int) ≥ 1
    · rw [if_pos h, e2, decide_eq_true (show 1 ≤ s.size by omega), Bool.true_and]
    · rw [if_neg h, decide_eq_false (show ¬ 1 ≤ s.size by omega), Bool.false_and]
  | succ d ih =>
    intro i hi
    have hw := wrap_succ i s.size (by omega) hn
    rw [drop_bytesOf s i (by omega), List.all_cons]
    refine Ev.step (f := fun k => if okB (bt s i) = true then impl_LabelOk.l0 k s (s.size : Int) ((i + 1 : Nat) : Int) else some false) (fun k => ?_) ?_
    · simp only [impl_LabelOk.l0]
      rw [if_pos (by omega), if_pos (by omega), if_pos (by omega), hw]
      exact impl_LabelOk_body _ _
    · cases h : okB (bt s i) with
      | true =>
        have := ih (i + 1) (by omega)
        simpa using this
      | false => exact ⟨0, fun _ _ => by simp⟩
theorem spec_LabelOk_eq (s : ByteArray) (hn : s.size ≤ 140737488355328) : Ev (fun k => spec_LabelOk.f k s) (labelOk s) := by
  have := spec_LabelOk_loop s hn s.size 0 (by omega)
  unfold spec_LabelOk.f labelOk
  simpa using this
theorem impl_LabelOk_eq (s : ByteArray) (hn : s.size ≤ 140737488355328) : Ev (fun k => impl_LabelOk.f k s) (labelOk s) := by
  have := impl_LabelOk_loop s hn s.size 0 (by omega)
  unfold impl_LabelOk.f labelOk
  simpa using this
theorem szSs_mem : ∀ (l : List ByteArray) (x : ByteArray), x ∈ l → x.size ≤ szSs l
  | [], x, h => by cases h
  | y :: l, x, h => by
    rw [szSs_cons]
    rcases List.mem_cons.1 h with e | h
    · subst e
      omega
    · have := szSs_mem l x h
      omega
theorem labels_mem_size (s x : ByteArray) (h : x ∈ labelsL s) : x.size ≤ s.size := Nat.le_trans (szSs_mem _ x h) (labelsL_size s)
/-- What NameOk answers. -/
def nameOk (s : ByteArray) : Bool := (labelsL s).all labelOk && (decide (s.size ≤ 50) && decide ((labelsL s).length ≤ 6))
theorem spec_NameOk_loop (s : ByteArray) (l : List ByteArray) (hn : l.length ≤ 140737488351232) (hz : ∀ x ∈ l, x.size ≤ 1048576) : ∀ (d i : Nat), i + d = l.length →
    Ev (fun k => spec_NameOk.l0 k s l (i : Int)) ((l.drop i).all labelOk && (decide (s.size ≤ 50) && decide (l.length ≤ 6))) := by
  intro d
  induction d with
  | zero =>
    intro i hi
    rw [show l.drop i = [] from List.drop_of_length_le (by omega)]
    refine Ev.step (f := fun _ => some (decide (s.size ≤ 50) && decide (l.length ≤ 6))) (fun k => ?_) ⟨0, fun _ _ => rfl⟩
    simp only [spec_NameOk.l0]
    rw [if_neg (by omega)]
    by_cases c : s.size ≤ 50
    · rw [if_pos (by omega), decide_eq_true c, Bool.true_and]
      congr 1
      exact decide_eq_decide.2 (by omega)
    · rw [if_neg (by omega), decide_eq_false c, Bool.false_and]
  | succ d ih =>
    intro i hi
    have hil : i < l.length := by omega
    have w := wrap_succ i l.length hil (by omega)
    rw [List.drop_eq_getElem_cons hil, List.all_cons]
    have hx := hz _ (List.getElem_mem hil)
    refine Ev.step (f := fun k => (spec_LabelOk.f k l[i]).bind fun t => if t = true then spec_NameOk.l0 k s l ((i + 1 : Nat) : Int) else some false) (fun k => ?_) ?_
    · simp only [spec_NameOk.l0]
      rw [if_pos (by omega), if_pos (by omega), rdS_getElem l i hil, w]
    · refine Ev.bind (spec_LabelOk_eq l[i] (by omega)) ?_
      cases h : labelOk l[i] with
      | true =>
        rw [Bool.true_and]
        exact Ev_if rfl (ih (i + 1) (by omega))
      | false => exact Ev_ifn (by decide) ⟨0, fun _ _ => rfl⟩
theorem spec_NameOk_eq (s : ByteArray) (hs : s.size ≤ 1048576) : Ev (fun k => spec_NameOk.f k s) (nameOk s) := by
  unfold spec_NameOk.f nameOk
  have h1 := labelsL_length s
  refine Ev.bind (spec_Labels_eq s hs) ?_
  have := spec_NameOk_loop s (labelsL s) (by omega) (fun x hx => Nat.le_trans (labels_mem_size s x hx) hs) (labelsL s).length 0 (by omega)
  simpa using this
theorem impl_NameOk_1_eq (s : ByteArray) (hs : s.size ≤ 1048576) : Ev (fun k => impl_NameOk_1.f k s) (!labelOk s) := by
  unfold impl_NameOk_1.f
  exact Ev.bind (impl_LabelOk_eq s (by omega)) ⟨0, fun _ _ => rfl⟩
theorem slices_IndexFunc_string_loop (l : List ByteArray) (hn : l.length ≤ 140737488351232) (hz : ∀ x ∈ l, x.size ≤ 1048576) : ∀ (d i : Nat), i + d = l.length →
    ∃ r : Int, Ev (fun k => slices_IndexFunc_string.l0 k l (l.length : Int) (i : Int)) r ∧ decide (r ≥ 0) = !(l.drop i).all labelOk := by
  intro d
  induction d with
  | zero =>
    intro i hi
    rw [show l.drop i = [] from List.drop_of_length_le (by omega)]
    refine ⟨-1, Ev.step (f := fun _ => some (-1)) (fun k => ?_) ⟨0, fun _ _ => rfl⟩, rfl⟩
    simp only [slices_IndexFunc_string.l0]
    rw [if_neg (by omega)]
  | succ d ih =>
    intro i hi
    have hil : i < l.length := by omega
    have w := wrap_succ i l.length hil (by omega)
    rw [List.drop_eq_getElem_cons hil, List.all_cons]
    have hx := hz _ (List.getElem_mem hil)
    obtain ⟨r, hr, hd⟩ := ih (i + 1) (by omega)
    have hs : ∀ k, slices_IndexFunc_string.l0 (k + 1) l (l.length : Int) (i : Int) = (impl_NameOk_1.f k l[i]).bind fun t => if t = true then some (i : Int) else slices_IndexFunc_string.l0 k l (l.length : Int) ((i + 1 : Nat) : Int) := by
      intro k
      simp only [slices_IndexFunc_string.l0]
      rw [if_pos (by omega), if_pos (by omega), if_pos (by omega), rdS_getElem l i hil, w]
    cases h : labelOk l[i] with
    | true =>
      refine ⟨r, Ev.step hs (Ev.bind (impl_NameOk_1_eq l[i] hx) ?_), by rw [hd, Bool.true_and]⟩
      rw [h]
      exact Ev_ifn (by decide) hr
    | false =>
      refine ⟨(i : Int), Ev.step hs (Ev.bind (impl_NameOk_1_eq l[i] hx) ?_), by rw [decide_eq_true (by omega)]; rfl⟩
      rw [h]
      exact Ev_if rfl ⟨0, fun _ _ => rfl⟩
theorem slices_ContainsFunc_string_eq (l : List ByteArray) (hn : l.length ≤ 140737488351232) (hz : ∀ x ∈ l, x.size ≤ 1048576) : Ev (fun k => slices_ContainsFunc_string.f k l) (!l.all labelOk) := by
  unfold slices_ContainsFunc_string.f slices_IndexFunc_string.f
  obtain ⟨r, hr, hd⟩ := slices_IndexFunc_string_loop l hn hz l.length 0 (by omega)
  rw [List.drop_zero] at hd
  rw [← hd]
  exact Ev.bind hr ⟨0, fun _ _ => rfl⟩
theorem impl_NameOk_eq (s : ByteArray) (hs : s.size ≤ 1048576) : Ev (fun k => impl_NameOk.f k s) (nameOk s) := by
  unfold impl_NameOk.f nameOk
  have h1 := labelsL_length s
  rw [impl_Labels_eq s (by omega)]
  simp only [Option.bind_some]
  by_cases c1 : s.size ≤ 50
  · refine Ev_if (by omega) ?_
    rw [decide_eq_true c1, Bool.true_and]
    by_cases c2 : (labelsL s).length ≤ 6
    · refine Ev_if (by omega) ?_
      rw [decide_eq_true c2, Bool.and_true]
      refine Ev.bind (slices_ContainsFunc_string_eq _ (by omega) (fun x hx => Nat.le_trans (labels_mem_size s x hx) hs)) ⟨0, fun _ _ => ?_⟩
      rw [Bool.not_not]
    · refine Ev_ifn (by omega) ?_
      rw [decide_eq_false c2, Bool.and_false]
      exact ⟨0, fun _ _ => rfl⟩
  · refine Ev_ifn (by omega) ?_
    rw [decide_eq_false c1, Bool.false_and, Bool.and_false]
    exact ⟨0, fun _ _ => rfl⟩
theorem Ev_some {α : Type} (x : α) : Ev (fun _ => some x) x := ⟨0, fun _ _ => rfl⟩
theorem Ev_c {α : Type} {o : Option α} {x : α} (h : o = some x) : Ev (fun _ => o) x := ⟨0, fun _ _ => h⟩
theorem and255 (y : Int) : 0 ≤ Go.bits .and .i64 y 255 ∧ Go.bits .and .i64 y 255 ≤ 255 := by
  have h : (BitVec.ofInt 64 y &&& BitVec.ofInt 64 255).toNat ≤ 255 := by
    rw [BitVec.toNat_and]
    exact Nat.le_trans Nat.and_le_right (by decide)
  have e : Go.bits .and .i64 y 255 = IntKind.i64.wrap ((BitVec.ofInt 64 y &&& BitVec.ofInt 64 255).toNat : Int) := rfl
  rw [e, Go.IntKind.wrap_i64]
  omega
/-- A place in a draw's bytes. -/
def CurOk (b : List Int) (i : Int) : Prop := 0 ≤ i ∧ i ≤ (b.length : Int)
/-- A draw that answers: what it draws is so, and the place stays one. -/
def Dr {α : Type} (b : List Int) (f : Option (α × Int × Int)) (P : α → Prop) : Prop := ∃ x j g, f = some (x, j, g) ∧ P x ∧ CurOk b j
theorem l1Byte_dr (b : List Int) (hn : b.length ≤ 140737488351232) (i h : Int) (c : CurOk b i) : Dr b (spec_l1Byte.f b i h) (fun x => 0 ≤ x ∧ x ≤ 255) := by
  unfold spec_l1Byte.f
  obtain ⟨c0, c1⟩ := c
  by_cases q : i < (b.length : Int)
  · rw [if_pos q, if_pos c0]
    have w : wrap64 (i + 1) = i + 1 := wrap_id (by omega) (by omega)
    refine ⟨_, _, _, rfl, and255 _, ?_⟩
    rw [w]
    exact ⟨by omega, by omega⟩
  · rw [if_neg q]
    exact ⟨_, _, _, rfl, and255 _, ⟨c0, c1⟩⟩
theorem tmod_rng (x n : Int) (hx : 0 ≤ x) (hn : 0 < n) : 0 ≤ Int.tmod x n ∧ Int.tmod x n < n := by
  rw [Int.tmod_eq_emod_of_nonneg hx]
  exact ⟨Int.emod_nonneg _ (by omega), Int.emod_lt_of_pos _ hn⟩
theorem l1Below_dr (b : List Int) (hn : b.length ≤ 140737488351232) (i h n : Int) (c : CurOk b i) : Dr b (spec_l1Below.f b i h n) (fun x => 0 ≤ x ∧ (0 < n → x < n) ∧ (n ≤ 0 → x = 0)) := by
  unfold spec_l1Below.f
  by_cases q : n ≤ 0
  · rw [if_pos q]
    exact ⟨_, _, _, rfl, ⟨Int.le_refl _, fun z => by omega, fun _ => rfl⟩, c⟩
  · rw [if_neg q]
    by_cases q2 : n ≤ 256
    · rw [if_pos q2]
      obtain ⟨x, j, g, e, p, c2⟩ := l1Byte_dr b hn i h c
      rw [e]
      simp only [Option.bind_some]
      rw [if_neg (by omega)]
      have t := tmod_rng x n p.1 (by omega)
      exact ⟨_, _, _, rfl, ⟨t.1, fun _ => t.2, fun z => by omega⟩, c2⟩
    · rw [if_neg q2]
      obtain ⟨x, j, g, e, p, c2⟩ := l1Byte_dr b hn i h c
      rw [e]
      simp only [Option.bind_some]
      obtain ⟨x2, j2, g2, e2, p2, c3⟩ := l1Byte_dr b hn j g c2
      rw [e2]
      simp only [Option.bind_some]
      obtain ⟨x3, j3, g3, e3, p3, c4⟩ := l1Byte_dr b hn j2 g2 c3
      rw [e3]
      simp only [Option.bind_some]
      rw [if_neg (by omega)]
      have w1 : wrap64 (x * 65536) = x * 65536 := wrap_id (by omega) (by omega)
      have w2 : wrap64 (x2 * 256) = x2 * 256 := wrap_id (by omega) (by omega)
      have w3 : wrap64 (x * 65536 + x2 * 256) = x * 65536 + x2 * 256 := wrap_id (by omega) (by omega)
      have w4 : wrap64 (x * 65536 + x2 * 256 + x3) = x * 65536 + x2 * 256 + x3 := wrap_id (by omega) (by omega)
      rw [w1, w2, w3, w4]
      have t := tmod_rng (x * 65536 + x2 * 256 + x3) n (by omega) (by omega)
      exact ⟨_, _, _, rfl, ⟨t.1, fun _ => t.2, fun z => by omega⟩, c4⟩
theorem l1Once_dr (b : List Int) (hn : b.length ≤ 140737488351232) (i h n : Int) (c : CurOk b i) : Dr b (spec_l1Once.f b i h n) (fun _ => True) := by
  unfold spec_l1Once.f
  obtain ⟨x, j, g, e, p, c2⟩ := l1Below_dr b hn i h n c
  rw [e]
  exact ⟨_, _, _, rfl, trivial, c2⟩
theorem rdS_mem (l : List ByteArray) (x : Int) (h0 : 0 ≤ x) (h : x < (l.length : Int)) : rdOf ByteArray.empty l x ∈ l := by
  obtain ⟨n, rfl⟩ := Int.eq_ofNat_of_zero_le h0
  rw [rdS_getElem l n (by omega)]
  exact List.getElem_mem _
theorem l1Str_dr (b : List Int) (hn : b.length ≤ 140737488351232) (i h : Int) (l : List ByteArray) (hl : 0 < l.length) (c : CurOk b i) : Dr b (spec_l1Str.f b i h l) (fun x => x ∈ l) := by
  unfold spec_l1Str.f
  obtain ⟨x, j, g, e, p, c2⟩ := l1Below_dr b hn i h (l.length : Int) c
  rw [e]
  simp only [Option.bind_some]
  have := p.2.1 (by omega)
  rw [if_pos p.1, if_pos this]
  exact ⟨_, _, _, rfl, rdS_mem l x p.1 this, c2⟩
theorem l1New_loop (l : List Int) (hn : l.length ≤ 140737488351232) : ∀ (d i : Nat) (h : Int), i + d = l.length → ∃ g, Ev (fun k => spec_l1New.l0 k l h (i : Int)) (l, 0, g) := by
  intro d
  induction d with
  | zero =>
    intro i h hi
    refine ⟨h, Ev.step (f := fun _ => some (l, 0, h)) (fun k => ?_) (Ev_some _)⟩
    simp only [spec_l1New.l0]
    rw [if_neg (by omega)]
  | succ d ih =>
    intro i h hi
    have w := wrap_succ i l.length (by omega) (by omega)
    by_cases q : i < 4000
    · obtain ⟨g, e⟩ := ih (i + 1) (Go.bits .and .i64 (wrap64 ((wrap64 ((wrap64 (h * 137)) + (wrap64 (rd l (i : Int))))) + 11)) 1073741823) (by omega)
      refine ⟨g, Ev.step (fun k => ?_) e⟩
      simp only [spec_l1New.l0]
      rw [if_pos (by omega), if_pos (by omega), if_pos (by omega), w]
    · refine ⟨h, Ev.step (f := fun _ => some (l, 0, h)) (fun k => ?_) (Ev_some _)⟩
      simp only [spec_l1New.l0]
      rw [if_pos (by omega), if_neg (by omega)]
theorem l1New_ev (l : List Int) (hn : l.length ≤ 140737488351232) : ∃ g, Ev (fun k => spec_l1New.f k l) (l, 0, g) := by
  unfold spec_l1New.f
  exact l1New_loop l hn l.length 0 _ (by omega)
theorem cur0 (l : List Int) : CurOk l 0 := ⟨Int.le_refl _, by omega⟩
theorem big_eq (l : List Int) : laws_big.f l = some (decide ((l.length : Int) > 1048576)) := by
  unfold laws_big.f
  rfl
theorem labelOk_size {s : ByteArray} (h : labelOk s = true) : 1 ≤ s.size ∧ s.size ≤ 12 := by
  unfold labelOk at h
  simp only [Bool.and_eq_true, decide_eq_true_eq] at h
  exact h.2
theorem nameOk_all {s : ByteArray} (h : nameOk s = true) : (∀ x ∈ labelsL s, labelOk x = true) ∧ s.size ≤ 50 ∧ (labelsL s).length ≤ 6 := by
  unfold nameOk at h
  simp only [Bool.and_eq_true, decide_eq_true_eq] at h
  exact ⟨fun x hx => List.all_eq_true.1 h.1 x hx, h.2.1, h.2.2⟩
theorem cutA_noDot : ∀ (x acc t : List UInt8), (∀ c ∈ x, c ≠ 46) → cutA acc (x ++ t) = cutA (acc ++ x) t
  | [], acc, t, _ => by simp
  | c :: x, acc, t, h => by
    have hc := h c List.mem_cons_self
    have e := cutA_noDot x (acc ++ [c]) t (fun z hz => h z (List.mem_cons_of_mem _ hz))
    rw [List.cons_append, cutA, if_neg hc, e, List.append_assoc]
    rfl
theorem cut_joinS : ∀ (l : List ByteArray) (x : ByteArray), (∀ y ∈ x :: l, ∀ c ∈ y.data.toList, c ≠ 46) → cutA [] (joinS (x :: l)).data.toList = (x :: l).map (·.data.toList)
  | [], x, h => by
    have e := cutA_noDot x.data.toList [] [] (h x List.mem_cons_self)
    rw [List.append_nil] at e
    show cutA [] x.data.toList = _
    rw [e]
    rfl
  | y :: l, x, h => by
    have ih := cut_joinS l y (fun z hz => h z (List.mem_cons_of_mem _ hz))
    have e := cutA_noDot x.data.toList [] (46 :: (joinS (y :: l)).data.toList) (h x List.mem_cons_self)
    have hd : (joinS (x :: y :: l)).data.toList = x.data.toList ++ 46 :: (joinS (y :: l)).data.toList := by
      rw [joinS, ByteArray.data_append, ByteArray.data_append, Array.toList_append, Array.toList_append]
      rfl
    rw [hd, e, List.nil_append, cutA, if_pos rfl, ih]
    rfl
theorem labelOk_noDot {x : ByteArray} (h : labelOk x = true) : ∀ c ∈ x.data.toList, c ≠ 46 := by
  intro c hc e
  subst e
  unfold labelOk at h
  simp only [Bool.and_eq_true] at h
  have hm : (46 : Int) ∈ bytesOf x := List.mem_map.2 ⟨46, hc, rfl⟩
  have := List.all_eq_true.1 h.1 46 hm
  revert this
  decide
theorem labelOk_ne {x : ByteArray} (h : labelOk x = true) : x.data.toList ≠ [] := by
  have := (labelOk_size h).1
  intro e
  rw [size_data, e] at this
  exact absurd this (by decide)
theorem joinS_ne {x : ByteArray} {l : List ByteArray} (h : x.data.toList ≠ []) : (joinS (x :: l)).data.toList ≠ [] := by
  cases l with
  | nil => exact h
  | cons y l =>
    rw [joinS, ByteArray.data_append, Array.toList_append]
    intro e
    exact h (List.append_eq_nil_iff.1 e).1
/-- The labels of joined labels are they. -/
theorem labels_join (l : List ByteArray) (h : ∀ x ∈ l, labelOk x = true) : labelsL (joinS l) = l := by
  cases l with
  | nil => rfl
  | cons x l =>
    unfold labelsL
    rw [if_neg (joinS_ne (labelOk_ne (h x List.mem_cons_self))), cut_joinS l x (fun y hy => labelOk_noDot (h y hy)), List.map_map]
    exact List.map_id'' (fun y => mkB_data y) _
theorem empty_toList : (⟨#[]⟩ : ByteArray).toList = [] := by
  rw [ByteArray.toList_eq]
theorem above_get : ∀ (ls : List ByteArray) (i : Nat) (h : i < (aboveL ls).length), (aboveL ls)[i] = joinS (ls.drop i)
  | [], i, h => by
    have : i = 0 := by rw [aboveL_length] at h; simp at h; exact h
    subst this
    rfl
  | x :: l, 0, h => rfl
  | x :: l, i + 1, h => by
    have := above_get l i (by rw [aboveL_length] at h ⊢; simp at h; omega)
    simpa [aboveL] using this
theorem joinS_size_eq : ∀ (l : List ByteArray), (joinS l).size = szSs l + (l.length - 1)
  | [] => rfl
  | [x] => by simp [joinS, szSs]
  | x :: y :: l => by
    have ih := joinS_size_eq (y :: l)
    have e : (⟨#[46]⟩ : ByteArray).size = 1 := rfl
    rw [joinS, ByteArray.size_append, ByteArray.size_append, ih, e, szSs_cons x]
    simp only [List.length_cons]
    omega
theorem small_all (l : List ByteArray) (n : Nat) (h : l.all (fun x => decide (x.size ≤ n)) = true) : ∀ x ∈ l, x.size ≤ n := by
  intro x hx
  have := List.all_eq_true.1 h x hx
  rwa [decide_eq_true_eq] at this
/-- The name above. -/
def upN (s : ByteArray) : ByteArray := joinS ((labelsL s).drop 1)
theorem spec_Up_eq (s : ByteArray) (hs : s.size ≤ 1048576) : Ev (fun k => spec_Up.f k s) (upN s) := by
  have hl := labelsL_length s
  have hz := labelsL_size s
  unfold spec_Up.f upN
  refine Ev.bind (spec_Labels_eq s (by omega)) ?_
  generalize labelsL s = x at hl hz ⊢
  by_cases c : (x.length : Int) = 0
  · have e : x = [] := List.eq_nil_of_length_eq_zero (by omega)
    subst e
    exact Ev_if c ⟨0, fun _ _ => rfl⟩
  · refine Ev_ifn c (Ev_if (by omega) ?_)
    have hd := szSs_drop_le x 1
    exact Ev.bind (spec_JoinLabels_eq (x.drop 1) (by rw [List.length_drop]; omega)) (Ev.now _)
theorem impl_Up_eq (s : ByteArray) (hs : s.size ≤ 1048576) : impl_Up.f s = some (upN s) := by
  have hl := labelsL_length s
  have hz := labelsL_size s
  unfold impl_Up.f upN
  rw [impl_Labels_eq s (by omega)]
  simp only [Option.bind_some]
  generalize labelsL s = x at hl hz ⊢
  have hd := szSs_drop_le x 1
  have ej := impl_JoinLabels_eq (x.drop 1) (by rw [List.length_drop]; omega)
  by_cases c : (x.length : Int) < 2
  · rw [if_pos c]
    have e : x.drop 1 = [] := List.drop_of_length_le (by omega)
    rw [e]
    rfl
  · rw [if_neg c, if_pos (show (1 : Int) ≤ (x.length : Int) by omega), ej]
    rfl
theorem impl_PartsOf_eq (s : ByteArray) (hs : s.size ≤ 1048576) : impl_PartsOf.f s = some ((labelsL s).length : Int) := by
  unfold impl_PartsOf.f
  rw [impl_Labels_eq s (by omega)]
  rfl
theorem sameStrs_loop (a : List ByteArray) (hn : a.length ≤ 140737488351232) : ∀ (d i : Nat), i + d = a.length → Ev (fun k => laws_sameStrs.l0 k a a (i : Int)) true := by
  intro d
  induction d with
  | zero =>
    intro i hi
    refine Ev.step (f := fun _ => some true) (fun k => ?_) (Ev_some _)
    simp only [laws_sameStrs.l0]
    rw [if_neg (by omega)]
  | succ d ih =>
    intro i hi
    have w := wrap_succ i a.length (by omega) (by omega)
    refine Ev.step (fun k => ?_) (ih (i + 1) (by omega))
    simp only [laws_sameStrs.l0]
    rw [if_pos (by omega), if_pos (by omega), if_pos (by omega), if_pos trivial, w]
theorem sameStrs_eq (a : List ByteArray) (hn : a.length ≤ 140737488351232) : Ev (fun k => laws_sameStrs.f k a a) true := by
  unfold laws_sameStrs.f
  exact Ev_if rfl (sameStrs_loop a hn a.length 0 (by omega))
theorem l3Name_dr (b : List Int) (hn : b.length ≤ 140737488351232) (i h : Int) (c : CurOk b i) : Dr b (spec_l3Name.f b i h) (fun s => s.size ≤ 60) := by
  unfold spec_l3Name.f
  obtain ⟨x, j, g, e, p, c2⟩ := l1Str_dr b hn i h [(⟨#[]⟩ : ByteArray), (⟨#[99, 111, 109]⟩ : ByteArray), (⟨#[101, 120, 46, 99, 111, 109]⟩ : ByteArray), (⟨#[119, 119, 119, 46, 101, 120, 46, 99, 111, 109]⟩ : ByteArray), (⟨#[110, 115, 46, 101, 120, 46, 99, 111, 109]⟩ : ByteArray), (⟨#[111, 114, 103]⟩ : ByteArray), (⟨#[97, 46, 111, 114, 103]⟩ : ByteArray), (⟨#[98, 46, 97, 46, 111, 114, 103]⟩ : ByteArray), (⟨#[110, 115, 49, 46, 111, 114, 103]⟩ : ByteArray), (⟨#[120, 46, 121, 46, 122, 46, 101, 120, 46, 99, 111, 109]⟩ : ByteArray)] (by simp) c
  rw [e]
  exact ⟨_, _, _, rfl, small_all _ 60 (by decide) x p, c2⟩
theorem l3Any_dr (b : List Int) (hn : b.length ≤ 140737488351232) (i h : Int) (c : CurOk b i) : Dr b (spec_l3Any.f b i h) (fun s => s.size ≤ 60) := by
  unfold spec_l3Any.f
  obtain ⟨x, j, g, e, p, c2⟩ := l1Once_dr b hn i h 5 c
  rw [e]
  simp only [Option.bind_some]
  by_cases q : x = true
  · rw [if_pos q]
    obtain ⟨y, j2, g2, e2, p2, c3⟩ := l1Str_dr b hn j g [(⟨#[46]⟩ : ByteArray), (⟨#[97, 46]⟩ : ByteArray), (⟨#[65, 46, 99, 111, 109]⟩ : ByteArray), (⟨#[97, 46, 46, 98]⟩ : ByteArray), (⟨#[97, 46, 98, 46, 99, 46, 100, 46, 101, 46, 102]⟩ : ByteArray), (⟨#[97, 46, 98, 46, 99, 46, 100, 46, 101, 46, 102, 46, 103]⟩ : ByteArray), (⟨#[116, 119, 101, 108, 118, 101, 98, 121, 116, 101, 115, 48, 46, 116, 119, 101, 108, 118, 101, 98, 121, 116, 101, 115, 48, 46, 116, 119, 101, 108, 118, 101, 98, 121, 116, 101, 115, 48, 46, 116, 119, 101, 108, 118, 101, 98, 121, 116, 101, 115, 48]⟩ : ByteArray), (⟨#[116, 104, 105, 114, 116, 101, 101, 110, 98, 121, 116, 101, 115, 46, 97]⟩ : ByteArray)] (by simp) c2
    rw [e2]
    exact ⟨_, _, _, rfl, small_all _ 60 (by decide) y p2, c3⟩
  · rw [if_neg q]
    obtain ⟨y, j2, g2, e2, p2, c3⟩ := l3Name_dr b hn j g c2
    rw [e2]
    exact ⟨_, _, _, rfl, p2, c3⟩
theorem drawAbove_ev (l : List Int) (hn : l.length ≤ 140737488351232) : ∃ s, Ev (fun k => spec_DrawAbove.f k l) s ∧ s.size ≤ 60 := by
  unfold spec_DrawAbove.f
  obtain ⟨g, e0⟩ := l1New_ev l hn
  obtain ⟨y, j2, g2, e2, p2, c2⟩ := l3Any_dr l hn 0 g (cur0 l)
  exact ⟨y, Ev.bind e0 (Ev.bind (Ev_c e2) (Ev_some _)), p2⟩
theorem above_size (s : ByteArray) (i : Nat) (h : i < (above s).length) : ((above s)[i]).size ≤ 2 * s.size + 2 := by
  have h1 := labelsL_length s
  have h2 := labelsL_size s
  have h3 := szSs_drop_le (labelsL s) i
  have e : (above s)[i] = joinS ((labelsL s).drop i) := above_get (labelsL s) i h
  rw [e, joinS_size_eq, List.length_drop]
  omega
theorem drawUnder_ev (l : List Int) (hn : l.length ≤ 140737488351232) : ∃ a b, Ev (fun k => spec_DrawUnder.f k l) (a, b) ∧ a.size ≤ 200 ∧ b.size ≤ 200 := by
  unfold spec_DrawUnder.f
  obtain ⟨g, e0⟩ := l1New_ev l hn
  obtain ⟨x, j1, g1, e1, p1, c1⟩ := l3Name_dr l hn 0 g (cur0 l)
  obtain ⟨o, j2, g2, e2, _, c2⟩ := l1Once_dr l hn j1 g1 2 c1
  by_cases q : o = true
  · have al := above_length x
    have ll := labelsL_length x
    obtain ⟨n, j3, g3, e3, p3, c3⟩ := l1Below_dr l hn j2 g2 ((above x).length : Int) c2
    have q3 := p3.2.1 (by omega)
    obtain ⟨m, rfl⟩ := Int.eq_ofNat_of_zero_le p3.1
    have asz := above_size x m (by omega)
    refine ⟨x, (above x)[m]'(by omega), Ev.bind e0 (Ev.bind (Ev_c e1) (Ev.bind (Ev_c e2) (Ev_if q (Ev.bind (spec_Above_eq x (by omega)) (Ev.bind (Ev_c e3) (Ev_if p3.1 (Ev_if q3 (Ev_c ?_)))))))), by omega, by omega⟩
    rw [rdS_getElem (above x) m (by omega)]
  · obtain ⟨y, j3, g3, e3, p3, c3⟩ := l3Any_dr l hn j2 g2 c2
    exact ⟨x, y, Ev.bind e0 (Ev.bind (Ev_c e1) (Ev.bind (Ev_c e2) (Ev_ifn q (Ev.bind (Ev_c e3) (Ev_some _))))), by omega, by omega⟩
/-- Whether y is the end of x. -/
def underL (x y : List ByteArray) : Bool := decide (y.length ≤ x.length) && decide (x.drop (x.length - y.length) = y)
theorem rdB_getElem (l : List ByteArray) (i : Nat) (h : i < l.length) : rdOf ByteArray.empty l (i : Int) = l[i] := by
  simp [rdOf, List.getD_eq_getElem?_getD, h]
theorem take_succ_iff {α : Type} [DecidableEq α] (a b : List α) (i : Nat) (ha : i < a.length) (hb : i < b.length) : a.take (i + 1) = b.take (i + 1) ↔ a.take i = b.take i ∧ a[i] = b[i] := by
  rw [← List.take_append_getElem ha, ← List.take_append_getElem hb]
  constructor
  · intro h
    have hl : (a.take i).length = (b.take i).length := by rw [List.length_take, List.length_take]; omega
    have := List.append_inj h hl
    exact ⟨this.1, by simpa using this.2⟩
  · rintro ⟨h1, h2⟩
    rw [h1, h2]
theorem spec_Under_loop (x y : List ByteArray) (hxy : y.length ≤ x.length) (hn : x.length ≤ 140737488351232) : ∀ (d i : Nat), i + d = y.length + 1 → 1 ≤ i →
    Ev (fun k => spec_Under.l0 k x y (i : Int)) (decide ((x.drop (x.length - y.length)).take d = y.take d)) := by
  have hl : (x.drop (x.length - y.length)).length = y.length := by rw [List.length_drop]; omega
  intro d
  induction d with
  | zero =>
    intro i hi h1
    refine Ev.step (f := fun _ => some true) (fun k => ?_) ⟨0, fun _ _ => rfl⟩
    simp only [spec_Under.l0]
    rw [if_neg (by omega)]
  | succ d ih =>
    intro i hi h1
    have w1 : wrap64 ((x.length : Int) - (i : Int)) = ((x.length - y.length + d : Nat) : Int) := by rw [wrap_id (by omega) (by omega)]; omega
    have w2 : wrap64 ((y.length : Int) - (i : Int)) = (d : Int) := by rw [wrap_id (by omega) (by omega)]; omega
    have w3 : wrap64 ((i : Int) + 1) = ((i + 1 : Nat) : Int) := wrap_succ i (i + 1) (by omega) (by omega)
    have hx : x.length - y.length + d < x.length := by omega
    have hy : d < y.length := by omega
    have ht := take_succ_iff (x.drop (x.length - y.length)) y d (by omega) hy
    have he : (x.drop (x.length - y.length))[d]'(by omega) = x[x.length - y.length + d] := by rw [List.getElem_drop]
    rw [he] at ht
    by_cases c : x[x.length - y.length + d] = y[d]
    · have e : decide ((x.drop (x.length - y.length)).take (d + 1) = y.take (d + 1)) = decide ((x.drop (x.length - y.length)).take d = y.take d) := by simp [ht, c]
      rw [e]
      refine Ev.step (f := fun k => spec_Under.l0 k x y ((i + 1 : Nat) : Int)) (fun k => ?_) (ih (i + 1) (by omega) (by omega))
      simp only [spec_Under.l0]
      rw [if_pos (by omega), w1, w2, if_pos (by omega), if_pos (by omega), if_pos (by omega), if_pos (by omega), rdB_getElem x _ hx, rdB_getElem y d hy, if_pos (by rw [c]), w3]
    · have e : decide ((x.drop (x.length - y.length)).take (d + 1) = y.take (d + 1)) = false := by simp [ht, c]
      rw [e]
      refine Ev.step (f := fun _ => some false) (fun k => ?_) ⟨0, fun _ _ => rfl⟩
      simp only [spec_Under.l0]
      rw [if_pos (by omega), w1, w2, if_pos (by omega), if_pos (by omega), if_pos (by omega), if_pos (by omega), rdB_getElem x _ hx, rdB_getElem y d hy, if_neg (fun h => c (toList_inj.1 h))]
theorem slices_Equal_string_loop (a b : List ByteArray) (hab : a.length = b.length) (hn : a.length ≤ 140737488351232) : ∀ (d i : Nat), i + d = a.length →
    Ev (fun k => slices_Equal_string.l0 k a b (a.length : Int) (i : Int)) (decide (a.drop i = b.drop i)) := by
  intro d
  induction d with
  | zero =>
    intro i hi
    rw [List.drop_of_length_le (by omega), List.drop_of_length_le (by omega)]
    refine Ev.step (f := fun _ => some true) (fun k => ?_) ⟨0, fun _ _ => rfl⟩
    simp only [slices_Equal_string.l0]
    rw [if_neg (by omega)]
  | succ d ih =>
    intro i hi
    have ha : i < a.length := by omega
    have hb : i < b.length := by omega
    have w3 : wrap64 ((i : Int) + 1) = ((i + 1 : Nat) : Int) := wrap_succ i a.length (by omega) (by omega)
    rw [List.drop_eq_getElem_cons ha, List.drop_eq_getElem_cons hb]
    by_cases c : a[i] = b[i]
    · have e : decide (a[i] :: a.drop (i + 1) = b[i] :: b.drop (i + 1)) = decide (a.drop (i + 1) = b.drop (i + 1)) := decide_eq_decide.2 ⟨fun h => (List.cons.inj h).2, fun h => by rw [h, c]⟩
      rw [e]
      refine Ev.step (f := fun k => slices_Equal_string.l0 k a b (a.length : Int) ((i + 1 : Nat) : Int)) (fun k => ?_) (ih (i + 1) (by omega))
      simp only [slices_Equal_string.l0]
      rw [if_pos (by omega), if_pos (by omega), if_pos (by omega), if_pos (by omega), rdB_getElem a i ha, rdB_getElem b i hb, if_pos (by rw [c]), w3]
    · have e : decide (a[i] :: a.drop (i + 1) = b[i] :: b.drop (i + 1)) = false := decide_eq_false (fun h => c (List.cons.inj h).1)
      rw [e]
      refine Ev.step (f := fun _ => some false) (fun k => ?_) ⟨0, fun _ _ => rfl⟩
      simp only [slices_Equal_string.l0]
      rw [if_pos (by omega), if_pos (by omega), if_pos (by omega), if_pos (by omega), rdB_getElem a i ha, rdB_getElem b i hb, if_neg (fun h => c (toList_inj.1 h))]
theorem slices_Equal_string_eq (a b : List ByteArray) (hn : a.length ≤ 140737488351232) : Ev (fun k => slices_Equal_string.f k a b) (decide (a = b)) := by
  unfold slices_Equal_string.f
  by_cases h : a.length = b.length
  · have h' : (a.length : Int) = (b.length : Int) := by omega
    simp only [if_pos h']
    have := slices_Equal_string_loop a b h hn a.length 0 (by omega)
    simpa using this
  · have h' : ¬ (a.length : Int) = (b.length : Int) := by omega
    simp only [if_neg h']
    have e : decide (a = b) = false := decide_eq_false (fun e => h (by rw [e]))
    rw [e]
    exact ⟨0, fun _ _ => rfl⟩
theorem spec_Under_eq (a b : ByteArray) (ha : a.size ≤ 1048576) (hb : b.size ≤ 1048576) : Ev (fun k => spec_Under.f k a b) (underL (labelsL a) (labelsL b)) := by
  have h1 := labelsL_length a
  have h2 := labelsL_length b
  unfold spec_Under.f
  refine Ev.bind (spec_Labels_eq a ha) (Ev.bind (spec_Labels_eq b hb) ?_)
  generalize labelsL a = x at h1 ⊢
  generalize labelsL b = y at h2 ⊢
  by_cases c : y.length ≤ x.length
  · have c' : ¬ (y.length : Int) > (x.length : Int) := by omega
    simp only [if_neg c']
    have := spec_Under_loop x y c (by omega) y.length 1 (by omega) (by omega)
    rw [List.take_of_length_le (show (x.drop (x.length - y.length)).length ≤ y.length by rw [List.length_drop]; omega), List.take_length] at this
    unfold underL
    rw [decide_eq_true c, Bool.true_and]
    exact this
  · have c' : (y.length : Int) > (x.length : Int) := by omega
    simp only [if_pos c']
    unfold underL
    rw [decide_eq_false c, Bool.false_and]
    exact ⟨0, fun _ _ => rfl⟩
theorem impl_Under_eq (a b : ByteArray) (ha : a.size ≤ 1048576) (hb : b.size ≤ 1048576) : Ev (fun k => impl_Under.f k a b) (underL (labelsL a) (labelsL b)) := by
  have h1 := labelsL_length a
  have h2 := labelsL_length b
  unfold impl_Under.f
  rw [impl_Labels_eq a (by omega), impl_Labels_eq b (by omega)]
  simp only [Option.bind_some]
  generalize labelsL a = x at h1 ⊢
  generalize labelsL b = y at h2 ⊢
  by_cases c : y.length ≤ x.length
  · have c' : (x.length : Int) ≥ (y.length : Int) := by omega
    have w : wrap64 ((x.length : Int) - (y.length : Int)) = ((x.length - y.length : Nat) : Int) := by rw [wrap_id (by omega) (by omega)]; omega
    have p1 : (0 : Int) ≤ ((x.length - y.length : Nat) : Int) := by omega
    have p2 : ((x.length - y.length : Nat) : Int) ≤ (x.length : Int) := by omega
    simp only [if_pos c', w, if_pos p1, if_pos p2, Int.toNat_natCast]
    unfold underL
    rw [decide_eq_true c, Bool.true_and]
    exact Ev.bind (slices_Equal_string_eq _ y (by rw [List.length_drop]; omega)) (Ev.now _)
  · have c' : ¬ (x.length : Int) ≥ (y.length : Int) := by omega
    simp only [if_neg c']
    unfold underL
    rw [decide_eq_false c, Bool.false_and]
    exact ⟨0, fun _ _ => rfl⟩
theorem under_refl (x : List ByteArray) : underL x x = true := by
  unfold underL
  simp
theorem under_antisymm (a b : ByteArray) (h1 : underL (labelsL a) (labelsL b) = true) (h2 : underL (labelsL b) (labelsL a) = true) : a = b := by
  unfold underL at h1 h2
  rw [Bool.and_eq_true, decide_eq_true_eq, decide_eq_true_eq] at h1 h2
  have e : (labelsL a).length - (labelsL b).length = 0 := by omega
  have h3 := h1.2
  rw [e, List.drop_zero] at h3
  exact labelsL_inj h3
theorem under_parts {x y : List ByteArray} (h : underL x y = true) : y.length ≤ x.length := by
  unfold underL at h
  rw [Bool.and_eq_true, decide_eq_true_eq] at h
  exact h.1
theorem under_drop (x : List ByteArray) (i : Nat) (h : i ≤ x.length) : underL x (x.drop i) = true := by
  unfold underL
  rw [List.length_drop, decide_eq_true (by omega), Bool.true_and]
  apply decide_eq_true
  congr 1
  omega

end Go.Proofs.YtbohkphbgkgaeaaDoor.Lem
