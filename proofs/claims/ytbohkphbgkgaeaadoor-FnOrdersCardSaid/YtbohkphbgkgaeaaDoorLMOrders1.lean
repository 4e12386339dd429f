/- Lemmas on the printed functions, of this session. -/
import Derived.Test.YtbohkphbgkgaeaaDoorY
import Derived.Test.YtbohkphbgkgaeaaDoorPrx0
import Derived.Test.YtbohkphbgkgaeaaDoorPrx1
import Derived.Test.YtbohkphbgkgaeaaDoorPrx2
import Derived.Test.YtbohkphbgkgaeaaDoorPrx3
namespace Go.Proofs.YtbohkphbgkgaeaaDoor.Lem
open Go.RowKit Go.Proofs.YtbohkphbgkgaeaaDoor.Pr Go.Proofs.YtbohkphbgkgaeaaDoor.X Go.Proofs.YtbohkphbgkgaeaaDoor.Y Go.Proofs.YtbohkphbgkgaeaaDoorW.PrintWords Go.Proofs.YtbohkphbgkgaeaaDoorW.PrintLast Go.Proofs.YtbohkphbgkgaeaaDoorW.PrintMore
set_option linter.unusedVariables false
set_option linter.unusedSimpArgs false
theorem rdS_getElem (l : List ByteArray) (i : Nat) (h : i < l.length) : rdOf ByteArray.empty l i = l[i] := by
  unfold rdOf
  rw [Int.toNat_natCast, List.getD_eq_getElem?_getD, List.getElem?_eq_getElem h, Option.getD_some]
/-- How many bytes a list of strings holds. -/
def szSs (l : List ByteArray) : Nat := (l.map ByteArray.size).sum
/-- Strings with a dot between them. -/
def joinS : List ByteArray → ByteArray
  | [] => (⟨#[]⟩ : ByteArray)
  | [x] => x
  | x :: y :: l => x ++ ((⟨#[46]⟩ : ByteArray) ++ joinS (y :: l))
theorem joinS_cons (x : ByteArray) (l : List ByteArray) (h : l ≠ []) : joinS (x :: l) = x ++ ((⟨#[46]⟩ : ByteArray) ++ joinS l) := by
  cases l with
  | nil => exact absurd rfl h
  | cons y l => rfl
theorem empty_append (s : ByteArray) : (⟨#[]⟩ : ByteArray) ++ s = s := by
  apply ByteArray.ext
  rw [ByteArray.data_append]
  simp
theorem szSs_drop (l : List ByteArray) (i : Nat) (h : i < l.length) : szSs (l.drop i) = l[i].size + szSs (l.drop (i + 1)) := by
  unfold szSs
  rw [List.drop_eq_getElem_cons h, List.map_cons, List.sum_cons]
theorem spec_JoinLabels_loop (l : List ByteArray) (hn : l.length ≤ 140737488355328) : ∀ (d i : Nat) (s : ByteArray), i + d = l.length → (0 < i ∨ s = (⟨#[]⟩ : ByteArray)) → s.size + szSs (l.drop i) + d ≤ 281474976710656 →
    Ev (fun k => spec_JoinLabels.l0 k l s (i : Int)) (if i = 0 then joinS l else if l.drop i = [] then s else s ++ ((⟨#[46]⟩ : ByteArray) ++ joinS (l.drop i))) := by
  intro d
  induction d with
  | zero =>
    intro i s hi hs hsz
    refine Ev.step (f := fun _ => some s) (fun k => ?_) ⟨0, fun _ _ => ?_⟩
    · simp only [spec_JoinLabels.l0]
      rw [if_neg (by omega)]
    · rw [List.drop_of_length_le (by omega), if_pos rfl]
      by_cases z : i = 0
      · subst z
        have hl : l = [] := List.eq_nil_of_length_eq_zero (by omega)
        subst hl
        rcases hs with h | h
        · exact absurd h (Nat.lt_irrefl _)
        · rw [if_pos rfl, h]
          rfl
      · rw [if_neg z]
  | succ d ih =>
    intro i s hi hs hsz
    have hil : i < l.length := by omega
    have hw := wrap_succ i l.length hil hn
    have hd : l.drop i = l[i] :: l.drop (i + 1) := List.drop_eq_getElem_cons hil
    have hdz := szSs_drop l i hil
    have e1 : (⟨#[46]⟩ : ByteArray).size = 1 := rfl
    by_cases z : i = 0
    · subst z
      have hs' : s = (⟨#[]⟩ : ByteArray) := hs.resolve_left (Nat.lt_irrefl _)
      subst hs'
      have e0 : (⟨#[]⟩ : ByteArray).size = 0 := rfl
      simp only [Nat.zero_add] at hdz
      have := ih 1 l[0] (by omega) (.inl (by decide)) (by omega)
      rw [if_neg (by decide)] at this
      rw [if_pos rfl]
      have hj : joinS l = if l.drop 1 = [] then l[0] else l[0] ++ ((⟨#[46]⟩ : ByteArray) ++ joinS (l.drop 1)) := by
        clear this ih hdz hd hsz hi hw
        cases l with
        | nil => exact absurd hil (by simp)
        | cons x rest =>
          show joinS (x :: rest) = if rest = [] then x else x ++ ((⟨#[46]⟩ : ByteArray) ++ joinS rest)
          by_cases q : rest = []
          · rw [if_pos q, q]
            rfl
          · rw [if_neg q]
            exact joinS_cons _ _ q
      rw [hj]
      refine Ev.step (f := fun k => spec_JoinLabels.l0 k l l[0] ((1 : Nat) : Int)) (fun k => ?_) this
      simp only [spec_JoinLabels.l0]
      rw [if_pos (by omega), if_neg (by omega), if_pos (by omega)]
      have er := rdS_getElem l 0 hil
      rw [er, if_pos (by omega), empty_append, hw]
    · rw [if_neg z, hd, if_neg (List.cons_ne_nil _ _)]
      have hsz2 : ((s ++ (⟨#[46]⟩ : ByteArray)) ++ l[i]).size = s.size + 1 + l[i].size := by rw [ByteArray.size_append, ByteArray.size_append, e1]
      have := ih (i + 1) ((s ++ (⟨#[46]⟩ : ByteArray)) ++ l[i]) (by omega) (.inl (by omega)) (by omega)
      rw [if_neg (by omega)] at this
      have hj : (if l.drop (i + 1) = [] then (s ++ (⟨#[46]⟩ : ByteArray)) ++ l[i] else ((s ++ (⟨#[46]⟩ : ByteArray)) ++ l[i]) ++ ((⟨#[46]⟩ : ByteArray) ++ joinS (l.drop (i + 1)))) = s ++ ((⟨#[46]⟩ : ByteArray) ++ joinS (l[i] :: l.drop (i + 1))) := by
        by_cases q : l.drop (i + 1) = []
        · rw [if_pos q, q, ByteArray.append_assoc]
          rfl
        · rw [if_neg q, joinS_cons _ _ q, @ByteArray.append_assoc (s ++ (⟨#[46]⟩ : ByteArray)), @ByteArray.append_assoc s]
      rw [hj] at this
      refine Ev.step (f := fun k => spec_JoinLabels.l0 k l ((s ++ (⟨#[46]⟩ : ByteArray)) ++ l[i]) ((i + 1 : Nat) : Int)) (fun k => ?_) this
      simp only [spec_JoinLabels.l0]
      rw [if_pos (by omega), if_pos (by omega), if_pos (by omega), if_pos (by omega), rdS_getElem l i hil, if_pos (by rw [ByteArray.size_append, e1]; omega), hw]
theorem spec_JoinLabels_eq (l : List ByteArray) (h : szSs l + l.length ≤ 140737488355328) : Ev (fun k => spec_JoinLabels.f k l) (joinS l) := by
  have := spec_JoinLabels_loop l (by omega) l.length 0 (⟨#[]⟩ : ByteArray) (by omega) (.inr rfl) (by rw [List.drop_zero, show (⟨#[]⟩ : ByteArray).size = 0 from rfl]; omega)
  rw [if_pos rfl] at this
  unfold spec_JoinLabels.f
  simpa using this
/-- What stands between the dots of a list of bytes; 'acc' stands ahead of it. -/
def cutA : List UInt8 → List UInt8 → List (List UInt8)
  | acc, [] => [acc]
  | acc, c :: t => if c = 46 then acc :: cutA [] t else cutA (acc ++ [c]) t
def mkB (l : List UInt8) : ByteArray := ⟨l.toArray⟩
theorem mkB_data (s : ByteArray) : mkB s.data.toList = s := rfl
/-- The labels of a name. -/
def labelsL (s : ByteArray) : List ByteArray := if s.data.toList = [] then [] else (cutA [] s.data.toList).map mkB
theorem cutA_acc : ∀ (t acc : List UInt8), cutA acc t = match cutA [] t with | [] => [] | x :: r => (acc ++ x) :: r
  | [], acc => by simp [cutA]
  | c :: t, acc => by
    by_cases h : c = 46
    · simp [cutA, h]
    · have e1 := cutA_acc t (acc ++ [c])
      have e2 := cutA_acc t ([] ++ [c])
      simp only [cutA, if_neg h]
      rw [e1, e2]
      cases cutA [] t with
      | nil => rfl
      | cons x r => simp [List.append_assoc]
theorem split_cut : ∀ (l : List UInt8), Lib.splitK [46] 0 (l.count 46) l = cutA [] l
  | [] => rfl
  | c :: t => by
    have ih := split_cut t
    by_cases h : c = 46
    · subst h
      rw [List.count_cons_self]
      simp only [Lib.splitK, cutA, if_true]
      rw [Lib.index_one]
      simp only [Lib.indexByte]
      simp [ih]
    · rw [List.count_cons_of_ne (by simpa using h)]
      have e2 := cutA_acc t ([] ++ [c])
      simp only [cutA, if_neg h]
      rw [e2, ← ih]
      have hb : (c == 46) = false := by simpa using h
      cases hk : t.count 46 with
      | zero => simp [Lib.splitK]
      | succ k =>
        simp only [Lib.splitK]
        rw [Lib.index_one, Lib.index_one]
        simp only [Lib.indexByte, hb]
        have hge := Lib.indexByte_ge t 46
        by_cases hi : Lib.indexByte t 46 = -1
        · simp [hi]
        · have h1 : (Lib.indexByte t 46 == -1) = false := by simpa using hi
          have h2 : (Lib.indexByte t 46 + 1 == -1) = false := by simp; omega
          have h3 : (Lib.indexByte t 46 + 1).toNat = (Lib.indexByte t 46).toNat + 1 := by omega
          simp only [h1, h2, h3, Bool.false_eq_true, if_false]
          simp [List.take_succ_cons, Nat.add_right_comm]
theorem impl_Labels_eq (s : ByteArray) (hs : s.size < 4294967281) : impl_Labels.f s = some (labelsL s) := by
  unfold impl_Labels.f labelsL
  rw [ByteArray.toList_eq]
  by_cases h : s.data.toList = []
  · rw [if_pos h, if_pos h]
  · rw [if_neg h, if_neg h]
    have e : strings_Split.f s (⟨#[46]⟩ : ByteArray) = some (Lib.splitB ⟨#[46]⟩ 0 (Lib.countB s ⟨#[46]⟩) s) := by
      unfold strings_Split.f
      exact if_pos ⟨rfl, hs⟩
    rw [e]
    simp only [Option.bind_some]
    congr 1
    have d := Lib.splitB_data ⟨#[46]⟩ 0 (Lib.countB s ⟨#[46]⟩) s
    have k : Lib.countB s ⟨#[46]⟩ = s.data.toList.count 46 := Lib.count_one 46 s.data.toList
    rw [k] at d ⊢
    have d2 : (Lib.splitB ⟨#[46]⟩ 0 (s.data.toList.count 46) s).map (·.data.toList) = cutA [] s.data.toList := d.trans (split_cut _)
    rw [← d2, List.map_map]
    exact (List.map_id'' (fun x => mkB_data x) _).symm
theorem extract_mkB (s : ByteArray) (f i : Nat) : s.extract f i = mkB ((s.data.toList.take i).drop f) := by
  have h : (s.extract f i).data.toList = (s.data.toList.take i).drop f := by
    rw [ByteArray.data_extract, Array.toList_extract, List.extract_eq_take_drop, List.drop_take]
  rw [← mkB_data (s.extract f i), h]
theorem bt_data (s : ByteArray) (i : Nat) (h : i < s.data.toList.length) : (bt s (i : Int) = 46) ↔ s.data.toList[i] = 46 := by
  have h' : (i : Int).toNat < s.size := by simpa using h
  have e := bt_at s (i : Int) h'
  have e2 : s[(i : Int).toNat]'h' = s.data.toList[i] := by
    rw [Array.getElem_toList]
    rfl
  rw [← e, e2, ← UInt8.toNat_inj]
  have t : UInt8.toNat 46 = 46 := rfl
  generalize s.data.toList[i].toNat = z
  generalize UInt8.toNat 46 = z' at t ⊢
  omega
theorem size_data (s : ByteArray) : s.size = s.data.toList.length := rfl
theorem spec_Labels_loop (s : ByteArray) (hn : s.size ≤ 1048576) (hne : s.toList ≠ []) : ∀ (d i f : Nat) (out : List ByteArray), i + d = s.size → f ≤ i → out.length ≤ i →
    Ev (fun k => spec_Labels.l0 k s out (f : Int) (i : Int)) (out ++ (cutA ((s.data.toList.take i).drop f) (s.data.toList.drop i)).map mkB) := by
  have hz := size_data s
  have hb : (s.toList != ([] : List UInt8)) = true := bne_iff_ne.2 hne
  intro d
  induction d with
  | zero =>
    intro i f out hi hf ho
    have w : wrap64 ((i : Int) + 1) = ((i + 1 : Nat) : Int) := wrap_succ i 1048577 (by omega) (by omega)
    have hx : s.extract f i = mkB ((s.data.toList.take i).drop f) := extract_mkB s f i
    refine Ev.step (f := fun k => spec_Labels.j1 k s out (f : Int) (i : Int) true) (fun k => ?_) ?_
    · simp only [spec_Labels.l0]
      rw [if_pos (by omega), hb]
    refine Ev.step (f := fun k => spec_Labels.l0 k s (out ++ [mkB ((s.data.toList.take i).drop f)]) ((i + 1 : Nat) : Int) ((i + 1 : Nat) : Int)) (fun k => ?_) ?_
    · simp only [spec_Labels.j1, if_true]
      rw [if_pos (by omega), if_pos (by omega), if_pos (by omega), if_pos (by omega), if_pos (by omega), w, Int.toNat_natCast, Int.toNat_natCast, hx]
    refine Ev.step (f := fun k => spec_Labels.j1 k s (out ++ [mkB ((s.data.toList.take i).drop f)]) ((i + 1 : Nat) : Int) ((i + 1 : Nat) : Int) false) (fun k => ?_) ?_
    · simp only [spec_Labels.l0]
      rw [if_neg (by omega)]
    refine Ev.step (f := fun _ => some (out ++ [mkB ((s.data.toList.take i).drop f)])) (fun k => ?_) ⟨0, fun _ _ => ?_⟩
    · simp only [spec_Labels.j1]
      rw [if_neg (by decide)]
    · rw [show s.data.toList.drop i = [] from List.drop_of_length_le (by omega)]
      rfl
  | succ d ih =>
    intro i f out hi hf ho
    have hil : i < s.data.toList.length := by omega
    have w : wrap64 ((i : Int) + 1) = ((i + 1 : Nat) : Int) := wrap_succ i 1048577 (by omega) (by omega)
    have hx : s.extract f i = mkB ((s.data.toList.take i).drop f) := extract_mkB s f i
    rw [List.drop_eq_getElem_cons hil]
    refine Ev.step (f := fun k => spec_Labels.j1 k s out (f : Int) (i : Int) true) (fun k => ?_) ?_
    · simp only [spec_Labels.l0]
      rw [if_pos (by omega), hb]
    by_cases c : s.data.toList[i] = 46
    · have cb := (bt_data s i hil).2 c
      have := ih (i + 1) (i + 1) (out ++ [mkB ((s.data.toList.take i).drop f)]) (by omega) (by omega) (by simp; omega)
      have e0 : (s.data.toList.take (i + 1)).drop (i + 1) = [] := List.drop_of_length_le (by rw [List.length_take]; omega)
      rw [e0] at this
      refine Ev.step (f := fun k => spec_Labels.l0 k s (out ++ [mkB ((s.data.toList.take i).drop f)]) ((i + 1 : Nat) : Int) ((i + 1 : Nat) : Int)) (fun k => ?_) ?_
      · simp only [spec_Labels.j1, if_true]
        rw [if_neg (by omega), if_pos (by omega), if_pos (by omega), if_pos cb, if_pos (by omega), if_pos (by omega), if_pos (by omega), if_pos (by omega), w, Int.toNat_natCast, Int.toNat_natCast, hx]
      · simp only [cutA, if_pos c, List.map_cons]
        rw [List.append_assoc] at this
        exact this
    · have cb : ¬ bt s (i : Int) = 46 := fun e => c ((bt_data s i hil).1 e)
      have := ih (i + 1) f out (by omega) (by omega) (by omega)
      have e0 : (s.data.toList.take (i + 1)).drop f = (s.data.toList.take i).drop f ++ [s.data.toList[i]] := by
        rw [← List.take_append_getElem hil, List.drop_append_of_le_length (by rw [List.length_take]; omega)]
      rw [e0] at this
      refine Ev.step (f := fun k => spec_Labels.l0 k s out (f : Int) ((i + 1 : Nat) : Int)) (fun k => ?_) ?_
      · simp only [spec_Labels.j1, if_true]
        rw [if_neg (by omega), if_pos (by omega), if_pos (by omega), if_neg cb, w]
      · simp only [cutA, if_neg c]
        exact this
theorem spec_Labels_eq (s : ByteArray) (hn : s.size ≤ 1048576) : Ev (fun k => spec_Labels.f k s) (labelsL s) := by
  unfold spec_Labels.f labelsL
  by_cases h : s.data.toList = []
  · rw [if_pos h]
    have hb : (s.toList != ([] : List UInt8)) = false := by rw [ByteArray.toList_eq, h]; rfl
    refine Ev.step (f := fun k => spec_Labels.j1 k s [] 0 0 false) (fun k => ?_) ?_
    · simp only [spec_Labels.l0]
      rw [if_pos (by omega), hb]
    refine Ev.step (f := fun _ => some []) (fun k => ?_) ⟨0, fun _ _ => rfl⟩
    simp only [spec_Labels.j1]
    rw [if_neg (by decide)]
  · rw [if_neg h]
    have := spec_Labels_loop s hn (by rw [ByteArray.toList_eq]; exact h) s.size 0 0 [] (by omega) (by omega) (by simp)
    simpa using this
theorem cutA_length : ∀ (t acc : List UInt8), (cutA acc t).length ≤ t.length + 1
  | [], _ => Nat.le_refl _
  | c :: t, acc => by
    unfold cutA
    split
    · have := cutA_length t []
      simp only [List.length_cons]
      omega
    · have := cutA_length t (acc ++ [c])
      simp only [List.length_cons]
      omega
theorem labelsL_length (s : ByteArray) : (labelsL s).length ≤ s.size + 1 := by
  unfold labelsL
  split
  · simp
  · rw [List.length_map, size_data]
    exact cutA_length _ _
/-- A name and all above it, given its labels. -/
def aboveL : List ByteArray → List ByteArray
  | [] => [(⟨#[]⟩ : ByteArray)]
  | x :: l => joinS (x :: l) :: aboveL l
/-- What Above returns. -/
def above (s : ByteArray) : List ByteArray := aboveL (labelsL s)
theorem Ev_if {α : Type} {c : Prop} [Decidable c] {f g : Nat → Option α} {x : α} (h : c) (h1 : Ev f x) : Ev (fun k => if c then f k else g k) x := by
  simp only [if_pos h]
  exact h1
theorem Ev_ifn {α : Type} {c : Prop} [Decidable c] {f g : Nat → Option α} {x : α} (h : ¬ c) (h1 : Ev g x) : Ev (fun k => if c then f k else g k) x := by
  simp only [if_neg h]
  exact h1
theorem szSs_cons (x : ByteArray) (l : List ByteArray) : szSs (x :: l) = x.size + szSs l := by
  unfold szSs
  rw [List.map_cons, List.sum_cons]
theorem szSs_nil : szSs [] = 0 := rfl
theorem cutA_size : ∀ (t acc : List UInt8), szSs ((cutA acc t).map mkB) ≤ acc.length + t.length
  | [], acc => by
    have e : (mkB acc).size = acc.length := rfl
    simp only [cutA, List.map_cons, List.map_nil, szSs_cons, szSs_nil, e, List.length_nil]
    omega
  | c :: t, acc => by
    unfold cutA
    split
    · have := cutA_size t []
      have e : (mkB acc).size = acc.length := rfl
      simp only [List.length_nil] at this
      simp only [List.map_cons, szSs_cons, e, List.length_cons]
      omega
    · have := cutA_size t (acc ++ [c])
      simp only [List.length_append, List.length_cons, List.length_nil] at this ⊢
      omega
theorem labelsL_size (s : ByteArray) : szSs (labelsL s) ≤ s.size := by
  unfold labelsL
  split
  · rw [szSs_nil]
    omega
  · have := cutA_size s.data.toList []
    rw [size_data]
    simpa using this
theorem szSs_drop_le : ∀ (l : List ByteArray) (i : Nat), szSs (l.drop i) ≤ szSs l
  | [], i => by simp
  | x :: l, 0 => Nat.le_refl _
  | x :: l, i + 1 => by
    have := szSs_drop_le l i
    simp only [List.drop_succ_cons, szSs_cons]
    omega
theorem Ev_some {α : Type} (x : α) : Ev (fun _ => some x) x := ⟨0, fun _ _ => rfl⟩
theorem Ev_ret {α : Type} {f : Nat → Option α} {x : α} (h : Ev f x) : Ev (fun k => (f k).bind fun t => some t) x := Ev.bind h (Ev_some x)
theorem Ev_c {α : Type} {o : Option α} {x : α} (h : o = some x) : Ev (fun _ => o) x := ⟨0, fun _ _ => h⟩
theorem and255 (y : Int) : 0 ≤ Go.bits .and .i64 y 255 ∧ Go.bits .and .i64 y 255 ≤ 255 := by
  have h : (BitVec.ofInt 64 y &&& BitVec.ofInt 64 255).toNat ≤ 255 := by
    rw [BitVec.toNat_and]
    exact Nat.le_trans Nat.and_le_right (by decide)
  have e : Go.bits .and .i64 y 255 = IntKind.i64.wrap ((BitVec.ofInt 64 y &&& BitVec.ofInt 64 255).toNat : Int) := rfl
  rw [e, Go.IntKind.wrap_i64]
  omega
/-- A place in a draw's bytes. -/
def CurOk (b : List Int) (i : Int) : Prop := 0 ≤ i ∧ i ≤ (b.length : Int)
/-- A draw that answers: what it draws is so, and the place stays one. -/
def Dr {α : Type} (b : List Int) (f : Option (α × Int × Int)) (P : α → Prop) : Prop := ∃ x j g, f = some (x, j, g) ∧ P x ∧ CurOk b j
theorem l1Byte_dr (b : List Int) (hn : b.length ≤ 140737488351232) (i h : Int) (c : CurOk b i) : Dr b (spec_l1Byte.f b i h) (fun x => 0 ≤ x ∧ x ≤ 255) := by
  unfold spec_l1Byte.f
  obtain ⟨c0, c1⟩ := c
  by_cases q : i < (b.length : Int)
  · rw [if_pos q, if_pos c0]
    have w : wrap64 (i + 1) = i + 1 := wrap_id (by omega) (by omega)
    refine ⟨_, _, _, rfl, and255 _, ?_⟩
    rw [w]
    exact ⟨by omega, by omega⟩
  · rw [if_neg q]
    exact ⟨_, _, _, rfl, and255 _, ⟨c0, c1⟩⟩
theorem tmod_rng (x n : Int) (hx : 0 ≤ x) (hn : 0 < n) : 0 ≤ Int.tmod x n ∧ Int.tmod x n < n := by
  rw [Int.tmod_eq_emod_of_nonneg hx]
  exact ⟨Int.emod_nonneg _ (by omega), Int.emod_lt_of_pos _ hn⟩
theorem l1Below_dr (b : List Int) (hn : b.length ≤ 140737488351232) (i h n : Int) (c : CurOk b i) : Dr b (spec_l1Below.f b i h n) (fun x => 0 ≤ x ∧ (0 < n → x < n) ∧ (n ≤ 0 → x = 0)) := by
  unfold spec_l1Below.f
  by_cases q : n ≤ 0
  · rw [if_pos q]
    exact ⟨_, _, _, rfl, ⟨Int.le_refl _, fun z => by omega, fun _ => rfl⟩, c⟩
  · rw [if_neg q]
    by_cases q2 : n ≤ 256
    · rw [if_pos q2]
      obtain ⟨x, j, g, e, p, c2⟩ := l1Byte_dr b hn i h c
      rw [e]
      simp only [Option.bind_some]
      rw [if_neg (by omega)]
      have t := tmod_rng x n p.1 (by omega)
      exact ⟨_, _, _, rfl, ⟨t.1, fun _ => t.2, fun z => by omega⟩, c2⟩
    · rw [if_neg q2]
      obtain ⟨x, j, g, e, p, c2⟩ := l1Byte_dr b hn i h c
      rw [e]
      simp only [Option.bind_some]
      obtain ⟨x2, j2, g2, e2, p2, c3⟩ := l1Byte_dr b hn j g c2
      rw [e2]
      simp only [Option.bind_some]
      obtain ⟨x3, j3, g3, e3, p3, c4⟩ := l1Byte_dr b hn j2 g2 c3
      rw [e3]
      simp only [Option.bind_some]
      rw [if_neg (by omega)]
      have w1 : wrap64 (x * 65536) = x * 65536 := wrap_id (by omega) (by omega)
      have w2 : wrap64 (x2 * 256) = x2 * 256 := wrap_id (by omega) (by omega)
      have w3 : wrap64 (x * 65536 + x2 * 256) = x * 65536 + x2 * 256 := wrap_id (by omega) (by omega)
      have w4 : wrap64 (x * 65536 + x2 * 256 + x3) = x * 65536 + x2 * 256 + x3 := wrap_id (by omega) (by omega)
      rw [w1, w2, w3, w4]
      have t := tmod_rng (x * 65536 + x2 * 256 + x3) n (by omega) (by omega)
      exact ⟨_, _, _, rfl, ⟨t.1, fun _ => t.2, fun z => by omega⟩, c4⟩
theorem l1Once_dr (b : List Int) (hn : b.length ≤ 140737488351232) (i h n : Int) (c : CurOk b i) : Dr b (spec_l1Once.f b i h n) (fun _ => True) := by
  unfold spec_l1Once.f
  obtain ⟨x, j, g, e, p, c2⟩ := l1Below_dr b hn i h n c
  rw [e]
  exact ⟨_, _, _, rfl, trivial, c2⟩
theorem rdS_mem (l : List ByteArray) (x : Int) (h0 : 0 ≤ x) (h : x < (l.length : Int)) : rdOf ByteArray.empty l x ∈ l := by
  obtain ⟨n, rfl⟩ := Int.eq_ofNat_of_zero_le h0
  rw [rdS_getElem l n (by omega)]
  exact List.getElem_mem _
theorem l1Str_dr (b : List Int) (hn : b.length ≤ 140737488351232) (i h : Int) (l : List ByteArray) (hl : 0 < l.length) (c : CurOk b i) : Dr b (spec_l1Str.f b i h l) (fun x => x ∈ l) := by
  unfold spec_l1Str.f
  obtain ⟨x, j, g, e, p, c2⟩ := l1Below_dr b hn i h (l.length : Int) c
  rw [e]
  simp only [Option.bind_some]
  have := p.2.1 (by omega)
  rw [if_pos p.1, if_pos this]
  exact ⟨_, _, _, rfl, rdS_mem l x p.1 this, c2⟩
theorem l1New_loop (l : List Int) (hn : l.length ≤ 140737488351232) : ∀ (d i : Nat) (h : Int), i + d = l.length → ∃ g, Ev (fun k => spec_l1New.l0 k l h (i : Int)) (l, 0, g) := by
  intro d
  induction d with
  | zero =>
    intro i h hi
    refine ⟨h, Ev.step (f := fun _ => some (l, 0, h)) (fun k => ?_) (Ev_some _)⟩
    simp only [spec_l1New.l0]
    rw [if_neg (by omega)]
  | succ d ih =>
    intro i h hi
    have w := wrap_succ i l.length (by omega) (by omega)
    by_cases q : i < 4000
    · obtain ⟨g, e⟩ := ih (i + 1) (Go.bits .and .i64 (wrap64 ((wrap64 ((wrap64 (h * 137)) + (wrap64 (rd l (i : Int))))) + 11)) 1073741823) (by omega)
      refine ⟨g, Ev.step (fun k => ?_) e⟩
      simp only [spec_l1New.l0]
      rw [if_pos (by omega), if_pos (by omega), if_pos (by omega), w]
    · refine ⟨h, Ev.step (f := fun _ => some (l, 0, h)) (fun k => ?_) (Ev_some _)⟩
      simp only [spec_l1New.l0]
      rw [if_pos (by omega), if_neg (by omega)]
theorem l1New_ev (l : List Int) (hn : l.length ≤ 140737488351232) : ∃ g, Ev (fun k => spec_l1New.f k l) (l, 0, g) := by
  unfold spec_l1New.f
  exact l1New_loop l hn l.length 0 _ (by omega)
theorem cur0 (l : List Int) : CurOk l 0 := ⟨Int.le_refl _, by omega⟩
theorem big_eq (l : List Int) : laws_big.f l = some (decide ((l.length : Int) > 1048576)) := by
  unfold laws_big.f
  rfl
theorem small_all (l : List ByteArray) (n : Nat) (h : l.all (fun x => decide (x.size ≤ n)) = true) : ∀ x ∈ l, x.size ≤ n := by
  intro x hx
  have := List.all_eq_true.1 h x hx
  rwa [decide_eq_true_eq] at this
theorem joinS_size_eq : ∀ (l : List ByteArray), (joinS l).size = szSs l + (l.length - 1)
  | [] => rfl
  | [x] => by simp [joinS, szSs]
  | x :: y :: l => by
    have ih := joinS_size_eq (y :: l)
    have e : (⟨#[46]⟩ : ByteArray).size = 1 := rfl
    rw [joinS, ByteArray.size_append, ByteArray.size_append, ih, e, szSs_cons x]
    simp only [List.length_cons]
    omega
/-- The name above. -/
def upN (s : ByteArray) : ByteArray := joinS ((labelsL s).drop 1)
theorem upN_size (s : ByteArray) : (upN s).size ≤ 2 * s.size + 2 := by
  unfold upN
  have h1 := labelsL_length s
  have h2 := labelsL_size s
  have h3 := szSs_drop_le (labelsL s) 1
  rw [joinS_size_eq, List.length_drop]
  omega
theorem spec_Up_eq (s : ByteArray) (hs : s.size ≤ 1048576) : Ev (fun k => spec_Up.f k s) (upN s) := by
  have hl := labelsL_length s
  have hz := labelsL_size s
  unfold spec_Up.f upN
  refine Ev.bind (spec_Labels_eq s (by omega)) ?_
  generalize labelsL s = x at hl hz ⊢
  by_cases c : (x.length : Int) = 0
  · have e : x = [] := List.eq_nil_of_length_eq_zero (by omega)
    subst e
    exact Ev_if c ⟨0, fun _ _ => rfl⟩
  · refine Ev_ifn c (Ev_if (by omega) ?_)
    have hd := szSs_drop_le x 1
    exact Ev.bind (spec_JoinLabels_eq (x.drop 1) (by rw [List.length_drop]; omega)) (Ev.now _)
theorem l3Name_dr (b : List Int) (hn : b.length ≤ 140737488351232) (i h : Int) (c : CurOk b i) : Dr b (spec_l3Name.f b i h) (fun s => s.size ≤ 60) := by
  unfold spec_l3Name.f
  obtain ⟨x, j, g, e, p, c2⟩ := l1Str_dr b hn i h [(⟨#[]⟩ : ByteArray), (⟨#[99, 111, 109]⟩ : ByteArray), (⟨#[101, 120, 46, 99, 111, 109]⟩ : ByteArray), (⟨#[119, 119, 119, 46, 101, 120, 46, 99, 111, 109]⟩ : ByteArray), (⟨#[110, 115, 46, 101, 120, 46, 99, 111, 109]⟩ : ByteArray), (⟨#[111, 114, 103]⟩ : ByteArray), (⟨#[97, 46, 111, 114, 103]⟩ : ByteArray), (⟨#[98, 46, 97, 46, 111, 114, 103]⟩ : ByteArray), (⟨#[110, 115, 49, 46, 111, 114, 103]⟩ : ByteArray), (⟨#[120, 46, 121, 46, 122, 46, 101, 120, 46, 99, 111, 109]⟩ : ByteArray)] (by simp) c
  rw [e]
  exact ⟨_, _, _, rfl, small_all _ 60 (by decide) x p, c2⟩
theorem drawLessName_ev (l : List Int) (hn : l.length ≤ 140737488351232) : ∃ a b, Ev (fun k => spec_DrawLessName.f k l) (a, b) ∧ a.size ≤ 200 ∧ b.size ≤ 200 := by
  unfold spec_DrawLessName.f
  obtain ⟨g, e0⟩ := l1New_ev l hn
  obtain ⟨x, j1, g1, e1, p1, c1⟩ := l3Name_dr l hn 0 g (cur0 l)
  obtain ⟨o, j2, g2, e2, _, c2⟩ := l1Once_dr l hn j1 g1 3 c1
  by_cases q : o = true
  · have us := upN_size x
    exact ⟨upN x, x, Ev.bind e0 (Ev.bind (Ev_c e1) (Ev.bind (Ev_c e2) (Ev_if q (Ev.bind (spec_Up_eq x (by omega)) (Ev_some _))))), by omega, by omega⟩
  · obtain ⟨y, j3, g3, e3, p3, c3⟩ := l3Name_dr l hn j2 g2 c2
    exact ⟨x, y, Ev.bind e0 (Ev.bind (Ev_c e1) (Ev.bind (Ev_c e2) (Ev_ifn q (Ev.bind (Ev_c e3) (Ev_some _))))), by omega, by omega⟩
theorem less_irrefl : ∀ a : List UInt8, Op.bytesLess a a = false
  | [] => rfl
  | c :: t => by simp [Op.bytesLess, less_irrefl t]
theorem less_total : ∀ a b : List UInt8, a ≠ b → Op.bytesLess a b = false → Op.bytesLess b a = true
  | [], [], h, _ => absurd rfl h
  | [], _ :: _, _, h => by simp [Op.bytesLess] at h
  | _ :: _, [], _, _ => by simp [Op.bytesLess]
  | c :: x, e :: y, hne, h => by
    simp only [Op.bytesLess, Bool.or_eq_false_iff, decide_eq_false_iff_not] at h
    obtain ⟨h1, h2⟩ := h
    simp only [Op.bytesLess, Bool.or_eq_true, decide_eq_true_eq]
    by_cases hce : c = e
    · subst hce
      have hxy : x ≠ y := fun e => hne (by rw [e])
      have h3 : Op.bytesLess x y = false := by simpa using h2
      exact Or.inr (by simp [less_total x y hxy h3])
    · left
      rw [UInt8.lt_iff_toNat_lt] at h1 ⊢
      have : c.toNat ≠ e.toNat := fun q => hce (UInt8.toNat_inj.1 q)
      omega
/-- What comes first, of two lists of labels that are read from the end. -/
def lessR : List ByteArray → List ByteArray → Bool
  | [], [] => false
  | [], _ :: _ => true
  | _ :: _, [] => false
  | a :: x, b :: y => if a = b then lessR x y else Op.bytesLess a.toList b.toList
/-- The same, as a number. -/
def cmpR : List ByteArray → List ByteArray → Int
  | [], [] => 0
  | [], _ :: _ => -1
  | _ :: _, [] => 1
  | a :: x, b :: y => if a = b then cmpR x y else if Op.bytesLess a.toList b.toList = true then -1 else 1
theorem cmpR_neg : ∀ x y : List ByteArray, decide (cmpR x y < 0) = lessR x y
  | [], [] => rfl
  | [], _ :: _ => rfl
  | _ :: _, [] => rfl
  | a :: x, b :: y => by
    unfold cmpR lessR
    by_cases h : a = b
    · rw [if_pos h, if_pos h]
      exact cmpR_neg x y
    · rw [if_neg h, if_neg h]
      cases Op.bytesLess a.toList b.toList <;> rfl
theorem cmp_string_eq (a b : ByteArray) : cmp_Compare_string.f a b = some (if a = b then 0 else if Op.bytesLess a.toList b.toList = true then -1 else 1) := by
  unfold cmp_Compare_string.f cmp_isNaN_string.f
  simp only [bne_self_eq_false, Option.bind_some, if_neg (show ¬ (false = true) by decide)]
  by_cases h : a = b
  · subst h
    simp [less_irrefl]
  · rw [if_neg h]
    have hne : a.toList ≠ b.toList := fun e => h (toList_inj.1 e)
    cases hl : Op.bytesLess a.toList b.toList with
    | true => simp
    | false => simp [hne]
theorem slices_Compare_loop (x y : List ByteArray) (hx : x.length ≤ 140737488351232) : ∀ (d i : Nat), i + d = x.length → i ≤ y.length →
    Ev (fun k => slices_Compare_string.l0 k x y x (x.length : Int) (i : Int)) (cmpR (x.drop i) (y.drop i)) := by
  intro d
  induction d with
  | zero =>
    intro i hi hy
    rw [show x.drop i = [] from List.drop_of_length_le (by omega)]
    by_cases c : (x.length : Int) < (y.length : Int)
    · rw [List.drop_eq_getElem_cons (show i < y.length by omega)]
      refine Ev.step (f := fun _ => some (-1)) (fun k => ?_) ⟨0, fun _ _ => rfl⟩
      simp only [slices_Compare_string.l0]
      rw [if_neg (by omega), if_pos c]
    · rw [show y.drop i = [] from List.drop_of_length_le (by omega)]
      refine Ev.step (f := fun _ => some 0) (fun k => ?_) ⟨0, fun _ _ => rfl⟩
      simp only [slices_Compare_string.l0]
      rw [if_neg (by omega), if_neg c]
  | succ d ih =>
    intro i hi hy
    have hxi : i < x.length := by omega
    have w3 : wrap64 ((i : Int) + 1) = ((i + 1 : Nat) : Int) := wrap_succ i x.length (by omega) (by omega)
    rw [List.drop_eq_getElem_cons hxi]
    by_cases c : i < y.length
    · rw [List.drop_eq_getElem_cons c]
      refine Ev.step (f := fun k => if (if x[i] = y[i] then (0 : Int) else if Op.bytesLess x[i].toList y[i].toList = true then -1 else 1) = 0 then slices_Compare_string.l0 k x y x (x.length : Int) ((i + 1 : Nat) : Int) else some (if x[i] = y[i] then (0 : Int) else if Op.bytesLess x[i].toList y[i].toList = true then -1 else 1)) (fun k => ?_) ?_
      · simp only [slices_Compare_string.l0]
        rw [if_pos (by omega), if_pos (by omega), if_pos (by omega), if_neg (by omega), if_pos (by omega), rdS_getElem x i hxi, rdS_getElem y i c, cmp_string_eq, Option.bind_some, w3]
      · unfold cmpR
        by_cases e : x[i] = y[i]
        · simp only [if_pos e, if_true]
          exact ih (i + 1) (by omega) (by omega)
        · simp only [if_neg e]
          refine Ev_ifn ?_ ⟨0, fun _ _ => rfl⟩
          split <;> decide
    · rw [show y.drop i = [] from List.drop_of_length_le (by omega)]
      refine Ev.step (f := fun _ => some 1) (fun k => ?_) ⟨0, fun _ _ => rfl⟩
      simp only [slices_Compare_string.l0]
      rw [if_pos (by omega), if_pos (by omega), if_pos (by omega), if_pos (by omega)]
theorem slices_Compare_eq (x y : List ByteArray) (hx : x.length ≤ 140737488351232) : Ev (fun k => slices_Compare_string.f k x y) (cmpR x y) := by
  have := slices_Compare_loop x y hx x.length 0 (by omega) (by omega)
  unfold slices_Compare_string.f
  simpa using this
theorem rev_mid (l m : List ByteArray) (i j : Nat) (hm : m.length = l.length) (hij : i + j + 1 = l.length) (hle : j ≤ i)
    (h : ∀ p (hp : p < l.length), m[p]'(by omega) = if p < i ∨ j < p then l.reverse[p]'(by simpa using hp) else l[p]) : m = l.reverse := by
  refine List.ext_getElem (by simp [hm]) (fun p h1 h2 => ?_)
  have hp : p < l.length := by omega
  rw [h p hp]
  by_cases c : p < i ∨ j < p
  · rw [if_pos c]
  · rw [if_neg c, List.getElem_reverse]
    congr 1
    omega
theorem reverse_loop (l : List ByteArray) (hl : l.length ≤ 140737488351232) : ∀ (d i j : Nat) (m : List ByteArray) (hm : m.length = l.length), i + j + 1 = l.length → j ≤ i + d →
    (∀ p (hp : p < l.length), m[p]'(by omega) = if p < i ∨ j < p then l.reverse[p]'(by simpa using hp) else l[p]) →
    Ev (fun k => slices_Reverse_string.l0 k m (i : Int) (j : Int)) l.reverse := by
  intro d
  induction d using Nat.strongRecOn with
  | _ d ih =>
    intro i j m hm hij hle h
    by_cases c : i < j
    · have hi : i < m.length := by omega
      have hj : j < m.length := by omega
      have w1 : wrap64 ((i : Int) + 1) = ((i + 1 : Nat) : Int) := wrap_succ i l.length (by omega) (by omega)
      have w2 : wrap64 ((j : Int) - 1) = ((j - 1 : Nat) : Int) := by rw [wrap_id (by omega) (by omega)]; omega
      have := ih (d - 2) (by omega) (i + 1) (j - 1) ((m.set i m[j]).set j m[i]) (by simp [hm]) (by omega) (by omega) (fun p hp => by
        have hi' := h i (by omega)
        have hj' := h j (by omega)
        rw [if_neg (by omega)] at hi' hj'
        rw [List.getElem_set, List.getElem_set]
        by_cases e1 : j = p
        · subst e1
          rw [if_pos rfl, if_pos (by omega), hi', List.getElem_reverse]
          congr 1
          omega
        · rw [if_neg e1]
          by_cases e2 : i = p
          · subst e2
            rw [if_pos rfl, if_pos (by omega), hj', List.getElem_reverse]
            congr 1
            omega
          · rw [if_neg e2, h p hp]
            by_cases e3 : p < i ∨ j < p
            · rw [if_pos e3, if_pos (by omega)]
            · rw [if_neg e3, if_neg (by omega)])
      refine Ev.step (f := fun k => slices_Reverse_string.l0 k ((m.set i m[j]).set j m[i]) ((i + 1 : Nat) : Int) ((j - 1 : Nat) : Int)) (fun k => ?_) this
      simp only [slices_Reverse_string.l0]
      rw [if_pos (by omega), if_pos (by omega), if_pos (by omega), if_pos (by omega), if_pos (by omega), rdS_getElem m i hi, rdS_getElem m j hj, w1, w2, Int.toNat_natCast, Int.toNat_natCast]
    · have e := rev_mid l m i j hm hij (by omega) h
      refine Ev.step (f := fun _ => some m) (fun k => ?_) ⟨0, fun _ _ => by rw [e]⟩
      simp only [slices_Reverse_string.l0]
      rw [if_neg (by omega)]
theorem slices_Reverse_eq (l : List ByteArray) (hl : l.length ≤ 140737488351232) : Ev (fun k => slices_Reverse_string.f k l) l.reverse := by
  unfold slices_Reverse_string.f
  cases l with
  | nil =>
    refine Ev.step (f := fun _ => some []) (fun k => ?_) ⟨0, fun _ _ => rfl⟩
    simp only [slices_Reverse_string.l0]
    rw [if_neg (by rw [wrap_id (by simp) (by simp)]; simp)]
  | cons a t =>
    have w : wrap64 (((a :: t).length : Int) - 1) = (t.length : Int) := by rw [wrap_id (by simp) (by simp at hl ⊢; omega)]; simp
    rw [w]
    exact reverse_loop (a :: t) hl t.length 0 t.length (a :: t) rfl (by simp) (by omega) (fun p hp => by
      rw [if_neg (by simp at hp; omega)])
theorem sub_idx (n i : Nat) (h : i < n) : n - 1 - i < n := by omega
theorem wrap_sub (n i : Nat) (hn : n ≤ 140737488351232) (h : i < n) : wrap64 ((n : Int) - ((i + 1 : Nat) : Int)) = ((n - 1 - i : Nat) : Int) := by
  rw [wrap_id (by omega) (by omega)]
  omega
theorem wrap_suc2 (n i : Nat) (hn : n ≤ 140737488351232) (h : i < n) : wrap64 (((i + 1 : Nat) : Int) + 1) = ((i + 1 + 1 : Nat) : Int) := wrap_succ (i + 1) (i + 2) (by omega) (by omega)
theorem spec_LessName_j1t (x y : List ByteArray) (t : Int) (p q : Nat) (hp : p < x.length) (hq : q < y.length) (w1 : wrap64 ((x.length : Int) - t) = (p : Int)) (w2 : wrap64 ((y.length : Int) - t) = (q : Int)) (k : Nat) :
    spec_LessName.j1 (k + 1) x y t true = if x[p].toList = y[q].toList then spec_LessName.l0 k x y (wrap64 (t + 1)) else some (Op.bytesLess x[p].toList y[q].toList) := by
  simp only [spec_LessName.j1, if_true]
  rw [w1, w2, if_pos (Int.natCast_nonneg p), if_pos (Int.ofNat_lt.2 hp), if_pos (Int.natCast_nonneg q), if_pos (Int.ofNat_lt.2 hq), rdS_getElem x p hp, rdS_getElem y q hq]
theorem spec_LessName_j1f (x y : List ByteArray) (t : Int) (k : Nat) : spec_LessName.j1 (k + 1) x y t false = some (decide ((x.length : Int) < (y.length : Int))) := by
  simp only [spec_LessName.j1]
  rw [if_neg (by decide)]
theorem spec_LessName_l0p (x y : List ByteArray) (t : Int) (b : Bool) (h : t ≤ (x.length : Int)) (hb : decide (t ≤ (y.length : Int)) = b) (k : Nat) : spec_LessName.l0 (k + 1) x y t = spec_LessName.j1 k x y t b := by
  simp only [spec_LessName.l0]
  rw [if_pos h, hb]
theorem spec_LessName_l0n (x y : List ByteArray) (t : Int) (h : ¬ t ≤ (x.length : Int)) (k : Nat) : spec_LessName.l0 (k + 1) x y t = spec_LessName.j1 k x y t false := by
  simp only [spec_LessName.l0]
  rw [if_neg h]
theorem lessR_nil_left (y : List ByteArray) : lessR [] y = decide (0 < y.length) := by cases y <;> simp [lessR]
theorem lessR_nil_right (x : List ByteArray) : lessR x [] = false := by cases x <;> rfl
theorem spec_LessName_loop (x y : List ByteArray) (hx : x.length ≤ 140737488351232) (hy : y.length ≤ 140737488351232) : ∀ (d i : Nat), i + d = x.length → i ≤ y.length →
    Ev (fun k => spec_LessName.l0 k x y ((i + 1 : Nat) : Int)) (lessR (x.reverse.drop i) (y.reverse.drop i)) := by
  intro d
  induction d with
  | zero =>
    intro i hi hyi
    refine Ev.step (spec_LessName_l0n x y _ (by omega)) (Ev.step (f := fun _ => some (decide ((x.length : Int) < (y.length : Int)))) (spec_LessName_j1f x y _) ⟨0, fun _ _ => ?_⟩)
    rw [show x.reverse.drop i = [] from List.drop_of_length_le (by rw [List.length_reverse]; omega), lessR_nil_left, List.length_drop, List.length_reverse]
    exact congrArg some (decide_eq_decide.2 (by omega))
  | succ d ih =>
    intro i hi hyi
    have hxl : i < x.length := by omega
    have hxi : i < x.reverse.length := by rw [List.length_reverse]; exact hxl
    by_cases c : i < y.length
    · have hyi' : i < y.reverse.length := by rw [List.length_reverse]; exact c
      have ex : x.reverse[i] = x[x.length - 1 - i]'(sub_idx x.length i hxl) := List.getElem_reverse _
      have ey : y.reverse[i] = y[y.length - 1 - i]'(sub_idx y.length i c) := List.getElem_reverse _
      have j := ih (i + 1) (by omega) (by omega)
      rw [List.drop_eq_getElem_cons hxi, List.drop_eq_getElem_cons hyi']
      refine Ev.step (spec_LessName_l0p x y _ true (by omega) (decide_eq_true (by omega))) (Ev.step (spec_LessName_j1t x y _ _ _ (sub_idx x.length i hxl) (sub_idx y.length i c) (wrap_sub x.length i hx hxl) (wrap_sub y.length i hy c)) ?_)
      rw [← ex, ← ey, wrap_suc2 x.length i hx hxl]
      unfold lessR
      by_cases e : x.reverse[i] = y.reverse[i]
      · rw [if_pos e]
        exact Ev_if (congrArg ByteArray.toList e) j
      · rw [if_neg e]
        exact Ev_ifn (fun h => e (toList_inj.1 h)) ⟨0, fun _ _ => rfl⟩
    · rw [show y.reverse.drop i = [] from List.drop_of_length_le (by rw [List.length_reverse]; omega), lessR_nil_right]
      refine Ev.step (spec_LessName_l0p x y _ false (by omega) (decide_eq_false (by omega))) (Ev.step (f := fun _ => some (decide ((x.length : Int) < (y.length : Int)))) (spec_LessName_j1f x y _) ⟨0, fun _ _ => ?_⟩)
      exact congrArg some (decide_eq_false (by omega))
/-- What LessName answers. -/
def lessN (a b : ByteArray) : Bool := lessR (labelsL a).reverse (labelsL b).reverse
theorem spec_LessName_eq (a b : ByteArray) (ha : a.size ≤ 1048576) (hb : b.size ≤ 1048576) : Ev (fun k => spec_LessName.f k a b) (lessN a b) := by
  have h1 := labelsL_length a
  have h2 := labelsL_length b
  unfold spec_LessName.f lessN
  refine Ev.bind (spec_Labels_eq a ha) (Ev.bind (spec_Labels_eq b hb) ?_)
  have := spec_LessName_loop (labelsL a) (labelsL b) (by omega) (by omega) (labelsL a).length 0 (by omega) (by omega)
  simpa using this
theorem impl_LessName_eq (a b : ByteArray) (ha : a.size ≤ 1048576) (hb : b.size ≤ 1048576) : Ev (fun k => impl_LessName.f k a b) (lessN a b) := by
  have h1 := labelsL_length a
  have h2 := labelsL_length b
  unfold impl_LessName.f lessN
  rw [impl_Labels_eq a (by omega), impl_Labels_eq b (by omega)]
  simp only [Option.bind_some]
  rw [← cmpR_neg]
  refine Ev.bind (slices_Reverse_eq _ (by omega)) (Ev.bind (slices_Reverse_eq _ (by omega)) (Ev.bind (slices_Compare_eq _ _ (by rw [List.length_reverse]; omega)) (Ev.now _)))
theorem mkB_append (a b : List UInt8) : mkB a ++ mkB b = mkB (a ++ b) := by
  apply ByteArray.ext
  rw [ByteArray.data_append]
  simp [mkB]
theorem cutA_ne : ∀ (t acc : List UInt8), cutA acc t ≠ []
  | [], acc => by simp [cutA]
  | c :: t, acc => by
    unfold cutA
    split
    · simp
    · exact cutA_ne t _
theorem join_cutA : ∀ (t acc : List UInt8), joinS ((cutA acc t).map mkB) = mkB (acc ++ t)
  | [], acc => by simp [cutA, joinS]
  | c :: t, acc => by
    by_cases h : c = 46
    · subst h
      simp only [cutA, if_true, List.map_cons]
      rw [joinS_cons _ _ (by simpa using cutA_ne t []), join_cutA t []]
      have e : (⟨#[46]⟩ : ByteArray) = mkB [46] := rfl
      rw [e, mkB_append, mkB_append]
      rfl
    · simp only [cutA, if_neg h]
      rw [join_cutA t (acc ++ [c])]
      simp
theorem join_labels (s : ByteArray) : joinS (labelsL s) = s := by
  unfold labelsL
  by_cases h : s.data.toList = []
  · rw [if_pos h]
    have e : mkB s.data.toList = s := mkB_data s
    rw [h] at e
    exact e
  · rw [if_neg h, join_cutA]
    exact mkB_data s
theorem labelsL_inj {a b : ByteArray} (h : labelsL a = labelsL b) : a = b := by rw [← join_labels a, h, join_labels b]
theorem lessR_total : ∀ x y : List ByteArray, x ≠ y → lessR x y = false → lessR y x = true
  | [], [], h, _ => absurd rfl h
  | [], _ :: _, _, h => by simp [lessR] at h
  | _ :: _, [], _, _ => by simp [lessR]
  | a :: x, b :: y, hne, h => by
    unfold lessR at h ⊢
    by_cases e : a = b
    · subst e
      rw [if_pos rfl] at h ⊢
      exact lessR_total x y (fun q => hne (by rw [q])) h
    · rw [if_neg e] at h
      rw [if_neg (fun q => e q.symm)]
      exact less_total _ _ (fun q => e (toList_inj.1 q)) h
theorem lessN_total (a b : ByteArray) (hne : a ≠ b) (h : lessN a b = false) : lessN b a = true :=
  lessR_total _ _ (fun q => hne (labelsL_inj (List.reverse_inj.1 q))) h
/-- Whether y is the end of x. -/
def underL (x y : List ByteArray) : Bool := decide (y.length ≤ x.length) && decide (x.drop (x.length - y.length) = y)
theorem rdB_getElem (l : List ByteArray) (i : Nat) (h : i < l.length) : rdOf ByteArray.empty l (i : Int) = l[i] := by
  simp [rdOf, List.getD_eq_getElem?_getD, h]
theorem slices_Equal_string_loop (a b : List ByteArray) (hab : a.length = b.length) (hn : a.length ≤ 140737488351232) : ∀ (d i : Nat), i + d = a.length →
    Ev (fun k => slices_Equal_string.l0 k a b (a.length : Int) (i : Int)) (decide (a.drop i = b.drop i)) := by
  intro d
  induction d with
  | zero =>
    intro i hi
    rw [List.drop_of_length_le (by omega), List.drop_of_length_le (by omega)]
    refine Ev.step (f := fun _ => some true) (fun k => ?_) ⟨0, fun _ _ => rfl⟩
    simp only [slices_Equal_string.l0]
    rw [if_neg (by omega)]
  | succ d ih =>
    intro i hi
    have ha : i < a.length := by omega
    have hb : i < b.length := by omega
    have w3 : wrap64 ((i : Int) + 1) = ((i + 1 : Nat) : Int) := wrap_succ i a.length (by omega) (by omega)
    rw [List.drop_eq_getElem_cons ha, List.drop_eq_getElem_cons hb]
    by_cases c : a[i] = b[i]
    · have e : decide (a[i] :: a.drop (i + 1) = b[i] :: b.drop (i + 1)) = decide (a.drop (i + 1) = b.drop (i + 1)) := decide_eq_decide.2 ⟨fun h => (List.cons.inj h).2, fun h => by rw [h, c]⟩
      rw [e]
      refine Ev.step (f := fun k => slices_Equal_string.l0 k a b (a.length : Int) ((i + 1 : Nat) : Int)) (fun k => ?_) (ih (i + 1) (by omega))
      simp only [slices_Equal_string.l0]
      rw [if_pos (by omega), if_pos (by omega), if_pos (by omega), if_pos (by omega), rdB_getElem a i ha, rdB_getElem b i hb, if_pos (by rw [c]), w3]
    · have e : decide (a[i] :: a.drop (i + 1) = b[i] :: b.drop (i + 1)) = false := decide_eq_false (fun h => c (List.cons.inj h).1)
      rw [e]
      refine Ev.step (f := fun _ => some false) (fun k => ?_) ⟨0, fun _ _ => rfl⟩
      simp only [slices_Equal_string.l0]
      rw [if_pos (by omega), if_pos (by omega), if_pos (by omega), if_pos (by omega), rdB_getElem a i ha, rdB_getElem b i hb, if_neg (fun h => c (toList_inj.1 h))]
theorem slices_Equal_string_eq (a b : List ByteArray) (hn : a.length ≤ 140737488351232) : Ev (fun k => slices_Equal_string.f k a b) (decide (a = b)) := by
  unfold slices_Equal_string.f
  by_cases h : a.length = b.length
  · have h' : (a.length : Int) = (b.length : Int) := by omega
    simp only [if_pos h']
    have := slices_Equal_string_loop a b h hn a.length 0 (by omega)
    simpa using this
  · have h' : ¬ (a.length : Int) = (b.length : Int) := by omega
    simp only [if_neg h']
    have e : decide (a = b) = false := decide_eq_false (fun e => h (by rw [e]))
    rw [e]
    exact ⟨0, fun _ _ => rfl⟩
theorem impl_Under_eq (a b : ByteArray) (ha : a.size ≤ 1048576) (hb : b.size ≤ 1048576) : Ev (fun k => impl_Under.f k a b) (underL (labelsL a) (labelsL b)) := by
  have h1 := labelsL_length a
  have h2 := labelsL_length b
  unfold impl_Under.f
  rw [impl_Labels_eq a (by omega), impl_Labels_eq b (by omega)]
  simp only [Option.bind_some]
  generalize labelsL a = x at h1 ⊢
  generalize labelsL b = y at h2 ⊢
  by_cases c : y.length ≤ x.length
  · have c' : (x.length : Int) ≥ (y.length : Int) := by omega
    have w : wrap64 ((x.length : Int) - (y.length : Int)) = ((x.length - y.length : Nat) : Int) := by rw [wrap_id (by omega) (by omega)]; omega
    have p1 : (0 : Int) ≤ ((x.length - y.length : Nat) : Int) := by omega
    have p2 : ((x.length - y.length : Nat) : Int) ≤ (x.length : Int) := by omega
    simp only [if_pos c', w, if_pos p1, if_pos p2, Int.toNat_natCast]
    unfold underL
    rw [decide_eq_true c, Bool.true_and]
    exact Ev.bind (slices_Equal_string_eq _ y (by rw [List.length_drop]; omega)) (Ev.now _)
  · have c' : ¬ (x.length : Int) ≥ (y.length : Int) := by omega
    simp only [if_neg c']
    unfold underL
    rw [decide_eq_false c, Bool.false_and]
    exact ⟨0, fun _ _ => rfl⟩
theorem bytes_asymm : ∀ a b : List UInt8, Op.bytesLess a b = true → Op.bytesLess b a = false
  | [], [], h => by simp [Op.bytesLess] at h
  | [], _ :: _, _ => rfl
  | _ :: _, [], h => by simp [Op.bytesLess] at h
  | c :: x, e :: y, h => by
    simp only [Op.bytesLess, Bool.or_eq_true, Bool.and_eq_true, decide_eq_true_eq, beq_iff_eq] at h
    simp only [Op.bytesLess, Bool.or_eq_false_iff, Bool.and_eq_false_iff, decide_eq_false_iff_not]
    rcases h with h | ⟨h1, h2⟩
    · rw [UInt8.lt_iff_toNat_lt] at h
      refine ⟨by rw [UInt8.lt_iff_toNat_lt]; omega, .inl ?_⟩
      simp only [beq_eq_false_iff_ne]
      intro q
      rw [q] at h
      exact Nat.lt_irrefl _ h
    · subst h1
      refine ⟨by rw [UInt8.lt_iff_toNat_lt]; omega, .inr (bytes_asymm x y h2)⟩
theorem lessR_asymm : ∀ x y : List ByteArray, lessR x y = true → lessR y x = false
  | [], [], h => by cases h
  | [], _ :: _, _ => rfl
  | _ :: _, [], h => by cases h
  | a :: x, b :: y, h => by
    unfold lessR at h ⊢
    by_cases e : a = b
    · subst e
      rw [if_pos rfl] at h ⊢
      exact lessR_asymm x y h
    · rw [if_neg e] at h
      rw [if_neg (fun q => e q.symm)]
      exact bytes_asymm _ _ h
theorem lessN_asymm (a b : ByteArray) (h : lessN a b = true) : lessN b a = false := lessR_asymm _ _ h
/-- What is a proper beginning is less. -/
theorem lessR_prefix : ∀ (x y : List ByteArray), y ≠ [] → lessR x (x ++ y) = true
  | [], y, h => by
    cases y with
    | nil => exact absurd rfl h
    | cons _ _ => rfl
  | a :: x, y, h => by
    rw [List.cons_append, lessR, if_pos rfl]
    exact lessR_prefix x y h
theorem under_less (a b : ByteArray) (h : underL (labelsL a) (labelsL b) = true) (hne : a ≠ b) : lessN b a = true := by
  unfold underL at h
  rw [Bool.and_eq_true, decide_eq_true_eq, decide_eq_true_eq] at h
  obtain ⟨h1, h2⟩ := h
  have e : (labelsL a).reverse = (labelsL b).reverse ++ ((labelsL a).take ((labelsL a).length - (labelsL b).length)).reverse := by
    rw [← List.reverse_append]
    congr 1
    conv => lhs; rw [← List.take_append_drop ((labelsL a).length - (labelsL b).length) (labelsL a)]
    rw [h2]
  unfold lessN
  rw [e]
  refine lessR_prefix _ _ (fun q => hne (labelsL_inj ?_))
  rw [List.reverse_eq_nil_iff, List.take_eq_nil_iff] at q
  rcases q with q | q
  · have e2 : (labelsL a).length - (labelsL b).length = 0 := q
    rw [e2, List.drop_zero] at h2
    exact h2
  · rw [q] at h1 ⊢
    have : (labelsL b) = [] := List.eq_nil_of_length_eq_zero (by simpa using h1)
    rw [this]

end Go.Proofs.YtbohkphbgkgaeaaDoor.Lem
