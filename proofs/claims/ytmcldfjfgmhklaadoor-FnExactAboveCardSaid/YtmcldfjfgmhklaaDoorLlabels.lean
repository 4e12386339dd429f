/- Lemmas on the printed functions, of this session. -/
import Derived.Test.YtmcldfjfgmhklaaDoorY
import Derived.Test.YtmcldfjfgmhklaaDoorPrx0
import Derived.Test.YtmcldfjfgmhklaaDoorPrx1
namespace Go.Proofs.YtmcldfjfgmhklaaDoor.Lem
open Go.RowKit Go.Proofs.YtmcldfjfgmhklaaDoor.Pr Go.Proofs.YtmcldfjfgmhklaaDoor.X Go.Proofs.YtmcldfjfgmhklaaDoor.Y Go.Proofs.YtmcldfjfgmhklaaDoorW.PrintWords Go.Proofs.YtmcldfjfgmhklaaDoorW.PrintLast Go.Proofs.YtmcldfjfgmhklaaDoorW.PrintMore
set_option linter.unusedVariables false
set_option linter.unusedSimpArgs false
/-- What stands between the dots of a list of bytes; 'acc' stands ahead of it. -/
def cutA : List UInt8 → List UInt8 → List (List UInt8)
  | acc, [] => [acc]
  | acc, c :: t => if c = 46 then acc :: cutA [] t else cutA (acc ++ [c]) t
def mkB (l : List UInt8) : ByteArray := ⟨l.toArray⟩
theorem mkB_data (s : ByteArray) : mkB s.data.toList = s := rfl
/-- The labels of a name. -/
def labelsL (s : ByteArray) : List ByteArray := if s.data.toList = [] then [] else (cutA [] s.data.toList).map mkB
theorem cutA_acc : ∀ (t acc : List UInt8), cutA acc t = match cutA [] t with | [] => [] | x :: r => (acc ++ x) :: r
  | [], acc => by simp [cutA]
  | c :: t, acc => by
    by_cases h : c = 46
    · simp [cutA, h]
    · have e1 := cutA_acc t (acc ++ [c])
      have e2 := cutA_acc t ([] ++ [c])
      simp only [cutA, if_neg h]
      rw [e1, e2]
      cases cutA [] t with
      | nil => rfl
      | cons x r => simp [List.append_assoc]
theorem split_cut : ∀ (l : List UInt8), Lib.splitK [46] 0 (l.count 46) l = cutA [] l
  | [] => rfl
  | c :: t => by
    have ih := split_cut t
    by_cases h : c = 46
    · subst h
      rw [List.count_cons_self]
      simp only [Lib.splitK, cutA, if_true]
      rw [Lib.index_one]
      simp only [Lib.indexByte]
      simp [ih]
    · rw [List.count_cons_of_ne (by simpa using h)]
      have e2 := cutA_acc t ([] ++ [c])
      simp only [cutA, if_neg h]
      rw [e2, ← ih]
      have hb : (c == 46) = false := by simpa using h
      cases hk : t.count 46 with
      | zero => simp [Lib.splitK]
      | succ k =>
        simp only [Lib.splitK]
        rw [Lib.index_one, Lib.index_one]
        simp only [Lib.indexByte, hb]
        have hge := Lib.indexByte_ge t 46
        by_cases hi : Lib.indexByte t 46 = -1
        · simp [hi]
        · have h1 : (Lib.indexByte t 46 == -1) = false := by simpa using hi
          have h2 : (Lib.indexByte t 46 + 1 == -1) = false := by simp; omega
          have h3 : (Lib.indexByte t 46 + 1).toNat = (Lib.indexByte t 46).toNat + 1 := by omega
          simp only [h1, h2, h3, Bool.false_eq_true, if_false]
          simp [List.take_succ_cons, Nat.add_right_comm]
theorem impl_Labels_eq (s : ByteArray) (hs : s.size < 4294967281) : impl_Labels.f s = some (labelsL s) := by
  unfold impl_Labels.f labelsL
  rw [ByteArray.toList_eq]
  by_cases h : s.data.toList = []
  · rw [if_pos h, if_pos h]
  · rw [if_neg h, if_neg h]
    have e : strings_Split.f s (⟨#[46]⟩ : ByteArray) = some (Lib.splitB ⟨#[46]⟩ 0 (Lib.countB s ⟨#[46]⟩) s) := by
      unfold strings_Split.f
      exact if_pos ⟨rfl, hs⟩
    rw [e]
    simp only [Option.bind_some]
    congr 1
    have d := Lib.splitB_data ⟨#[46]⟩ 0 (Lib.countB s ⟨#[46]⟩) s
    have k : Lib.countB s ⟨#[46]⟩ = s.data.toList.count 46 := Lib.count_one 46 s.data.toList
    rw [k] at d ⊢
    have d2 : (Lib.splitB ⟨#[46]⟩ 0 (s.data.toList.count 46) s).map (·.data.toList) = cutA [] s.data.toList := d.trans (split_cut _)
    rw [← d2, List.map_map]
    exact (List.map_id'' (fun x => mkB_data x) _).symm
theorem extract_mkB (s : ByteArray) (f i : Nat) : s.extract f i = mkB ((s.data.toList.take i).drop f) := by
  have h : (s.extract f i).data.toList = (s.data.toList.take i).drop f := by
    rw [ByteArray.data_extract, Array.toList_extract, List.extract_eq_take_drop, List.drop_take]
  rw [← mkB_data (s.extract f i), h]
theorem bt_data (s : ByteArray) (i : Nat) (h : i < s.data.toList.length) : (bt s (i : Int) = 46) ↔ s.data.toList[i] = 46 := by
  have h' : (i : Int).toNat < s.size := by simpa using h
  have e := bt_at s (i : Int) h'
  have e2 : s[(i : Int).toNat]'h' = s.data.toList[i] := by
    rw [Array.getElem_toList]
    rfl
  rw [← e, e2, ← UInt8.toNat_inj]
  have t : UInt8.toNat 46 = 46 := rfl
  generalize s.data.toList[i].toNat = z
  generalize UInt8.toNat 46 = z' at t ⊢
  omega
theorem size_data (s : ByteArray) : s.size = s.data.toList.length := rfl
theorem spec_Labels_loop (s : ByteArray) (hn : s.size ≤ 1048576) (hne : s.toList ≠ []) : ∀ (d i f : Nat) (out : List ByteArray), i + d = s.size → f ≤ i → out.length ≤ i →
    Ev (fun k => spec_Labels.l0 k s out (f : Int) (i : Int)) (out ++ (cutA ((s.data.toList.take i).drop f) (s.data.toList.drop i)).map mkB) := by
  have hz := size_data s
  have hb : (s.toList != ([] : List UInt8)) = true := bne_iff_ne.2 hne
  intro d
  induction d with
  | zero =>
    intro i f out hi hf ho
    have w : wrap64 ((i : Int) + 1) = ((i + 1 : Nat) : Int) := wrap_succ i 1048577 (by omega) (by omega)
    have hx : s.extract f i = mkB ((s.data.toList.take i).drop f) := extract_mkB s f i
    refine Ev.step (f := fun k => spec_Labels.j1 k s out (f : Int) (i : Int) true) (fun k => ?_) ?_
    · simp only [spec_Labels.l0]
      rw [if_pos (by omega), hb]
    refine Ev.step (f := fun k => spec_Labels.l0 k s (out ++ [mkB ((s.data.toList.take i).drop f)]) ((i + 1 : Nat) : Int) ((i + 1 : Nat) : Int)) (fun k => ?_) ?_
    · simp only [spec_Labels.j1, if_true]
      rw [if_pos (by omega), if_pos (by omega), if_pos (by omega), if_pos (by omega), if_pos (by omega), w, Int.toNat_natCast, Int.toNat_natCast, hx]
    refine Ev.step (f := fun k => spec_Labels.j1 k s (out ++ [mkB ((s.data.toList.take i).drop f)]) ((i + 1 : Nat) : Int) ((i + 1 : Nat) : Int) false) (fun k => ?_) ?_
    · simp only [spec_Labels.l0]
      rw [if_neg (by omega)]
    refine Ev.step (f := fun _ => some (out ++ [mkB ((s.data.toList.take i).drop f)])) (fun k => ?_) ⟨0, fun _ _ => ?_⟩
    · simp only [spec_Labels.j1]
      rw [if_neg (by decide)]
    · rw [show s.data.toList.drop i = [] from List.drop_of_length_le (by omega)]
      rfl
  | succ d ih =>
    intro i f out hi hf ho
    have hil : i < s.data.toList.length := by omega
    have w : wrap64 ((i : Int) + 1) = ((i + 1 : Nat) : Int) := wrap_succ i 1048577 (by omega) (by omega)
    have hx : s.extract f i = mkB ((s.data.toList.take i).drop f) := extract_mkB s f i
    rw [List.drop_eq_getElem_cons hil]
    refine Ev.step (f := fun k => spec_Labels.j1 k s out (f : Int) (i : Int) true) (fun k => ?_) ?_
    · simp only [spec_Labels.l0]
      rw [if_pos (by omega), hb]
    by_cases c : s.data.toList[i] = 46
    · have cb := (bt_data s i hil).2 c
      have := ih (i + 1) (i + 1) (out ++ [mkB ((s.data.toList.take i).drop f)]) (by omega) (by omega) (by simp; omega)
      have e0 : (s.data.toList.take (i + 1)).drop (i + 1) = [] := List.drop_of_length_le (by rw [List.length_take]; omega)
      rw [e0] at this
      refine Ev.step (f := fun k => spec_Labels.l0 k s (out ++ [mkB ((s.data.toList.take i).drop f)]) ((i + 1 : Nat) : Int) ((i + 1 : Nat) : Int)) (fun k => ?_) ?_
      · simp only [spec_Labels.j1, if_true]
        rw [if_neg (by omega), if_pos (by omega), if_pos (by omega), if_pos cb, if_pos (by omega), if_pos (by omega), if_pos (by omega), if_pos (by omega), w, Int.toNat_natCast, Int.toNat_natCast, hx]
      · simp only [cutA, if_pos c, List.map_cons]
        rw [List.append_assoc] at this
        exact this
    · have cb : ¬ bt s (i : Int) = 46 := fun e => c ((bt_data s i hil).1 e)
      have := ih (i + 1) f out (by omega) (by omega) (by omega)
      have e0 : (s.data.toList.take (i + 1)).drop f = (s.data.toList.take i).drop f ++ [s.data.toList[i]] := by
        rw [← List.take_append_getElem hil, List.drop_append_of_le_length (by rw [List.length_take]; omega)]
      rw [e0] at this
      refine Ev.step (f := fun k => spec_Labels.l0 k s out (f : Int) ((i + 1 : Nat) : Int)) (fun k => ?_) ?_
      · simp only [spec_Labels.j1, if_true]
        rw [if_neg (by omega), if_pos (by omega), if_pos (by omega), if_neg cb, w]
      · simp only [cutA, if_neg c]
        exact this
theorem spec_Labels_eq (s : ByteArray) (hn : s.size ≤ 1048576) : Ev (fun k => spec_Labels.f k s) (labelsL s) := by
  unfold spec_Labels.f labelsL
  by_cases h : s.data.toList = []
  · rw [if_pos h]
    have hb : (s.toList != ([] : List UInt8)) = false := by rw [ByteArray.toList_eq, h]; rfl
    refine Ev.step (f := fun k => spec_Labels.j1 k s [] 0 0 false) (fun k => ?_) ?_
    · simp only [spec_Labels.l0]
      rw [if_pos (by omega), hb]
    refine Ev.step (f := fun _ => some []) (fun k => ?_) ⟨0, fun _ _ => rfl⟩
    simp only [spec_Labels.j1]
    rw [if_neg (by decide)]
  · rw [if_neg h]
    have := spec_Labels_loop s hn (by rw [ByteArray.toList_eq]; exact h) s.size 0 0 [] (by omega) (by omega) (by simp)
    simpa using this
theorem cutA_length : ∀ (t acc : List UInt8), (cutA acc t).length ≤ t.length + 1
  | [], _ => Nat.le_refl _
  | c :: t, acc => by
    unfold cutA
    split
    · have := cutA_length t []
      simp only [List.length_cons]
      omega
    · have := cutA_length t (acc ++ [c])
      simp only [List.length_cons]
      omega
theorem labelsL_length (s : ByteArray) : (labelsL s).length ≤ s.size + 1 := by
  unfold labelsL
  split
  · simp
  · rw [List.length_map, size_data]
    exact cutA_length _ _

end Go.Proofs.YtmcldfjfgmhklaaDoor.Lem
