/- Lemmas on the printed functions, of this session. -/
import Derived.Test.YtmcldfjfgmhklaaDoorY
import Derived.Test.YtmcldfjfgmhklaaDoorPrx0
import Derived.Test.YtmcldfjfgmhklaaDoorPrx1
import Derived.Test.YtmcldfjfgmhklaaDoorPrx18
import Derived.Test.YtmcldfjfgmhklaaDoorPrx19
import Derived.Test.YtmcldfjfgmhklaaDoorPrx2
import Derived.Test.YtmcldfjfgmhklaaDoorPrx3
import Derived.Test.YtmcldfjfgmhklaaDoorPrx4
import Derived.Test.YtmcldfjfgmhklaaDoorPrx6
import Derived.Test.YtmcldfjfgmhklaaDoorPrx7
import Derived.Test.YtmcldfjfgmhklaaDoorPrx8
namespace Go.Proofs.YtmcldfjfgmhklaaDoor.Lem
open Go.RowKit Go.Proofs.YtmcldfjfgmhklaaDoor.Pr Go.Proofs.YtmcldfjfgmhklaaDoor.X Go.Proofs.YtmcldfjfgmhklaaDoor.Y Go.Proofs.YtmcldfjfgmhklaaDoorW.PrintWords Go.Proofs.YtmcldfjfgmhklaaDoorW.PrintLast Go.Proofs.YtmcldfjfgmhklaaDoorW.PrintMore
set_option linter.unusedVariables false
set_option linter.unusedSimpArgs false
theorem eqByteS_loop (a : List Int) (hn : a.length ≤ 140737488351232) : ∀ (d i : Nat), i + d = a.length → Ev (fun k => laws_eqByteS.l0 k a a (i : Int)) true := by
  intro d
  induction d with
  | zero =>
    intro i hi
    refine Ev.step (f := fun _ => some true) (fun k => ?_) ⟨0, fun _ _ => rfl⟩
    simp only [laws_eqByteS.l0]
    rw [if_neg (by omega)]
  | succ d ih =>
    intro i hi
    have hw := wrap_succ i a.length (by omega) (by omega)
    refine Ev.step (f := fun k => laws_eqByteS.l0 k a a ((i + 1 : Nat) : Int)) (fun k => ?_) (ih (i + 1) (by omega))
    simp only [laws_eqByteS.l0]
    rw [if_pos (by omega), if_pos (by omega), if_pos (by omega), hw]
    simp
theorem eqByteS_same (a : List Int) (hn : a.length ≤ 140737488351232) : Ev (fun k => laws_eqByteS.f k a a) true := by
  unfold laws_eqByteS.f
  simp only [if_true]
  exact eqByteS_loop a hn a.length 0 (by omega)
theorem Ev_if {α : Type} {c : Prop} [Decidable c] {f g : Nat → Option α} {x : α} (h : c) (h1 : Ev f x) : Ev (fun k => if c then f k else g k) x := by
  simp only [if_pos h]
  exact h1
theorem Ev_ifn {α : Type} {c : Prop} [Decidable c] {f g : Nat → Option α} {x : α} (h : ¬ c) (h1 : Ev g x) : Ev (fun k => if c then f k else g k) x := by
  simp only [if_neg h]
  exact h1
/-- A byte of a label. -/
def okB (c : Int) : Bool := (decide (97 ≤ c) && decide (c ≤ 122)) || (decide (48 ≤ c) && decide (c ≤ 57)) || decide (c = 45) || decide (c = 95)
/-- A label: what LabelOk answers. -/
def labelOk (s : ByteArray) : Bool := (bytesOf s).all okB && (decide (1 ≤ s.size) && decide (s.size ≤ 12))
theorem l1In_dec (a b c : Int) : spec_l1In.f a b c = some (decide (b ≤ a) && decide (a ≤ c)) := by
  unfold spec_l1In.f
  by_cases h : a ≥ b
  · rw [if_pos h]
    have h' : b ≤ a := h
    simp [h']
  · rw [if_neg h]
    have h' : ¬ b ≤ a := h
    simp [h']
theorem l2Byte_eq (c : Int) (h0 : 0 ≤ c) (h1 : c ≤ 255) : spec_l2Byte.f c = some (okB c) := by
  unfold spec_l2Byte.f okB
  rw [wrap_id (x := c) (by omega) (by omega), l1In_dec, l1In_dec]
  simp only [Option.bind_some]
  by_cases a : (decide (97 ≤ c) && decide (c ≤ 122)) = true
  · simp [a]
  · by_cases b : (decide (48 ≤ c) && decide (c ≤ 57)) = true
    · simp [a, b]
    · by_cases d : c = 45
      · simp [a, b, d]
      · simp only [Bool.not_eq_true] at a b
        have e : (c == 95) = decide (c = 95) := by by_cases z : c = 95 <;> simp [z]
        simp [a, b, d, e]
theorem drop_bytesOf (s : ByteArray) (i : Nat) (h : i < s.size) : (bytesOf s).drop i = bt s i :: (bytesOf s).drop (i + 1) := by
  rw [rd_drop _ i (by rw [bytesOf_length]; exact h), rd_bytesOf]
theorem spec_LabelOk_loop (s : ByteArray) (hn : s.size ≤ 140737488355328) : ∀ (d i : Nat), i + d = s.size →
    Ev (fun k => spec_LabelOk.l0 k s (i : Int)) (((bytesOf s).drop i).all okB && (decide (1 ≤ s.size) && decide (s.size ≤ 12))) := by
  intro d
  induction d with
  | zero =>
    intro i hi
    refine Ev.step (f := fun _ => some (decide (1 ≤ s.size) && decide (s.size ≤ 12))) (fun k => ?_) ⟨0, fun _ _ => by rw [List.drop_of_length_le (by rw [bytesOf_length]; omega)]; rfl⟩
    simp only [spec_LabelOk.l0]
    rw [if_neg (by omega), l1In_dec]
    have e1 : decide ((1 : Int) ≤ (s.size : Int)) = decide (1 ≤ s.size) := decide_eq_decide.2 (by omega)
    have e2 : decide ((s.size : Int) ≤ 12) = decide (s.size ≤ 12) := decide_eq_decide.2 (by omega)
    rw [e1, e2]
    rfl
  | succ d ih =>
    intro i hi
    have hb := bt_range s i
    have hw := wrap_succ i s.size (by omega) hn
    rw [drop_bytesOf s i (by omega), List.all_cons]
    cases h : okB (bt s i) with
    | true =>
      rw [Bool.true_and]
      refine Ev.step (f := fun k => spec_LabelOk.l0 k s ((i + 1 : Nat) : Int)) (fun k => ?_) (ih (i + 1) (by omega))
      simp only [spec_LabelOk.l0]
      rw [if_pos (by omega), if_pos (by omega), l2Byte_eq _ hb.1 hb.2, h, hw]
      rfl
    | false =>
      refine Ev.step (f := fun _ => some false) (fun k => ?_) ⟨0, fun _ _ => rfl⟩
      simp only [spec_LabelOk.l0]
      rw [if_pos (by omega), if_pos (by omega), l2Byte_eq _ hb.1 hb.2, h]
      rfl
theorem impl_LabelOk_body (c : Int) (x : Option Bool) :
    (if c < 97 then (if c < 48 then (if c = 45 then x else (if c = 95 then x else (some false))) else (if c > 57 then (if c = 45 then x else (if c = 95 then x else (some false))) else x))
      else (if c > 122 then (if c < 48 then (if c = 45 then x else (if c = 95 then x else (some false))) else (if c > 57 then (if c = 45 then x else (if c = 95 then x else (some false))) else x)) else x)) = if okB c = true then x else some false := by
  have hk : okB c = true ↔ (97 ≤ c ∧ c ≤ 122) ∨ (48 ≤ c ∧ c ≤ 57) ∨ c = 45 ∨ c = 95 := by simp [okB, or_assoc]
  by_cases h : okB c = true
  · have h' := hk.1 h
    rw [show (if okB c = true then x else some false) = x from if_pos h]
    repeat' split
    all_goals first | rfl | (exfalso; omega)
  · have h' : ¬ ((97 ≤ c ∧ c ≤ 122) ∨ (48 ≤ c ∧ c ≤ 57) ∨ c = 45 ∨ c = 95) := fun z => h (hk.2 z)
    rw [show (if okB c = true then x else some false) = some false from if_neg h]
    repeat' split
    all_goals first | rfl | (exfalso; omega)
theorem impl_LabelOk_loop (s : ByteArray) (hn : s.size ≤ 140737488355328) : ∀ (d i : Nat), i + d = s.size →
    Ev (fun k => impl_LabelOk.l0 k s (s.size : Int) (i : Int)) (((bytesOf s).drop i).all okB && (decide (1 ≤ s.size) && decide (s.size ≤ 12))) := by
  intro d
  induction d with
  | zero =>
    intro i hi
    refine Ev.step (f := fun _ => some (decide (1 ≤ s.size) && decide (s.size ≤ 12))) (fun k => ?_) ⟨0, fun _ _ => by rw [List.drop_of_length_le (by rw [bytesOf_length]; omega)]; rfl⟩
    simp only [impl_LabelOk.l0]
    rw [if_neg (by omega)]
    have e2 : decide ((s.size : Int) ≤ 12) = decide (s.size ≤ 12) := decide_eq_decide.2 (by omega)
    by_cases h : (s.size : Int) ≥ 1
    · rw [if_pos h, e2, decide_eq_true (show 1 ≤ s.size by omega), Bool.true_and]
    · rw [if_neg h, decide_eq_false (show ¬ 1 ≤ s.size by omega), Bool.false_and]
  | succ d ih =>
    intro i hi
    have hw := wrap_succ i s.size (by omega) hn
    rw [drop_bytesOf s i (by omega), List.all_cons]
    refine Ev.step (f := fun k => if okB (bt s i) = true then impl_LabelOk.l0 k s (s.size : Int) ((i + 1 : Nat) : Int) else some false) (fun k => ?_) ?_
    · simp only [impl_LabelOk.l0]
      rw [if_pos (by omega), if_pos (by omega), if_pos (by omega), hw]
      exact impl_LabelOk_body _ _
    · cases h : okB (bt s i) with
      | true =>
        have := ih (i + 1) (by omega)
        simpa using this
      | false => exact ⟨0, fun _ _ => by simp⟩
theorem spec_LabelOk_eq (s : ByteArray) (hn : s.size ≤ 140737488355328) : Ev (fun k => spec_LabelOk.f k s) (labelOk s) := by
  have := spec_LabelOk_loop s hn s.size 0 (by omega)
  unfold spec_LabelOk.f labelOk
  simpa using this
theorem impl_LabelOk_eq (s : ByteArray) (hn : s.size ≤ 140737488355328) : Ev (fun k => impl_LabelOk.f k s) (labelOk s) := by
  have := impl_LabelOk_loop s hn s.size 0 (by omega)
  unfold impl_LabelOk.f labelOk
  simpa using this
def be4 (n : Int) : List Int := [n / 16777216 % 256, n / 65536 % 256, n / 256 % 256, n % 256]
def put4 (l : List Int) (n : Int) : List Int := if 0 ≤ n ∧ n ≤ 2147483647 then l ++ be4 n else l
theorem clone_bytes_eq (l : List Int) (h : l.length < 140737488355328) : slices_Clone_byte.f l = some l := by
  unfold slices_Clone_byte.f
  simp [h]
theorem bits_low8 (n : Int) (h0 : 0 ≤ n) (h1 : n < 2 ^ 62) : Go.bits .and .i64 n 255 = n % 256 :=
  Go.bits_mask .i64 62 (by decide) (fun n h0 h1 => by rw [Go.IntKind.wrap_i64]; omega) 8 (by decide) n h0 h1
/-- The bytes that putBytes appends: from the byte with number c - 1 down to the byte with number 0. -/
def beTo (n : Int) : Nat → List Int
  | 0 => []
  | c + 1 => (n / 2 ^ (8 * c)) % 256 :: beTo n c
theorem putBytes_loop (n : Int) : ∀ (c : Nat) (l : List Int), c ≤ 4 → l.length + c ≤ 140737488355000 → Ev (fun k => impl_putBytes.l0 k n l ((c : Int) - 1)) (l ++ beTo n c) := by
  intro c
  induction c with
  | zero =>
    intro l _ _
    refine Ev.step (f := fun _ => some l) (fun k => ?_) ⟨0, fun _ _ => by rw [beTo, List.append_nil]⟩
    simp only [impl_putBytes.l0]
    rw [if_neg (by omega)]
  | succ c ih =>
    intro l hc hl
    have hs : shr .i64 n (8 * (c : Int)) = n / 2 ^ (8 * c) := by
      unfold shr
      have e : min ((8 * (c : Int)).toNat) (IntKind.bits .i64) = 8 * c := by
        have : IntKind.bits .i64 = 64 := rfl
        omega
      rw [e]
    have e1 : ((c + 1 : Nat) : Int) - 1 = (c : Int) := by omega
    rw [e1]
    have := ih (l ++ [(n / 2 ^ (8 * c)) % 256]) (by omega) (by rw [List.length_append]; simp; omega)
    rw [List.append_assoc] at this
    refine Ev.step (f := fun k => impl_putBytes.l0 k n (l ++ [(n / 2 ^ (8 * c)) % 256]) ((c : Int) - 1)) (fun k => ?_) this
    simp only [impl_putBytes.l0]
    rw [if_pos (by omega), wrap_id (x := 8 * (c : Int)) (by omega) (by omega), if_pos (by omega), if_pos (by omega), hs, wrap_id (x := (c : Int) - 1) (by omega) (by omega)]
theorem putBytes_eq (l : List Int) (hl : l.length ≤ 140737488351232) (n : Int) (c : Nat) (hc : c ≤ 4) (m : Int) : Ev (fun k => impl_putBytes.f k l n c m) (if 0 ≤ n ∧ n ≤ m then l ++ beTo n c else l) := by
  unfold impl_putBytes.f
  simp only [clone_bytes_eq l (by omega), Option.bind_some]
  by_cases h : 0 ≤ n ∧ n ≤ m
  · have h0 : ¬ n < 0 := by omega
    have h1 : ¬ n > m := by omega
    simp only [if_neg h0, decide_eq_false h1, if_pos h]
    refine Ev.step (f := fun k => impl_putBytes.l0 k n l ((c : Int) - 1)) (fun k => ?_) (putBytes_loop n c l hc (by omega))
    simp only [impl_putBytes.j0]
    rw [if_neg (by decide), wrap_id (x := (c : Int) - 1) (by omega) (by omega)]
  · rw [if_neg h]
    by_cases h0 : n < 0
    · simp only [if_pos h0]
      refine Ev.step (f := fun _ => some l) (fun k => ?_) ⟨0, fun _ _ => rfl⟩
      simp only [impl_putBytes.j0]
      rfl
    · have h1 : n > m := by omega
      simp only [if_neg h0, decide_eq_true h1]
      refine Ev.step (f := fun _ => some l) (fun k => ?_) ⟨0, fun _ _ => rfl⟩
      simp only [impl_putBytes.j0]
      rfl
theorem put4_le (l : List Int) (n : Int) : (put4 l n).length ≤ l.length + 4 := by
  unfold put4
  split
  · simp [be4]
  · omega
/-- What PutLabel returns. -/
def putLabel (l : List Int) (s : ByteArray) : List Int := if labelOk s = true then l ++ ((s.size : Int) :: bytesOf s) else l
theorem labelOk_size {s : ByteArray} (h : labelOk s = true) : 1 ≤ s.size ∧ s.size ≤ 12 := by
  unfold labelOk at h
  simp only [Bool.and_eq_true, decide_eq_true_eq] at h
  exact h.2
theorem putLabel_le (l : List Int) (s : ByteArray) : (putLabel l s).length ≤ l.length + 13 := by
  unfold putLabel
  split
  · rename_i h
    have := labelOk_size h
    rw [List.length_append, List.length_cons, bytesOf_length]
    omega
  · omega
theorem spec_PutLabel_eq (l : List Int) (hl : l.length ≤ 140737488351232) (s : ByteArray) (hs : s.size ≤ 140737488355328) : Ev (fun k => spec_PutLabel.f k l s) (putLabel l s) := by
  unfold spec_PutLabel.f putLabel
  simp only [Option.bind_some, List.length_nil, List.nil_append, Nat.zero_add]
  have h1 : l.length < 140737488355328 := by omega
  simp only [if_pos h1]
  refine Ev.bind (spec_LabelOk_eq s hs) ?_
  cases h : labelOk s with
  | true =>
    have hz := labelOk_size h
    refine ⟨0, fun _ _ => ?_⟩
    simp only [if_true, Option.bind_some]
    rw [if_pos (by rw [List.length_append]; simp; omega), List.append_assoc, show ((s.size : Int)) % 256 = (s.size : Int) by omega]
    rfl
  | false => exact ⟨0, fun _ _ => rfl⟩
theorem impl_PutLabel_eq (l : List Int) (hl : l.length ≤ 140737488351232) (s : ByteArray) (hs : s.size ≤ 140737488355328) : Ev (fun k => impl_PutLabel.f k l s) (putLabel l s) := by
  unfold impl_PutLabel.f putLabel
  simp only [clone_bytes_eq l (by omega), Option.bind_some]
  refine Ev.bind (impl_LabelOk_eq s hs) ?_
  have h1 : l.length < 140737488355328 := by omega
  cases h : labelOk s with
  | true =>
    have hz := labelOk_size h
    refine ⟨0, fun _ _ => ?_⟩
    simp only [if_true, if_pos h1, Option.bind_some]
    rw [if_pos (by rw [List.length_append]; simp; omega), List.append_assoc, show ((s.size : Int)) % 256 = (s.size : Int) by omega]
    rfl
  | false => exact ⟨0, fun _ _ => rfl⟩
/-- What stands between the dots of a list of bytes; 'acc' stands ahead of it. -/
def cutA : List UInt8 → List UInt8 → List (List UInt8)
  | acc, [] => [acc]
  | acc, c :: t => if c = 46 then acc :: cutA [] t else cutA (acc ++ [c]) t
def mkB (l : List UInt8) : ByteArray := ⟨l.toArray⟩
theorem mkB_data (s : ByteArray) : mkB s.data.toList = s := rfl
/-- The labels of a name. -/
def labelsL (s : ByteArray) : List ByteArray := if s.data.toList = [] then [] else (cutA [] s.data.toList).map mkB
theorem cutA_acc : ∀ (t acc : List UInt8), cutA acc t = match cutA [] t with | [] => [] | x :: r => (acc ++ x) :: r
  | [], acc => by simp [cutA]
  | c :: t, acc => by
    by_cases h : c = 46
    · simp [cutA, h]
    · have e1 := cutA_acc t (acc ++ [c])
      have e2 := cutA_acc t ([] ++ [c])
      simp only [cutA, if_neg h]
      rw [e1, e2]
      cases cutA [] t with
      | nil => rfl
      | cons x r => simp [List.append_assoc]
theorem split_cut : ∀ (l : List UInt8), Lib.splitK [46] 0 (l.count 46) l = cutA [] l
  | [] => rfl
  | c :: t => by
    have ih := split_cut t
    by_cases h : c = 46
    · subst h
      rw [List.count_cons_self]
      simp only [Lib.splitK, cutA, if_true]
      rw [Lib.index_one]
      simp only [Lib.indexByte]
      simp [ih]
    · rw [List.count_cons_of_ne (by simpa using h)]
      have e2 := cutA_acc t ([] ++ [c])
      simp only [cutA, if_neg h]
      rw [e2, ← ih]
      have hb : (c == 46) = false := by simpa using h
      cases hk : t.count 46 with
      | zero => simp [Lib.splitK]
      | succ k =>
        simp only [Lib.splitK]
        rw [Lib.index_one, Lib.index_one]
        simp only [Lib.indexByte, hb]
        have hge := Lib.indexByte_ge t 46
        by_cases hi : Lib.indexByte t 46 = -1
        · simp [hi]
        · have h1 : (Lib.indexByte t 46 == -1) = false := by simpa using hi
          have h2 : (Lib.indexByte t 46 + 1 == -1) = false := by simp; omega
          have h3 : (Lib.indexByte t 46 + 1).toNat = (Lib.indexByte t 46).toNat + 1 := by omega
          simp only [h1, h2, h3, Bool.false_eq_true, if_false]
          simp [List.take_succ_cons, Nat.add_right_comm]
theorem impl_Labels_eq (s : ByteArray) (hs : s.size < 4294967281) : impl_Labels.f s = some (labelsL s) := by
  unfold impl_Labels.f labelsL
  rw [ByteArray.toList_eq]
  by_cases h : s.data.toList = []
  · rw [if_pos h, if_pos h]
  · rw [if_neg h, if_neg h]
    have e : strings_Split.f s (⟨#[46]⟩ : ByteArray) = some (Lib.splitB ⟨#[46]⟩ 0 (Lib.countB s ⟨#[46]⟩) s) := by
      unfold strings_Split.f
      exact if_pos ⟨rfl, hs⟩
    rw [e]
    simp only [Option.bind_some]
    congr 1
    have d := Lib.splitB_data ⟨#[46]⟩ 0 (Lib.countB s ⟨#[46]⟩) s
    have k : Lib.countB s ⟨#[46]⟩ = s.data.toList.count 46 := Lib.count_one 46 s.data.toList
    rw [k] at d ⊢
    have d2 : (Lib.splitB ⟨#[46]⟩ 0 (s.data.toList.count 46) s).map (·.data.toList) = cutA [] s.data.toList := d.trans (split_cut _)
    rw [← d2, List.map_map]
    exact (List.map_id'' (fun x => mkB_data x) _).symm
theorem extract_mkB (s : ByteArray) (f i : Nat) : s.extract f i = mkB ((s.data.toList.take i).drop f) := by
  have h : (s.extract f i).data.toList = (s.data.toList.take i).drop f := by
    rw [ByteArray.data_extract, Array.toList_extract, List.extract_eq_take_drop, List.drop_take]
  rw [← mkB_data (s.extract f i), h]
theorem bt_data (s : ByteArray) (i : Nat) (h : i < s.data.toList.length) : (bt s (i : Int) = 46) ↔ s.data.toList[i] = 46 := by
  have h' : (i : Int).toNat < s.size := by simpa using h
  have e := bt_at s (i : Int) h'
  have e2 : s[(i : Int).toNat]'h' = s.data.toList[i] := by
    rw [Array.getElem_toList]
    rfl
  rw [← e, e2, ← UInt8.toNat_inj]
  have t : UInt8.toNat 46 = 46 := rfl
  generalize s.data.toList[i].toNat = z
  generalize UInt8.toNat 46 = z' at t ⊢
  omega
theorem size_data (s : ByteArray) : s.size = s.data.toList.length := rfl
theorem spec_Labels_loop (s : ByteArray) (hn : s.size ≤ 1048576) (hne : s.toList ≠ []) : ∀ (d i f : Nat) (out : List ByteArray), i + d = s.size → f ≤ i → out.length ≤ i →
    Ev (fun k => spec_Labels.l0 k s out (f : Int) (i : Int)) (out ++ (cutA ((s.data.toList.take i).drop f) (s.data.toList.drop i)).map mkB) := by
  have hz := size_data s
  have hb : (s.toList != ([] : List UInt8)) = true := bne_iff_ne.2 hne
  intro d
  induction d with
  | zero =>
    intro i f out hi hf ho
    have w : wrap64 ((i : Int) + 1) = ((i + 1 : Nat) : Int) := wrap_succ i 1048577 (by omega) (by omega)
    have hx : s.extract f i = mkB ((s.data.toList.take i).drop f) := extract_mkB s f i
    refine Ev.step (f := fun k => spec_Labels.j1 k s out (f : Int) (i : Int) true) (fun k => ?_) ?_
    · simp only [spec_Labels.l0]
      rw [if_pos (by omega), hb]
    refine Ev.step (f := fun k => spec_Labels.l0 k s (out ++ [mkB ((s.data.toList.take i).drop f)]) ((i + 1 : Nat) : Int) ((i + 1 : Nat) : Int)) (fun k => ?_) ?_
    · simp only [spec_Labels.j1, if_true]
      rw [if_pos (by omega), if_pos (by omega), if_pos (by omega), if_pos (by omega), if_pos (by omega), w, Int.toNat_natCast, Int.toNat_natCast, hx]
    refine Ev.step (f := fun k => spec_Labels.j1 k s (out ++ [mkB ((s.data.toList.take i).drop f)]) ((i + 1 : Nat) : Int) ((i + 1 : Nat) : Int) false) (fun k => ?_) ?_
    · simp only [spec_Labels.l0]
      rw [if_neg (by omega)]
    refine Ev.step (f := fun _ => some (out ++ [mkB ((s.data.toList.take i).drop f)])) (fun k => ?_) ⟨0, fun _ _ => ?_⟩
    · simp only [spec_Labels.j1]
      rw [if_neg (by decide)]
    · rw [show s.data.toList.drop i = [] from List.drop_of_length_le (by omega)]
      rfl
  | succ d ih =>
    intro i f out hi hf ho
    have hil : i < s.data.toList.length := by omega
    have w : wrap64 ((i : Int) + 1) = ((i + 1 : Nat) : Int) := wrap_succ i 1048577 (by omega) (by omega)
    have hx : s.extract f i = mkB ((s.data.toList.take i).drop f) := extract_mkB s f i
    rw [List.drop_eq_getElem_cons hil]
    refine Ev.step (f := fun k => spec_Labels.j1 k s out (f : Int) (i : Int) true) (fun k => ?_) ?_
    · simp only [spec_Labels.l0]
      rw [if_pos (by omega), hb]
    by_cases c : s.data.toList[i] = 46
    · have cb := (bt_data s i hil).2 c
      have := ih (i + 1) (i + 1) (out ++ [mkB ((s.data.toList.take i).drop f)]) (by omega) (by omega) (by simp; omega)
      have e0 : (s.data.toList.take (i + 1)).drop (i + 1) = [] := List.drop_of_length_le (by rw [List.length_take]; omega)
      rw [e0] at this
      refine Ev.step (f := fun k => spec_Labels.l0 k s (out ++ [mkB ((s.data.toList.take i).drop f)]) ((i + 1 : Nat) : Int) ((i + 1 : Nat) : Int)) (fun k => ?_) ?_
      · simp only [spec_Labels.j1, if_true]
        rw [if_neg (by omega), if_pos (by omega), if_pos (by omega), if_pos cb, if_pos (by omega), if_pos (by omega), if_pos (by omega), if_pos (by omega), w, Int.toNat_natCast, Int.toNat_natCast, hx]
      · simp only [cutA, if_pos c, List.map_cons]
        rw [List.append_assoc] at this
        exact this
    · have cb : ¬ bt s (i : Int) = 46 := fun e => c ((bt_data s i hil).1 e)
      have := ih (i + 1) f out (by omega) (by omega) (by omega)
      have e0 : (s.data.toList.take (i + 1)).drop f = (s.data.toList.take i).drop f ++ [s.data.toList[i]] := by
        rw [← List.take_append_getElem hil, List.drop_append_of_le_length (by rw [List.length_take]; omega)]
      rw [e0] at this
      refine Ev.step (f := fun k => spec_Labels.l0 k s out (f : Int) ((i + 1 : Nat) : Int)) (fun k => ?_) ?_
      · simp only [spec_Labels.j1, if_true]
        rw [if_neg (by omega), if_pos (by omega), if_pos (by omega), if_neg cb, w]
      · simp only [cutA, if_neg c]
        exact this
theorem spec_Labels_eq (s : ByteArray) (hn : s.size ≤ 1048576) : Ev (fun k => spec_Labels.f k s) (labelsL s) := by
  unfold spec_Labels.f labelsL
  by_cases h : s.data.toList = []
  · rw [if_pos h]
    have hb : (s.toList != ([] : List UInt8)) = false := by rw [ByteArray.toList_eq, h]; rfl
    refine Ev.step (f := fun k => spec_Labels.j1 k s [] 0 0 false) (fun k => ?_) ?_
    · simp only [spec_Labels.l0]
      rw [if_pos (by omega), hb]
    refine Ev.step (f := fun _ => some []) (fun k => ?_) ⟨0, fun _ _ => rfl⟩
    simp only [spec_Labels.j1]
    rw [if_neg (by decide)]
  · rw [if_neg h]
    have := spec_Labels_loop s hn (by rw [ByteArray.toList_eq]; exact h) s.size 0 0 [] (by omega) (by omega) (by simp)
    simpa using this
theorem cutA_length : ∀ (t acc : List UInt8), (cutA acc t).length ≤ t.length + 1
  | [], _ => Nat.le_refl _
  | c :: t, acc => by
    unfold cutA
    split
    · have := cutA_length t []
      simp only [List.length_cons]
      omega
    · have := cutA_length t (acc ++ [c])
      simp only [List.length_cons]
      omega
theorem labelsL_length (s : ByteArray) : (labelsL s).length ≤ s.size + 1 := by
  unfold labelsL
  split
  · simp
  · rw [List.length_map, size_data]
    exact cutA_length _ _
/-- What the laws write into bytes: a, a + 1, .. -/
def marks : Nat → Int → List Int
  | 0, _ => []
  | n + 1, a => a % 256 :: marks n (a + 1)
theorem marks_length : ∀ (n : Nat) (a : Int), (marks n a).length = n
  | 0, _ => rfl
  | n + 1, a => by rw [marks, List.length_cons, marks_length n]
theorem marks_snoc : ∀ (n : Nat) (a : Int), marks (n + 1) a = marks n a ++ [(a + n) % 256]
  | 0, a => by simp [marks]
  | n + 1, a => by
    rw [marks, marks_snoc n (a + 1), marks]
    simp only [List.cons_append]
    congr 3
    omega
theorem marks_take (n : Nat) (a : Int) : ∀ i, i ≤ n → (marks n a).take i = marks i a := by
  induction n generalizing a with
  | zero =>
    intro i hi
    obtain rfl : i = 0 := by omega
    rfl
  | succ n ih =>
    intro i hi
    cases i with
    | zero => rfl
    | succ i =>
      rw [marks, List.take_succ_cons, ih (a + 1) i (by omega), marks]
theorem marks_rd (n : Nat) (a : Int) (i : Nat) (h : i < n) : rd (marks n a) i = (a + i) % 256 := by
  rw [rd_getElem _ _ (by rw [marks_length]; exact h)]
  have e : (marks n a).take (i + 1) = marks (i + 1) a := marks_take n a (i + 1) (by omega)
  rw [marks_snoc] at e
  have hl : i < ((marks n a).take (i + 1)).length := by rw [List.length_take, marks_length]; omega
  have : ((marks n a).take (i + 1))[i]'hl = (a + i) % 256 := by
    simp only [e]
    rw [List.getElem_append_right (by rw [marks_length]; omega)]
    simp [marks_length]
  rw [List.getElem_take] at this
  exact this
theorem markByteS_loop (a : Int) (ha : 0 ≤ a ∧ a ≤ 4000000000000000000) : ∀ (d i : Nat) (m : List Int), i + d = m.length → m.length ≤ 140737488355328 → m.take i = marks i a →
    Ev (fun k => laws_markByteS.l0 k m (a + i) (i : Int)) (a + m.length, marks m.length a) := by
  intro d
  induction d with
  | zero =>
    intro i m hi hm ht
    rw [List.take_of_length_le (by omega)] at ht
    refine Ev.step (f := fun _ => some (a + i, m)) (fun k => ?_) ⟨0, fun _ _ => ?_⟩
    · simp only [laws_markByteS.l0]
      rw [if_neg (by omega)]
    · have e : i = m.length := by omega
      rw [← e, ← ht]
  | succ d ih =>
    intro i m hi hm ht
    have hl : (m.set i ((a + i) % 256)).length = m.length := List.length_set
    have hw := wrap_succ i m.length (by omega) hm
    have := ih (i + 1) (m.set i ((a + i) % 256)) (by omega) (by omega) (by
      rw [List.take_add_one, List.take_set_of_le (Nat.le_refl _), ht, List.getElem?_set_self (by omega), marks_snoc]
      rfl)
    rw [hl] at this
    refine Ev.step (f := fun k => laws_markByteS.l0 k (m.set i ((a + i) % 256)) (a + ((i + 1 : Nat) : Int)) ((i + 1 : Nat) : Int)) (fun k => ?_) this
    simp only [laws_markByteS.l0]
    rw [if_pos (by omega), if_pos (by omega), hw, Int.toNat_natCast, wrap_id (x := a + (i : Int) + 1) (by omega) (by omega)]
    congr 1
    omega
theorem markByteS_eq (m : List Int) (hm : m.length ≤ 140737488355328) : Ev (fun k => laws_markByteS.f k m 1) (1 + (m.length : Int), marks m.length 1) := by
  have := markByteS_loop 1 (by omega) m.length 0 m (by omega) hm rfl
  unfold laws_markByteS.f
  simpa using this
theorem heldByteS_loop (n : Nat) (hn : n ≤ 140737488355328) (a : Int) (ha : 0 ≤ a ∧ a ≤ 4000000000000000000) : ∀ (d i : Nat), i + d = n →
    Ev (fun k => laws_heldByteS.l0 k (marks n a) (a + i) (i : Int)) (a + n) := by
  intro d
  have hl := marks_length n a
  induction d with
  | zero =>
    intro i hi
    refine Ev.step (f := fun _ => some (a + i)) (fun k => ?_) ⟨0, fun _ _ => by rw [show i = n by omega]⟩
    simp only [laws_heldByteS.l0]
    rw [if_neg (by omega)]
  | succ d ih =>
    intro i hi
    have hw := wrap_succ i n (by omega) hn
    refine Ev.step (f := fun k => laws_heldByteS.l0 k (marks n a) (a + ((i + 1 : Nat) : Int)) ((i + 1 : Nat) : Int)) (fun k => ?_) (ih (i + 1) (by omega))
    simp only [laws_heldByteS.l0]
    rw [if_pos (by omega), if_pos (by omega), marks_rd n a i (by omega), if_pos rfl, hw, wrap_id (x := a + (i : Int) + 1) (by omega) (by omega)]
    congr 1
    omega
theorem heldByteS_eq (n : Nat) (hn : n ≤ 140737488355328) : Ev (fun k => laws_heldByteS.f k (marks n 1) 1) (1 + (n : Int)) := by
  have := heldByteS_loop n hn 1 (by omega) n 0 (by omega)
  unfold laws_heldByteS.f
  simpa using this
theorem rdS_getElem (l : List ByteArray) (i : Nat) (h : i < l.length) : rdOf ByteArray.empty l i = l[i] := by
  unfold rdOf
  rw [Int.toNat_natCast, List.getD_eq_getElem?_getD, List.getElem?_eq_getElem h, Option.getD_some]
/-- How many bytes a list of strings holds. -/
def szSs (l : List ByteArray) : Nat := (l.map ByteArray.size).sum
theorem szSs_cons (x : ByteArray) (l : List ByteArray) : szSs (x :: l) = x.size + szSs l := by
  unfold szSs
  rw [List.map_cons, List.sum_cons]
theorem szSs_nil : szSs [] = 0 := rfl
theorem cutA_size : ∀ (t acc : List UInt8), szSs ((cutA acc t).map mkB) ≤ acc.length + t.length
  | [], acc => by
    have e : (mkB acc).size = acc.length := rfl
    simp only [cutA, List.map_cons, List.map_nil, szSs_cons, szSs_nil, e, List.length_nil]
    omega
  | c :: t, acc => by
    unfold cutA
    split
    · have := cutA_size t []
      have e : (mkB acc).size = acc.length := rfl
      simp only [List.length_nil] at this
      simp only [List.map_cons, szSs_cons, e, List.length_cons]
      omega
    · have := cutA_size t (acc ++ [c])
      simp only [List.length_append, List.length_cons, List.length_nil] at this ⊢
      omega
theorem labelsL_size (s : ByteArray) : szSs (labelsL s) ≤ s.size := by
  unfold labelsL
  split
  · rw [szSs_nil]
    omega
  · have := cutA_size s.data.toList []
    rw [size_data]
    simpa using this
theorem szSs_mem : ∀ (l : List ByteArray) (x : ByteArray), x ∈ l → x.size ≤ szSs l
  | [], x, h => by cases h
  | y :: l, x, h => by
    rw [szSs_cons]
    rcases List.mem_cons.1 h with e | h
    · subst e
      omega
    · have := szSs_mem l x h
      omega
theorem labels_mem_size (s x : ByteArray) (h : x ∈ labelsL s) : x.size ≤ s.size := Nat.le_trans (szSs_mem _ x h) (labelsL_size s)
/-- What NameOk answers. -/
def nameOk (s : ByteArray) : Bool := (labelsL s).all labelOk && (decide (s.size ≤ 50) && decide ((labelsL s).length ≤ 6))
theorem spec_NameOk_loop (s : ByteArray) (l : List ByteArray) (hn : l.length ≤ 140737488351232) (hz : ∀ x ∈ l, x.size ≤ 1048576) : ∀ (d i : Nat), i + d = l.length →
    Ev (fun k => spec_NameOk.l0 k s l (i : Int)) ((l.drop i).all labelOk && (decide (s.size ≤ 50) && decide (l.length ≤ 6))) := by
  intro d
  induction d with
  | zero =>
    intro i hi
    rw [show l.drop i = [] from List.drop_of_length_le (by omega)]
    refine Ev.step (f := fun _ => some (decide (s.size ≤ 50) && decide (l.length ≤ 6))) (fun k => ?_) ⟨0, fun _ _ => rfl⟩
    simp only [spec_NameOk.l0]
    rw [if_neg (by omega)]
    by_cases c : s.size ≤ 50
    · rw [if_pos (by omega), decide_eq_true c, Bool.true_and]
      congr 1
      exact decide_eq_decide.2 (by omega)
    · rw [if_neg (by omega), decide_eq_false c, Bool.false_and]
  | succ d ih =>
    intro i hi
    have hil : i < l.length := by omega
    have w := wrap_succ i l.length hil (by omega)
    rw [List.drop_eq_getElem_cons hil, List.all_cons]
    have hx := hz _ (List.getElem_mem hil)
    refine Ev.step (f := fun k => (spec_LabelOk.f k l[i]).bind fun t => if t = true then spec_NameOk.l0 k s l ((i + 1 : Nat) : Int) else some false) (fun k => ?_) ?_
    · simp only [spec_NameOk.l0]
      rw [if_pos (by omega), if_pos (by omega), rdS_getElem l i hil, w]
    · refine Ev.bind (spec_LabelOk_eq l[i] (by omega)) ?_
      cases h : labelOk l[i] with
      | true =>
        rw [Bool.true_and]
        exact Ev_if rfl (ih (i + 1) (by omega))
      | false => exact Ev_ifn (by decide) ⟨0, fun _ _ => rfl⟩
theorem spec_NameOk_eq (s : ByteArray) (hs : s.size ≤ 1048576) : Ev (fun k => spec_NameOk.f k s) (nameOk s) := by
  unfold spec_NameOk.f nameOk
  have h1 := labelsL_length s
  refine Ev.bind (spec_Labels_eq s hs) ?_
  have := spec_NameOk_loop s (labelsL s) (by omega) (fun x hx => Nat.le_trans (labels_mem_size s x hx) hs) (labelsL s).length 0 (by omega)
  simpa using this
theorem impl_NameOk_1_eq (s : ByteArray) (hs : s.size ≤ 1048576) : Ev (fun k => impl_NameOk_1.f k s) (!labelOk s) := by
  unfold impl_NameOk_1.f
  exact Ev.bind (impl_LabelOk_eq s (by omega)) ⟨0, fun _ _ => rfl⟩
theorem slices_IndexFunc_string_loop (l : List ByteArray) (hn : l.length ≤ 140737488351232) (hz : ∀ x ∈ l, x.size ≤ 1048576) : ∀ (d i : Nat), i + d = l.length →
    ∃ r : Int, Ev (fun k => slices_IndexFunc_string.l0 k l (l.length : Int) (i : Int)) r ∧ decide (r ≥ 0) = !(l.drop i).all labelOk := by
  intro d
  induction d with
  | zero =>
    intro i hi
    rw [show l.drop i = [] from List.drop_of_length_le (by omega)]
    refine ⟨-1, Ev.step (f := fun _ => some (-1)) (fun k => ?_) ⟨0, fun _ _ => rfl⟩, rfl⟩
    simp only [slices_IndexFunc_string.l0]
    rw [if_neg (by omega)]
  | succ d ih =>
    intro i hi
    have hil : i < l.length := by omega
    have w := wrap_succ i l.length hil (by omega)
    rw [List.drop_eq_getElem_cons hil, List.all_cons]
    have hx := hz _ (List.getElem_mem hil)
    obtain ⟨r, hr, hd⟩ := ih (i + 1) (by omega)
    have hs : ∀ k, slices_IndexFunc_string.l0 (k + 1) l (l.length : Int) (i : Int) = (impl_NameOk_1.f k l[i]).bind fun t => if t = true then some (i : Int) else slices_IndexFunc_string.l0 k l (l.length : Int) ((i + 1 : Nat) : Int) := by
      intro k
      simp only [slices_IndexFunc_string.l0]
      rw [if_pos (by omega), if_pos (by omega), if_pos (by omega), rdS_getElem l i hil, w]
    cases h : labelOk l[i] with
    | true =>
      refine ⟨r, Ev.step hs (Ev.bind (impl_NameOk_1_eq l[i] hx) ?_), by rw [hd, Bool.true_and]⟩
      rw [h]
      exact Ev_ifn (by decide) hr
    | false =>
      refine ⟨(i : Int), Ev.step hs (Ev.bind (impl_NameOk_1_eq l[i] hx) ?_), by rw [decide_eq_true (by omega)]; rfl⟩
      rw [h]
      exact Ev_if rfl ⟨0, fun _ _ => rfl⟩
theorem slices_ContainsFunc_string_eq (l : List ByteArray) (hn : l.length ≤ 140737488351232) (hz : ∀ x ∈ l, x.size ≤ 1048576) : Ev (fun k => slices_ContainsFunc_string.f k l) (!l.all labelOk) := by
  unfold slices_ContainsFunc_string.f slices_IndexFunc_string.f
  obtain ⟨r, hr, hd⟩ := slices_IndexFunc_string_loop l hn hz l.length 0 (by omega)
  rw [List.drop_zero] at hd
  rw [← hd]
  exact Ev.bind hr ⟨0, fun _ _ => rfl⟩
theorem impl_NameOk_eq (s : ByteArray) (hs : s.size ≤ 1048576) : Ev (fun k => impl_NameOk.f k s) (nameOk s) := by
  unfold impl_NameOk.f nameOk
  have h1 := labelsL_length s
  rw [impl_Labels_eq s (by omega)]
  simp only [Option.bind_some]
  by_cases c1 : s.size ≤ 50
  · refine Ev_if (by omega) ?_
    rw [decide_eq_true c1, Bool.true_and]
    by_cases c2 : (labelsL s).length ≤ 6
    · refine Ev_if (by omega) ?_
      rw [decide_eq_true c2, Bool.and_true]
      refine Ev.bind (slices_ContainsFunc_string_eq _ (by omega) (fun x hx => Nat.le_trans (labels_mem_size s x hx) hs)) ⟨0, fun _ _ => ?_⟩
      rw [Bool.not_not]
    · refine Ev_ifn (by omega) ?_
      rw [decide_eq_false c2, Bool.and_false]
      exact ⟨0, fun _ _ => rfl⟩
  · refine Ev_ifn (by omega) ?_
    rw [decide_eq_false c1, Bool.false_and, Bool.and_false]
    exact ⟨0, fun _ _ => rfl⟩
/-- A label as bytes: its length, and itself. -/
def labW (x : ByteArray) : List Int := (x.size : Int) :: bytesOf x
def wire : List ByteArray → List Int
  | [] => []
  | x :: l => labW x ++ wire l
theorem putLabel_ok (l : List Int) (x : ByteArray) (h : labelOk x = true) : putLabel l x = l ++ labW x := by
  unfold putLabel labW
  rw [if_pos h]
/-- What PutPlain returns. -/
def putPlain (l : List Int) (s : ByteArray) : List Int := if nameOk s = true then l ++ (wire (labelsL s) ++ [0]) else l
theorem nameOk_all {s : ByteArray} (h : nameOk s = true) : (∀ x ∈ labelsL s, labelOk x = true) ∧ s.size ≤ 50 ∧ (labelsL s).length ≤ 6 := by
  unfold nameOk at h
  simp only [Bool.and_eq_true, decide_eq_true_eq] at h
  exact ⟨fun x hx => List.all_eq_true.1 h.1 x hx, h.2.1, h.2.2⟩
theorem spec_PutPlain_loop (ls : List ByteArray) (hn : ls.length ≤ 140737488351232) (hall : ∀ x ∈ ls, labelOk x = true) : ∀ (d i : Nat) (out : List Int), i + d = ls.length → out.length + 13 * d ≤ 140737488351232 →
    Ev (fun k => spec_PutPlain.l0 k out ls (i : Int)) (out ++ (wire (ls.drop i) ++ [0])) := by
  intro d
  induction d with
  | zero =>
    intro i out hi ho
    rw [show ls.drop i = [] from List.drop_of_length_le (by omega)]
    refine Ev.step (f := fun _ => some (out ++ [0])) (fun k => ?_) ⟨0, fun _ _ => rfl⟩
    simp only [spec_PutPlain.l0]
    rw [if_neg (by omega), if_pos (by omega)]
  | succ d ih =>
    intro i out hi ho
    have hil : i < ls.length := by omega
    have w := wrap_succ i ls.length hil (by omega)
    have hx := hall _ (List.getElem_mem hil)
    have hs := labelOk_size hx
    have hp := putLabel_le out ls[i]
    rw [List.drop_eq_getElem_cons hil, wire]
    have e := ih (i + 1) (putLabel out ls[i]) (by omega) (by omega)
    rw [putLabel_ok out _ hx] at e hp
    refine Ev.step (f := fun k => (spec_PutLabel.f k out ls[i]).bind fun t => spec_PutPlain.l0 k t ls ((i + 1 : Nat) : Int)) (fun k => ?_) (Ev.bind (spec_PutLabel_eq out (by omega) ls[i] (by omega)) ?_)
    · simp only [spec_PutPlain.l0]
      rw [if_pos (by omega), if_pos (by omega), rdS_getElem ls i hil, w]
    · rw [putLabel_ok out _ hx]
      simpa using e
theorem impl_PutPlain_loop (ls : List ByteArray) (hn : ls.length ≤ 140737488351232) (hall : ∀ x ∈ ls, labelOk x = true) : ∀ (d i : Nat) (out : List Int), i + d = ls.length → out.length + 13 * d ≤ 140737488351232 →
    Ev (fun k => impl_PutPlain.l0 k out ls (ls.length : Int) (i : Int)) (out ++ (wire (ls.drop i) ++ [0])) := by
  intro d
  induction d with
  | zero =>
    intro i out hi ho
    rw [show ls.drop i = [] from List.drop_of_length_le (by omega)]
    refine Ev.step (f := fun _ => some (out ++ [0])) (fun k => ?_) ⟨0, fun _ _ => rfl⟩
    simp only [impl_PutPlain.l0]
    rw [if_neg (by omega), if_pos (by omega)]
  | succ d ih =>
    intro i out hi ho
    have hil : i < ls.length := by omega
    have w := wrap_succ i ls.length hil (by omega)
    have hx := hall _ (List.getElem_mem hil)
    have hs := labelOk_size hx
    have hp := putLabel_le out ls[i]
    rw [List.drop_eq_getElem_cons hil, wire]
    have e := ih (i + 1) (putLabel out ls[i]) (by omega) (by omega)
    rw [putLabel_ok out _ hx] at e hp
    refine Ev.step (f := fun k => (impl_PutLabel.f k out ls[i]).bind fun t => impl_PutPlain.l0 k t ls (ls.length : Int) ((i + 1 : Nat) : Int)) (fun k => ?_) (Ev.bind (impl_PutLabel_eq out (by omega) ls[i] (by omega)) ?_)
    · simp only [impl_PutPlain.l0]
      rw [if_pos (by omega), if_pos (by omega), if_pos (by omega), rdS_getElem ls i hil, w]
    · rw [putLabel_ok out _ hx]
      simpa using e
theorem spec_PutPlain_eq (l : List Int) (hl : l.length ≤ 140737488350000) (s : ByteArray) (hs : s.size ≤ 1048576) : Ev (fun k => spec_PutPlain.f k l s) (putPlain l s) := by
  unfold spec_PutPlain.f putPlain
  simp only [Option.bind_some, List.length_nil, List.nil_append, Nat.zero_add]
  refine Ev_if (show l.length < 140737488355328 by omega) (Ev.bind (spec_NameOk_eq s hs) ?_)
  cases h : nameOk s with
  | false => exact Ev_ifn (by decide) ⟨0, fun _ _ => rfl⟩
  | true =>
    obtain ⟨hall, _, hn⟩ := nameOk_all h
    refine Ev_if rfl (Ev.bind (spec_Labels_eq s hs) ?_)
    rw [if_pos rfl]
    have := spec_PutPlain_loop (labelsL s) (by omega) hall (labelsL s).length 0 l (by omega) (by omega)
    simpa using this
theorem impl_PutPlain_eq (l : List Int) (hl : l.length ≤ 140737488350000) (s : ByteArray) (hs : s.size ≤ 1048576) : Ev (fun k => impl_PutPlain.f k l s) (putPlain l s) := by
  unfold impl_PutPlain.f putPlain
  rw [clone_bytes_eq l (by omega), impl_Labels_eq s (by omega)]
  simp only [Option.bind_some]
  refine Ev.bind (impl_NameOk_eq s hs) ?_
  cases h : nameOk s with
  | false => exact Ev_ifn (by decide) ⟨0, fun _ _ => rfl⟩
  | true =>
    obtain ⟨hall, _, hn⟩ := nameOk_all h
    refine Ev_if rfl ?_
    rw [if_pos rfl]
    have := impl_PutPlain_loop (labelsL s) (by omega) hall (labelsL s).length 0 l (by omega) (by omega)
    simpa using this
theorem wire_le : ∀ (ls : List ByteArray), (∀ x ∈ ls, labelOk x = true) → (wire ls).length ≤ 13 * ls.length
  | [], _ => Nat.zero_le _
  | x :: ls, h => by
    have h1 := labelOk_size (h x List.mem_cons_self)
    have h2 := wire_le ls (fun y hy => h y (List.mem_cons_of_mem _ hy))
    have h3 := bytesOf_length x
    unfold wire labW
    simp only [List.length_append, List.length_cons]
    omega
theorem putPlain_le (l : List Int) (s : ByteArray) : (putPlain l s).length ≤ l.length + 79 := by
  unfold putPlain
  split
  · rename_i h
    obtain ⟨hall, _, hn⟩ := nameOk_all h
    have := wire_le _ hall
    simp only [List.length_append, List.length_cons, List.length_nil]
    omega
  · omega
theorem spec_Put4_eq (l : List Int) (hl : l.length ≤ 140737488351232) (n : Int) : spec_Put4.f l n = some (put4 l n) := by
  unfold spec_Put4.f put4
  simp only [Option.bind_some, List.length_nil, List.nil_append, Nat.zero_add]
  rw [if_pos (by omega), l1In_dec]
  simp only [Option.bind_some]
  by_cases h : 0 ≤ n ∧ n ≤ 2147483647
  · rw [if_pos h, decide_eq_true h.1, decide_eq_true h.2, bits_low8 n h.1 (by omega), bits_low8 (n / 65536) (by omega) (by omega), bits_low8 (n / 256) (by omega) (by omega)]
    simp only [Bool.and_self, if_true, List.length_cons, List.length_nil]
    rw [if_pos (by omega)]
    congr 2
    unfold be4
    simp only [Int.emod_emod]
  · rw [if_neg h]
    have : (decide (0 ≤ n) && decide (n ≤ 2147483647)) = false := by
      rw [Bool.and_eq_false_iff, decide_eq_false_iff_not, decide_eq_false_iff_not]
      omega
    rw [this]
    rfl
theorem impl_Put4_eq (l : List Int) (hl : l.length ≤ 140737488351232) (n : Int) : Ev (fun k => impl_Put4.f k l n) (put4 l n) := by
  unfold impl_Put4.f
  refine Ev.bind (putBytes_eq l hl n 4 (by decide) 2147483647) ⟨0, fun _ _ => ?_⟩
  unfold put4
  by_cases h : 0 ≤ n ∧ n ≤ 2147483647
  · rw [if_pos h, if_pos h]
    congr 2
    simp [beTo, be4]
  · rw [if_neg h, if_neg h]
/-- The bytes of a text. -/
def textOk (s : ByteArray) : Bool := (bytesOf s).all (fun c => decide (33 ≤ c) && decide (c ≤ 126)) && decide (s.size ≤ 12)
theorem spec_l5Text_loop (s : ByteArray) (hn : s.size ≤ 140737488355328) : ∀ (d i : Nat), i + d = s.size →
    Ev (fun k => spec_l5Text.l0 k s (i : Int)) (((bytesOf s).drop i).all (fun c => decide (33 ≤ c) && decide (c ≤ 126)) && decide (s.size ≤ 12)) := by
  intro d
  induction d with
  | zero =>
    intro i hi
    refine Ev.step (f := fun _ => some (decide (s.size ≤ 12))) (fun k => ?_) ⟨0, fun _ _ => by rw [List.drop_of_length_le (by rw [bytesOf_length]; omega)]; rfl⟩
    simp only [spec_l5Text.l0]
    rw [if_neg (by omega)]
    congr 1
    exact decide_eq_decide.2 (by omega)
  | succ d ih =>
    intro i hi
    have hb := bt_range s i
    have hw := wrap_succ i s.size (by omega) hn
    rw [drop_bytesOf s i (by omega), List.all_cons]
    have hs : ∀ k, spec_l5Text.l0 (k + 1) s (i : Int) = if (decide (33 ≤ bt s i) && decide (bt s i ≤ 126)) = true then spec_l5Text.l0 k s ((i + 1 : Nat) : Int) else some false := by
      intro k
      simp only [spec_l5Text.l0]
      rw [if_pos (by omega), if_pos (by omega), wrap_id (x := bt s i) (by omega) (by omega), l1In_dec, Option.bind_some, hw]
    refine Ev.step hs ?_
    cases h : (decide (33 ≤ bt s i) && decide (bt s i ≤ 126)) with
    | true => exact Ev_if rfl (by rw [Bool.true_and]; exact ih (i + 1) (by omega))
    | false => exact Ev_ifn (by decide) ⟨0, fun _ _ => rfl⟩
theorem spec_l5Text_eq (s : ByteArray) (hn : s.size ≤ 140737488355328) : Ev (fun k => spec_l5Text.f k s) (textOk s) := by
  have := spec_l5Text_loop s hn s.size 0 (by omega)
  unfold spec_l5Text.f textOk
  simpa using this
theorem impl_isText_loop (s : ByteArray) (hn : s.size ≤ 140737488355328) : ∀ (d i : Nat), i + d = s.size →
    Ev (fun k => impl_isText.l0 k s (s.size : Int) (i : Int)) (((bytesOf s).drop i).all (fun c => decide (33 ≤ c) && decide (c ≤ 126)) && decide (s.size ≤ 12)) := by
  intro d
  induction d with
  | zero =>
    intro i hi
    refine Ev.step (f := fun _ => some (decide (s.size ≤ 12))) (fun k => ?_) ⟨0, fun _ _ => by rw [List.drop_of_length_le (by rw [bytesOf_length]; omega)]; rfl⟩
    simp only [impl_isText.l0]
    rw [if_neg (by omega)]
    congr 1
    exact decide_eq_decide.2 (by omega)
  | succ d ih =>
    intro i hi
    have hb := bt_range s i
    have hw := wrap_succ i s.size (by omega) hn
    rw [drop_bytesOf s i (by omega), List.all_cons]
    have hs : ∀ k, impl_isText.l0 (k + 1) s (s.size : Int) (i : Int) = if bt s i < 33 then some false else if bt s i > 126 then some false else impl_isText.l0 k s (s.size : Int) ((i + 1 : Nat) : Int) := by
      intro k
      simp only [impl_isText.l0]
      rw [if_pos (by omega), if_pos (by omega), if_pos (by omega), hw]
    refine Ev.step hs ?_
    by_cases c1 : bt s i < 33
    · refine Ev_if c1 ⟨0, fun _ _ => ?_⟩
      rw [decide_eq_false (show ¬ 33 ≤ bt s i by omega)]
      rfl
    · refine Ev_ifn c1 ?_
      rw [decide_eq_true (show 33 ≤ bt s i by omega), Bool.true_and]
      by_cases c2 : bt s i > 126
      · refine Ev_if c2 ⟨0, fun _ _ => ?_⟩
        rw [decide_eq_false (show ¬ bt s i ≤ 126 by omega)]
        rfl
      · refine Ev_ifn c2 ?_
        rw [decide_eq_true (show bt s i ≤ 126 by omega), Bool.true_and]
        exact ih (i + 1) (by omega)
theorem impl_isText_eq (s : ByteArray) (hn : s.size ≤ 140737488355328) : Ev (fun k => impl_isText.f k s) (textOk s) := by
  have := impl_isText_loop s hn s.size 0 (by omega)
  unfold impl_isText.f textOk
  simpa using this
/-- A number from 0 to m. -/
def inTo (x m : Int) : Bool := decide (0 ≤ x) && decide (x ≤ m)
theorem l1In_to (x m : Int) : spec_l1In.f x 0 m = some (inTo x m) := l1In_dec x 0 m
theorem isTtl_eq (x : Int) : impl_isTtl.f x = some (inTo x 100000) := by
  unfold impl_isTtl.f inTo
  by_cases h : x ≥ 0
  · rw [if_pos h, decide_eq_true (show 0 ≤ x by omega), Bool.true_and]
  · rw [if_neg h, decide_eq_false (show ¬ 0 ≤ x by omega), Bool.false_and]
theorem isFour_eq (x : Int) : impl_isFour.f x = some (inTo x 2147483647) := by
  unfold impl_isFour.f inTo
  by_cases h : x ≥ 0
  · rw [if_pos h, decide_eq_true (show 0 ≤ x by omega), Bool.true_and]
  · rw [if_neg h, decide_eq_false (show ¬ 0 ≤ x by omega), Bool.false_and]
def isE (s : ByteArray) : Bool := s.toList == ([] : List UInt8)
/-- What RecordOk answers. -/
def recOk (a0 : ByteArray) (a1 a2 a3 : Int) (a4 a5 : ByteArray) : Bool :=
  nameOk a0 && (inTo a2 100000 && (if a1 = 1 then inTo a3 2147483647 && (isE a4 && isE a5) else if a1 = 2 ∨ a1 = 5 then decide (a3 = 0) && (nameOk a4 && isE a5) else if a1 = 6 then inTo a3 100000 && (nameOk a4 && isE a5) else if a1 = 16 then decide (a3 = 0) && (isE a4 && textOk a5) else false))
theorem Ev_and {f : Nat → Option Bool} {a b : Bool} {g : Nat → Option Bool} (h : Ev f a) (h2 : a = true → Ev g b) : Ev (fun k => (f k).bind fun t => if t = true then g k else some false) (a && b) := by
  refine Ev.bind h ?_
  cases a with
  | true => exact Ev_if rfl (by rw [Bool.true_and]; exact h2 rfl)
  | false => exact Ev_ifn (by decide) ⟨0, fun _ _ => rfl⟩
theorem Ev_andp {p : Prop} [Decidable p] {b : Bool} {g : Nat → Option Bool} (h2 : p → Ev g b) : Ev (fun k => if p then g k else some false) (decide p && b) := by
  by_cases h : p
  · rw [decide_eq_true h, Bool.true_and]
    exact Ev_if h (h2 h)
  · rw [decide_eq_false h, Bool.false_and]
    exact Ev_ifn h ⟨0, fun _ _ => rfl⟩
theorem Ev_andE (s : ByteArray) {b : Bool} {g : Nat → Option Bool} (h2 : Ev g b) : Ev (fun k => if s.toList = ([] : List UInt8) then g k else some false) (isE s && b) := by
  unfold isE
  by_cases h : s.toList = []
  · rw [show (s.toList == ([] : List UInt8)) = true by rw [h]; rfl, Bool.true_and]
    exact Ev_if h h2
  · rw [show (s.toList == ([] : List UInt8)) = false by simpa using h, Bool.false_and]
    exact Ev_ifn h ⟨0, fun _ _ => rfl⟩
theorem Ev_some {α : Type} (x : α) : Ev (fun _ => some x) x := ⟨0, fun _ _ => rfl⟩
theorem Ev_ret {α : Type} {f : Nat → Option α} {x : α} (h : Ev f x) : Ev (fun k => (f k).bind fun t => some t) x := Ev.bind h (Ev_some x)
theorem spec_RecordOk_eq (a0 : ByteArray) (a1 a2 a3 : Int) (a4 a5 : ByteArray) (h0 : a0.size ≤ 1048576) (h4 : a4.size ≤ 1048576) (h5 : a5.size ≤ 1048576) : Ev (fun k => spec_RecordOk.f k a0 a1 a2 a3 a4 a5) (recOk a0 a1 a2 a3 a4 a5) := by
  unfold spec_RecordOk.f recOk
  refine Ev.bind (spec_NameOk_eq a0 h0) ?_
  cases hn : nameOk a0 with
  | false =>
    refine Ev_ifn (by decide) ?_
    refine Ev.step (f := fun _ => some false) (fun k => ?_) (Ev_some _)
    simp only [spec_RecordOk.j0]
    rfl
  | true =>
    rw [Bool.true_and]
    refine Ev_if rfl ?_
    simp only [l1In_to, Option.bind_some]
    cases ht : inTo a2 100000 with
    | false =>
      refine Ev.step (f := fun _ => some false) (fun k => ?_) (Ev_some _)
      simp only [spec_RecordOk.j0]
      rfl
    | true =>
      rw [Bool.true_and]
      have key : ∀ (b : Bool), b = decide (a1 = 2 ∨ a1 = 5) → a1 ≠ 1 → Ev (fun k => spec_RecordOk.j1 k a1 b a0 a1 a2 a3 a4 a5) (if a1 = 2 ∨ a1 = 5 then decide (a3 = 0) && (nameOk a4 && isE a5) else if a1 = 6 then inTo a3 100000 && (nameOk a4 && isE a5) else if a1 = 16 then decide (a3 = 0) && (isE a4 && textOk a5) else false) := by
        intro b hb h1
        by_cases c : a1 = 2 ∨ a1 = 5
        · rw [if_pos c]
          rw [decide_eq_true c] at hb
          subst hb
          refine Ev.step (fun k => ?_) (Ev_andp fun _ => Ev_and (spec_NameOk_eq a4 h4) fun _ => Ev_some _)
          simp only [spec_RecordOk.j1, if_true]
          rfl
        · rw [if_neg c]
          rw [decide_eq_false c] at hb
          subst hb
          by_cases c6 : a1 = 6
          · rw [if_pos c6]
            refine Ev.step (fun k => ?_) (Ev_and (f := fun _ => some (inTo a3 100000)) (Ev_some _) fun _ => Ev_and (spec_NameOk_eq a4 h4) fun _ => Ev_some _)
            simp only [spec_RecordOk.j1]
            rw [if_neg (by decide), if_pos c6, l1In_to]
            rfl
          · rw [if_neg c6]
            by_cases c16 : a1 = 16
            · rw [if_pos c16]
              refine Ev.step (fun k => ?_) (Ev_andp fun _ => Ev_andE a4 (Ev_ret (spec_l5Text_eq a5 (by omega))))
              simp only [spec_RecordOk.j1]
              rw [if_neg (by decide), if_neg c6, if_pos c16]
            · rw [if_neg c16]
              refine Ev.step (f := fun _ => some false) (fun k => ?_) (Ev_some _)
              simp only [spec_RecordOk.j1]
              rw [if_neg (by decide), if_neg c6, if_neg c16]
      by_cases c1 : a1 = 1
      · rw [if_pos c1]
        refine Ev.step (fun k => ?_) (Ev_and (f := fun _ => some (inTo a3 2147483647)) (Ev_some _) fun _ => Ev_andE a4 (Ev_some _))
        simp only [spec_RecordOk.j0]
        rw [if_neg (by decide), if_pos c1, l1In_to]
        rfl
      · rw [if_neg c1]
        by_cases c2 : a1 = 2
        · refine Ev.step (fun k => ?_) (key (a1 == 2) (by rw [decide_eq_true (Or.inl c2)]; simpa using c2) c1)
          simp only [spec_RecordOk.j0]
          rw [if_neg (by decide), if_neg c1, if_pos c2]
        · refine Ev.step (fun k => ?_) (key (a1 == 5) (by by_cases c5 : a1 = 5 <;> simp [c2, c5]) c1)
          simp only [spec_RecordOk.j0]
          rw [if_neg (by decide), if_neg c1, if_neg c2]
theorem impl_RecordOk_eq (a0 : ByteArray) (a1 a2 a3 : Int) (a4 a5 : ByteArray) (h0 : a0.size ≤ 1048576) (h4 : a4.size ≤ 1048576) (h5 : a5.size ≤ 1048576) : Ev (fun k => impl_RecordOk.f k a0 a1 a2 a3 a4 a5) (recOk a0 a1 a2 a3 a4 a5) := by
  unfold impl_RecordOk.f recOk
  refine Ev.bind (impl_NameOk_eq a0 h0) ?_
  cases hn : nameOk a0 with
  | false =>
    refine Ev_ifn (by decide) ?_
    refine Ev.step (f := fun _ => some false) (fun k => ?_) (Ev_some _)
    simp only [impl_RecordOk.j0]
    rfl
  | true =>
    rw [Bool.true_and]
    refine Ev_if rfl ?_
    simp only [isTtl_eq, Option.bind_some]
    cases ht : inTo a2 100000 with
    | false =>
      refine Ev.step (f := fun _ => some false) (fun k => ?_) (Ev_some _)
      simp only [impl_RecordOk.j0]
      rfl
    | true =>
      rw [Bool.true_and]
      have key : ∀ (b : Bool), b = decide (a1 = 2 ∨ a1 = 5) → a1 ≠ 1 → Ev (fun k => impl_RecordOk.j1 k a1 b a0 a1 a2 a3 a4 a5) (if a1 = 2 ∨ a1 = 5 then decide (a3 = 0) && (nameOk a4 && isE a5) else if a1 = 6 then inTo a3 100000 && (nameOk a4 && isE a5) else if a1 = 16 then decide (a3 = 0) && (isE a4 && textOk a5) else false) := by
        intro b hb h1
        by_cases c : a1 = 2 ∨ a1 = 5
        · rw [if_pos c]
          rw [decide_eq_true c] at hb
          subst hb
          refine Ev.step (fun k => ?_) (Ev_andp fun _ => Ev_and (impl_NameOk_eq a4 h4) fun _ => Ev_some _)
          simp only [impl_RecordOk.j1, if_true]
          rfl
        · rw [if_neg c]
          rw [decide_eq_false c] at hb
          subst hb
          by_cases c6 : a1 = 6
          · rw [if_pos c6]
            refine Ev.step (fun k => ?_) (Ev_and (f := fun _ => some (inTo a3 100000)) (Ev_some _) fun _ => Ev_and (impl_NameOk_eq a4 h4) fun _ => Ev_some _)
            simp only [impl_RecordOk.j1]
            rw [if_neg (by decide), if_pos c6, isTtl_eq]
            rfl
          · rw [if_neg c6]
            by_cases c16 : a1 = 16
            · rw [if_pos c16]
              refine Ev.step (fun k => ?_) (Ev_andp fun _ => Ev_andE a4 (Ev_ret (impl_isText_eq a5 (by omega))))
              simp only [impl_RecordOk.j1]
              rw [if_neg (by decide), if_neg c6, if_pos c16]
            · rw [if_neg c16]
              refine Ev.step (f := fun _ => some false) (fun k => ?_) (Ev_some _)
              simp only [impl_RecordOk.j1]
              rw [if_neg (by decide), if_neg c6, if_neg c16]
      by_cases c1 : a1 = 1
      · rw [if_pos c1]
        refine Ev.step (fun k => ?_) (Ev_and (f := fun _ => some (inTo a3 2147483647)) (Ev_some _) fun _ => Ev_andE a4 (Ev_some _))
        simp only [impl_RecordOk.j0]
        rw [if_neg (by decide), if_pos c1, isFour_eq]
        rfl
      · rw [if_neg c1]
        by_cases c2 : a1 = 2
        · refine Ev.step (fun k => ?_) (key (a1 == 2) (by rw [decide_eq_true (Or.inl c2)]; simpa using c2) c1)
          simp only [impl_RecordOk.j0]
          rw [if_neg (by decide), if_neg c1, if_pos c2]
        · refine Ev.step (fun k => ?_) (key (a1 == 5) (by by_cases c5 : a1 = 5 <;> simp [c2, c5]) c1)
          simp only [impl_RecordOk.j0]
          rw [if_neg (by decide), if_neg c1, if_neg c2]
/-- What PutData returns. -/
def putData (a0 : ByteArray) (a1 a2 a3 : Int) (a4 a5 : ByteArray) : List Int :=
  if recOk a0 a1 a2 a3 a4 a5 = true then (if a1 = 1 then put4 [] a3 else if a1 = 6 then put4 (putPlain [] a4) a3 else if a1 = 16 then ((a5.size : Int) % 256) :: bytesOf a5 else putPlain [] a4) else []
theorem recOk_type {a0 : ByteArray} {a1 a2 a3 : Int} {a4 a5 : ByteArray} (h : recOk a0 a1 a2 a3 a4 a5 = true) : a1 = 1 ∨ a1 = 2 ∨ a1 = 5 ∨ a1 = 6 ∨ a1 = 16 := by
  unfold recOk at h
  simp only [Bool.and_eq_true] at h
  have h3 := h.2.2
  by_cases c1 : a1 = 1
  · exact .inl c1
  · rw [if_neg c1] at h3
    by_cases c2 : a1 = 2 ∨ a1 = 5
    · omega
    · rw [if_neg c2] at h3
      by_cases c6 : a1 = 6
      · omega
      · rw [if_neg c6] at h3
        by_cases c16 : a1 = 16
        · omega
        · rw [if_neg c16] at h3
          cases h3
theorem putData_le (a0 : ByteArray) (a1 a2 a3 : Int) (a4 a5 : ByteArray) : (putData a0 a1 a2 a3 a4 a5).length ≤ 100 + a5.size := by
  unfold putData
  have h1 := putPlain_le [] a4
  have h2 := put4_le [] a3
  have h3 := put4_le (putPlain [] a4) a3
  have h4 := bytesOf_length a5
  simp only [List.length_nil] at h1 h2
  split
  · split
    · omega
    · split
      · omega
      · split
        · rw [List.length_cons]
          omega
        · omega
  · simp
theorem spec_PutData_eq (a0 : ByteArray) (a1 a2 a3 : Int) (a4 a5 : ByteArray) (h0 : a0.size ≤ 1048576) (h4 : a4.size ≤ 1048576) (h5 : a5.size ≤ 1048576) : Ev (fun k => spec_PutData.f k a0 a1 a2 a3 a4 a5) (putData a0 a1 a2 a3 a4 a5) := by
  unfold spec_PutData.f putData
  refine Ev.bind (spec_RecordOk_eq a0 a1 a2 a3 a4 a5 h0 h4 h5) ?_
  have hp := putPlain_le [] a4
  simp only [List.length_nil] at hp
  cases h : recOk a0 a1 a2 a3 a4 a5 with
  | false => exact Ev_ifn (by decide) (Ev_some _)
  | true =>
    refine Ev_if rfl ?_
    rw [if_pos rfl]
    by_cases c1 : a1 = 1
    · rw [if_pos c1]
      refine Ev_if c1 ?_
      rw [spec_Put4_eq [] (by simp)]
      exact Ev_some _
    · rw [if_neg c1]
      refine Ev_ifn c1 ?_
      by_cases c6 : a1 = 6
      · rw [if_pos c6]
        refine Ev_if c6 (Ev.bind (spec_PutPlain_eq [] (by simp) a4 h4) ?_)
        rw [spec_Put4_eq _ (by omega)]
        exact Ev_some _
      · rw [if_neg c6]
        refine Ev_ifn c6 ?_
        by_cases c16 : a1 = 16
        · rw [if_pos c16]
          refine Ev_if c16 ⟨0, fun _ _ => ?_⟩
          rw [Option.bind_some, if_pos (by rw [List.length_singleton]; omega)]
          rfl
        · rw [if_neg c16]
          exact Ev_ifn c16 (Ev_ret (spec_PutPlain_eq [] (by simp) a4 h4))
theorem impl_PutData_eq (a0 : ByteArray) (a1 a2 a3 : Int) (a4 a5 : ByteArray) (h0 : a0.size ≤ 1048576) (h4 : a4.size ≤ 1048576) (h5 : a5.size ≤ 1048576) : Ev (fun k => impl_PutData.f k a0 a1 a2 a3 a4 a5) (putData a0 a1 a2 a3 a4 a5) := by
  unfold impl_PutData.f putData
  refine Ev.bind (impl_RecordOk_eq a0 a1 a2 a3 a4 a5 h0 h4 h5) ?_
  have hp := putPlain_le [] a4
  simp only [List.length_nil] at hp
  cases h : recOk a0 a1 a2 a3 a4 a5 with
  | false => exact Ev_ifn (by decide) (Ev_some _)
  | true =>
    have ht := recOk_type h
    refine Ev_if rfl ?_
    rw [if_pos rfl]
    by_cases c1 : a1 = 1
    · rw [if_pos c1]
      exact Ev_if c1 (Ev_ret (impl_Put4_eq [] (by simp) a3))
    · rw [if_neg c1]
      refine Ev_ifn c1 ?_
      have key : ∀ b : Bool, b = decide (a1 = 2 ∨ a1 = 5) → Ev (fun k => impl_PutData.j0 k a1 b a0 a1 a2 a3 a4 a5) (if a1 = 6 then put4 (putPlain [] a4) a3 else if a1 = 16 then ((a5.size : Int) % 256) :: bytesOf a5 else putPlain [] a4) := by
        intro b hb
        by_cases c : a1 = 2 ∨ a1 = 5
        · rw [decide_eq_true c] at hb
          subst hb
          rw [if_neg (by omega), if_neg (by omega)]
          refine Ev.step (fun k => ?_) (Ev_ret (impl_PutPlain_eq [] (by simp) a4 h4))
          simp only [impl_PutData.j0, if_true]
        · rw [decide_eq_false c] at hb
          subst hb
          by_cases c6 : a1 = 6
          · rw [if_pos c6]
            refine Ev.step (fun k => ?_) (Ev.bind (f := fun k t => (impl_Put4.f k t a3).bind fun u => some u) (impl_PutPlain_eq [] (by simp) a4 h4) (Ev_ret (impl_Put4_eq (putPlain [] a4) (by omega) a3)))
            simp only [impl_PutData.j0]
            rw [if_neg (by decide), if_pos c6]
          · rw [if_neg c6, if_pos (by omega)]
            refine Ev.step (f := fun _ => some (((a5.size : Int) % 256) :: bytesOf a5)) (fun k => ?_) (Ev_some _)
            simp only [impl_PutData.j0]
            rw [if_neg (by decide), if_neg c6, Option.bind_some, if_pos (by rw [List.length_singleton]; omega)]
            rfl
      by_cases c2 : a1 = 2
      · exact Ev_if c2 (key _ (by rw [decide_eq_true (Or.inl c2)]; simpa using c2))
      · exact Ev_ifn c2 (key _ (by by_cases c5 : a1 = 5 <;> simp [c2, c5]))
/-- How much a record takes, as the laws count it. -/
def szR (x : S37) : Nat := x.f0.size + x.f4.size + x.f5.size
/-- What is known of a record's strings. -/
def okR (x : S37) : Prop := x.f0.size ≤ 140737488351232 ∧ x.f4.size ≤ 140737488351232 ∧ x.f5.size ≤ 140737488351232
theorem g_okR {x : S37} (h : g37 x) : okR x := by
  obtain ⟨h0, _, _, _, h4, h5⟩ := h
  exact ⟨h0, h4, h5⟩
theorem szRecord_eq (x : S37) (h : okR x) (a : Int) (ha : -1 ≤ a ∧ a ≤ 1048576) : ∃ r, laws_szRecord.f x.f0 x.f1 x.f2 x.f3 x.f4 x.f5 a = some r ∧ -1 ≤ r ∧ r ≤ 1048576 ∧ (0 ≤ r → r = a - szR x) := by
  obtain ⟨h0, h4, h5⟩ := h
  unfold laws_szRecord.f szR
  rw [wrap_id (x := a - (x.f0.size : Int)) (by omega) (by omega)]
  by_cases c0 : a - (x.f0.size : Int) < 0
  · exact ⟨-1, by rw [if_pos c0], by omega, by omega, by omega⟩
  · rw [if_neg c0, wrap_id (x := a - (x.f0.size : Int) - (x.f4.size : Int)) (by omega) (by omega)]
    by_cases c1 : a - (x.f0.size : Int) - (x.f4.size : Int) < 0
    · exact ⟨-1, by rw [if_pos c1], by omega, by omega, by omega⟩
    · rw [if_neg c1, wrap_id (x := a - (x.f0.size : Int) - (x.f4.size : Int) - (x.f5.size : Int)) (by omega) (by omega)]
      by_cases c2 : a - (x.f0.size : Int) - (x.f4.size : Int) - (x.f5.size : Int) < 0
      · exact ⟨-1, by rw [if_pos c2], by omega, by omega, by omega⟩
      · exact ⟨_, by rw [if_neg c2], by omega, by omega, by omega⟩

end Go.Proofs.YtmcldfjfgmhklaaDoor.Lem
