/- This session's own plain words for the printed walks: small equations on numbers, bytes and lists, and in the spelling that a walk leaves. No condition. -/
import Derived.Laws.BitsLemmas
import Derived.Test.YtdigilidomimdaaDoorWMore
namespace Go.Proofs.YtdigilidomimdaaDoor.X
set_option linter.unusedSimpArgs false
open Go.RowKit Go.Proofs.YtdigilidomimdaaDoorW.PrintWords

theorem bne_nil (l : List UInt8) : (l != []) = !l.isEmpty := by cases l <;> rfl
theorem beq_nil (l : List UInt8) : (l == []) = l.isEmpty := by cases l <;> rfl

theorem wrap_id {x : Int} (h0 : -9223372036854775808 ≤ x) (h1 : x ≤ 9223372036854775807) : wrap64 x = x := by unfold wrap64; omega
theorem wrap_succ (i n : Nat) (h : i < n) (hn : n ≤ 140737488355328) : wrap64 ((i : Int) + 1) = ((i + 1 : Nat) : Int) := by unfold wrap64; omega
theorem wf_int {n : Int} (h : (Lit.int .i64 n).wf = true) : -9223372036854775808 ≤ n ∧ n ≤ 9223372036854775807 := by
  simp only [Lit.wf, IntKind.min, IntKind.max, IntKind.signed, IntKind.bits, Bool.and_eq_true, decide_eq_true_eq, if_true] at h
  omega
/-- Whole numbers that are bytes. -/
def Bytes (l : List Int) : Prop := ∀ x ∈ l, 0 ≤ x ∧ x ≤ 255
theorem wf_bytes {l : List Int} (h : ∀ x ∈ l, (Lit.int .u8 x).wf = true) : Bytes l := by
  intro x hx
  have e := h x hx
  simp only [Lit.wf, IntKind.min, IntKind.max, IntKind.signed, IntKind.bits, Bool.and_eq_true, decide_eq_true_eq, if_false, Bool.false_eq_true] at e
  omega
theorem bits_or64 (i : Nat) (x y : Int) (hx0 : 0 ≤ x) (hx : x % 2 ^ i = 0) (hx1 : x < 2 ^ 62) (hy0 : 0 ≤ y) (hy : y < 2 ^ i) (hy1 : y < 2 ^ 62) : Go.bits .or .i64 x y = x + y :=
  Go.bits_join .i64 62 (by decide) (fun n h0 h1 => by rw [Go.IntKind.wrap_i64]; omega) i x y hx0 hx hx1 hy0 hy hy1
theorem rd_getElem (l : List Int) (i : Nat) (h : i < l.length) : rd l i = l[i] := by
  unfold rd
  rw [Int.toNat_natCast, List.getD_eq_getElem?_getD, List.getElem?_eq_getElem h, Option.getD_some]
theorem rd_drop (l : List Int) (i : Nat) (h : i < l.length) : l.drop i = rd l i :: l.drop (i + 1) := by
  rw [rd_getElem l i h]
  exact List.drop_eq_getElem_cons h
theorem rd_mem (l : List Int) (i : Int) (h0 : 0 ≤ i) (h : i < (l.length : Int)) : rd l i ∈ l := by
  obtain ⟨n, rfl⟩ := Int.eq_ofNat_of_zero_le h0
  rw [rd_getElem l n (by omega)]
  exact List.getElem_mem _
theorem rd_byte {l : List Int} (hb : Bytes l) (i : Int) : 0 ≤ rd l i ∧ rd l i ≤ 255 := by
  unfold rd
  by_cases h : i.toNat < l.length
  · rw [List.getD_eq_getElem?_getD, List.getElem?_eq_getElem h, Option.getD_some]
    exact hb _ (List.getElem_mem h)
  · rw [List.getD_eq_getElem?_getD, List.getElem?_eq_none (by omega)]
    simp
theorem Bytes.take {l : List Int} (h : Bytes l) (n : Nat) : Bytes (l.take n) := fun x hx => h x (List.mem_of_mem_take hx)
theorem Bytes.drop {l : List Int} (h : Bytes l) (n : Nat) : Bytes (l.drop n) := fun x hx => h x (List.mem_of_mem_drop hx)
theorem Bytes.append {l m : List Int} (h : Bytes l) (k : Bytes m) : Bytes (l ++ m) := fun x hx => (List.mem_append.1 hx).elim (h x) (k x)
/-- The big-endian number of bytes, behind n. -/
def numOf (n : Int) : List Int → Int
  | [] => n
  | x :: l => numOf (256 * n + x) l

/-- A block's cells that are bytes and may be written. -/
structure Row8 (W : World) (B n : Nat) (xs : List Int) : Prop where
  len : xs.length = n
  cell : ∀ j : Nat, j < n → W.cell? ⟨B, j, none⟩ = some (.int .u8 (rd xs j))
  free : ∀ j : Nat, j < n → W.frozen? ⟨B, j, none⟩ = false
theorem Row8.put {W : World} {B n : Nat} {xs : List Int} (h : Row8 W B n xs) (i : Nat) (hi : i < n) (v : Int) : Row8 (W.setCell ⟨B, i, none⟩ (.int .u8 v)) B n (xs.set i v) := by
  refine ⟨by rw [List.length_set]; exact h.len, fun j hj => ?_, fun j hj => ?_⟩
  · by_cases e : i = j
    · subst e
      rw [World.cell?_setCell_same W _ _ (h.cell i hi), rd_getElem _ _ (by rw [List.length_set, h.len]; exact hj), List.getElem_set_self]
    · rw [World.cell?_setCell_other W _ _ _ (by intro q; injection q with _ q; exact e q), h.cell j hj]
      have hl := h.len
      rw [rd_getElem _ _ (by omega), rd_getElem _ _ (by rw [List.length_set]; omega), List.getElem_set_ne e]
  · rw [World.frozen?_setCell]
    exact h.free j hj
theorem Row8.drewN {W : World} {B n : Nat} {xs : List Int} (h : Row8 W B n xs) (m : Nat) : Row8 (W.drewN m) B n xs := ⟨h.len, fun j hj => h.cell j hj, fun j hj => h.free j hj⟩
theorem Row8.new (w : World) (e : TypeId) (s : ByteArray) : Row8 (Lib.bytesWorld w e s) w.heap.size s.size (bytesOf s) := by
  refine ⟨bytesOf_length s, fun j hj => ?_, fun j hj => ?_⟩
  · rw [Lib.bytesWorld_cell w e s j hj]
    congr 2
    rw [rd_getElem _ _ (by rw [bytesOf_length]; exact hj)]
    simp [bytesOf, List.getD_eq_getElem?_getD, List.getElem?_eq_getElem (show j < s.data.toList.length by rw [data_length]; exact hj)]
  · have hb : s.size ≤ (Lib.bytesCells w e s).size := by simp [Lib.bytesCells]
    unfold World.frozen?
    rw [Lib.bytesWorld_at_new]
    simp
    omega
theorem below_bytesWorld (w : World) (e : TypeId) (s : ByteArray) : Below w.heap.size w (Lib.bytesWorld w e s) :=
  ⟨rfl, rfl, rfl, by rw [Lib.bytesWorld_size]; omega, fun i hi => Lib.bytesWorld_at_old w e s i hi⟩
def foldB (c : Int) : Int := if 65 ≤ c ∧ c ≤ 90 then c + 32 else c
/-- The bytes of which the first i are folded. -/
def foldTo (l : List Int) (i : Nat) : List Int := (l.take i).map foldB ++ l.drop i
theorem foldTo_length (l : List Int) (i : Nat) : (foldTo l i).length = l.length := by
  unfold foldTo
  rw [List.length_append, List.length_map, List.length_take, List.length_drop]
  omega
theorem foldTo_rd (l : List Int) (i : Nat) (h : i < l.length) : rd (foldTo l i) i = rd l i := by
  rw [rd_getElem _ _ (by rw [foldTo_length]; exact h), rd_getElem _ _ h]
  unfold foldTo
  rw [List.getElem_append_right (by simp; omega)]
  simp
  congr 1
  omega
theorem foldTo_set (l : List Int) (i : Nat) (h : i < l.length) : (foldTo l i).set i (foldB (rd l i)) = foldTo l (i + 1) := by
  unfold foldTo
  have h1 : ((l.take i).map foldB).length = i := by simp; omega
  rw [List.set_append_right _ _ (by omega), h1, Nat.sub_self, rd_drop l i h, List.set_cons_zero, List.take_succ_eq_append_getElem h, List.map_append, rd_getElem l i h]
  simp
theorem foldTo_same (l : List Int) (i : Nat) (h : i < l.length) (hc : foldB (rd l i) = rd l i) : foldTo l i = foldTo l (i + 1) := by
  rw [← foldTo_set l i h, hc, ← foldTo_rd l i h, rd_getElem _ _ (by rw [foldTo_length]; exact h), List.set_getElem_self]
theorem foldTo_all (l : List Int) : foldTo l l.length = l.map foldB := by
  unfold foldTo
  simp
theorem Row8.fold {W : World} {B n : Nat} {l : List Int} {i : Nat} {c v : Int} (h : Row8 W B n (foldTo l i)) (hl : l.length = n) (hi : i < n) (hc : rd l i = c) (hv : foldB c = v) : Row8 (W.setCell ⟨B, i, none⟩ (.int .u8 v)) B n (foldTo l (i + 1)) := by
  rw [← foldTo_set l i (by omega), hc, hv]
  exact h.put i hi v
theorem bytes_bytesOf (s : ByteArray) : Bytes (bytesOf s) := by
  intro x hx
  obtain ⟨b, _, rfl⟩ := List.mem_map.1 hx
  have := b.toNat_lt
  omega

theorem strOfNums_append (a b : List Int) : strOfNums (a ++ b) = strOfNums a ++ strOfNums b := by
  apply ByteArray.ext
  rw [ByteArray.data_append]
  simp [strOfNums]
theorem encode_digit (d : Int) (h0 : 0 ≤ d) (h1 : d ≤ 9) : Utf8.encode (48 + d) = strOfNums [48 + d] := by
  have : d = 0 ∨ d = 1 ∨ d = 2 ∨ d = 3 ∨ d = 4 ∨ d = 5 ∨ d = 6 ∨ d = 7 ∨ d = 8 ∨ d = 9 := by omega
  rcases this with rfl | rfl | rfl | rfl | rfl | rfl | rfl | rfl | rfl | rfl <;> rfl
theorem wrap32_id {x : Int} (h0 : -2147483648 ≤ x) (h1 : x ≤ 2147483647) : wrap32 x = x := by unfold wrap32; omega

theorem C_none_nil {α : Type} {d : Kd α} {w : World} {xs : List α} (h : d.C w none xs.length xs) : xs = [] := by
  cases xs with
  | nil => rfl
  | cons a l =>
    obtain ⟨ad, e, _⟩ := h.2.2 (by simp)
    cases e
theorem spot_none {w : World} {a : Addr} {v : Value} (h : w.cell? a = some v) : a.spot = none := by
  unfold World.cell? at h
  split at h
  · split at h
    · cases h
    · rename_i q
      simpa using q
  · cases h
/-- Strings that are read, cell by cell. -/
theorem C_strings {w : World} {A : Option Addr} {xs : List ByteArray} (h : (Kd.string).C w A xs.length xs) (hne : xs ≠ []) :
    ∃ b o, A = some ⟨b, o, none⟩ ∧ (∀ (j : Nat) x, xs[j]? = some x → w.cell? ⟨b, o + j, none⟩ = some (.string x)) ∧ b < w.heap.size := by
  obtain ⟨ad, e, hc⟩ := h.2.2 (List.length_pos_iff.2 hne)
  have hcell : ∀ (j : Nat) x, xs[j]? = some x → w.cell? (ad.add j) = some (.string x) := by
    intro j x hj
    obtain ⟨c, _, hk, hu⟩ := hc j x hj
    have hk' : c = [.string x] := hk
    subst hk'
    have := hu 0 _ rfl
    simpa [show (Kd.string).sz = 1 from rfl] using this
  obtain ⟨x0, hx0⟩ : ∃ x0, xs[0]? = some x0 := by
    cases xs with
    | nil => exact absurd rfl hne
    | cons a l => exact ⟨a, rfl⟩
  have h0 := hcell 0 x0 hx0
  have e0 : ad.add 0 = ad := by simp [Addr.add]
  rw [e0] at h0
  obtain ⟨b, o, s⟩ := ad
  have hs := spot_none h0
  simp only at hs
  subst hs
  refine ⟨b, o, e, fun j x hj => ?_, World.block_lt_of_cell? w _ h0⟩
  have := hcell j x hj
  rwa [show (⟨b, o, none⟩ : Addr).add j = ⟨b, o + j, none⟩ by unfold Addr.add; split <;> simp_all] at this

end Go.Proofs.YtdigilidomimdaaDoor.X
