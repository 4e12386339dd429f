/- Lemmas on the printed functions, of this session. -/
import Derived.Test.YtfmnofjijodgcaaDoorY
import Derived.Test.YtfmnofjijodgcaaDoorPrx0
import Derived.Test.YtfmnofjijodgcaaDoorPrx1
import Derived.Test.YtfmnofjijodgcaaDoorPrx10
import Derived.Test.YtfmnofjijodgcaaDoorPrx11
import Derived.Test.YtfmnofjijodgcaaDoorPrx12
import Derived.Test.YtfmnofjijodgcaaDoorPrx13
import Derived.Test.YtfmnofjijodgcaaDoorPrx15
import Derived.Test.YtfmnofjijodgcaaDoorPrx16
import Derived.Test.YtfmnofjijodgcaaDoorPrx17
import Derived.Test.YtfmnofjijodgcaaDoorPrx2
import Derived.Test.YtfmnofjijodgcaaDoorPrx3
import Derived.Test.YtfmnofjijodgcaaDoorPrx4
import Derived.Test.YtfmnofjijodgcaaDoorPrx5
import Derived.Test.YtfmnofjijodgcaaDoorPrx6
import Derived.Test.YtfmnofjijodgcaaDoorPrx7
import Derived.Test.YtfmnofjijodgcaaDoorPrx8
import Derived.Test.YtfmnofjijodgcaaDoorPrx9
namespace Go.Proofs.YtfmnofjijodgcaaDoor.Lem
open Go.RowKit Go.Proofs.YtfmnofjijodgcaaDoor.Pr Go.Proofs.YtfmnofjijodgcaaDoor.X Go.Proofs.YtfmnofjijodgcaaDoor.Y Go.Proofs.YtfmnofjijodgcaaDoorW.PrintWords Go.Proofs.YtfmnofjijodgcaaDoorW.PrintLast Go.Proofs.YtfmnofjijodgcaaDoorW.PrintMore
set_option linter.unusedVariables false
set_option linter.unusedSimpArgs false
theorem toByteS_loop (l : List Int) (hn : l.length ≤ 140737488351232) : ∀ (d i : Nat) (acc : List Int), i + d = l.length → acc.length = l.length → acc.take i = l.take i →
    Ev (fun k => laws_toByteS.l0 k l acc (i : Int)) l := by
  intro d
  induction d with
  | zero =>
    intro i acc hi hl ht
    refine Ev.step (f := fun _ => some acc) (fun k => ?_) ⟨0, fun _ _ => ?_⟩
    · simp only [laws_toByteS.l0]
      rw [if_neg (by omega)]
    · rw [List.take_of_length_le (by omega), List.take_of_length_le (by omega)] at ht
      rw [ht]
  | succ d ih =>
    intro i acc hi hl ht
    have hw := wrap_succ i l.length (by omega) (by omega)
    refine Ev.step (f := fun k => laws_toByteS.l0 k l (acc.set i (rd l i)) ((i + 1 : Nat) : Int)) (fun k => ?_) (ih (i + 1) _ (by omega) (by simpa using hl) ?_)
    · simp only [laws_toByteS.l0]
      rw [if_pos (by omega), if_pos (by omega), if_pos (by omega), hw, Int.toNat_natCast]
    · have hil : i < l.length := by omega
      rw [List.take_add_one, List.take_add_one, List.take_set_of_le (Nat.le_refl _), ht, List.getElem?_set_self (by omega), List.getElem?_eq_getElem hil, rd_getElem l i hil]
theorem toByteS_eq (l : List Int) (hn : l.length ≤ 140737488351232) : Ev (fun k => laws_toByteS.f k l) l := by
  unfold laws_toByteS.f
  have h0 : 0 ≤ (l.length : Int) := by omega
  have h1 : ((l.length : Int) : Int).toNat ≤ 281474976710656 := by omega
  simp only [if_pos h0, if_pos h1]
  have := toByteS_loop l hn l.length 0 (List.replicate ((l.length : Int) : Int).toNat 0) (by omega) (by simp) (by simp)
  simpa using this
theorem eqByteS_loop (a : List Int) (hn : a.length ≤ 140737488351232) : ∀ (d i : Nat), i + d = a.length → Ev (fun k => laws_eqByteS.l0 k a a (i : Int)) true := by
  intro d
  induction d with
  | zero =>
    intro i hi
    refine Ev.step (f := fun _ => some true) (fun k => ?_) ⟨0, fun _ _ => rfl⟩
    simp only [laws_eqByteS.l0]
    rw [if_neg (by omega)]
  | succ d ih =>
    intro i hi
    have hw := wrap_succ i a.length (by omega) (by omega)
    refine Ev.step (f := fun k => laws_eqByteS.l0 k a a ((i + 1 : Nat) : Int)) (fun k => ?_) (ih (i + 1) (by omega))
    simp only [laws_eqByteS.l0]
    rw [if_pos (by omega), if_pos (by omega), if_pos (by omega), hw]
    simp
theorem eqByteS_same (a : List Int) (hn : a.length ≤ 140737488351232) : Ev (fun k => laws_eqByteS.f k a a) true := by
  unfold laws_eqByteS.f
  simp only [if_true]
  exact eqByteS_loop a hn a.length 0 (by omega)
theorem Ev_if {α : Type} {c : Prop} [Decidable c] {f g : Nat → Option α} {x : α} (h : c) (h1 : Ev f x) : Ev (fun k => if c then f k else g k) x := by
  simp only [if_pos h]
  exact h1
theorem Ev_ifn {α : Type} {c : Prop} [Decidable c] {f g : Nat → Option α} {x : α} (h : ¬ c) (h1 : Ev g x) : Ev (fun k => if c then f k else g k) x := by
  simp only [if_neg h]
  exact h1
theorem getBytes_loop (l : List Int) (m : Int) (hl : l.length ≤ 4) (hb : Bytes l) : ∀ (d i : Nat) (n : Int), i + d = l.length → 0 ≤ n → n < 256 ^ i →
    Ev (fun k => impl_getBytes.l0 k m n l (l.length : Int) (i : Int)) (if numOf n (l.drop i) > m then (0, false) else (numOf n (l.drop i), true)) := by
  intro d
  induction d with
  | zero =>
    intro i n hi h0 h1
    refine Ev.step (f := fun _ => if n > m then some (0, false) else some (n, true)) (fun k => ?_) ⟨0, fun _ _ => ?_⟩
    · simp only [impl_getBytes.l0]
      rw [if_neg (by omega)]
    · rw [List.drop_of_length_le (by omega)]
      unfold numOf
      split <;> rfl
  | succ d ih =>
    intro i n hi h0 h1
    have hd := rd_drop l i (by omega)
    have hm := rd_byte hb (i : Int)
    have hi4 : i ≤ 3 := by omega
    have hp : (256 : Int) ^ i ≤ 16777216 := by
      have : i = 0 ∨ i = 1 ∨ i = 2 ∨ i = 3 := by omega
      rcases this with rfl | rfl | rfl | rfl <;> decide
    have hps : (256 : Int) ^ (i + 1) = 256 ^ i * 256 := by rw [Int.pow_succ]
    have w1 : wrap64 (256 * n) = 256 * n := wrap_id (by omega) (by omega)
    have w2 : wrap64 (rd l i) = rd l i := wrap_id (by omega) (by omega)
    have w3 : wrap64 (256 * n + rd l i) = 256 * n + rd l i := wrap_id (by omega) (by omega)
    have w4 : wrap64 ((i : Int) + 1) = ((i + 1 : Nat) : Int) := wrap_succ i 4 (by omega) (by decide)
    rw [hd]
    refine Ev.step (f := fun k => impl_getBytes.l0 k m (256 * n + rd l i) l (l.length : Int) ((i + 1 : Nat) : Int)) (fun k => ?_) (ih (i + 1) _ (by omega) (by omega) (by omega))
    simp only [impl_getBytes.l0]
    rw [if_pos (by omega), if_pos (by omega), if_pos (by omega), w1, w2, w3, w4]
/-- getBytes at an offset that fits, and at one that does not. -/
theorem getBytes_eq (l : List Int) (hn : l.length ≤ 140737488351232) (hb : Bytes l) (i : Int) (hi : -9223372036854775808 ≤ i ∧ i ≤ 9223372036854775807) (c : Nat) (hc : c ≤ 4) (m : Int) :
    Ev (fun k => impl_getBytes.f k l i c m) (if 0 ≤ i ∧ i ≤ (l.length : Int) - c then (if numOf 0 ((l.drop i.toNat).take c) > m then (0, false) else (numOf 0 ((l.drop i.toNat).take c), true)) else (0, false)) := by
  have hw : wrap64 ((l.length : Int) - c) = (l.length : Int) - c := wrap_id (by omega) (by omega)
  unfold impl_getBytes.f
  rw [hw]
  by_cases h : 0 ≤ i ∧ i ≤ (l.length : Int) - c
  · have h0 : ¬ i < 0 := by omega
    have h1 : ¬ i > (l.length : Int) - c := by omega
    simp only [if_neg h0, decide_eq_false h1, if_pos h]
    have w2 : wrap64 (i + c) = i + c := wrap_id (by omega) (by omega)
    have hq : ((l.take ((i + c : Int)).toNat).drop (i : Int).toNat) = (l.drop i.toNat).take c := by
      rw [List.drop_take]
      congr 1
      omega
    have hl : ((l.drop i.toNat).take c).length = c := by
      rw [List.length_take, List.length_drop]
      omega
    refine Ev.step (f := fun k => impl_getBytes.l0 k m 0 ((l.drop i.toNat).take c) (((l.drop i.toNat).take c).length : Int) 0) (fun k => ?_) ?_
    · simp only [impl_getBytes.j0]
      rw [if_neg (by decide), w2, if_pos h.1, if_pos (by omega), if_pos (by omega), hq]
      rfl
    · have := getBytes_loop ((l.drop i.toNat).take c) m (by omega) ((hb.drop _).take _) c 0 0 (by omega) (by omega) (by decide)
      simpa using this
  · rw [if_neg h]
    by_cases h0 : i < 0
    · simp only [if_pos h0]
      refine Ev.step (f := fun _ => some (0, false)) (fun k => ?_) ⟨0, fun _ _ => rfl⟩
      simp only [impl_getBytes.j0]
      rfl
    · have h1 : i > (l.length : Int) - c := by omega
      simp only [if_neg h0, decide_eq_true h1]
      refine Ev.step (f := fun _ => some (0, false)) (fun k => ?_) ⟨0, fun _ _ => rfl⟩
      simp only [impl_getBytes.j0]
      rfl
/-- What Get2 returns: the two bytes at an offset, if they are there. -/
def get2 (l : List Int) (i : Int) : Int × Bool := if 0 ≤ i ∧ i ≤ (l.length : Int) - 2 then (256 * rd l i + rd l (i + 1), true) else (0, false)
theorem spec_Get2_eq (l : List Int) (hn : l.length ≤ 140737488351232) (hb : Bytes l) (i : Int) (hi : -9223372036854775808 ≤ i ∧ i ≤ 9223372036854775807) : spec_Get2.f l i = some (get2 l i) := by
  unfold spec_Get2.f get2
  have hw : wrap64 ((l.length : Int) - 2) = (l.length : Int) - 2 := wrap_id (by omega) (by omega)
  rw [hw]
  by_cases h0 : i < 0
  · rw [if_pos h0, if_neg (by omega)]
  · rw [if_neg h0]
    by_cases h1 : i > (l.length : Int) - 2
    · rw [if_pos h1, if_neg (by omega)]
    · rw [if_neg h1, if_pos (show 0 ≤ i ∧ i ≤ (l.length : Int) - 2 by omega), if_pos (by omega), if_pos (by omega)]
      have w1 : wrap64 (i + 1) = i + 1 := wrap_id (by omega) (by omega)
      rw [w1, if_pos (by omega), if_pos (by omega)]
      have b0 := rd_byte hb i
      have b1 := rd_byte hb (i + 1)
      have w2 : wrap64 (rd l i) = rd l i := wrap_id (by omega) (by omega)
      have w3 : wrap64 (rd l (i + 1)) = rd l (i + 1) := wrap_id (by omega) (by omega)
      have w4 : wrap64 (rd l i * 256) = rd l i * 256 := wrap_id (by omega) (by omega)
      rw [w2, w3, w4, bits_or64 8 _ _ (by omega) (by omega) (by omega) b1.1 (by omega) (by omega), Int.mul_comm]
theorem take2 (l : List Int) (i : Int) (h0 : 0 ≤ i) (h1 : i ≤ (l.length : Int) - 2) : (l.drop i.toNat).take 2 = [rd l i, rd l (i + 1)] := by
  obtain ⟨n, rfl⟩ := Int.eq_ofNat_of_zero_le h0
  have e2 : ((n : Int) + 1) = ((n + 1 : Nat) : Int) := by omega
  rw [e2, Int.toNat_natCast, rd_drop l n (by omega), rd_drop l (n + 1) (by omega)]
  rfl
theorem impl_Get2_eq (l : List Int) (hn : l.length ≤ 140737488351232) (hb : Bytes l) (i : Int) (hi : -9223372036854775808 ≤ i ∧ i ≤ 9223372036854775807) : Ev (fun k => impl_Get2.f k l i) (get2 l i) := by
  unfold impl_Get2.f
  refine Ev.bind (a := get2 l i) ?_ ⟨0, fun _ _ => rfl⟩
  have := getBytes_eq l hn hb i hi 2 (by decide) 65535
  unfold get2
  by_cases h : 0 ≤ i ∧ i ≤ (l.length : Int) - 2
  · have b0 := rd_byte hb i
    have b1 := rd_byte hb (i + 1)
    rw [if_pos h]
    rw [if_pos (by exact h), take2 l i h.1 h.2] at this
    have e : numOf 0 [rd l i, rd l (i + 1)] = 256 * rd l i + rd l (i + 1) := by
      simp only [numOf]
      omega
    rw [e, if_neg (by omega)] at this
    exact this
  · rw [if_neg h]
    rw [if_neg (by exact h)] at this
    exact this
/-- What Get4 returns: the four bytes at an offset, if they are there and the number is no greater than MaxFour. -/
def get4 (l : List Int) (i : Int) : Int × Bool :=
  if 0 ≤ i ∧ i ≤ (l.length : Int) - 4 then
    (if 16777216 * rd l i + 65536 * rd l (i + 1) + 256 * rd l (i + 2) + rd l (i + 3) > 2147483647 then (0, false)
     else (16777216 * rd l i + 65536 * rd l (i + 1) + 256 * rd l (i + 2) + rd l (i + 3), true)) else (0, false)
theorem spec_Get4_eq (l : List Int) (hn : l.length ≤ 140737488351232) (hb : Bytes l) (i : Int) (hi : -9223372036854775808 ≤ i ∧ i ≤ 9223372036854775807) : Ev (fun k => spec_Get4.f k l i) (get4 l i) := by
  unfold spec_Get4.f get4
  have hw : wrap64 ((l.length : Int) - 4) = (l.length : Int) - 4 := wrap_id (by omega) (by omega)
  rw [hw]
  by_cases h : 0 ≤ i ∧ i ≤ (l.length : Int) - 4
  · have h0 : ¬ i < 0 := by omega
    have h1 : ¬ i > (l.length : Int) - 4 := by omega
    simp only [if_neg h0, decide_eq_false h1, if_pos h]
    have b0 := rd_byte hb i
    have b1 := rd_byte hb (i + 1)
    have b2 := rd_byte hb (i + 2)
    have b3 := rd_byte hb (i + 3)
    have v1 : wrap64 (i + 1) = i + 1 := wrap_id (by omega) (by omega)
    have v2 : wrap64 (i + 2) = i + 2 := wrap_id (by omega) (by omega)
    have v3 : wrap64 (i + 3) = i + 3 := wrap_id (by omega) (by omega)
    have w0 : wrap64 (rd l i) = rd l i := wrap_id (by omega) (by omega)
    have w1 : wrap64 (rd l (i + 1)) = rd l (i + 1) := wrap_id (by omega) (by omega)
    have w2 : wrap64 (rd l (i + 2)) = rd l (i + 2) := wrap_id (by omega) (by omega)
    have w3 : wrap64 (rd l (i + 3)) = rd l (i + 3) := wrap_id (by omega) (by omega)
    have u0 : wrap64 (rd l i * 16777216) = rd l i * 16777216 := wrap_id (by omega) (by omega)
    have u1 : wrap64 (rd l (i + 1) * 65536) = rd l (i + 1) * 65536 := wrap_id (by omega) (by omega)
    have u2 : wrap64 (rd l (i + 2) * 256) = rd l (i + 2) * 256 := wrap_id (by omega) (by omega)
    have s1 : Go.bits .or .i64 (rd l i * 16777216) (rd l (i + 1) * 65536) = rd l i * 16777216 + rd l (i + 1) * 65536 := bits_or64 24 _ _ (by omega) (by omega) (by omega) (by omega) (by omega) (by omega)
    have s2 : Go.bits .or .i64 (rd l i * 16777216 + rd l (i + 1) * 65536) (rd l (i + 2) * 256) = rd l i * 16777216 + rd l (i + 1) * 65536 + rd l (i + 2) * 256 := bits_or64 16 _ _ (by omega) (by omega) (by omega) (by omega) (by omega) (by omega)
    have s3 : Go.bits .or .i64 (rd l i * 16777216 + rd l (i + 1) * 65536 + rd l (i + 2) * 256) (rd l (i + 3)) = rd l i * 16777216 + rd l (i + 1) * 65536 + rd l (i + 2) * 256 + rd l (i + 3) := bits_or64 8 _ _ (by omega) (by omega) (by omega) (by omega) (by omega) (by omega)
    have e : rd l i * 16777216 + rd l (i + 1) * 65536 + rd l (i + 2) * 256 + rd l (i + 3) = 16777216 * rd l i + 65536 * rd l (i + 1) + 256 * rd l (i + 2) + rd l (i + 3) := by omega
    refine Ev.step (f := fun _ => if 16777216 * rd l i + 65536 * rd l (i + 1) + 256 * rd l (i + 2) + rd l (i + 3) > 2147483647 then some (0, false) else some (16777216 * rd l i + 65536 * rd l (i + 1) + 256 * rd l (i + 2) + rd l (i + 3), true)) (fun k => ?_) ⟨0, fun _ _ => by split <;> rfl⟩
    simp only [spec_Get4.j0]
    rw [if_neg (by decide), v1, v2, v3, if_pos h.1, if_pos (by omega), if_pos (by omega), if_pos (by omega), if_pos (by omega), if_pos (by omega), if_pos (by omega), if_pos (by omega),
      w0, w1, w2, w3, u0, u1, u2, s1, s2, s3, e]
  · rw [if_neg h]
    by_cases h0 : i < 0
    · simp only [if_pos h0]
      refine Ev.step (f := fun _ => some (0, false)) (fun k => ?_) ⟨0, fun _ _ => rfl⟩
      simp only [spec_Get4.j0]
      rfl
    · have h1 : i > (l.length : Int) - 4 := by omega
      simp only [if_neg h0, decide_eq_true h1]
      refine Ev.step (f := fun _ => some (0, false)) (fun k => ?_) ⟨0, fun _ _ => rfl⟩
      simp only [spec_Get4.j0]
      rfl
theorem take4 (l : List Int) (i : Int) (h0 : 0 ≤ i) (h1 : i ≤ (l.length : Int) - 4) : (l.drop i.toNat).take 4 = [rd l i, rd l (i + 1), rd l (i + 2), rd l (i + 3)] := by
  obtain ⟨n, rfl⟩ := Int.eq_ofNat_of_zero_le h0
  have e1 : ((n : Int) + 1) = ((n + 1 : Nat) : Int) := by omega
  have e2 : ((n : Int) + 2) = ((n + 1 + 1 : Nat) : Int) := by omega
  have e3 : ((n : Int) + 3) = ((n + 1 + 1 + 1 : Nat) : Int) := by omega
  rw [e1, e2, e3, Int.toNat_natCast, rd_drop l n (by omega), rd_drop l (n + 1) (by omega), rd_drop l (n + 1 + 1) (by omega), rd_drop l (n + 1 + 1 + 1) (by omega)]
  rfl
theorem impl_Get4_eq (l : List Int) (hn : l.length ≤ 140737488351232) (hb : Bytes l) (i : Int) (hi : -9223372036854775808 ≤ i ∧ i ≤ 9223372036854775807) : Ev (fun k => impl_Get4.f k l i) (get4 l i) := by
  unfold impl_Get4.f
  refine Ev.bind (a := get4 l i) ?_ ⟨0, fun _ _ => rfl⟩
  have := getBytes_eq l hn hb i hi 4 (by decide) 2147483647
  unfold get4
  by_cases h : 0 ≤ i ∧ i ≤ (l.length : Int) - 4
  · rw [if_pos h]
    rw [if_pos (by exact h), take4 l i h.1 h.2] at this
    have e : numOf 0 [rd l i, rd l (i + 1), rd l (i + 2), rd l (i + 3)] = 16777216 * rd l i + 65536 * rd l (i + 1) + 256 * rd l (i + 2) + rd l (i + 3) := by
      simp only [numOf]
      omega
    rw [e] at this
    exact this
  · rw [if_neg h]
    rw [if_neg (by exact h)] at this
    exact this
/-- A byte of a label. -/
def okB (c : Int) : Bool := (decide (97 ≤ c) && decide (c ≤ 122)) || (decide (48 ≤ c) && decide (c ≤ 57)) || decide (c = 45) || decide (c = 95)
/-- A label: what LabelOk answers. -/
def labelOk (s : ByteArray) : Bool := (bytesOf s).all okB && (decide (1 ≤ s.size) && decide (s.size ≤ 12))
theorem l1In_dec (a b c : Int) : spec_l1In.f a b c = some (decide (b ≤ a) && decide (a ≤ c)) := by
  unfold spec_l1In.f
  by_cases h : a ≥ b
  · rw [if_pos h]
    have h' : b ≤ a := h
    simp [h']
  · rw [if_neg h]
    have h' : ¬ b ≤ a := h
    simp [h']
theorem l2Byte_eq (c : Int) (h0 : 0 ≤ c) (h1 : c ≤ 255) : spec_l2Byte.f c = some (okB c) := by
  unfold spec_l2Byte.f okB
  rw [wrap_id (x := c) (by omega) (by omega), l1In_dec, l1In_dec]
  simp only [Option.bind_some]
  by_cases a : (decide (97 ≤ c) && decide (c ≤ 122)) = true
  · simp [a]
  · by_cases b : (decide (48 ≤ c) && decide (c ≤ 57)) = true
    · simp [a, b]
    · by_cases d : c = 45
      · simp [a, b, d]
      · simp only [Bool.not_eq_true] at a b
        have e : (c == 95) = decide (c = 95) := by by_cases z : c = 95 <;> simp [z]
        simp [a, b, d, e]
theorem drop_bytesOf (s : ByteArray) (i : Nat) (h : i < s.size) : (bytesOf s).drop i = bt s i :: (bytesOf s).drop (i + 1) := by
  rw [rd_drop _ i (by rw [bytesOf_length]; exact h), rd_bytesOf]
theorem spec_LabelOk_loop (s : ByteArray) (hn : s.size ≤ 140737488355328) : ∀ (d i : Nat), i + d = s.size →
    Ev (fun k => spec_LabelOk.l0 k s (i : Int)) (((bytesOf s).drop i).all okB && (decide (1 ≤ s.size) && decide (s.size ≤ 12))) := by
  intro d
  induction d with
  | zero =>
    intro i hi
    refine Ev.step (f := fun _ => some (decide (1 ≤ s.size) && decide (s.size ≤ 12))) (fun k => ?_) ⟨0, fun _ _ => by rw [List.drop_of_length_le (by rw [bytesOf_length]; omega)]; rfl⟩
    simp only [spec_LabelOk.l0]
    rw [if_neg (by omega), l1In_dec]
    have e1 : decide ((1 : Int) ≤ (s.size : Int)) = decide (1 ≤ s.size) := decide_eq_decide.2 (by omega)
    have e2 : decide ((s.size : Int) ≤ 12) = decide (s.size ≤ 12) := decide_eq_decide.2 (by omega)
    rw [e1, e2]
    rfl
  | succ d ih =>
    intro i hi
    have hb := bt_range s i
    have hw := wrap_succ i s.size (by omega) hn
    rw [drop_bytesOf s i (by omega), List.all_cons]
    cases h : okB (bt s i) with
    | true =>
      rw [Bool.true_and]
      refine Ev.step (f := fun k => spec_LabelOk.l0 k s ((i + 1 : Nat) : Int)) (fun k => ?_) (ih (i + 1) (by omega))
      simp only [spec_LabelOk.l0]
      rw [if_pos (by omega), if_pos (by omega), l2Byte_eq _ hb.1 hb.2, h, hw]
      rfl
    | false =>
      refine Ev.step (f := fun _ => some false) (fun k => ?_) ⟨0, fun _ _ => rfl⟩
      simp only [spec_LabelOk.l0]
      rw [if_pos (by omega), if_pos (by omega), l2Byte_eq _ hb.1 hb.2, h]
      rfl
theorem impl_LabelOk_body (c : Int) (x : Option Bool) :
    (if c < 97 then (if c < 48 then (if c = 45 then x else (if c = 95 then x else (some false))) else (if c > 57 then (if c = 45 then x else (if c = 95 then x else (some false))) else x))
      else (if c > 122 then (if c < 48 then (if c = 45 then x else (if c = 95 then x else (some false))) else (if c > 57 then (if c = 45 then x else (if c = 95 then x else (some false))) else x)) else x)) = if okB c = true then x else some false := by
  have hk : okB c = true ↔ (97 ≤ c ∧ c ≤ 122) ∨ (48 ≤ c ∧ c ≤ 57) ∨ c = 45 ∨ c = 95 := by simp [okB, or_assoc]
  by_cases h : okB c = true
  · have h' := hk.1 h
    rw [show (if okB c = true then x else some false) = x from if_pos h]
    repeat' split
    all_goals first | rfl | (exfalso; omega)
  · have h' : ¬ ((97 ≤ c ∧ c ≤ 122) ∨ (48 ≤ c ∧ c ≤ 57) ∨ c = 45 ∨ c = 95) := fun z => h (hk.2 z)
    rw [show (if okB c = true then x else some false) = some false from if_neg h]
    repeat' split
    all_goals first | rfl | (exfalso; omega)
theorem impl_LabelOk_loop (s : ByteArray) (hn : s.size ≤ 140737488355328) : ∀ (d i : Nat), i + d = s.size →
    Ev (fun k => impl_LabelOk.l0 k s (s.size : Int) (i : Int)) (((bytesOf s).drop i).all okB && (decide (1 ≤ s.size) && decide (s.size ≤ 12))) := by
  intro d
  induction d with
  | zero =>
    intro i hi
    refine Ev.step (f := fun _ => some (decide (1 ≤ s.size) && decide (s.size ≤ 12))) (fun k => ?_) ⟨0, fun _ _ => by rw [List.drop_of_length_le (by rw [bytesOf_length]; omega)]; rfl⟩
    simp only [impl_LabelOk.l0]
    rw [if_neg (by omega)]
    have e2 : decide ((s.size : Int) ≤ 12) = decide (s.size ≤ 12) := decide_eq_decide.2 (by omega)
    by_cases h : (s.size : Int) ≥ 1
    · rw [if_pos h, e2, decide_eq_true (show 1 ≤ s.size by omega), Bool.true_and]
    · rw [if_neg h, decide_eq_false (show ¬ 1 ≤ s.size by omega), Bool.false_and]
  | succ d ih =>
    intro i hi
    have hw := wrap_succ i s.size (by omega) hn
    rw [drop_bytesOf s i (by omega), List.all_cons]
    refine Ev.step (f := fun k => if okB (bt s i) = true then impl_LabelOk.l0 k s (s.size : Int) ((i + 1 : Nat) : Int) else some false) (fun k => ?_) ?_
    · simp only [impl_LabelOk.l0]
      rw [if_pos (by omega), if_pos (by omega), if_pos (by omega), hw]
      exact impl_LabelOk_body _ _
    · cases h : okB (bt s i) with
      | true =>
        have := ih (i + 1) (by omega)
        simpa using this
      | false => exact ⟨0, fun _ _ => by simp⟩
theorem spec_LabelOk_eq (s : ByteArray) (hn : s.size ≤ 140737488355328) : Ev (fun k => spec_LabelOk.f k s) (labelOk s) := by
  have := spec_LabelOk_loop s hn s.size 0 (by omega)
  unfold spec_LabelOk.f labelOk
  simpa using this
theorem impl_LabelOk_eq (s : ByteArray) (hn : s.size ≤ 140737488355328) : Ev (fun k => impl_LabelOk.f k s) (labelOk s) := by
  have := impl_LabelOk_loop s hn s.size 0 (by omega)
  unfold impl_LabelOk.f labelOk
  simpa using this
/-- What stands between the dots of a list of bytes; 'acc' stands ahead of it. -/
def cutA : List UInt8 → List UInt8 → List (List UInt8)
  | acc, [] => [acc]
  | acc, c :: t => if c = 46 then acc :: cutA [] t else cutA (acc ++ [c]) t
def mkB (l : List UInt8) : ByteArray := ⟨l.toArray⟩
theorem mkB_data (s : ByteArray) : mkB s.data.toList = s := rfl
/-- The labels of a name. -/
def labelsL (s : ByteArray) : List ByteArray := if s.data.toList = [] then [] else (cutA [] s.data.toList).map mkB
theorem cutA_acc : ∀ (t acc : List UInt8), cutA acc t = match cutA [] t with | [] => [] | x :: r => (acc ++ x) :: r
  | [], acc => by simp [cutA]
  | c :: t, acc => by
    by_cases h : c = 46
    · simp [cutA, h]
    · have e1 := cutA_acc t (acc ++ [c])
      have e2 := cutA_acc t ([] ++ [c])
      simp only [cutA, if_neg h]
      rw [e1, e2]
      cases cutA [] t with
      | nil => rfl
      | cons x r => simp [List.append_assoc]
theorem split_cut : ∀ (l : List UInt8), Lib.splitK [46] 0 (l.count 46) l = cutA [] l
  | [] => rfl
  | c :: t => by
    have ih := split_cut t
    by_cases h : c = 46
    · subst h
      rw [List.count_cons_self]
      simp only [Lib.splitK, cutA, if_true]
      rw [Lib.index_one]
      simp only [Lib.indexByte]
      simp [ih]
    · rw [List.count_cons_of_ne (by simpa using h)]
      have e2 := cutA_acc t ([] ++ [c])
      simp only [cutA, if_neg h]
      rw [e2, ← ih]
      have hb : (c == 46) = false := by simpa using h
      cases hk : t.count 46 with
      | zero => simp [Lib.splitK]
      | succ k =>
        simp only [Lib.splitK]
        rw [Lib.index_one, Lib.index_one]
        simp only [Lib.indexByte, hb]
        have hge := Lib.indexByte_ge t 46
        by_cases hi : Lib.indexByte t 46 = -1
        · simp [hi]
        · have h1 : (Lib.indexByte t 46 == -1) = false := by simpa using hi
          have h2 : (Lib.indexByte t 46 + 1 == -1) = false := by simp; omega
          have h3 : (Lib.indexByte t 46 + 1).toNat = (Lib.indexByte t 46).toNat + 1 := by omega
          simp only [h1, h2, h3, Bool.false_eq_true, if_false]
          simp [List.take_succ_cons, Nat.add_right_comm]
theorem impl_Labels_eq (s : ByteArray) (hs : s.size < 4294967281) : impl_Labels.f s = some (labelsL s) := by
  unfold impl_Labels.f labelsL
  rw [ByteArray.toList_eq]
  by_cases h : s.data.toList = []
  · rw [if_pos h, if_pos h]
  · rw [if_neg h, if_neg h]
    have e : strings_Split.f s (⟨#[46]⟩ : ByteArray) = some (Lib.splitB ⟨#[46]⟩ 0 (Lib.countB s ⟨#[46]⟩) s) := by
      unfold strings_Split.f
      exact if_pos ⟨rfl, hs⟩
    rw [e]
    simp only [Option.bind_some]
    congr 1
    have d := Lib.splitB_data ⟨#[46]⟩ 0 (Lib.countB s ⟨#[46]⟩) s
    have k : Lib.countB s ⟨#[46]⟩ = s.data.toList.count 46 := Lib.count_one 46 s.data.toList
    rw [k] at d ⊢
    have d2 : (Lib.splitB ⟨#[46]⟩ 0 (s.data.toList.count 46) s).map (·.data.toList) = cutA [] s.data.toList := d.trans (split_cut _)
    rw [← d2, List.map_map]
    exact (List.map_id'' (fun x => mkB_data x) _).symm
theorem extract_mkB (s : ByteArray) (f i : Nat) : s.extract f i = mkB ((s.data.toList.take i).drop f) := by
  have h : (s.extract f i).data.toList = (s.data.toList.take i).drop f := by
    rw [ByteArray.data_extract, Array.toList_extract, List.extract_eq_take_drop, List.drop_take]
  rw [← mkB_data (s.extract f i), h]
theorem bt_data (s : ByteArray) (i : Nat) (h : i < s.data.toList.length) : (bt s (i : Int) = 46) ↔ s.data.toList[i] = 46 := by
  have h' : (i : Int).toNat < s.size := by simpa using h
  have e := bt_at s (i : Int) h'
  have e2 : s[(i : Int).toNat]'h' = s.data.toList[i] := by
    rw [Array.getElem_toList]
    rfl
  rw [← e, e2, ← UInt8.toNat_inj]
  have t : UInt8.toNat 46 = 46 := rfl
  generalize s.data.toList[i].toNat = z
  generalize UInt8.toNat 46 = z' at t ⊢
  omega
theorem size_data (s : ByteArray) : s.size = s.data.toList.length := rfl
theorem spec_Labels_loop (s : ByteArray) (hn : s.size ≤ 1048576) (hne : s.toList ≠ []) : ∀ (d i f : Nat) (out : List ByteArray), i + d = s.size → f ≤ i → out.length ≤ i →
    Ev (fun k => spec_Labels.l0 k s out (f : Int) (i : Int)) (out ++ (cutA ((s.data.toList.take i).drop f) (s.data.toList.drop i)).map mkB) := by
  have hz := size_data s
  have hb : (s.toList != ([] : List UInt8)) = true := bne_iff_ne.2 hne
  intro d
  induction d with
  | zero =>
    intro i f out hi hf ho
    have w : wrap64 ((i : Int) + 1) = ((i + 1 : Nat) : Int) := wrap_succ i 1048577 (by omega) (by omega)
    have hx : s.extract f i = mkB ((s.data.toList.take i).drop f) := extract_mkB s f i
    refine Ev.step (f := fun k => spec_Labels.j1 k s out (f : Int) (i : Int) true) (fun k => ?_) ?_
    · simp only [spec_Labels.l0]
      rw [if_pos (by omega), hb]
    refine Ev.step (f := fun k => spec_Labels.l0 k s (out ++ [mkB ((s.data.toList.take i).drop f)]) ((i + 1 : Nat) : Int) ((i + 1 : Nat) : Int)) (fun k => ?_) ?_
    · simp only [spec_Labels.j1, if_true]
      rw [if_pos (by omega), if_pos (by omega), if_pos (by omega), if_pos (by omega), if_pos (by omega), w, Int.toNat_natCast, Int.toNat_natCast, hx]
    refine Ev.step (f := fun k => spec_Labels.j1 k s (out ++ [mkB ((s.data.toList.take i).drop f)]) ((i + 1 : Nat) : Int) ((i + 1 : Nat) : Int) false) (fun k => ?_) ?_
    · simp only [spec_Labels.l0]
      rw [if_neg (by omega)]
    refine Ev.step (f := fun _ => some (out ++ [mkB ((s.data.toList.take i).drop f)])) (fun k => ?_) ⟨0, fun _ _ => ?_⟩
    · simp only [spec_Labels.j1]
      rw [if_neg (by decide)]
    · rw [show s.data.toList.drop i = [] from List.drop_of_length_le (by omega)]
      rfl
  | succ d ih =>
    intro i f out hi hf ho
    have hil : i < s.data.toList.length := by omega
    have w : wrap64 ((i : Int) + 1) = ((i + 1 : Nat) : Int) := wrap_succ i 1048577 (by omega) (by omega)
    have hx : s.extract f i = mkB ((s.data.toList.take i).drop f) := extract_mkB s f i
    rw [List.drop_eq_getElem_cons hil]
    refine Ev.step (f := fun k => spec_Labels.j1 k s out (f : Int) (i : Int) true) (fun k => ?_) ?_
    · simp only [spec_Labels.l0]
      rw [if_pos (by omega), hb]
    by_cases c : s.data.toList[i] = 46
    · have cb := (bt_data s i hil).2 c
      have := ih (i + 1) (i + 1) (out ++ [mkB ((s.data.toList.take i).drop f)]) (by omega) (by omega) (by simp; omega)
      have e0 : (s.data.toList.take (i + 1)).drop (i + 1) = [] := List.drop_of_length_le (by rw [List.length_take]; omega)
      rw [e0] at this
      refine Ev.step (f := fun k => spec_Labels.l0 k s (out ++ [mkB ((s.data.toList.take i).drop f)]) ((i + 1 : Nat) : Int) ((i + 1 : Nat) : Int)) (fun k => ?_) ?_
      · simp only [spec_Labels.j1, if_true]
        rw [if_neg (by omega), if_pos (by omega), if_pos (by omega), if_pos cb, if_pos (by omega), if_pos (by omega), if_pos (by omega), if_pos (by omega), w, Int.toNat_natCast, Int.toNat_natCast, hx]
      · simp only [cutA, if_pos c, List.map_cons]
        rw [List.append_assoc] at this
        exact this
    · have cb : ¬ bt s (i : Int) = 46 := fun e => c ((bt_data s i hil).1 e)
      have := ih (i + 1) f out (by omega) (by omega) (by omega)
      have e0 : (s.data.toList.take (i + 1)).drop f = (s.data.toList.take i).drop f ++ [s.data.toList[i]] := by
        rw [← List.take_append_getElem hil, List.drop_append_of_le_length (by rw [List.length_take]; omega)]
      rw [e0] at this
      refine Ev.step (f := fun k => spec_Labels.l0 k s out (f : Int) ((i + 1 : Nat) : Int)) (fun k => ?_) ?_
      · simp only [spec_Labels.j1, if_true]
        rw [if_neg (by omega), if_pos (by omega), if_pos (by omega), if_neg cb, w]
      · simp only [cutA, if_neg c]
        exact this
theorem spec_Labels_eq (s : ByteArray) (hn : s.size ≤ 1048576) : Ev (fun k => spec_Labels.f k s) (labelsL s) := by
  unfold spec_Labels.f labelsL
  by_cases h : s.data.toList = []
  · rw [if_pos h]
    have hb : (s.toList != ([] : List UInt8)) = false := by rw [ByteArray.toList_eq, h]; rfl
    refine Ev.step (f := fun k => spec_Labels.j1 k s [] 0 0 false) (fun k => ?_) ?_
    · simp only [spec_Labels.l0]
      rw [if_pos (by omega), hb]
    refine Ev.step (f := fun _ => some []) (fun k => ?_) ⟨0, fun _ _ => rfl⟩
    simp only [spec_Labels.j1]
    rw [if_neg (by decide)]
  · rw [if_neg h]
    have := spec_Labels_loop s hn (by rw [ByteArray.toList_eq]; exact h) s.size 0 0 [] (by omega) (by omega) (by simp)
    simpa using this
theorem cutA_length : ∀ (t acc : List UInt8), (cutA acc t).length ≤ t.length + 1
  | [], _ => Nat.le_refl _
  | c :: t, acc => by
    unfold cutA
    split
    · have := cutA_length t []
      simp only [List.length_cons]
      omega
    · have := cutA_length t (acc ++ [c])
      simp only [List.length_cons]
      omega
theorem labelsL_length (s : ByteArray) : (labelsL s).length ≤ s.size + 1 := by
  unfold labelsL
  split
  · simp
  · rw [List.length_map, size_data]
    exact cutA_length _ _
theorem rdS_getElem (l : List ByteArray) (i : Nat) (h : i < l.length) : rdOf ByteArray.empty l i = l[i] := by
  unfold rdOf
  rw [Int.toNat_natCast, List.getD_eq_getElem?_getD, List.getElem?_eq_getElem h, Option.getD_some]
/-- How many bytes a list of strings holds. -/
def szSs (l : List ByteArray) : Nat := (l.map ByteArray.size).sum
theorem szSs_cons (x : ByteArray) (l : List ByteArray) : szSs (x :: l) = x.size + szSs l := by
  unfold szSs
  rw [List.map_cons, List.sum_cons]
theorem szSs_nil : szSs [] = 0 := rfl
theorem cutA_size : ∀ (t acc : List UInt8), szSs ((cutA acc t).map mkB) ≤ acc.length + t.length
  | [], acc => by
    have e : (mkB acc).size = acc.length := rfl
    simp only [cutA, List.map_cons, List.map_nil, szSs_cons, szSs_nil, e, List.length_nil]
    omega
  | c :: t, acc => by
    unfold cutA
    split
    · have := cutA_size t []
      have e : (mkB acc).size = acc.length := rfl
      simp only [List.length_nil] at this
      simp only [List.map_cons, szSs_cons, e, List.length_cons]
      omega
    · have := cutA_size t (acc ++ [c])
      simp only [List.length_append, List.length_cons, List.length_nil] at this ⊢
      omega
theorem labelsL_size (s : ByteArray) : szSs (labelsL s) ≤ s.size := by
  unfold labelsL
  split
  · rw [szSs_nil]
    omega
  · have := cutA_size s.data.toList []
    rw [size_data]
    simpa using this
theorem szSs_mem : ∀ (l : List ByteArray) (x : ByteArray), x ∈ l → x.size ≤ szSs l
  | [], x, h => by cases h
  | y :: l, x, h => by
    rw [szSs_cons]
    rcases List.mem_cons.1 h with e | h
    · subst e
      omega
    · have := szSs_mem l x h
      omega
theorem labels_mem_size (s x : ByteArray) (h : x ∈ labelsL s) : x.size ≤ s.size := Nat.le_trans (szSs_mem _ x h) (labelsL_size s)
/-- What NameOk answers. -/
def nameOk (s : ByteArray) : Bool := (labelsL s).all labelOk && (decide (s.size ≤ 50) && decide ((labelsL s).length ≤ 6))
theorem spec_NameOk_loop (s : ByteArray) (l : List ByteArray) (hn : l.length ≤ 140737488351232) (hz : ∀ x ∈ l, x.size ≤ 1048576) : ∀ (d i : Nat), i + d = l.length →
    Ev (fun k => spec_NameOk.l0 k s l (i : Int)) ((l.drop i).all labelOk && (decide (s.size ≤ 50) && decide (l.length ≤ 6))) := by
  intro d
  induction d with
  | zero =>
    intro i hi
    rw [show l.drop i = [] from List.drop_of_length_le (by omega)]
    refine Ev.step (f := fun _ => some (decide (s.size ≤ 50) && decide (l.length ≤ 6))) (fun k => ?_) ⟨0, fun _ _ => rfl⟩
    simp only [spec_NameOk.l0]
    rw [if_neg (by omega)]
    by_cases c : s.size ≤ 50
    · rw [if_pos (by omega), decide_eq_true c, Bool.true_and]
      congr 1
      exact decide_eq_decide.2 (by omega)
    · rw [if_neg (by omega), decide_eq_false c, Bool.false_and]
  | succ d ih =>
    intro i hi
    have hil : i < l.length := by omega
    have w := wrap_succ i l.length hil (by omega)
    rw [List.drop_eq_getElem_cons hil, List.all_cons]
    have hx := hz _ (List.getElem_mem hil)
    refine Ev.step (f := fun k => (spec_LabelOk.f k l[i]).bind fun t => if t = true then spec_NameOk.l0 k s l ((i + 1 : Nat) : Int) else some false) (fun k => ?_) ?_
    · simp only [spec_NameOk.l0]
      rw [if_pos (by omega), if_pos (by omega), rdS_getElem l i hil, w]
    · refine Ev.bind (spec_LabelOk_eq l[i] (by omega)) ?_
      cases h : labelOk l[i] with
      | true =>
        rw [Bool.true_and]
        exact Ev_if rfl (ih (i + 1) (by omega))
      | false => exact Ev_ifn (by decide) ⟨0, fun _ _ => rfl⟩
theorem spec_NameOk_eq (s : ByteArray) (hs : s.size ≤ 1048576) : Ev (fun k => spec_NameOk.f k s) (nameOk s) := by
  unfold spec_NameOk.f nameOk
  have h1 := labelsL_length s
  refine Ev.bind (spec_Labels_eq s hs) ?_
  have := spec_NameOk_loop s (labelsL s) (by omega) (fun x hx => Nat.le_trans (labels_mem_size s x hx) hs) (labelsL s).length 0 (by omega)
  simpa using this
theorem impl_NameOk_1_eq (s : ByteArray) (hs : s.size ≤ 1048576) : Ev (fun k => impl_NameOk_1.f k s) (!labelOk s) := by
  unfold impl_NameOk_1.f
  exact Ev.bind (impl_LabelOk_eq s (by omega)) ⟨0, fun _ _ => rfl⟩
theorem slices_IndexFunc_string_loop (l : List ByteArray) (hn : l.length ≤ 140737488351232) (hz : ∀ x ∈ l, x.size ≤ 1048576) : ∀ (d i : Nat), i + d = l.length →
    ∃ r : Int, Ev (fun k => slices_IndexFunc_string.l0 k l (l.length : Int) (i : Int)) r ∧ decide (r ≥ 0) = !(l.drop i).all labelOk := by
  intro d
  induction d with
  | zero =>
    intro i hi
    rw [show l.drop i = [] from List.drop_of_length_le (by omega)]
    refine ⟨-1, Ev.step (f := fun _ => some (-1)) (fun k => ?_) ⟨0, fun _ _ => rfl⟩, rfl⟩
    simp only [slices_IndexFunc_string.l0]
    rw [if_neg (by omega)]
  | succ d ih =>
    intro i hi
    have hil : i < l.length := by omega
    have w := wrap_succ i l.length hil (by omega)
    rw [List.drop_eq_getElem_cons hil, List.all_cons]
    have hx := hz _ (List.getElem_mem hil)
    obtain ⟨r, hr, hd⟩ := ih (i + 1) (by omega)
    have hs : ∀ k, slices_IndexFunc_string.l0 (k + 1) l (l.length : Int) (i : Int) = (impl_NameOk_1.f k l[i]).bind fun t => if t = true then some (i : Int) else slices_IndexFunc_string.l0 k l (l.length : Int) ((i + 1 : Nat) : Int) := by
      intro k
      simp only [slices_IndexFunc_string.l0]
      rw [if_pos (by omega), if_pos (by omega), if_pos (by omega), rdS_getElem l i hil, w]
    cases h : labelOk l[i] with
    | true =>
      refine ⟨r, Ev.step hs (Ev.bind (impl_NameOk_1_eq l[i] hx) ?_), by rw [hd, Bool.true_and]⟩
      rw [h]
      exact Ev_ifn (by decide) hr
    | false =>
      refine ⟨(i : Int), Ev.step hs (Ev.bind (impl_NameOk_1_eq l[i] hx) ?_), by rw [decide_eq_true (by omega)]; rfl⟩
      rw [h]
      exact Ev_if rfl ⟨0, fun _ _ => rfl⟩
theorem slices_ContainsFunc_string_eq (l : List ByteArray) (hn : l.length ≤ 140737488351232) (hz : ∀ x ∈ l, x.size ≤ 1048576) : Ev (fun k => slices_ContainsFunc_string.f k l) (!l.all labelOk) := by
  unfold slices_ContainsFunc_string.f slices_IndexFunc_string.f
  obtain ⟨r, hr, hd⟩ := slices_IndexFunc_string_loop l hn hz l.length 0 (by omega)
  rw [List.drop_zero] at hd
  rw [← hd]
  exact Ev.bind hr ⟨0, fun _ _ => rfl⟩
theorem impl_NameOk_eq (s : ByteArray) (hs : s.size ≤ 1048576) : Ev (fun k => impl_NameOk.f k s) (nameOk s) := by
  unfold impl_NameOk.f nameOk
  have h1 := labelsL_length s
  rw [impl_Labels_eq s (by omega)]
  simp only [Option.bind_some]
  by_cases c1 : s.size ≤ 50
  · refine Ev_if (by omega) ?_
    rw [decide_eq_true c1, Bool.true_and]
    by_cases c2 : (labelsL s).length ≤ 6
    · refine Ev_if (by omega) ?_
      rw [decide_eq_true c2, Bool.and_true]
      refine Ev.bind (slices_ContainsFunc_string_eq _ (by omega) (fun x hx => Nat.le_trans (labels_mem_size s x hx) hs)) ⟨0, fun _ _ => ?_⟩
      rw [Bool.not_not]
    · refine Ev_ifn (by omega) ?_
      rw [decide_eq_false c2, Bool.and_false]
      exact ⟨0, fun _ _ => rfl⟩
  · refine Ev_ifn (by omega) ?_
    rw [decide_eq_false c1, Bool.false_and, Bool.and_false]
    exact ⟨0, fun _ _ => rfl⟩
/-- The bytes of a text. -/
def textOk (s : ByteArray) : Bool := (bytesOf s).all (fun c => decide (33 ≤ c) && decide (c ≤ 126)) && decide (s.size ≤ 12)
theorem spec_l5Text_loop (s : ByteArray) (hn : s.size ≤ 140737488355328) : ∀ (d i : Nat), i + d = s.size →
    Ev (fun k => spec_l5Text.l0 k s (i : Int)) (((bytesOf s).drop i).all (fun c => decide (33 ≤ c) && decide (c ≤ 126)) && decide (s.size ≤ 12)) := by
  intro d
  induction d with
  | zero =>
    intro i hi
    refine Ev.step (f := fun _ => some (decide (s.size ≤ 12))) (fun k => ?_) ⟨0, fun _ _ => by rw [List.drop_of_length_le (by rw [bytesOf_length]; omega)]; rfl⟩
    simp only [spec_l5Text.l0]
    rw [if_neg (by omega)]
    congr 1
    exact decide_eq_decide.2 (by omega)
  | succ d ih =>
    intro i hi
    have hb := bt_range s i
    have hw := wrap_succ i s.size (by omega) hn
    rw [drop_bytesOf s i (by omega), List.all_cons]
    have hs : ∀ k, spec_l5Text.l0 (k + 1) s (i : Int) = if (decide (33 ≤ bt s i) && decide (bt s i ≤ 126)) = true then spec_l5Text.l0 k s ((i + 1 : Nat) : Int) else some false := by
      intro k
      simp only [spec_l5Text.l0]
      rw [if_pos (by omega), if_pos (by omega), wrap_id (x := bt s i) (by omega) (by omega), l1In_dec, Option.bind_some, hw]
    refine Ev.step hs ?_
    cases h : (decide (33 ≤ bt s i) && decide (bt s i ≤ 126)) with
    | true => exact Ev_if rfl (by rw [Bool.true_and]; exact ih (i + 1) (by omega))
    | false => exact Ev_ifn (by decide) ⟨0, fun _ _ => rfl⟩
theorem spec_l5Text_eq (s : ByteArray) (hn : s.size ≤ 140737488355328) : Ev (fun k => spec_l5Text.f k s) (textOk s) := by
  have := spec_l5Text_loop s hn s.size 0 (by omega)
  unfold spec_l5Text.f textOk
  simpa using this
theorem impl_isText_loop (s : ByteArray) (hn : s.size ≤ 140737488355328) : ∀ (d i : Nat), i + d = s.size →
    Ev (fun k => impl_isText.l0 k s (s.size : Int) (i : Int)) (((bytesOf s).drop i).all (fun c => decide (33 ≤ c) && decide (c ≤ 126)) && decide (s.size ≤ 12)) := by
  intro d
  induction d with
  | zero =>
    intro i hi
    refine Ev.step (f := fun _ => some (decide (s.size ≤ 12))) (fun k => ?_) ⟨0, fun _ _ => by rw [List.drop_of_length_le (by rw [bytesOf_length]; omega)]; rfl⟩
    simp only [impl_isText.l0]
    rw [if_neg (by omega)]
    congr 1
    exact decide_eq_decide.2 (by omega)
  | succ d ih =>
    intro i hi
    have hb := bt_range s i
    have hw := wrap_succ i s.size (by omega) hn
    rw [drop_bytesOf s i (by omega), List.all_cons]
    have hs : ∀ k, impl_isText.l0 (k + 1) s (s.size : Int) (i : Int) = if bt s i < 33 then some false else if bt s i > 126 then some false else impl_isText.l0 k s (s.size : Int) ((i + 1 : Nat) : Int) := by
      intro k
      simp only [impl_isText.l0]
      rw [if_pos (by omega), if_pos (by omega), if_pos (by omega), hw]
    refine Ev.step hs ?_
    by_cases c1 : bt s i < 33
    · refine Ev_if c1 ⟨0, fun _ _ => ?_⟩
      rw [decide_eq_false (show ¬ 33 ≤ bt s i by omega)]
      rfl
    · refine Ev_ifn c1 ?_
      rw [decide_eq_true (show 33 ≤ bt s i by omega), Bool.true_and]
      by_cases c2 : bt s i > 126
      · refine Ev_if c2 ⟨0, fun _ _ => ?_⟩
        rw [decide_eq_false (show ¬ bt s i ≤ 126 by omega)]
        rfl
      · refine Ev_ifn c2 ?_
        rw [decide_eq_true (show bt s i ≤ 126 by omega), Bool.true_and]
        exact ih (i + 1) (by omega)
theorem impl_isText_eq (s : ByteArray) (hn : s.size ≤ 140737488355328) : Ev (fun k => impl_isText.f k s) (textOk s) := by
  have := impl_isText_loop s hn s.size 0 (by omega)
  unfold impl_isText.f textOk
  simpa using this
/-- A number from 0 to m. -/
def inTo (x m : Int) : Bool := decide (0 ≤ x) && decide (x ≤ m)
theorem l1In_to (x m : Int) : spec_l1In.f x 0 m = some (inTo x m) := l1In_dec x 0 m
theorem isTtl_eq (x : Int) : impl_isTtl.f x = some (inTo x 100000) := by
  unfold impl_isTtl.f inTo
  by_cases h : x ≥ 0
  · rw [if_pos h, decide_eq_true (show 0 ≤ x by omega), Bool.true_and]
  · rw [if_neg h, decide_eq_false (show ¬ 0 ≤ x by omega), Bool.false_and]
theorem isFour_eq (x : Int) : impl_isFour.f x = some (inTo x 2147483647) := by
  unfold impl_isFour.f inTo
  by_cases h : x ≥ 0
  · rw [if_pos h, decide_eq_true (show 0 ≤ x by omega), Bool.true_and]
  · rw [if_neg h, decide_eq_false (show ¬ 0 ≤ x by omega), Bool.false_and]
def isE (s : ByteArray) : Bool := s.toList == ([] : List UInt8)
/-- What RecordOk answers. -/
def recOk (a0 : ByteArray) (a1 a2 a3 : Int) (a4 a5 : ByteArray) : Bool :=
  nameOk a0 && (inTo a2 100000 && (if a1 = 1 then inTo a3 2147483647 && (isE a4 && isE a5) else if a1 = 2 ∨ a1 = 5 then decide (a3 = 0) && (nameOk a4 && isE a5) else if a1 = 6 then inTo a3 100000 && (nameOk a4 && isE a5) else if a1 = 16 then decide (a3 = 0) && (isE a4 && textOk a5) else false))
theorem Ev_and {f : Nat → Option Bool} {a b : Bool} {g : Nat → Option Bool} (h : Ev f a) (h2 : a = true → Ev g b) : Ev (fun k => (f k).bind fun t => if t = true then g k else some false) (a && b) := by
  refine Ev.bind h ?_
  cases a with
  | true => exact Ev_if rfl (by rw [Bool.true_and]; exact h2 rfl)
  | false => exact Ev_ifn (by decide) ⟨0, fun _ _ => rfl⟩
theorem Ev_andp {p : Prop} [Decidable p] {b : Bool} {g : Nat → Option Bool} (h2 : p → Ev g b) : Ev (fun k => if p then g k else some false) (decide p && b) := by
  by_cases h : p
  · rw [decide_eq_true h, Bool.true_and]
    exact Ev_if h (h2 h)
  · rw [decide_eq_false h, Bool.false_and]
    exact Ev_ifn h ⟨0, fun _ _ => rfl⟩
theorem Ev_andE (s : ByteArray) {b : Bool} {g : Nat → Option Bool} (h2 : Ev g b) : Ev (fun k => if s.toList = ([] : List UInt8) then g k else some false) (isE s && b) := by
  unfold isE
  by_cases h : s.toList = []
  · rw [show (s.toList == ([] : List UInt8)) = true by rw [h]; rfl, Bool.true_and]
    exact Ev_if h h2
  · rw [show (s.toList == ([] : List UInt8)) = false by simpa using h, Bool.false_and]
    exact Ev_ifn h ⟨0, fun _ _ => rfl⟩
theorem Ev_some {α : Type} (x : α) : Ev (fun _ => some x) x := ⟨0, fun _ _ => rfl⟩
theorem Ev_ret {α : Type} {f : Nat → Option α} {x : α} (h : Ev f x) : Ev (fun k => (f k).bind fun t => some t) x := Ev.bind h (Ev_some x)
theorem spec_RecordOk_eq (a0 : ByteArray) (a1 a2 a3 : Int) (a4 a5 : ByteArray) (h0 : a0.size ≤ 1048576) (h4 : a4.size ≤ 1048576) (h5 : a5.size ≤ 1048576) : Ev (fun k => spec_RecordOk.f k a0 a1 a2 a3 a4 a5) (recOk a0 a1 a2 a3 a4 a5) := by
  unfold spec_RecordOk.f recOk
  refine Ev.bind (spec_NameOk_eq a0 h0) ?_
  cases hn : nameOk a0 with
  | false =>
    refine Ev_ifn (by decide) ?_
    refine Ev.step (f := fun _ => some false) (fun k => ?_) (Ev_some _)
    simp only [spec_RecordOk.j0]
    rfl
  | true =>
    rw [Bool.true_and]
    refine Ev_if rfl ?_
    simp only [l1In_to, Option.bind_some]
    cases ht : inTo a2 100000 with
    | false =>
      refine Ev.step (f := fun _ => some false) (fun k => ?_) (Ev_some _)
      simp only [spec_RecordOk.j0]
      rfl
    | true =>
      rw [Bool.true_and]
      have key : ∀ (b : Bool), b = decide (a1 = 2 ∨ a1 = 5) → a1 ≠ 1 → Ev (fun k => spec_RecordOk.j1 k a1 b a0 a1 a2 a3 a4 a5) (if a1 = 2 ∨ a1 = 5 then decide (a3 = 0) && (nameOk a4 && isE a5) else if a1 = 6 then inTo a3 100000 && (nameOk a4 && isE a5) else if a1 = 16 then decide (a3 = 0) && (isE a4 && textOk a5) else false) := by
        intro b hb h1
        by_cases c : a1 = 2 ∨ a1 = 5
        · rw [if_pos c]
          rw [decide_eq_true c] at hb
          subst hb
          refine Ev.step (fun k => ?_) (Ev_andp fun _ => Ev_and (spec_NameOk_eq a4 h4) fun _ => Ev_some _)
          simp only [spec_RecordOk.j1, if_true]
          rfl
        · rw [if_neg c]
          rw [decide_eq_false c] at hb
          subst hb
          by_cases c6 : a1 = 6
          · rw [if_pos c6]
            refine Ev.step (fun k => ?_) (Ev_and (f := fun _ => some (inTo a3 100000)) (Ev_some _) fun _ => Ev_and (spec_NameOk_eq a4 h4) fun _ => Ev_some _)
            simp only [spec_RecordOk.j1]
            rw [if_neg (by decide), if_pos c6, l1In_to]
            rfl
          · rw [if_neg c6]
            by_cases c16 : a1 = 16
            · rw [if_pos c16]
              refine Ev.step (fun k => ?_) (Ev_andp fun _ => Ev_andE a4 (Ev_ret (spec_l5Text_eq a5 (by omega))))
              simp only [spec_RecordOk.j1]
              rw [if_neg (by decide), if_neg c6, if_pos c16]
            · rw [if_neg c16]
              refine Ev.step (f := fun _ => some false) (fun k => ?_) (Ev_some _)
              simp only [spec_RecordOk.j1]
              rw [if_neg (by decide), if_neg c6, if_neg c16]
      by_cases c1 : a1 = 1
      · rw [if_pos c1]
        refine Ev.step (fun k => ?_) (Ev_and (f := fun _ => some (inTo a3 2147483647)) (Ev_some _) fun _ => Ev_andE a4 (Ev_some _))
        simp only [spec_RecordOk.j0]
        rw [if_neg (by decide), if_pos c1, l1In_to]
        rfl
      · rw [if_neg c1]
        by_cases c2 : a1 = 2
        · refine Ev.step (fun k => ?_) (key (a1 == 2) (by rw [decide_eq_true (Or.inl c2)]; simpa using c2) c1)
          simp only [spec_RecordOk.j0]
          rw [if_neg (by decide), if_neg c1, if_pos c2]
        · refine Ev.step (fun k => ?_) (key (a1 == 5) (by by_cases c5 : a1 = 5 <;> simp [c2, c5]) c1)
          simp only [spec_RecordOk.j0]
          rw [if_neg (by decide), if_neg c1, if_neg c2]
theorem impl_RecordOk_eq (a0 : ByteArray) (a1 a2 a3 : Int) (a4 a5 : ByteArray) (h0 : a0.size ≤ 1048576) (h4 : a4.size ≤ 1048576) (h5 : a5.size ≤ 1048576) : Ev (fun k => impl_RecordOk.f k a0 a1 a2 a3 a4 a5) (recOk a0 a1 a2 a3 a4 a5) := by
  unfold impl_RecordOk.f recOk
  refine Ev.bind (impl_NameOk_eq a0 h0) ?_
  cases hn : nameOk a0 with
  | false =>
    refine Ev_ifn (by decide) ?_
    refine Ev.step (f := fun _ => some false) (fun k => ?_) (Ev_some _)
    simp only [impl_RecordOk.j0]
    rfl
  | true =>
    rw [Bool.true_and]
    refine Ev_if rfl ?_
    simp only [isTtl_eq, Option.bind_some]
    cases ht : inTo a2 100000 with
    | false =>
      refine Ev.step (f := fun _ => some false) (fun k => ?_) (Ev_some _)
      simp only [impl_RecordOk.j0]
      rfl
    | true =>
      rw [Bool.true_and]
      have key : ∀ (b : Bool), b = decide (a1 = 2 ∨ a1 = 5) → a1 ≠ 1 → Ev (fun k => impl_RecordOk.j1 k a1 b a0 a1 a2 a3 a4 a5) (if a1 = 2 ∨ a1 = 5 then decide (a3 = 0) && (nameOk a4 && isE a5) else if a1 = 6 then inTo a3 100000 && (nameOk a4 && isE a5) else if a1 = 16 then decide (a3 = 0) && (isE a4 && textOk a5) else false) := by
        intro b hb h1
        by_cases c : a1 = 2 ∨ a1 = 5
        · rw [if_pos c]
          rw [decide_eq_true c] at hb
          subst hb
          refine Ev.step (fun k => ?_) (Ev_andp fun _ => Ev_and (impl_NameOk_eq a4 h4) fun _ => Ev_some _)
          simp only [impl_RecordOk.j1, if_true]
          rfl
        · rw [if_neg c]
          rw [decide_eq_false c] at hb
          subst hb
          by_cases c6 : a1 = 6
          · rw [if_pos c6]
            refine Ev.step (fun k => ?_) (Ev_and (f := fun _ => some (inTo a3 100000)) (Ev_some _) fun _ => Ev_and (impl_NameOk_eq a4 h4) fun _ => Ev_some _)
            simp only [impl_RecordOk.j1]
            rw [if_neg (by decide), if_pos c6, isTtl_eq]
            rfl
          · rw [if_neg c6]
            by_cases c16 : a1 = 16
            · rw [if_pos c16]
              refine Ev.step (fun k => ?_) (Ev_andp fun _ => Ev_andE a4 (Ev_ret (impl_isText_eq a5 (by omega))))
              simp only [impl_RecordOk.j1]
              rw [if_neg (by decide), if_neg c6, if_pos c16]
            · rw [if_neg c16]
              refine Ev.step (f := fun _ => some false) (fun k => ?_) (Ev_some _)
              simp only [impl_RecordOk.j1]
              rw [if_neg (by decide), if_neg c6, if_neg c16]
      by_cases c1 : a1 = 1
      · rw [if_pos c1]
        refine Ev.step (fun k => ?_) (Ev_and (f := fun _ => some (inTo a3 2147483647)) (Ev_some _) fun _ => Ev_andE a4 (Ev_some _))
        simp only [impl_RecordOk.j0]
        rw [if_neg (by decide), if_pos c1, isFour_eq]
        rfl
      · rw [if_neg c1]
        by_cases c2 : a1 = 2
        · refine Ev.step (fun k => ?_) (key (a1 == 2) (by rw [decide_eq_true (Or.inl c2)]; simpa using c2) c1)
          simp only [impl_RecordOk.j0]
          rw [if_neg (by decide), if_neg c1, if_pos c2]
        · refine Ev.step (fun k => ?_) (key (a1 == 5) (by by_cases c5 : a1 = 5 <;> simp [c2, c5]) c1)
          simp only [impl_RecordOk.j0]
          rw [if_neg (by decide), if_neg c1, if_neg c2]
/-- What TypeOk answers. -/
def typeOk (n : Int) : Bool := decide (n = 1 ∨ n = 2 ∨ n = 5 ∨ n = 6 ∨ n = 16)
theorem spec_TypeOk_eq (n : Int) : spec_TypeOk.f n = some (typeOk n) := by
  unfold spec_TypeOk.f typeOk
  by_cases h1 : n = 1
  · simp [h1]
  · by_cases h2 : n = 2
    · simp [h2]
    · by_cases h5 : n = 5
      · simp [h5]
      · by_cases h6 : n = 6
        · simp [h6]
        · simp [h1, h2, h5, h6]
          by_cases h16 : n = 16 <;> simp [h16]
theorem impl_TypeOk_eq (n : Int) : impl_TypeOk.f n = some (typeOk n) := by
  unfold impl_TypeOk.f impl_TypeText.f typeOk
  by_cases h1 : n = 1
  · simp [h1]
  · by_cases h2 : n = 2
    · simp [h2]
    · by_cases h5 : n = 5
      · simp [h5]
      · by_cases h6 : n = 6
        · simp [h6]
        · by_cases h16 : n = 16
          · simp [h16]
          · simp [h1, h2, h5, h6, h16]
theorem labelOk_size {s : ByteArray} (h : labelOk s = true) : 1 ≤ s.size ∧ s.size ≤ 12 := by
  unfold labelOk at h
  simp only [Bool.and_eq_true, decide_eq_true_eq] at h
  exact h.2
/-- The folded bytes behind the length byte at i. -/
def labAt (l : List Int) (i : Int) : ByteArray := strOfNums (((l.drop (i.toNat + 1)).take (rd l i).toNat).map foldB)
/-- What GetLabel returns. -/
def getLabel (l : List Int) (i : Int) : ByteArray × Int × Bool :=
  if (0 ≤ i ∧ i < (l.length : Int) ∧ rd l i ≤ 12 ∧ rd l i < (l.length : Int) - i) ∧ labelOk (labAt l i) = true then (labAt l i, i + 1 + rd l i, true) else ((⟨#[]⟩ : ByteArray), 0, false)
theorem labelOk_empty : labelOk (⟨#[]⟩ : ByteArray) = false := by
  unfold labelOk
  simp [show (⟨#[]⟩ : ByteArray).size = 0 from rfl]
theorem cut_label (l : List Int) (i n : Int) (h0 : 0 ≤ i) (hn : 0 ≤ n) : (l.take ((i + 1 + n : Int)).toNat).drop ((i + 1 : Int)).toNat = (l.drop (i.toNat + 1)).take n.toNat := by
  rw [List.drop_take]
  have e1 : (i + 1).toNat = i.toNat + 1 := by omega
  have e2 : (i + 1 + n).toNat - (i + 1).toNat = n.toNat := by omega
  rw [e2, e1]
theorem fold_cut (l : List Int) (hb : Bytes l) (i : Int) : strOfNums ((bytesOf (strOfNums ((l.drop (i.toNat + 1)).take (rd l i).toNat))).map foldB) = labAt l i := by
  rw [bytesOf_strOfNums ((hb.drop _).take _)]
  rfl
theorem strOfNums_cut_size (l : List Int) (hn : l.length ≤ 140737488351232) (a b : Nat) : (strOfNums ((l.drop a).take b)).size ≤ 140737488355328 := by
  rw [strOfNums_size, List.length_take, List.length_drop]
  omega
theorem labAt_size (l : List Int) (hn : l.length ≤ 140737488351232) (i : Int) : (labAt l i).size ≤ 140737488355328 := by
  unfold labAt
  rw [strOfNums_size, List.length_map, List.length_take, List.length_drop]
  omega
theorem impl_GetLabel_eq (l : List Int) (hn : l.length ≤ 140737488351232) (hb : Bytes l) (i : Int) (hi : -9223372036854775808 ≤ i ∧ i ≤ 9223372036854775807) : Ev (fun k => impl_GetLabel.f k l i) (getLabel l i) := by
  have hr := rd_byte hb i
  have fail : ¬ ((0 ≤ i ∧ i < (l.length : Int) ∧ rd l i ≤ 12 ∧ rd l i < (l.length : Int) - i)) → Ev (fun k => impl_GetLabel.j0 k l i true) (getLabel l i) := by
    intro h
    refine Ev.step (f := fun _ => some ((⟨#[]⟩ : ByteArray), 0, false)) (fun k => ?_) ⟨0, fun _ _ => ?_⟩
    · simp only [impl_GetLabel.j0]
      rfl
    · unfold getLabel
      rw [if_neg (fun q => h q.1)]
  unfold impl_GetLabel.f
  by_cases h0 : i < 0
  · simp only [if_pos h0]
    exact fail (by omega)
  · simp only [if_neg h0]
    by_cases h1 : i ≥ (l.length : Int)
    · simp only [if_pos h1]
      exact fail (by omega)
    · have g0 : 0 ≤ i := by omega
      have g1 : i < (l.length : Int) := by omega
      simp only [if_neg h1, if_pos g0, if_pos g1]
      by_cases h2 : rd l i > 12
      · simp only [if_pos h2]
        exact fail (by omega)
      · simp only [if_neg h2, wrap_id (x := rd l i) (by omega) (by omega), wrap_id (x := (l.length : Int) - i) (by omega) (by omega)]
        by_cases h3 : rd l i ≥ (l.length : Int) - i
        · simp only [decide_eq_true h3]
          exact fail (by omega)
        · simp only [decide_eq_false h3]
          refine Ev.step (f := fun k => (impl_LabelOk.f k (labAt l i)).bind fun t => if t = true then some (labAt l i, i + 1 + rd l i, true) else some ((⟨#[]⟩ : ByteArray), 0, false)) (fun k => ?_) (Ev.bind (impl_LabelOk_eq (labAt l i) (labAt_size l hn i)) ?_)
          · simp only [impl_GetLabel.j0]
            rw [if_neg (by decide), if_pos g0, if_pos g1, wrap_id (x := i + 1) (by omega) (by omega), wrap_id (x := rd l i) (by omega) (by omega), wrap_id (x := i + 1 + rd l i) (by omega) (by omega), if_pos (by omega), if_pos (by omega), if_pos (by omega), cut_label l i (rd l i) g0 hr.1]
            unfold impl_Fold.f
            rw [if_pos (strOfNums_cut_size l hn _ _), fold_cut l hb i]
            rfl
          · refine ⟨0, fun _ _ => ?_⟩
            unfold getLabel
            cases h : labelOk (labAt l i) with
            | true =>
              rw [if_pos rfl, if_pos ⟨⟨g0, g1, by omega, by omega⟩, rfl⟩]
            | false =>
              rw [if_neg (by decide), if_neg (fun q => by cases q.2)]
theorem spec_GetLabel_eq (l : List Int) (hn : l.length ≤ 140737488351232) (hb : Bytes l) (i : Int) (hi : -9223372036854775808 ≤ i ∧ i ≤ 9223372036854775807) : Ev (fun k => spec_GetLabel.f k l i) (getLabel l i) := by
  have hr := rd_byte hb i
  have none1 : ∀ n, ¬ ((0 ≤ i ∧ i < (l.length : Int) ∧ rd l i ≤ 12 ∧ rd l i < (l.length : Int) - i) ∧ labelOk (labAt l i) = true) → Ev (fun k => spec_GetLabel.j1 k l i n true) (getLabel l i) := by
    intro n h
    refine Ev.step (f := fun _ => some ((⟨#[]⟩ : ByteArray), 0, false)) (fun k => ?_) ⟨0, fun _ _ => ?_⟩
    · simp only [spec_GetLabel.j1]
      rfl
    · unfold getLabel
      rw [if_neg h]
  have fail : ¬ (0 ≤ i ∧ i < (l.length : Int)) → Ev (fun k => spec_GetLabel.j0 k l i true) (getLabel l i) := by
    intro h
    refine Ev.step (f := fun _ => some ((⟨#[]⟩ : ByteArray), 0, false)) (fun k => ?_) ⟨0, fun _ _ => ?_⟩
    · simp only [spec_GetLabel.j0]
      rfl
    · unfold getLabel
      rw [if_neg (fun q => h ⟨q.1.1, q.1.2.1⟩)]
  unfold spec_GetLabel.f
  by_cases h0 : i < 0
  · simp only [if_pos h0]
    exact fail (by omega)
  · simp only [if_neg h0]
    by_cases h1 : i ≥ (l.length : Int)
    · simp only [decide_eq_true h1]
      exact fail (by omega)
    · have g0 : 0 ≤ i := by omega
      have g1 : i < (l.length : Int) := by omega
      simp only [decide_eq_false h1]
      refine Ev.step (f := fun k => if (decide (1 ≤ rd l i) && decide (rd l i ≤ 12)) = true then spec_GetLabel.j1 k l i (rd l i) (decide (rd l i > (l.length : Int) - i - 1)) else spec_GetLabel.j1 k l i (rd l i) true) (fun k => ?_) ?_
      · simp only [spec_GetLabel.j0]
        rw [if_neg (by decide), if_pos g0, if_pos g1, wrap_id (x := rd l i) (by omega) (by omega), wrap_id (x := (l.length : Int) - i) (by omega) (by omega), wrap_id (x := (l.length : Int) - i - 1) (by omega) (by omega), l1In_dec]
        rfl
      · by_cases h2 : 1 ≤ rd l i ∧ rd l i ≤ 12
        · have e2 : (decide (1 ≤ rd l i) && decide (rd l i ≤ 12)) = true := by simp [h2.1, h2.2]
          simp only [e2, if_true]
          by_cases h3 : rd l i > (l.length : Int) - i - 1
          · simp only [decide_eq_true h3]
            exact none1 _ (by omega)
          · simp only [decide_eq_false h3]
            refine Ev.step (f := fun k => (spec_LabelOk.f k (labAt l i)).bind fun t => if t = true then some (labAt l i, i + 1 + rd l i, true) else some ((⟨#[]⟩ : ByteArray), 0, false)) (fun k => ?_) (Ev.bind (spec_LabelOk_eq (labAt l i) (labAt_size l hn i)) ?_)
            · simp only [spec_GetLabel.j1]
              rw [if_neg (by decide), wrap_id (x := i + 1) (by omega) (by omega), wrap_id (x := i + 1 + rd l i) (by omega) (by omega), if_pos (by omega), if_pos (by omega), if_pos (by omega), cut_label l i (rd l i) g0 hr.1]
              unfold spec_Fold.f
              rw [if_pos (strOfNums_cut_size l hn _ _), fold_cut l hb i]
              rfl
            · refine ⟨0, fun _ _ => ?_⟩
              unfold getLabel
              cases h : labelOk (labAt l i) with
              | true =>
                rw [if_pos rfl, if_pos ⟨⟨g0, g1, by omega, by omega⟩, rfl⟩]
              | false =>
                rw [if_neg (by decide), if_neg (fun q => by cases q.2)]
        · have e2 : (decide (1 ≤ rd l i) && decide (rd l i ≤ 12)) = false := by
            rw [Bool.and_eq_false_iff, decide_eq_false_iff_not, decide_eq_false_iff_not]
            omega
          simp only [e2, if_neg (show ¬ (false = true) by decide)]
          refine none1 _ (fun q => ?_)
          have hz : rd l i = 0 := by omega
          have : labAt l i = (⟨#[]⟩ : ByteArray) := by
            unfold labAt
            rw [hz]
            rfl
          rw [this, labelOk_empty] at q
          cases q.2
/-- Strings with a dot between them. -/
def joinS : List ByteArray → ByteArray
  | [] => (⟨#[]⟩ : ByteArray)
  | [x] => x
  | x :: y :: l => x ++ ((⟨#[46]⟩ : ByteArray) ++ joinS (y :: l))
theorem joinS_data : ∀ (l : List ByteArray), (joinS l).data.toList = Lib.join (l.map (·.data.toList)) [46]
  | [] => rfl
  | [x] => by simp [joinS, Lib.join, List.intercalate]
  | x :: y :: l => by
    have ih := joinS_data (y :: l)
    rw [joinS, ByteArray.data_append, ByteArray.data_append, Array.toList_append, Array.toList_append, ih]
    simp [Lib.join, List.intercalate]
theorem joinS_size : ∀ (l : List ByteArray), (joinS l).size ≤ szSs l + l.length
  | [] => Nat.zero_le _
  | [x] => by simp [joinS, szSs]
  | x :: y :: l => by
    have ih := joinS_size (y :: l)
    rw [joinS, ByteArray.size_append, ByteArray.size_append]
    have e : (⟨#[46]⟩ : ByteArray).size = 1 := rfl
    have e2 : szSs (x :: y :: l) = x.size + szSs (y :: l) := by simp [szSs]
    rw [e, e2, List.length_cons]
    omega
theorem impl_JoinLabels_eq (l : List ByteArray) (h : szSs l + l.length ≤ 140737488355328) : impl_JoinLabels.f l = some (joinS l) := by
  have hs := joinS_size l
  have hd := joinS_data l
  unfold impl_JoinLabels.f strings_Join.f
  have e : (⟨#[46]⟩ : ByteArray).data.toList = [46] := rfl
  rw [e, ← hd, if_pos ⟨by rw [data_length]; omega, by omega⟩]
  simp
theorem empty_append (s : ByteArray) : (⟨#[]⟩ : ByteArray) ++ s = s := by
  apply ByteArray.ext
  rw [ByteArray.data_append]
  simp
/-- Where a jump goes. -/
def toOf (b : List Int) (i : Nat) : Int := 256 * (rd b i - 192) + rd b ((i + 1 : Nat) : Int)
abbrev NameT := ByteArray × Int × Int × Int
def badName (c j : Int) : NameT := ((⟨#[]⟩ : ByteArray), 0, c, j)
theorem rd_rng {b : List Int} (hb : Bytes b) (i : Int) : wrap64 (rd b i) = rd b i := by
  have := rd_byte hb i
  exact wrap_id (by omega) (by omega)
theorem toOf_rng {b : List Int} (hb : Bytes b) (i : Nat) (h : 192 ≤ rd b i) : 0 ≤ toOf b i ∧ toOf b i ≤ 16383 := by
  have h1 := rd_byte hb (i : Int)
  have h2 := rd_byte hb ((i + 1 : Nat) : Int)
  unfold toOf
  omega
theorem toOf_wrap {b : List Int} (hb : Bytes b) (i : Nat) (h : 192 ≤ rd b i) : wrap64 ((wrap64 (256 * (wrap64 (rd b i - 192)))) + rd b ((i + 1 : Nat) : Int)) = toOf b i := by
  have h1 := rd_byte hb (i : Int)
  have h2 := rd_byte hb ((i + 1 : Nat) : Int)
  rw [wrap_id (x := rd b i - 192) (by omega) (by omega), wrap_id (x := 256 * (rd b i - 192)) (by omega) (by omega), wrap_id (x := 256 * (rd b i - 192) + rd b ((i + 1 : Nat) : Int)) (by omega) (by omega)]
  rfl
theorem spec_walk_out (b : List Int) (hn : b.length ≤ 140737488350000) (i : Nat) (s : ByteArray) (nx lim j : Int) (hi : b.length ≤ i) : Ev (fun k => spec_l4Walk.l0 k b (i : Int) s nx lim j) (badName 1 j) := by
  refine Ev.step (f := fun k => spec_l4Walk.j1 k b (i : Int) s nx lim j true) (fun k => ?_) (Ev.step (f := fun _ => some (badName 1 j)) (fun k => ?_) ⟨0, fun _ _ => rfl⟩)
  · simp only [spec_l4Walk.l0]
    rw [if_neg (by omega), decide_eq_true (by omega)]
  · simp only [spec_l4Walk.j1, if_true]
    rfl
theorem spec_walk_in (b : List Int) (hn : b.length ≤ 140737488350000) (i : Nat) (s : ByteArray) (nx lim j : Int) {r : NameT} (hi : i < b.length) (h : Ev (fun k => spec_l4Walk.j1 k b (i : Int) s nx lim j false) r) : Ev (fun k => spec_l4Walk.l0 k b (i : Int) s nx lim j) r := by
  refine Ev.step (fun k => ?_) h
  simp only [spec_l4Walk.l0]
  rw [if_neg (by omega), decide_eq_false (by omega)]
theorem spec_walk_end (b : List Int) (hn : b.length ≤ 140737488350000) (hb : Bytes b) (i : Nat) (s : ByteArray) (nx lim j : Int) (hi : i < b.length) (h : rd b i = 0) : Ev (fun k => spec_l4Walk.l0 k b (i : Int) s nx lim j) (s, (if nx < 0 then ((i + 1 : Nat) : Int) else nx), 0, j) := by
  have w := wrap_succ i b.length hi (by omega)
  refine spec_walk_in b hn i s nx lim j hi (Ev.step (f := fun _ => some (s, (if nx < 0 then ((i + 1 : Nat) : Int) else nx), 0, j)) (fun k => ?_) ⟨0, fun _ _ => rfl⟩)
  simp only [spec_l4Walk.j1]
  rw [if_neg (by decide), if_pos (by omega), if_pos (by omega), rd_rng hb, if_pos h, w]
  split <;> rfl
theorem spec_walk_cut (b : List Int) (hn : b.length ≤ 140737488350000) (hb : Bytes b) (i : Nat) (s : ByteArray) (nx lim j : Int) (hi : i < b.length) (h : 192 ≤ rd b i) (h2 : b.length ≤ i + 1) : Ev (fun k => spec_l4Walk.l0 k b (i : Int) s nx lim j) (badName 1 j) := by
  have w := wrap_succ i b.length hi (by omega)
  refine spec_walk_in b hn i s nx lim j hi (Ev.step (f := fun _ => some (badName 1 j)) (fun k => ?_) ⟨0, fun _ _ => rfl⟩)
  simp only [spec_l4Walk.j1]
  rw [if_neg (by decide), if_pos (by omega), if_pos (by omega), rd_rng hb, if_neg (by omega), if_pos (by omega), w, if_pos (by omega)]
  rfl
theorem spec_walk_high (b : List Int) (hn : b.length ≤ 140737488350000) (hb : Bytes b) (i : Nat) (s : ByteArray) (nx lim j : Int) (hi : i + 1 < b.length) (h : 192 ≤ rd b i) (h2 : lim ≤ toOf b i) : Ev (fun k => spec_l4Walk.l0 k b (i : Int) s nx lim j) (badName 3 j) := by
  have w := wrap_succ i b.length (by omega) (by omega)
  refine spec_walk_in b hn i s nx lim j (by omega) (Ev.step (f := fun _ => some (badName 3 j)) (fun k => ?_) ⟨0, fun _ _ => rfl⟩)
  simp only [spec_l4Walk.j1]
  rw [if_neg (by decide), if_pos (by omega), if_pos (by omega), rd_rng hb, if_neg (by omega), if_pos (by omega), w, if_neg (by omega), if_pos (by omega), if_pos (by omega), rd_rng hb, toOf_wrap hb i h, if_pos h2]
  rfl
theorem spec_walk_jump (b : List Int) (hn : b.length ≤ 140737488350000) (hb : Bytes b) (i : Nat) (s : ByteArray) (nx lim j : Int) {r : NameT} (hi : i + 1 < b.length) (h : 192 ≤ rd b i) (h2 : toOf b i < lim) (hj : 0 ≤ j ∧ j ≤ 1000000000000000000) (hr : Ev (fun k => spec_l4Walk.l0 k b (toOf b i) s (if nx < 0 then ((i + 2 : Nat) : Int) else nx) (toOf b i) (j + 1)) r) : Ev (fun k => spec_l4Walk.l0 k b (i : Int) s nx lim j) r := by
  have w := wrap_succ i b.length (by omega) (by omega)
  have w2 : wrap64 ((i : Int) + 2) = ((i + 2 : Nat) : Int) := by rw [wrap_id (by omega) (by omega)]; omega
  refine spec_walk_in b hn i s nx lim j (by omega) (Ev.step (fun k => ?_) hr)
  simp only [spec_l4Walk.j1]
  rw [if_neg (by decide), if_pos (by omega), if_pos (by omega), rd_rng hb, if_neg (by omega), if_pos (by omega), w, if_neg (by omega), if_pos (by omega), if_pos (by omega), rd_rng hb, toOf_wrap hb i h, if_neg (by omega), w2, wrap_id (x := j + 1) (by omega) (by omega)]
  split <;> rfl
theorem spec_walk_lab (b : List Int) (hn : b.length ≤ 140737488350000) (hb : Bytes b) (i : Nat) (s : ByteArray) (nx lim j : Int) {r : NameT} (hi : i < b.length) (h : 1 ≤ rd b i) (h1 : rd b i < 192) (d : Bool) (hd : d = (decide (rd b i ≤ 12) && decide ((b.length : Int) - i ≤ rd b i))) (hr : Ev (fun k => spec_l4Walk.j2 k b (i : Int) s nx lim j d) r) : Ev (fun k => spec_l4Walk.l0 k b (i : Int) s nx lim j) r := by
  refine spec_walk_in b hn i s nx lim j hi (Ev.step (fun k => ?_) hr)
  have e : wrap64 (wrap64 ((b.length : Int) - (i : Int)) - 1) = (b.length : Int) - (i : Int) - 1 := by rw [wrap_id (x := (b.length : Int) - (i : Int)) (by omega) (by omega), wrap_id (by omega) (by omega)]
  simp only [spec_l4Walk.j1]
  rw [if_neg (by decide), if_pos (by omega), if_pos (by omega), rd_rng hb, if_neg (by omega), if_neg (by omega), e]
  by_cases c : rd b i ≤ 12
  · rw [if_pos c, hd, decide_eq_true c, Bool.true_and]
    congr 1
    exact decide_eq_decide.2 (by omega)
  · rw [if_neg c, hd, decide_eq_false c, Bool.false_and]
theorem impl_walk_out (b : List Int) (hn : b.length ≤ 140737488350000) (i : Nat) (ls : List ByteArray) (nx lim j : Int) (hi : b.length ≤ i) : Ev (fun k => impl_read.l0 k b ls nx lim j (i : Int)) (badName 1 j) := by
  refine Ev.step (f := fun k => impl_read.j1 k b ls nx lim j (i : Int) true) (fun k => ?_) (Ev.step (f := fun _ => some (badName 1 j)) (fun k => ?_) ⟨0, fun _ _ => rfl⟩)
  · simp only [impl_read.l0]
    rw [if_neg (by omega), decide_eq_true (by omega)]
  · simp only [impl_read.j1, if_true]
    rfl
theorem impl_walk_in (b : List Int) (hn : b.length ≤ 140737488350000) (i : Nat) (ls : List ByteArray) (nx lim j : Int) {r : NameT} (hi : i < b.length) (h : Ev (fun k => impl_read.j1 k b ls nx lim j (i : Int) false) r) : Ev (fun k => impl_read.l0 k b ls nx lim j (i : Int)) r := by
  refine Ev.step (fun k => ?_) h
  simp only [impl_read.l0]
  rw [if_neg (by omega), decide_eq_false (by omega)]
theorem impl_walk_end (b : List Int) (hn : b.length ≤ 140737488350000) (hb : Bytes b) (i : Nat) (ls : List ByteArray) (nx lim j : Int) (hi : i < b.length) (h : rd b i = 0) (hz : szSs ls + ls.length ≤ 140737488355328) : Ev (fun k => impl_read.l0 k b ls nx lim j (i : Int)) (joinS ls, (if nx < 0 then ((i + 1 : Nat) : Int) else nx), 0, j) := by
  have w := wrap_succ i b.length hi (by omega)
  refine impl_walk_in b hn i ls nx lim j hi (Ev.step (f := fun _ => some (joinS ls, (if nx < 0 then ((i + 1 : Nat) : Int) else nx), 0, j)) (fun k => ?_) ⟨0, fun _ _ => rfl⟩)
  simp only [impl_read.j1]
  rw [if_neg (by decide), if_pos (by omega), if_pos (by omega), rd_rng hb, if_pos h, w, impl_JoinLabels_eq ls hz]
  simp only [Option.bind_some]
  split <;> rfl
theorem impl_walk_cut (b : List Int) (hn : b.length ≤ 140737488350000) (hb : Bytes b) (i : Nat) (ls : List ByteArray) (nx lim j : Int) (hi : i < b.length) (h : 192 ≤ rd b i) (h2 : b.length ≤ i + 1) : Ev (fun k => impl_read.l0 k b ls nx lim j (i : Int)) (badName 1 j) := by
  have w := wrap_succ i b.length hi (by omega)
  refine impl_walk_in b hn i ls nx lim j hi (Ev.step (f := fun _ => some (badName 1 j)) (fun k => ?_) ⟨0, fun _ _ => rfl⟩)
  simp only [impl_read.j1]
  rw [if_neg (by decide), if_pos (by omega), if_pos (by omega), rd_rng hb, if_neg (by omega), if_pos (by omega), w, if_pos (by omega)]
  rfl
theorem impl_walk_high (b : List Int) (hn : b.length ≤ 140737488350000) (hb : Bytes b) (i : Nat) (ls : List ByteArray) (nx lim j : Int) (hi : i + 1 < b.length) (h : 192 ≤ rd b i) (h2 : lim ≤ toOf b i) : Ev (fun k => impl_read.l0 k b ls nx lim j (i : Int)) (badName 3 j) := by
  have w := wrap_succ i b.length (by omega) (by omega)
  refine impl_walk_in b hn i ls nx lim j (by omega) (Ev.step (f := fun _ => some (badName 3 j)) (fun k => ?_) ⟨0, fun _ _ => rfl⟩)
  simp only [impl_read.j1]
  rw [if_neg (by decide), if_pos (by omega), if_pos (by omega), rd_rng hb, if_neg (by omega), if_pos (by omega), w, if_neg (by omega), if_pos (by omega), if_pos (by omega), rd_rng hb, toOf_wrap hb i h, if_pos h2]
  rfl
theorem impl_walk_jump (b : List Int) (hn : b.length ≤ 140737488350000) (hb : Bytes b) (i : Nat) (ls : List ByteArray) (nx lim j : Int) {r : NameT} (hi : i + 1 < b.length) (h : 192 ≤ rd b i) (h2 : toOf b i < lim) (hj : 0 ≤ j ∧ j ≤ 1000000000000000000) (hr : Ev (fun k => impl_read.l0 k b ls (if nx < 0 then ((i + 2 : Nat) : Int) else nx) (toOf b i) (j + 1) (toOf b i)) r) : Ev (fun k => impl_read.l0 k b ls nx lim j (i : Int)) r := by
  have w := wrap_succ i b.length (by omega) (by omega)
  have w2 : wrap64 ((i : Int) + 2) = ((i + 2 : Nat) : Int) := by rw [wrap_id (by omega) (by omega)]; omega
  refine impl_walk_in b hn i ls nx lim j (by omega) (Ev.step (fun k => ?_) hr)
  simp only [impl_read.j1]
  rw [if_neg (by decide), if_pos (by omega), if_pos (by omega), rd_rng hb, if_neg (by omega), if_pos (by omega), w, if_neg (by omega), if_pos (by omega), if_pos (by omega), rd_rng hb, toOf_wrap hb i h, if_neg (by omega), w2, wrap_id (x := j + 1) (by omega) (by omega)]
  split <;> rfl
theorem impl_walk_form (b : List Int) (hn : b.length ≤ 140737488350000) (hb : Bytes b) (i : Nat) (ls : List ByteArray) (nx lim j : Int) (hi : i < b.length) (h : 12 < rd b i) (h1 : rd b i < 192) : Ev (fun k => impl_read.l0 k b ls nx lim j (i : Int)) (badName 2 j) := by
  refine impl_walk_in b hn i ls nx lim j hi (Ev.step (f := fun _ => some (badName 2 j)) (fun k => ?_) ⟨0, fun _ _ => rfl⟩)
  simp only [impl_read.j1]
  rw [if_neg (by decide), if_pos (by omega), if_pos (by omega), rd_rng hb, if_neg (by omega), if_neg (by omega), if_pos (by omega)]
  rfl
theorem impl_walk_short (b : List Int) (hn : b.length ≤ 140737488350000) (hb : Bytes b) (i : Nat) (ls : List ByteArray) (nx lim j : Int) (hi : i < b.length) (h : 1 ≤ rd b i) (h1 : rd b i ≤ 12) (h2 : (b.length : Int) - i ≤ rd b i) : Ev (fun k => impl_read.l0 k b ls nx lim j (i : Int)) (badName 1 j) := by
  refine impl_walk_in b hn i ls nx lim j hi (Ev.step (f := fun _ => some (badName 1 j)) (fun k => ?_) ⟨0, fun _ _ => rfl⟩)
  simp only [impl_read.j1]
  rw [if_neg (by decide), if_pos (by omega), if_pos (by omega), rd_rng hb, if_neg (by omega), if_neg (by omega), if_neg (by omega), wrap_id (x := (b.length : Int) - (i : Int)) (by omega) (by omega), if_pos (by omega)]
  rfl
theorem impl_walk_lab (b : List Int) (hn : b.length ≤ 140737488350000) (hb : Bytes b) (i : Nat) (ls : List ByteArray) (nx lim j : Int) {r : NameT} (hi : i < b.length) (h : 1 ≤ rd b i) (h1 : rd b i ≤ 12) (h2 : rd b i < (b.length : Int) - i) (hl : ls.length < 8796093022208) (hz : ∀ p : ByteArray, p.size ≤ 12 → szSs (ls ++ [p]) + (ls ++ [p]).length ≤ 1048576)
    (hbad : (getLabel b i).2.2 = false → r = badName 2 j)
    (hgood : (getLabel b i).2.2 = true → (nameOk (joinS (ls ++ [(getLabel b i).1])) = false → r = badName 4 j) ∧ (nameOk (joinS (ls ++ [(getLabel b i).1])) = true → Ev (fun k => impl_read.l0 k b (ls ++ [(getLabel b i).1]) nx lim j (getLabel b i).2.1) r)) (hsz : (getLabel b i).2.2 = true → (getLabel b i).1.size ≤ 12) : Ev (fun k => impl_read.l0 k b ls nx lim j (i : Int)) r := by
  refine impl_walk_in b hn i ls nx lim j hi (Ev.step (f := fun k => (impl_GetLabel.f k b (i : Int)).bind fun t => if t.2.2 = true then ((impl_JoinLabels.f (ls ++ [t.1])).bind fun u => (impl_NameOk.f k u).bind fun v => if v = true then impl_read.l0 k b (ls ++ [t.1]) nx lim j t.2.1 else some (badName 4 j)) else some (badName 2 j)) (fun k => ?_) ?_)
  · simp only [impl_read.j1]
    rw [if_neg (by decide), if_pos (by omega), if_pos (by omega), rd_rng hb, if_neg (by omega), if_neg (by omega), if_neg (by omega), wrap_id (x := (b.length : Int) - (i : Int)) (by omega) (by omega), if_neg (by omega)]
    simp only [if_pos hl, Option.bind_some]
    rfl
  · refine Ev.bind (impl_GetLabel_eq b (by omega) hb i (by omega)) ?_
    cases hg : (getLabel b i).2.2 with
    | false =>
      rw [hbad hg]
      exact Ev_ifn (by decide) ⟨0, fun _ _ => rfl⟩
    | true =>
      obtain ⟨g1, g2⟩ := hgood hg
      have h3 := hz _ (hsz hg)
      have h4 := joinS_size (ls ++ [(getLabel b i).1])
      rw [impl_JoinLabels_eq _ (by omega)]
      simp only [Option.bind_some]
      refine Ev_if (by trivial) (Ev.bind (impl_NameOk_eq _ (by omega)) ?_)
      cases hk : nameOk (joinS (ls ++ [(getLabel b i).1])) with
      | false =>
        rw [g1 hk]
        exact Ev_ifn (by decide) ⟨0, fun _ _ => rfl⟩
      | true => exact Ev_if rfl (g2 hk)
theorem cutA_noDot : ∀ (x acc t : List UInt8), (∀ c ∈ x, c ≠ 46) → cutA acc (x ++ t) = cutA (acc ++ x) t
  | [], acc, t, _ => by simp
  | c :: x, acc, t, h => by
    have hc := h c List.mem_cons_self
    have e := cutA_noDot x (acc ++ [c]) t (fun z hz => h z (List.mem_cons_of_mem _ hz))
    rw [List.cons_append, cutA, if_neg hc, e, List.append_assoc]
    rfl
theorem cut_joinS : ∀ (l : List ByteArray) (x : ByteArray), (∀ y ∈ x :: l, ∀ c ∈ y.data.toList, c ≠ 46) → cutA [] (joinS (x :: l)).data.toList = (x :: l).map (·.data.toList)
  | [], x, h => by
    have e := cutA_noDot x.data.toList [] [] (h x List.mem_cons_self)
    rw [List.append_nil] at e
    show cutA [] x.data.toList = _
    rw [e]
    rfl
  | y :: l, x, h => by
    have ih := cut_joinS l y (fun z hz => h z (List.mem_cons_of_mem _ hz))
    have e := cutA_noDot x.data.toList [] (46 :: (joinS (y :: l)).data.toList) (h x List.mem_cons_self)
    have hd : (joinS (x :: y :: l)).data.toList = x.data.toList ++ 46 :: (joinS (y :: l)).data.toList := by
      rw [joinS, ByteArray.data_append, ByteArray.data_append, Array.toList_append, Array.toList_append]
      rfl
    rw [hd, e, List.nil_append, cutA, if_pos rfl, ih]
    rfl
theorem labelOk_noDot {x : ByteArray} (h : labelOk x = true) : ∀ c ∈ x.data.toList, c ≠ 46 := by
  intro c hc e
  subst e
  unfold labelOk at h
  simp only [Bool.and_eq_true] at h
  have hm : (46 : Int) ∈ bytesOf x := List.mem_map.2 ⟨46, hc, rfl⟩
  have := List.all_eq_true.1 h.1 46 hm
  revert this
  decide
theorem labelOk_ne {x : ByteArray} (h : labelOk x = true) : x.data.toList ≠ [] := by
  have := (labelOk_size h).1
  intro e
  rw [size_data, e] at this
  exact absurd this (by decide)
theorem joinS_ne {x : ByteArray} {l : List ByteArray} (h : x.data.toList ≠ []) : (joinS (x :: l)).data.toList ≠ [] := by
  cases l with
  | nil => exact h
  | cons y l =>
    rw [joinS, ByteArray.data_append, Array.toList_append]
    intro e
    exact h (List.append_eq_nil_iff.1 e).1
/-- The labels of joined labels are they. -/
theorem labels_join (l : List ByteArray) (h : ∀ x ∈ l, labelOk x = true) : labelsL (joinS l) = l := by
  cases l with
  | nil => rfl
  | cons x l =>
    unfold labelsL
    rw [if_neg (joinS_ne (labelOk_ne (h x List.mem_cons_self))), cut_joinS l x (fun y hy => labelOk_noDot (h y hy)), List.map_map]
    exact List.map_id'' (fun y => mkB_data y) _
theorem joinS_snoc : ∀ (l : List ByteArray) (x : ByteArray), l ≠ [] → joinS (l ++ [x]) = (joinS l ++ (⟨#[46]⟩ : ByteArray)) ++ x
  | [], _, h => absurd rfl h
  | [y], x, _ => by
    show y ++ ((⟨#[46]⟩ : ByteArray) ++ x) = _
    rw [ByteArray.append_assoc]
    rfl
  | y :: z :: l, x, _ => by
    have ih := joinS_snoc (z :: l) x (List.cons_ne_nil _ _)
    show y ++ ((⟨#[46]⟩ : ByteArray) ++ joinS ((z :: l) ++ [x])) = _
    rw [ih, joinS, @ByteArray.append_assoc y, @ByteArray.append_assoc y, @ByteArray.append_assoc (⟨#[46]⟩ : ByteArray), @ByteArray.append_assoc (⟨#[46]⟩ : ByteArray)]
theorem nameOk_join (l : List ByteArray) (h : ∀ x ∈ l, labelOk x = true) : nameOk (joinS l) = (decide ((joinS l).size ≤ 50) && decide (l.length ≤ 6)) := by
  unfold nameOk
  rw [labels_join l h, List.all_eq_true.2 h, Bool.true_and]
theorem szSs_ok : ∀ (l : List ByteArray), (∀ x ∈ l, labelOk x = true) → szSs l ≤ 12 * l.length
  | [], _ => Nat.zero_le _
  | x :: l, h => by
    have h1 := labelOk_size (h x List.mem_cons_self)
    have h2 := szSs_ok l (fun y hy => h y (List.mem_cons_of_mem _ hy))
    rw [szSs_cons, List.length_cons]
    omega
theorem getLabel_good {b : List Int} (hb : Bytes b) {i : Int} (h : (getLabel b i).2.2 = true) :
    labelOk (getLabel b i).1 = true ∧ (getLabel b i).2.1 = i + 1 + rd b i ∧ 1 ≤ rd b i ∧ rd b i ≤ 12 ∧ rd b i < (b.length : Int) - i ∧ 1 ≤ (getLabel b i).1.size ∧ (getLabel b i).1.size ≤ 12 := by
  have hr := rd_byte hb i
  unfold getLabel at h ⊢
  split at h
  · rename_i c
    rw [if_pos c]
    obtain ⟨⟨c1, c2, c3, c4⟩, c5⟩ := c
    have hs := labelOk_size c5
    refine ⟨c5, rfl, ?_, c3, c4, hs⟩
    have e : (labAt b i).size = (rd b i).toNat := by
      unfold labAt
      rw [strOfNums_size, List.length_map, List.length_take, List.length_drop]
      omega
    omega
  · cases h
theorem empty_toList : (⟨#[]⟩ : ByteArray).toList = [] := by
  rw [ByteArray.toList_eq]
theorem join_toList_nil {ls : List ByteArray} (hall : ∀ x ∈ ls, labelOk x = true) : (joinS ls).toList = [] ↔ ls = [] := by
  constructor
  · intro h
    cases ls with
    | nil => rfl
    | cons x l =>
      rw [ByteArray.toList_eq] at h
      exact absurd h (joinS_ne (labelOk_ne (hall x List.mem_cons_self)))
  · rintro rfl
    exact empty_toList
theorem spec_walk_go (b : List Int) (hn : b.length ≤ 140737488350000) (hb : Bytes b) (i : Nat) (ls : List ByteArray) (nx lim j : Int) {r : NameT} (hi : i < b.length) (hl : ls.length ≤ 6) (hall : ∀ x ∈ ls, labelOk x = true)
    (hbad : (getLabel b i).2.2 = false → r = badName 2 j)
    (hgood : (getLabel b i).2.2 = true → (nameOk (joinS (ls ++ [(getLabel b i).1])) = false → r = badName 4 j) ∧ (nameOk (joinS (ls ++ [(getLabel b i).1])) = true → Ev (fun k => spec_l4Walk.l0 k b (getLabel b i).2.1 (joinS (ls ++ [(getLabel b i).1])) nx lim j) r)) : Ev (fun k => spec_l4Walk.j2 k b (i : Int) (joinS ls) nx lim j false) r := by
  have hzl := szSs_ok ls hall
  have hjl := joinS_size ls
  refine Ev.step (f := fun k => (spec_GetLabel.f k b (i : Int)).bind fun t => if t.2.2 = true then (if (joinS ls).toList = ([] : List UInt8) then (if (joinS ls).size + t.1.size ≤ 9223372036854775807 then ((spec_NameOk.f k (joinS ls ++ t.1)).bind fun u => (if u = true then (spec_l4Walk.l0 k b t.2.1 (joinS ls ++ t.1) nx lim j) else (some (badName 4 j)))) else (none)) else (if (joinS ls).size + 1 ≤ 9223372036854775807 then (if (joinS ls ++ (⟨#[46]⟩ : ByteArray)).size + t.1.size ≤ 9223372036854775807 then ((spec_NameOk.f k ((joinS ls ++ (⟨#[46]⟩ : ByteArray)) ++ t.1)).bind fun u => (if u = true then (spec_l4Walk.l0 k b t.2.1 ((joinS ls ++ (⟨#[46]⟩ : ByteArray)) ++ t.1) nx lim j) else (some (badName 4 j)))) else (none)) else (none))) else some (badName 2 j)) (fun k => ?_) ?_
  · simp only [spec_l4Walk.j2]
    rw [if_neg (by decide)]
    rfl
  · refine Ev.bind (spec_GetLabel_eq b (by omega) hb i (by omega)) ?_
    cases hg : (getLabel b i).2.2 with
    | false =>
      rw [hbad hg]
      exact Ev_ifn (by decide) ⟨0, fun _ _ => rfl⟩
    | true =>
      obtain ⟨g1, g2⟩ := hgood hg
      obtain ⟨h1, _, _, _, _, h5, h6⟩ := getLabel_good hb hg
      have hsz : (joinS (ls ++ [(getLabel b i).1])).size ≤ 1048576 := by
        have := joinS_size (ls ++ [(getLabel b i).1])
        have hall2 : ∀ x ∈ ls ++ [(getLabel b i).1], labelOk x = true := by
          intro x hx
          rcases List.mem_append.1 hx with h | h
          · exact hall x h
          · rw [List.mem_singleton.1 h]
            exact h1
        have := szSs_ok _ hall2
        rw [List.length_append, List.length_singleton] at *
        omega
      refine Ev_if rfl ?_
      generalize (getLabel b i).1 = p at *
      by_cases c : ls = []
      · subst c
        refine Ev_if empty_toList (Ev_if (by rw [show (joinS []).size = 0 from rfl]; omega) ?_)
        have e : joinS [] ++ p = joinS ([] ++ [p]) := empty_append p
        rw [e]
        refine Ev.bind (spec_NameOk_eq _ hsz) ?_
        cases hk : nameOk (joinS ([] ++ [p])) with
        | false =>
          rw [g1 hk]
          exact Ev_ifn (by decide) ⟨0, fun _ _ => rfl⟩
        | true => exact Ev_if rfl (g2 hk)
      · refine Ev_ifn (fun h => c ((join_toList_nil hall).1 h)) (Ev_if (by omega) (Ev_if (by rw [ByteArray.size_append]; have : (⟨#[46]⟩ : ByteArray).size = 1 := rfl; omega) ?_))
        rw [← joinS_snoc ls p c]
        refine Ev.bind (spec_NameOk_eq _ hsz) ?_
        cases hk : nameOk (joinS (ls ++ [p])) with
        | false =>
          rw [g1 hk]
          exact Ev_ifn (by decide) ⟨0, fun _ _ => rfl⟩
        | true => exact Ev_if rfl (g2 hk)
/-- What is known of what a walk over a name hands back. -/
def WalkPost (b : List Int) (i nx : Int) (r : NameT) : Prop :=
  (0 ≤ r.2.2.2 ∧ r.2.2.2 ≤ (b.length : Int)) ∧ ((r.2.2.1 = 0 ∧ nameOk r.1 = true ∧ (nx < 0 → i < r.2.1) ∧ (0 ≤ nx → r.2.1 = nx) ∧ (0 ≤ r.2.1 ∧ r.2.1 ≤ (b.length : Int))) ∨ (r.2.2.1 ≠ 0 ∧ 0 ≤ r.2.2.1 ∧ r.2.2.1 ≤ 4 ∧ r.1 = (⟨#[]⟩ : ByteArray) ∧ r.2.1 = 0))
theorem post_bad {b : List Int} {i nx c j : Int} (hc : 1 ≤ c ∧ c ≤ 4) (hj : 0 ≤ j ∧ j ≤ (b.length : Int)) : WalkPost b i nx (badName c j) := by
  refine ⟨hj, .inr ⟨?_, ?_, hc.2, rfl, rfl⟩⟩
  · show c ≠ 0
    omega
  · show 0 ≤ c
    omega
theorem walk_total (b : List Int) (hn : b.length ≤ 140737488350000) (hb : Bytes b) : ∀ (L D i : Nat) (ls : List ByteArray) (nx j : Int), i + D = b.length → L ≤ b.length → 0 ≤ j → j + L ≤ b.length → nx ≤ b.length → (∀ x ∈ ls, labelOk x = true) → nameOk (joinS ls) = true →
    ∃ r, Ev (fun k => spec_l4Walk.l0 k b (i : Int) (joinS ls) nx (L : Int) j) r ∧ Ev (fun k => impl_read.l0 k b ls nx (L : Int) j (i : Int)) r ∧ WalkPost b i nx r := by
  intro L
  induction L using Nat.strongRecOn with
  | _ L ihL =>
  intro D
  induction D using Nat.strongRecOn with
  | _ D ihD =>
  intro i ls nx j hD hL hj hjL hnx hall hok
  have hr := rd_byte hb (i : Int)
  have hall_ := hall
  have hok_ := hok
  rw [nameOk_join ls hall, Bool.and_eq_true, decide_eq_true_eq, decide_eq_true_eq] at hok_
  obtain ⟨hok1, hok2⟩ := hok_
  have hzl := szSs_ok ls hall
  by_cases hi : i < b.length
  · by_cases h0 : rd b i = 0
    · refine ⟨_, spec_walk_end b hn hb i (joinS ls) nx L j hi h0, impl_walk_end b hn hb i ls nx L j hi h0 (by omega), ⟨hj, by show j ≤ (b.length : Int); omega⟩, .inl ⟨rfl, hok, ?_, ?_, ?_⟩⟩
      · intro c
        show (i : Int) < if nx < 0 then ((i + 1 : Nat) : Int) else nx
        rw [if_pos c]
        omega
      · intro c
        show (if nx < 0 then ((i + 1 : Nat) : Int) else nx) = nx
        rw [if_neg (by omega)]
      · show 0 ≤ (if nx < 0 then ((i + 1 : Nat) : Int) else nx) ∧ (if nx < 0 then ((i + 1 : Nat) : Int) else nx) ≤ (b.length : Int)
        split <;> omega
    · by_cases h192 : 192 ≤ rd b i
      · by_cases hcut : b.length ≤ i + 1
        · exact ⟨_, spec_walk_cut b hn hb i (joinS ls) nx L j hi h192 hcut, impl_walk_cut b hn hb i ls nx L j hi h192 hcut, post_bad (by omega) (by omega)⟩
        · have ht := toOf_rng hb i h192
          by_cases hh : (L : Int) ≤ toOf b i
          · exact ⟨_, spec_walk_high b hn hb i (joinS ls) nx L j (by omega) h192 hh, impl_walk_high b hn hb i ls nx L j (by omega) h192 hh, post_bad (by omega) (by omega)⟩
          · obtain ⟨t, ht'⟩ : ∃ t : Nat, toOf b i = (t : Int) := ⟨(toOf b i).toNat, by omega⟩
            have hnx' : (if nx < 0 then ((i + 2 : Nat) : Int) else nx) ≤ (b.length : Int) ∧ 0 ≤ (if nx < 0 then ((i + 2 : Nat) : Int) else nx) := by split <;> omega
            obtain ⟨r, r1, r2, r3, r4⟩ := ihL t (by omega) (b.length - t) t ls (if nx < 0 then ((i + 2 : Nat) : Int) else nx) (j + 1) (by omega) (by omega) (by omega) (by omega) hnx'.1 hall hok
            refine ⟨r, spec_walk_jump b hn hb i (joinS ls) nx L j (by omega) h192 (by omega) (by omega) (by rw [ht']; exact r1), impl_walk_jump b hn hb i ls nx L j (by omega) h192 (by omega) (by omega) (by rw [ht']; exact r2), r3, ?_⟩
            rcases r4 with ⟨a1, a2, a3, a4, a5⟩ | a
            · have e := a4 hnx'.2
              refine .inl ⟨a1, a2, fun c => ?_, fun c => ?_, a5⟩
              · rw [e, if_pos c]
                omega
              · rw [e, if_neg (by omega)]
            · exact .inr a
      · by_cases h12 : rd b i ≤ 12
        · by_cases hs : (b.length : Int) - i ≤ rd b i
          · refine ⟨badName 1 j, spec_walk_lab b hn hb i (joinS ls) nx L j hi (by omega) (by omega) true (by rw [decide_eq_true h12, decide_eq_true hs]; rfl) (Ev.step (f := fun _ => some (badName 1 j)) (fun k => ?_) ⟨0, fun _ _ => rfl⟩), impl_walk_short b hn hb i ls nx L j hi (by omega) h12 hs, post_bad (by omega) (by omega)⟩
            simp only [spec_l4Walk.j2, if_true]
            rfl
          · have hgs : (getLabel b i).2.2 = true → (getLabel b i).1.size ≤ 12 := fun h => (getLabel_good hb h).2.2.2.2.2.2
            have hzp : ∀ p : ByteArray, p.size ≤ 12 → szSs (ls ++ [p]) + (ls ++ [p]).length ≤ 1048576 := by
              intro p hp
              have e : szSs (ls ++ [p]) = szSs ls + p.size := by simp [szSs]
              rw [e, List.length_append, List.length_singleton]
              omega
            have hd : false = (decide (rd b i ≤ 12) && decide ((b.length : Int) - i ≤ rd b i)) := by rw [decide_eq_false hs, Bool.and_false]
            cases hg : (getLabel b i).2.2 with
            | false =>
              exact ⟨badName 2 j, spec_walk_lab b hn hb i (joinS ls) nx L j hi (by omega) (by omega) false hd (spec_walk_go b hn hb i ls nx L j hi (by omega) hall (fun _ => rfl) (fun h => by rw [hg] at h; cases h)), impl_walk_lab b hn hb i ls nx L j hi (by omega) h12 (by omega) (by omega) hzp (fun _ => rfl) (fun h => by rw [hg] at h; cases h) hgs, post_bad (by omega) (by omega)⟩
            | true =>
              obtain ⟨g1, g2, g3, g4, g5, g6, g7⟩ := getLabel_good hb hg
              cases hk : nameOk (joinS (ls ++ [(getLabel b i).1])) with
              | false =>
                exact ⟨badName 4 j, spec_walk_lab b hn hb i (joinS ls) nx L j hi (by omega) (by omega) false hd (spec_walk_go b hn hb i ls nx L j hi (by omega) hall (fun h => by rw [hg] at h; cases h) (fun _ => ⟨fun _ => rfl, fun h => by rw [hk] at h; cases h⟩)), impl_walk_lab b hn hb i ls nx L j hi (by omega) h12 (by omega) (by omega) hzp (fun h => by rw [hg] at h; cases h) (fun _ => ⟨fun _ => rfl, fun h => by rw [hk] at h; cases h⟩) hgs, post_bad (by omega) (by omega)⟩
              | true =>
                have hall2 : ∀ x ∈ ls ++ [(getLabel b i).1], labelOk x = true := by
                  intro x hx
                  rcases List.mem_append.1 hx with h | h
                  · exact hall x h
                  · rw [List.mem_singleton.1 h]
                    exact g1
                obtain ⟨i', hi'⟩ : ∃ i' : Nat, (getLabel b i).2.1 = (i' : Int) := ⟨(getLabel b i).2.1.toNat, by omega⟩
                obtain ⟨r, r1, r2, r3, r4⟩ := ihD (b.length - i') (by omega) i' (ls ++ [(getLabel b i).1]) nx j (by omega) hL hj hjL hnx hall2 hk
                refine ⟨r, spec_walk_lab b hn hb i (joinS ls) nx L j hi (by omega) (by omega) false hd (spec_walk_go b hn hb i ls nx L j hi (by omega) hall (fun h => by rw [hg] at h; cases h) (fun _ => ⟨(fun h => by rw [hk] at h; cases h), fun _ => by rw [hi']; exact r1⟩)), impl_walk_lab b hn hb i ls nx L j hi (by omega) h12 (by omega) (by omega) hzp (fun h => by rw [hg] at h; cases h) (fun _ => ⟨(fun h => by rw [hk] at h; cases h), fun _ => by rw [hi']; exact r2⟩) hgs, r3, ?_⟩
                rcases r4 with ⟨a1, a2, a3, a4, a5⟩ | a
                · exact .inl ⟨a1, a2, fun c => by have := a3 c; omega, a4, a5⟩
                · exact .inr a
        · have hg : (getLabel b i).2.2 = false := by
            cases hg : (getLabel b i).2.2 with
            | false => rfl
            | true =>
              have := getLabel_good hb hg
              omega
          exact ⟨badName 2 j, spec_walk_lab b hn hb i (joinS ls) nx L j hi (by omega) (by omega) false (by rw [decide_eq_false h12, Bool.false_and]) (spec_walk_go b hn hb i ls nx L j hi (by omega) hall (fun _ => rfl) (fun h => by rw [hg] at h; cases h)), impl_walk_form b hn hb i ls nx L j hi (by omega) (by omega), post_bad (by omega) (by omega)⟩
  · exact ⟨_, spec_walk_out b hn i (joinS ls) nx L j (by omega), impl_walk_out b hn i ls nx L j (by omega), post_bad (by omega) (by omega)⟩
theorem nameOk_empty : nameOk (⟨#[]⟩ : ByteArray) = true := by
  rw [show (⟨#[]⟩ : ByteArray) = joinS [] from rfl, nameOk_join [] (fun x h => by cases h)]
  rfl
/-- Reading a name at any place, by the reference and by the program: one answer. -/
theorem read_total (b : List Int) (hn : b.length ≤ 140737488350000) (hb : Bytes b) (i : Int) (hi : -9223372036854775808 ≤ i ∧ i ≤ 9223372036854775807) :
    ∃ r, Ev (fun k => spec_l4Walk.f k b i) r ∧ Ev (fun k => impl_read.f k b i) r ∧ WalkPost b i (-1) r := by
  unfold spec_l4Walk.f impl_read.f
  by_cases h0 : i < 0
  · refine ⟨badName 1 0, ?_, ?_, post_bad (by omega) (by omega)⟩
    · refine Ev.step (f := fun k => spec_l4Walk.j1 k b i (⟨#[]⟩ : ByteArray) (-1) i 0 true) (fun k => ?_) (Ev.step (f := fun _ => some (badName 1 0)) (fun k => ?_) ⟨0, fun _ _ => rfl⟩)
      · simp only [spec_l4Walk.l0]
        rw [if_pos h0]
      · simp only [spec_l4Walk.j1, if_true]
        rfl
    · refine Ev.step (f := fun k => impl_read.j1 k b [] (-1) i 0 i true) (fun k => ?_) (Ev.step (f := fun _ => some (badName 1 0)) (fun k => ?_) ⟨0, fun _ _ => rfl⟩)
      · simp only [impl_read.l0]
        rw [if_pos h0]
      · simp only [impl_read.j1, if_true]
        rfl
  · obtain ⟨n, rfl⟩ := Int.eq_ofNat_of_zero_le (Int.not_lt.1 h0)
    by_cases h1 : b.length ≤ n
    · exact ⟨badName 1 0, spec_walk_out b hn n _ _ _ _ h1, impl_walk_out b hn n _ _ _ _ h1, post_bad (by omega) (by omega)⟩
    · have := walk_total b hn hb n (b.length - n) n [] (-1) 0 (by omega) (by omega) (by omega) (by omega) (by omega) (fun x h => by cases h) nameOk_empty
      exact this
theorem name_get (b : List Int) (hn : b.length ≤ 140737488350000) (hb : Bytes b) (i : Int) (hi : -9223372036854775808 ≤ i ∧ i ≤ 9223372036854775807) :
    ∃ r : NameT, Ev (fun k => spec_GetName.f k b i) (r.1, r.2.1, r.2.2.1) ∧ Ev (fun k => impl_GetName.f k b i) (r.1, r.2.1, r.2.2.1) ∧ WalkPost b i (-1) r := by
  obtain ⟨r, h1, h2, h3⟩ := read_total b hn hb i hi
  unfold spec_GetName.f impl_GetName.f
  exact ⟨r, Ev.bind h1 (Ev_some _), Ev.bind h2 (Ev_some _), h3⟩
theorem Ev_vt {α : Type} {c : Prop} [Decidable c] {f : Nat → Option α} {x y : α} (h : c) (e : Ev f x) : Ev f (if c then x else y) := by
  rw [if_pos h]
  exact e
theorem Ev_vn {α : Type} {c : Prop} [Decidable c] {f : Nat → Option α} {x y : α} (h : ¬ c) (e : Ev f y) : Ev f (if c then x else y) := by
  rw [if_neg h]
  exact e
theorem Ev_viff {α : Type} {c d : Prop} [Decidable c] [Decidable d] {f : Nat → Option α} {x y : α} (h : c ↔ d) (e : Ev f (if c then x else y)) : Ev f (if d then x else y) := by
  by_cases q : c
  · rw [if_pos q] at e
    rw [if_pos (h.1 q)]
    exact e
  · rw [if_neg q] at e
    rw [if_neg (fun z => q (h.2 z))]
    exact e
abbrev RecT := ByteArray × Int × Int × Int × ByteArray × ByteArray × Int
def noRec (c : Int) : RecT := ((⟨#[]⟩ : ByteArray), 0, 0, 0, (⟨#[]⟩ : ByteArray), (⟨#[]⟩ : ByteArray), c)
/-- The text of a record's data. -/
def txtOf (b : List Int) (i n : Int) : ByteArray := strOfNums ((b.take (i + n).toNat).drop (i + 1).toNat)
theorem txtOf_size (b : List Int) (hn : b.length ≤ 140737488350000) (i n : Int) : (txtOf b i n).size ≤ 140737488355328 := by
  unfold txtOf
  rw [strOfNums_size, List.length_drop, List.length_take]
  omega
/-- What follows once length, place and type are right. -/
def dataIn (nm : NameT) (b : List Int) (i n ty : Int) : RecT :=
  if ty = 1 then (if (get4 b i).2 = true ∧ n = 4 then ((⟨#[]⟩ : ByteArray), ty, 0, (get4 b i).1, (⟨#[]⟩ : ByteArray), (⟨#[]⟩ : ByteArray), 0) else noRec 2)
  else if ty = 16 then (if (1 ≤ n ∧ rd b i = n - 1) ∧ textOk (txtOf b i n) = true then ((⟨#[]⟩ : ByteArray), ty, 0, 0, (⟨#[]⟩ : ByteArray), txtOf b i n, 0) else noRec 2)
  else if nm.2.2.1 = 0 then (if ty = 6 then (if (get4 b nm.2.1).2 = true ∧ nm.2.1 + 4 = i + n then ((⟨#[]⟩ : ByteArray), ty, 0, (get4 b nm.2.1).1, nm.1, (⟨#[]⟩ : ByteArray), 0) else noRec 2)
    else (if nm.2.1 = i + n then ((⟨#[]⟩ : ByteArray), ty, 0, 0, nm.1, (⟨#[]⟩ : ByteArray), 0) else noRec 2))
  else noRec nm.2.2.1
/-- What GetData returns, given the name that stands at its place. -/
def dataOf (nm : NameT) (b : List Int) (i n ty : Int) : RecT :=
  if 0 ≤ n ∧ n ≤ 255 then (if 0 ≤ i ∧ i ≤ (b.length : Int) - n then (if typeOk ty = true then dataIn nm b i n ty else noRec 2) else noRec 1) else noRec 2
theorem spec_GetData_j1 (b : List Int) (hn : b.length ≤ 140737488350000) (hb : Bytes b) (i n ty : Int) (nm : NameT) (h1 : Ev (fun k => spec_GetName.f k b i) (nm.1, nm.2.1, nm.2.2.1)) (hp : WalkPost b i (-1) nm)
    (hi : 0 ≤ i ∧ i ≤ (b.length : Int) - n) (hn0 : 0 ≤ n ∧ n ≤ 255) : Ev (fun k => spec_GetData.j1 k b i n ty false (⟨#[]⟩ : ByteArray) 0 0 0 (⟨#[]⟩ : ByteArray) (⟨#[]⟩ : ByteArray)) (dataIn nm b i n ty) := by
  have w1 : wrap64 (i + n) = i + n := wrap_id (by omega) (by omega)
  have w2 : wrap64 (i + 1) = i + 1 := wrap_id (by omega) (by omega)
  have w3 : wrap64 (n - 1) = n - 1 := wrap_id (by omega) (by omega)
  unfold dataIn
  by_cases c1 : ty = 1
  · refine Ev_vt c1 ?_
    refine Ev.step (f := fun k => (spec_Get4.f k b i).bind fun t => if t.2 = true then (if n = 4 then some ((⟨#[]⟩ : ByteArray), ty, 0, t.1, (⟨#[]⟩ : ByteArray), (⟨#[]⟩ : ByteArray), 0) else some (noRec 2)) else some (noRec 2)) (fun k => ?_) (Ev.bind (spec_Get4_eq b (by omega) hb i (by omega)) ?_)
    · simp only [spec_GetData.j1]
      rw [if_neg (by decide), if_pos c1]
      rfl
    · by_cases g : (get4 b i).2 = true
      · refine Ev_if g ?_
        by_cases c4 : n = 4
        · refine Ev_vt ⟨g, c4⟩ ?_
          exact Ev_if c4 (Ev_some _)
        · refine Ev_vn (fun q => c4 q.2) ?_
          exact Ev_ifn c4 (Ev_some _)
      · refine Ev_vn (fun q => g q.1) ?_
        exact Ev_ifn g (Ev_some _)
  · refine Ev_vn c1 ?_
    by_cases c16 : ty = 16
    · refine Ev_vt c16 ?_
      have hj2 : ∀ d : Bool, spec_GetData.j1 = spec_GetData.j1 → (d = false → 1 ≤ n) → Ev (fun k => spec_GetData.j2 k b i (i + n) d (⟨#[]⟩ : ByteArray) 0 0 0 (⟨#[]⟩ : ByteArray) (⟨#[]⟩ : ByteArray) (⟨#[]⟩ : ByteArray) ty 0 0 (⟨#[]⟩ : ByteArray) (⟨#[]⟩ : ByteArray)) (if d = false ∧ textOk (txtOf b i n) = true then ((⟨#[]⟩ : ByteArray), ty, 0, 0, (⟨#[]⟩ : ByteArray), txtOf b i n, 0) else noRec 2) := by
        intro d _ hd
        cases d with
        | true =>
          refine Ev_vn (by simp) ?_
          refine Ev.step (f := fun _ => some (noRec 2)) (fun k => ?_) (Ev_some _)
          simp only [spec_GetData.j2, if_true]
          rfl
        | false =>
          have h1n := hd rfl
          refine Ev.step (f := fun k => (spec_l5Text.f k (txtOf b i n)).bind fun t => if t = true then some ((⟨#[]⟩ : ByteArray), ty, 0, 0, (⟨#[]⟩ : ByteArray), txtOf b i n, 0) else some (noRec 2)) (fun k => ?_) (Ev.bind (spec_l5Text_eq _ (txtOf_size b hn i n)) ?_)
          · simp only [spec_GetData.j2]
            rw [if_neg (by decide), w2, if_pos (by omega), if_pos (by omega), if_pos (by omega)]
            rfl
          · cases ht : textOk (txtOf b i n) with
            | true =>
              refine Ev_vt ⟨rfl, rfl⟩ ?_
              exact Ev_if rfl (Ev_some _)
            | false =>
              refine Ev_vn (by simp) ?_
              exact Ev_ifn (by decide) (Ev_some _)
      by_cases cn : n < 1
      · refine Ev_vn (by omega) ?_
        refine Ev.step (fun k => ?_) (by have := hj2 true rfl (by simp); simpa using this)
        simp only [spec_GetData.j1]
        rw [if_neg (by decide), if_neg c1, if_pos c16, if_pos cn, w1]
      · have e := hj2 (rd b i != n - 1) rfl (fun _ => by omega)
        have e2 : (if (rd b i != n - 1) = false ∧ textOk (txtOf b i n) = true then (((⟨#[]⟩ : ByteArray), ty, 0, 0, (⟨#[]⟩ : ByteArray), txtOf b i n, 0) : RecT) else noRec 2) = if (1 ≤ n ∧ rd b i = n - 1) ∧ textOk (txtOf b i n) = true then ((⟨#[]⟩ : ByteArray), ty, 0, 0, (⟨#[]⟩ : ByteArray), txtOf b i n, 0) else noRec 2 := by
          by_cases q : rd b i = n - 1
          · rw [show (rd b i != n - 1) = false by rw [q]; simp]
            simp [q, show 1 ≤ n by omega]
          · rw [show (rd b i != n - 1) = true by simpa using q]
            simp [q]
        rw [e2] at e
        refine Ev.step (fun k => ?_) e
        simp only [spec_GetData.j1]
        rw [if_neg (by decide), if_neg c1, if_pos c16, if_neg cn, if_pos (by omega), if_pos (by omega), rd_rng hb, w3, w1]
    · refine Ev_vn c16 ?_
      refine Ev.step (f := fun k => (spec_GetName.f k b i).bind fun t => if t.2.2 = 0 then (if ty = 6 then ((spec_Get4.f k b t.2.1).bind fun u => if u.2 = true then (if wrap64 (t.2.1 + 4) = wrap64 (i + n) then some ((⟨#[]⟩ : ByteArray), ty, 0, u.1, t.1, (⟨#[]⟩ : ByteArray), 0) else some (noRec 2)) else some (noRec 2)) else if t.2.1 = wrap64 (i + n) then some ((⟨#[]⟩ : ByteArray), ty, 0, 0, t.1, (⟨#[]⟩ : ByteArray), 0) else some (noRec 2)) else some (noRec t.2.2)) (fun k => ?_) (Ev.bind h1 ?_)
      · simp only [spec_GetData.j1]
        rw [if_neg (by decide), if_neg c1, if_neg c16]
        rfl
      · obtain ⟨_, hp | hp⟩ := hp
        · obtain ⟨p1, p2, p3, _, p5⟩ := hp
          have p3 := p3 (by omega)
          refine Ev_vt p1 ?_
          refine Ev_if p1 ?_
          by_cases c6 : ty = 6
          · refine Ev_vt c6 ?_
            refine Ev_if c6 (Ev.bind (spec_Get4_eq b (by omega) hb nm.2.1 (by omega)) ?_)
            have w4 : wrap64 (nm.2.1 + 4) = nm.2.1 + 4 := wrap_id (by omega) (by omega)
            by_cases g : (get4 b nm.2.1).2 = true
            · refine Ev_if g ?_
              rw [w4, w1]
              by_cases c4 : nm.2.1 + 4 = i + n
              · refine Ev_vt ⟨g, c4⟩ ?_
                exact Ev_if c4 (Ev_some _)
              · refine Ev_vn (fun q => c4 q.2) ?_
                exact Ev_ifn c4 (Ev_some _)
            · refine Ev_vn (fun q => g q.1) ?_
              exact Ev_ifn g (Ev_some _)
          · refine Ev_vn c6 ?_
            refine Ev_ifn c6 ?_
            rw [w1]
            by_cases c4 : nm.2.1 = i + n
            · refine Ev_vt c4 ?_
              exact Ev_if c4 (Ev_some _)
            · refine Ev_vn c4 ?_
              exact Ev_ifn c4 (Ev_some _)
        · refine Ev_vn hp.1 ?_
          exact Ev_ifn hp.1 (Ev_some _)
theorem spec_GetData_eq (b : List Int) (hn : b.length ≤ 140737488350000) (hb : Bytes b) (i n ty : Int) (nm : NameT) (h1 : Ev (fun k => spec_GetName.f k b i) (nm.1, nm.2.1, nm.2.2.1)) (hp : WalkPost b i (-1) nm) :
    Ev (fun k => spec_GetData.f k b i n ty) (dataOf nm b i n ty) := by
  unfold spec_GetData.f dataOf
  rw [l1In_dec, spec_TypeOk_eq]
  simp only [Option.bind_some]
  by_cases hN : 0 ≤ n ∧ n ≤ 255
  · refine Ev_vt hN ?_
    rw [decide_eq_true hN.1, decide_eq_true hN.2]
    have w : wrap64 ((b.length : Int) - n) = (b.length : Int) - n := wrap_id (by omega) (by omega)
    have hj1 : ∀ d : Bool, d = true → Ev (fun k => spec_GetData.j1 k b i n ty d (⟨#[]⟩ : ByteArray) 0 0 0 (⟨#[]⟩ : ByteArray) (⟨#[]⟩ : ByteArray)) (noRec 1) := by
      intro d hd
      subst hd
      refine Ev.step (f := fun _ => some (noRec 1)) (fun k => ?_) (Ev_some _)
      simp only [spec_GetData.j1, if_true]
      rfl
    refine Ev_if rfl ?_
    cases ht : typeOk ty with
    | true =>
      by_cases hi : 0 ≤ i ∧ i ≤ (b.length : Int) - n
      · refine Ev_vt hi (Ev_vt rfl ?_)
        refine Ev.step (fun k => ?_) (spec_GetData_j1 b hn hb i n ty nm h1 hp hi hN)
        simp only [spec_GetData.j0]
        rw [if_neg (by decide), if_neg (by omega), w, decide_eq_false (by omega)]
      · refine Ev_vn hi ?_
        by_cases h0 : i < 0
        · refine Ev.step (fun k => ?_) (hj1 true rfl)
          simp only [spec_GetData.j0]
          rw [if_neg (by decide), if_pos h0]
        · refine Ev.step (fun k => ?_) (hj1 true rfl)
          simp only [spec_GetData.j0]
          rw [if_neg (by decide), if_neg h0, w, decide_eq_true (by omega)]
    | false =>
      have e : ∀ k, spec_GetData.j0 (k + 1) b i n ty (!false) (⟨#[]⟩ : ByteArray) 0 0 0 (⟨#[]⟩ : ByteArray) (⟨#[]⟩ : ByteArray) = if i < 0 then some (noRec 1) else if i > (b.length : Int) - n then some (noRec 1) else some (noRec 2) := by
        intro k
        simp only [spec_GetData.j0]
        rw [if_pos (show (!false) = true from rfl), l1In_dec, decide_eq_true hN.1, decide_eq_true hN.2, w]
        rfl
      refine Ev.step e ?_
      by_cases h0 : i < 0
      · refine Ev_vn (show ¬ (0 ≤ i ∧ i ≤ (b.length : Int) - n) by omega) ?_
        exact Ev_if h0 (Ev_some _)
      · refine Ev_ifn h0 ?_
        by_cases h1 : i > (b.length : Int) - n
        · refine Ev_vn (show ¬ (0 ≤ i ∧ i ≤ (b.length : Int) - n) by omega) ?_
          exact Ev_if h1 (Ev_some _)
        · refine Ev_vt (show 0 ≤ i ∧ i ≤ (b.length : Int) - n by omega) (Ev_vn (by decide) ?_)
          exact Ev_ifn h1 (Ev_some _)
  · refine Ev_vn hN ?_
    have hd : (decide (0 ≤ n) && decide (n ≤ 255)) = false := by
      rw [Bool.and_eq_false_iff, decide_eq_false_iff_not, decide_eq_false_iff_not]
      omega
    rw [hd]
    refine Ev_ifn (by decide) (Ev.step (f := fun _ => some (noRec 2)) (fun k => ?_) (Ev_some _))
    simp only [spec_GetData.j0, if_true]
    rw [l1In_dec, hd]
    rfl
theorem impl_GetData_j5 (i n e : Int) (d : Bool) (x0 : ByteArray) (x1 x2 x3 : Int) (x4 x5 : ByteArray) (hw : wrap64 (i + n) = i + n) : Ev (fun k => impl_GetData.j5 k i n e d x0 x1 x2 x3 x4 x5) (if d = true ∧ e = i + n then (x0, x1, x2, x3, x4, x5, 0) else noRec 2) := by
  refine Ev.step (f := fun _ => some (if d = true ∧ e = i + n then ((x0, x1, x2, x3, x4, x5, 0) : RecT) else noRec 2)) (fun k => ?_) (Ev_some _)
  simp only [impl_GetData.j5]
  rw [hw]
  cases d with
  | true =>
    rw [if_pos rfl]
    by_cases c : e = i + n
    · rw [if_pos c, if_pos ⟨rfl, c⟩]
    · rw [if_neg c, if_neg (fun q => c q.2)]
      rfl
  | false =>
    rw [if_neg (by decide), if_neg (by simp)]
    rfl
theorem impl_GetData_j2 (b : List Int) (hn : b.length ≤ 140737488350000) (hb : Bytes b) (i n ty : Int) (nm : NameT) (h1 : Ev (fun k => impl_GetName.f k b i) (nm.1, nm.2.1, nm.2.2.1)) (hp : WalkPost b i (-1) nm)
    (hi : 0 ≤ i ∧ i ≤ (b.length : Int) - n) (hn0 : 0 ≤ n ∧ n ≤ 255) : Ev (fun k => impl_GetData.j2 k b i n ty) (dataIn nm b i n ty) := by
  have w1 : wrap64 (i + n) = i + n := wrap_id (by omega) (by omega)
  have w2 : wrap64 (i + 1) = i + 1 := wrap_id (by omega) (by omega)
  have w4 : wrap64 (i + 4) = i + 4 := wrap_id (by omega) (by omega)
  unfold dataIn
  by_cases c1 : ty = 1
  · refine Ev_vt c1 ?_
    refine Ev.step (f := fun k => (impl_Get4.f k b i).bind fun t => impl_GetData.j5 k i n (i + 4) t.2 (⟨#[]⟩ : ByteArray) ty 0 t.1 (⟨#[]⟩ : ByteArray) (⟨#[]⟩ : ByteArray)) (fun k => ?_) (Ev.bind (impl_Get4_eq b (by omega) hb i (by omega)) ?_)
    · simp only [impl_GetData.j2]
      rw [if_pos c1, w4]
    · have e := impl_GetData_j5 i n (i + 4) (get4 b i).2 (⟨#[]⟩ : ByteArray) ty 0 (get4 b i).1 (⟨#[]⟩ : ByteArray) (⟨#[]⟩ : ByteArray) w1
      have q : ((get4 b i).2 = true ∧ i + 4 = i + n) ↔ ((get4 b i).2 = true ∧ n = 4) := by
        constructor
        · rintro ⟨a, c⟩
          exact ⟨a, by omega⟩
        · rintro ⟨a, c⟩
          exact ⟨a, by omega⟩
      exact Ev_viff q e
  · refine Ev_vn c1 ?_
    by_cases c16 : ty = 16
    · refine Ev_vt c16 ?_
      by_cases cn : n = 0
      · refine Ev_vn (by omega) ?_
        refine Ev.step (f := fun _ => some (noRec 2)) (fun k => ?_) (Ev_some _)
        simp only [impl_GetData.j2]
        rw [if_neg c1, if_pos c16, if_pos cn]
        rfl
      · refine Ev.step (f := fun k => impl_GetData.j3 k b i n i true (⟨#[]⟩ : ByteArray) ty 0 0 (⟨#[]⟩ : ByteArray) (⟨#[]⟩ : ByteArray)) (fun k => ?_) ?_
        · simp only [impl_GetData.j2]
          rw [if_neg c1, if_pos c16, if_neg cn]
        · have hr := rd_byte hb i
          have w5 : wrap64 (1 + rd b i) = 1 + rd b i := wrap_id (by omega) (by omega)
          have w6 : wrap64 (i + (1 + rd b i)) = i + (1 + rd b i) := wrap_id (by omega) (by omega)
          by_cases q : rd b i = n - 1
          · have q2 : i + (1 + rd b i) = i + n := by omega
            refine Ev.step (f := fun k => (impl_isText.f k (txtOf b i n)).bind fun t => impl_GetData.j5 k i n (i + n) t (⟨#[]⟩ : ByteArray) ty 0 0 (⟨#[]⟩ : ByteArray) (txtOf b i n)) (fun k => ?_) (Ev.bind (impl_isText_eq _ (txtOf_size b hn i n)) ?_)
            · simp only [impl_GetData.j3]
              rw [rd_rng hb, w5, w6, q2, w1, w2, if_pos (by omega), if_pos (by omega), if_pos rfl, if_pos (by omega), if_pos (by omega), if_pos (by omega)]
              rfl
            · have e := impl_GetData_j5 i n (i + n) (textOk (txtOf b i n)) (⟨#[]⟩ : ByteArray) ty 0 0 (⟨#[]⟩ : ByteArray) (txtOf b i n) w1
              have z : (textOk (txtOf b i n) = true ∧ i + n = i + n) ↔ ((1 ≤ n ∧ rd b i = n - 1) ∧ textOk (txtOf b i n) = true) := by
                constructor
                · rintro ⟨a, _⟩
                  exact ⟨⟨by omega, q⟩, a⟩
                · rintro ⟨_, a⟩
                  exact ⟨a, rfl⟩
              exact Ev_viff z e
          · refine Ev_vn (fun z => q z.1.2) ?_
            have e := impl_GetData_j5 i n (i + (1 + rd b i)) true (⟨#[]⟩ : ByteArray) ty 0 0 (⟨#[]⟩ : ByteArray) (⟨#[]⟩ : ByteArray) w1
            rw [if_neg (by rintro ⟨_, z⟩; omega)] at e
            refine Ev.step (fun k => ?_) e
            simp only [impl_GetData.j3]
            rw [rd_rng hb, w5, w6, w1, if_pos (by omega), if_pos (by omega), if_neg (by omega)]
    · refine Ev_vn c16 ?_
      refine Ev.step (f := fun k => (impl_GetName.f k b i).bind fun t => if t.2.2 = 0 then impl_GetData.j4 k b i n ty true t.1 t.2.1 (⟨#[]⟩ : ByteArray) ty 0 0 (⟨#[]⟩ : ByteArray) (⟨#[]⟩ : ByteArray) else some (noRec t.2.2)) (fun k => ?_) (Ev.bind h1 ?_)
      · simp only [impl_GetData.j2]
        rw [if_neg c1, if_neg c16]
        rfl
      · obtain ⟨_, hp | hp⟩ := hp
        · obtain ⟨p1, p2, p3, _, p5⟩ := hp
          have p3 := p3 (by omega)
          refine Ev_vt p1 ?_
          refine Ev_if p1 ?_
          have w7 : wrap64 (nm.2.1 + 4) = nm.2.1 + 4 := wrap_id (by omega) (by omega)
          by_cases c6 : ty = 6
          · refine Ev_vt c6 ?_
            refine Ev.step (f := fun k => (impl_Get4.f k b nm.2.1).bind fun t => impl_GetData.j5 k i n (nm.2.1 + 4) t.2 (⟨#[]⟩ : ByteArray) ty 0 t.1 nm.1 (⟨#[]⟩ : ByteArray)) (fun k => ?_) (Ev.bind (impl_Get4_eq b (by omega) hb nm.2.1 (by omega)) (impl_GetData_j5 i n (nm.2.1 + 4) _ _ _ _ _ _ _ w1))
            simp only [impl_GetData.j4]
            rw [if_pos c6, w7]
          · refine Ev_vn c6 ?_
            have e := impl_GetData_j5 i n nm.2.1 true (⟨#[]⟩ : ByteArray) ty 0 0 nm.1 (⟨#[]⟩ : ByteArray) w1
            simp only [true_and] at e
            refine Ev.step (fun k => ?_) e
            simp only [impl_GetData.j4]
            rw [if_neg c6]
        · refine Ev_vn hp.1 ?_
          exact Ev_ifn hp.1 (Ev_some _)
theorem impl_GetData_eq (b : List Int) (hn : b.length ≤ 140737488350000) (hb : Bytes b) (i n ty : Int) (nm : NameT) (h1 : Ev (fun k => impl_GetName.f k b i) (nm.1, nm.2.1, nm.2.2.1)) (hp : WalkPost b i (-1) nm) :
    Ev (fun k => impl_GetData.f k b i n ty) (dataOf nm b i n ty) := by
  unfold impl_GetData.f dataOf
  have hj0 : Ev (fun k => impl_GetData.j0 k b i n ty true) (noRec 2) := by
    refine Ev.step (f := fun _ => some (noRec 2)) (fun k => ?_) (Ev_some _)
    simp only [impl_GetData.j0, if_true]
    rfl
  by_cases hN : 0 ≤ n ∧ n ≤ 255
  · refine Ev_vt hN ?_
    have w : wrap64 ((b.length : Int) - n) = (b.length : Int) - n := wrap_id (by omega) (by omega)
    refine Ev_ifn (by omega) ?_
    rw [decide_eq_false (show ¬ n > 255 by omega)]
    have hj1 : Ev (fun k => impl_GetData.j1 k b i n ty true) (noRec 1) := by
      refine Ev.step (f := fun _ => some (noRec 1)) (fun k => ?_) (Ev_some _)
      simp only [impl_GetData.j1, if_true]
      rfl
    by_cases hi : 0 ≤ i ∧ i ≤ (b.length : Int) - n
    · refine Ev_vt hi ?_
      refine Ev.step (f := fun k => impl_GetData.j1 k b i n ty false) (fun k => ?_) (Ev.step (f := fun k => if typeOk ty = true then impl_GetData.j2 k b i n ty else some (noRec 2)) (fun k => ?_) ?_)
      · simp only [impl_GetData.j0]
        rw [if_neg (by decide), if_neg (by omega), w, decide_eq_false (by omega)]
      · simp only [impl_GetData.j1]
        rw [if_neg (by decide), impl_TypeOk_eq]
        rfl
      · by_cases ht : typeOk ty = true
        · refine Ev_vt ht ?_
          exact Ev_if ht (impl_GetData_j2 b hn hb i n ty nm h1 hp hi hN)
        · refine Ev_vn ht ?_
          exact Ev_ifn ht (Ev_some _)
    · refine Ev_vn hi ?_
      by_cases h0 : i < 0
      · refine Ev.step (fun k => ?_) hj1
        simp only [impl_GetData.j0]
        rw [if_neg (by decide), if_pos h0]
      · refine Ev.step (fun k => ?_) hj1
        simp only [impl_GetData.j0]
        rw [if_neg (by decide), if_neg h0, w, decide_eq_true (by omega)]
  · refine Ev_vn hN ?_
    by_cases h0 : n < 0
    · exact Ev_if h0 hj0
    · refine Ev_ifn h0 ?_
      rw [decide_eq_true (show n > 255 by omega)]
      exact hj0
theorem nameOk_all {s : ByteArray} (h : nameOk s = true) : (∀ x ∈ labelsL s, labelOk x = true) ∧ s.size ≤ 50 ∧ (labelsL s).length ≤ 6 := by
  unfold nameOk at h
  simp only [Bool.and_eq_true, decide_eq_true_eq] at h
  exact ⟨fun x hx => List.all_eq_true.1 h.1 x hx, h.2.1, h.2.2⟩
abbrev RecN := ByteArray × Int × Int × Int × ByteArray × ByteArray × Int × Int
def noRecN (c : Int) : RecN := ((⟨#[]⟩ : ByteArray), 0, 0, 0, (⟨#[]⟩ : ByteArray), (⟨#[]⟩ : ByteArray), 0, c)
theorem textOk_size {s : ByteArray} (h : textOk s = true) : s.size ≤ 12 := by
  unfold textOk at h
  rw [Bool.and_eq_true, decide_eq_true_eq] at h
  exact h.2
theorem walk_name_size {b : List Int} {i nx : Int} {r : NameT} (h : WalkPost b i nx r) : r.1.size ≤ 50 := by
  obtain ⟨_, h | h⟩ := h
  · exact (nameOk_all h.2.1).2.1
  · rw [h.2.2.2.1]
    decide
theorem dataIn_fit (nm : NameT) (b : List Int) (i n ty : Int) (h : nm.1.size ≤ 50) : (dataIn nm b i n ty).2.2.2.2.1.size ≤ 50 ∧ (dataIn nm b i n ty).2.2.2.2.2.1.size ≤ 12 := by
  have e : (⟨#[]⟩ : ByteArray).size = 0 := rfl
  unfold dataIn noRec
  split
  · split <;> exact ⟨by show (⟨#[]⟩ : ByteArray).size ≤ 50; omega, by show (⟨#[]⟩ : ByteArray).size ≤ 12; omega⟩
  · split
    · split
      · rename_i c
        exact ⟨by show (⟨#[]⟩ : ByteArray).size ≤ 50; omega, textOk_size c.2⟩
      · exact ⟨by show (⟨#[]⟩ : ByteArray).size ≤ 50; omega, by show (⟨#[]⟩ : ByteArray).size ≤ 12; omega⟩
    · split
      · split
        · split
          · exact ⟨h, by show (⟨#[]⟩ : ByteArray).size ≤ 12; omega⟩
          · exact ⟨by show (⟨#[]⟩ : ByteArray).size ≤ 50; omega, by show (⟨#[]⟩ : ByteArray).size ≤ 12; omega⟩
        · split
          · exact ⟨h, by show (⟨#[]⟩ : ByteArray).size ≤ 12; omega⟩
          · exact ⟨by show (⟨#[]⟩ : ByteArray).size ≤ 50; omega, by show (⟨#[]⟩ : ByteArray).size ≤ 12; omega⟩
      · exact ⟨by show (⟨#[]⟩ : ByteArray).size ≤ 50; omega, by show (⟨#[]⟩ : ByteArray).size ≤ 12; omega⟩
theorem dataOf_fit (nm : NameT) (b : List Int) (i n ty : Int) (h : nm.1.size ≤ 50) : (dataOf nm b i n ty).2.2.2.2.1.size ≤ 50 ∧ (dataOf nm b i n ty).2.2.2.2.2.1.size ≤ 12 := by
  have e : (⟨#[]⟩ : ByteArray).size = 0 := rfl
  have z : ∀ c, (noRec c).2.2.2.2.1.size ≤ 50 ∧ (noRec c).2.2.2.2.2.1.size ≤ 12 := fun c => ⟨by show (⟨#[]⟩ : ByteArray).size ≤ 50; omega, by show (⟨#[]⟩ : ByteArray).size ≤ 12; omega⟩
  unfold dataOf
  split
  · split
    · split
      · exact dataIn_fit nm b i n ty h
      · exact z _
    · exact z _
  · exact z _
/-- A record out of its parts, if they fit. -/
def recIf (s : ByteArray) (p n : Int) (cl ttl : Int) (ok : Bool) (d : RecT) : RecN :=
  if (ok = true ∧ cl = 1) ∧ recOk s d.2.1 ttl d.2.2.2.1 d.2.2.2.2.1 d.2.2.2.2.2.1 = true then (s, d.2.1, ttl, d.2.2.2.1, d.2.2.2.2.1, d.2.2.2.2.2.1, p + 10 + n, 0) else noRecN 2
/-- What is known of what GetRecord hands back. -/
def RecPost (b : List Int) (i : Int) (r : RecN) : Prop :=
  (r.2.2.2.2.2.2.2 = 0 ∧ recOk r.1 r.2.1 r.2.2.1 r.2.2.2.1 r.2.2.2.2.1 r.2.2.2.2.2.1 = true ∧ i < r.2.2.2.2.2.2.1 ∧ r.2.2.2.2.2.2.1 ≤ (b.length : Int) + 300) ∨ (r.2.2.2.2.2.2.2 ≠ 0 ∧ r = noRecN r.2.2.2.2.2.2.2)
theorem dataOf_code_n {nm : NameT} {b : List Int} {i n ty : Int} (h : (dataOf nm b i n ty).2.2.2.2.2.2 = 0) : 0 ≤ n ∧ n ≤ 255 ∧ i ≤ (b.length : Int) - n := by
  unfold dataOf at h
  split at h
  · rename_i c
    split at h
    · rename_i c2
      exact ⟨c.1, c.2, c2.2⟩
    · exact absurd h (by show ¬ (1 : Int) = 0; omega)
  · exact absurd h (by show ¬ (2 : Int) = 0; omega)
/-- What GetRecord returns, given the names that stand at its two places. -/
def recAt (nm nm2 : NameT) (b : List Int) : RecN :=
  if nm.2.2.1 = 0 then (if nm.2.1 > (b.length : Int) - 10 then noRecN 1
    else if (dataOf nm2 b (nm.2.1 + 10) (get2 b (nm.2.1 + 8)).1 (get2 b nm.2.1).1).2.2.2.2.2.2 = 0 then recIf nm.1 nm.2.1 (get2 b (nm.2.1 + 8)).1 (get2 b (nm.2.1 + 2)).1 (get4 b (nm.2.1 + 4)).1 (get4 b (nm.2.1 + 4)).2 (dataOf nm2 b (nm.2.1 + 10) (get2 b (nm.2.1 + 8)).1 (get2 b nm.2.1).1)
    else noRecN (dataOf nm2 b (nm.2.1 + 10) (get2 b (nm.2.1 + 8)).1 (get2 b nm.2.1).1).2.2.2.2.2.2)
  else noRecN nm.2.2.1
theorem rec_eq (b : List Int) (hn : b.length ≤ 140737488350000) (hb : Bytes b) (i : Int) (nm nm2 : NameT) (s1 : Ev (fun k => spec_GetName.f k b i) (nm.1, nm.2.1, nm.2.2.1)) (i1 : Ev (fun k => impl_GetName.f k b i) (nm.1, nm.2.1, nm.2.2.1)) (hp : WalkPost b i (-1) nm)
    (h2 : nm.2.2.1 = 0 → nm.2.1 ≤ (b.length : Int) - 10 → Ev (fun k => spec_GetName.f k b (nm.2.1 + 10)) (nm2.1, nm2.2.1, nm2.2.2.1) ∧ Ev (fun k => impl_GetName.f k b (nm.2.1 + 10)) (nm2.1, nm2.2.1, nm2.2.2.1) ∧ WalkPost b (nm.2.1 + 10) (-1) nm2) :
    Ev (fun k => spec_GetRecord.f k b i) (recAt nm nm2 b) ∧ Ev (fun k => impl_GetRecord.f k b i) (recAt nm nm2 b) ∧ RecPost b i (recAt nm nm2 b) := by
  unfold spec_GetRecord.f impl_GetRecord.f recAt
  have bad : ∀ c : Int, c ≠ 0 → RecPost b i (noRecN c) := fun c hc => .inr ⟨hc, rfl⟩
  by_cases c0 : nm.2.2.1 = 0
  · have hp' := hp
    obtain ⟨_, hp | hp⟩ := hp
    · obtain ⟨_, p2, p3, _, p5⟩ := hp
      have p3 := p3 (by omega)
      have hns := walk_name_size hp'
      have hpos : 0 ≤ nm.2.1 ∧ nm.2.1 ≤ (b.length : Int) := p5
      have w10 : wrap64 ((b.length : Int) - 10) = (b.length : Int) - 10 := wrap_id (by omega) (by omega)
      have wd : wrap64 ((b.length : Int) - nm.2.1) = (b.length : Int) - nm.2.1 := wrap_id (by omega) (by omega)
      rw [if_pos c0]
      by_cases cs : nm.2.1 > (b.length : Int) - 10
      · rw [if_pos cs]
        refine ⟨Ev.bind s1 (Ev_if c0 (Ev.step (f := fun _ => some (noRecN 1)) (fun k => ?_) (Ev_some _))), Ev.bind i1 (Ev_if c0 (Ev.step (f := fun _ => some (noRecN 1)) (fun k => ?_) (Ev_some _))), bad 1 (by decide)⟩
        · simp only [spec_GetRecord.j0]
          rw [w10, if_pos cs]
          rfl
        · simp only [impl_GetRecord.j0]
          rw [wd, if_pos (by omega)]
          rfl
      · rw [if_neg cs]
        have w2 : wrap64 (nm.2.1 + 2) = nm.2.1 + 2 := wrap_id (by omega) (by omega)
        have w4 : wrap64 (nm.2.1 + 4) = nm.2.1 + 4 := wrap_id (by omega) (by omega)
        have w8 : wrap64 (nm.2.1 + 8) = nm.2.1 + 8 := wrap_id (by omega) (by omega)
        have wA : wrap64 (nm.2.1 + 10) = nm.2.1 + 10 := wrap_id (by omega) (by omega)
        obtain ⟨s2, i2, hq⟩ := h2 c0 (by omega)
        have hns2 := walk_name_size hq
        obtain ⟨n, hnn⟩ : ∃ n, (get2 b (nm.2.1 + 8)).1 = n := ⟨_, rfl⟩
        obtain ⟨ty, hty⟩ : ∃ ty, (get2 b nm.2.1).1 = ty := ⟨_, rfl⟩
        obtain ⟨cl, hcl⟩ : ∃ cl, (get2 b (nm.2.1 + 2)).1 = cl := ⟨_, rfl⟩
        obtain ⟨tt, htt⟩ : ∃ tt, get4 b (nm.2.1 + 4) = tt := ⟨_, rfl⟩
        have sd := spec_GetData_eq b hn hb (nm.2.1 + 10) n ty nm2 s2 hq
        have id' := impl_GetData_eq b hn hb (nm.2.1 + 10) n ty nm2 i2 hq
        have hfit := dataOf_fit nm2 b (nm.2.1 + 10) n ty hns2
        rw [hnn, hty, hcl, htt]
        have hcode := dataOf_code_n (nm := nm2) (b := b) (i := nm.2.1 + 10) (n := n) (ty := ty)
        generalize dataOf nm2 b (nm.2.1 + 10) n ty = d at sd id' hfit hcode
        have sj1 : Ev (fun k => spec_GetRecord.j1 k b nm.1 nm.2.1 (⟨#[]⟩ : ByteArray) 0 0 0 (⟨#[]⟩ : ByteArray) (⟨#[]⟩ : ByteArray)) (if d.2.2.2.2.2.2 = 0 then recIf nm.1 nm.2.1 n cl tt.1 tt.2 d else noRecN d.2.2.2.2.2.2) := by
          refine Ev.step (f := fun k => (spec_Get4.f k b (nm.2.1 + 4)).bind fun t => (spec_GetData.f k b (nm.2.1 + 10) n ty).bind fun d => if d.2.2.2.2.2.2 = 0 then spec_GetRecord.j2 k nm.1 nm.2.1 cl t.1 t.2 n (⟨#[]⟩ : ByteArray) 0 0 0 (⟨#[]⟩ : ByteArray) (⟨#[]⟩ : ByteArray) d.1 d.2.1 d.2.2.1 d.2.2.2.1 d.2.2.2.2.1 d.2.2.2.2.2.1 else some (noRecN d.2.2.2.2.2.2)) (fun k => ?_) (Ev.bind (spec_Get4_eq b (by omega) hb (nm.2.1 + 4) (by omega)) (Ev.bind sd ?_))
          · simp only [spec_GetRecord.j1]
            rw [w2, w4, w8, wA, spec_Get2_eq b (by omega) hb _ (by omega), spec_Get2_eq b (by omega) hb _ (by omega), spec_Get2_eq b (by omega) hb _ (by omega)]
            simp only [Option.bind_some, hnn, hty, hcl]
            rfl
          · rw [htt]
            by_cases cd : d.2.2.2.2.2.2 = 0
            · rw [if_pos cd]
              refine Ev_if cd ?_
              have hnb := hcode cd
              have wn : wrap64 (nm.2.1 + 10 + n) = nm.2.1 + 10 + n := wrap_id (by omega) (by omega)
              have hj3 : ∀ f : Bool, Ev (fun k => spec_GetRecord.j3 k nm.2.1 n f (⟨#[]⟩ : ByteArray) 0 0 0 (⟨#[]⟩ : ByteArray) (⟨#[]⟩ : ByteArray) nm.1 d.2.1 tt.1 d.2.2.2.1 d.2.2.2.2.1 d.2.2.2.2.2.1) (if f = true then noRecN 2 else (nm.1, d.2.1, tt.1, d.2.2.2.1, d.2.2.2.2.1, d.2.2.2.2.2.1, nm.2.1 + 10 + n, 0)) := by
                intro f
                refine Ev.step (f := fun _ => some (if f = true then noRecN 2 else (nm.1, d.2.1, tt.1, d.2.2.2.1, d.2.2.2.2.1, d.2.2.2.2.2.1, nm.2.1 + 10 + n, 0))) (fun k => ?_) (Ev_some _)
                simp only [spec_GetRecord.j3]
                rw [wA, wn]
                split <;> rfl
              unfold recIf
              by_cases q1 : tt.2 = true
              · by_cases q2 : cl = 1
                · refine Ev.step (f := fun k => (spec_RecordOk.f k nm.1 d.2.1 tt.1 d.2.2.2.1 d.2.2.2.2.1 d.2.2.2.2.2.1).bind fun t => spec_GetRecord.j3 k nm.2.1 n (!t) (⟨#[]⟩ : ByteArray) 0 0 0 (⟨#[]⟩ : ByteArray) (⟨#[]⟩ : ByteArray) nm.1 d.2.1 tt.1 d.2.2.2.1 d.2.2.2.2.1 d.2.2.2.2.2.1) (fun k => ?_) (Ev.bind (spec_RecordOk_eq _ _ _ _ _ _ (by omega) (by omega) (by omega)) ?_)
                  · simp only [spec_GetRecord.j2]
                    rw [if_pos q1, if_pos q2]
                  · cases q3 : recOk nm.1 d.2.1 tt.1 d.2.2.2.1 d.2.2.2.2.1 d.2.2.2.2.2.1 with
                    | true =>
                      rw [if_pos ⟨⟨q1, q2⟩, rfl⟩]
                      exact hj3 false
                    | false =>
                      rw [if_neg (fun z => by cases z.2)]
                      exact hj3 true
                · rw [if_neg (fun z => q2 z.1.2)]
                  refine Ev.step (fun k => ?_) (hj3 true)
                  simp only [spec_GetRecord.j2]
                  rw [if_pos q1, if_neg q2]
              · rw [if_neg (fun z => q1 z.1.1)]
                refine Ev.step (fun k => ?_) (hj3 true)
                simp only [spec_GetRecord.j2]
                rw [if_neg q1]
            · rw [if_neg cd]
              exact Ev_ifn cd (Ev_some _)
        have ij1 : Ev (fun k => impl_GetRecord.j1 k b nm.1 nm.2.1) (if d.2.2.2.2.2.2 = 0 then recIf nm.1 nm.2.1 n cl tt.1 tt.2 d else noRecN d.2.2.2.2.2.2) := by
          have g1 := impl_Get2_eq b (by omega) hb nm.2.1 (by omega)
          have g2 := impl_Get2_eq b (by omega) hb (nm.2.1 + 2) (by omega)
          have g3 := impl_Get4_eq b (by omega) hb (nm.2.1 + 4) (by omega)
          have g4 := impl_Get2_eq b (by omega) hb (nm.2.1 + 8) (by omega)
          refine Ev.step (f := fun k => (impl_Get2.f k b nm.2.1).bind fun t1 => (impl_Get2.f k b (nm.2.1 + 2)).bind fun t2 => (impl_Get4.f k b (nm.2.1 + 4)).bind fun t3 => (impl_Get2.f k b (nm.2.1 + 8)).bind fun t4 => (impl_GetData.f k b (nm.2.1 + 10) t4.1 t1.1).bind fun d => if d.2.2.2.2.2.2 = 0 then impl_GetRecord.j2 k nm.1 nm.2.1 t2.1 t3.1 t3.2 t4.1 d.1 d.2.1 d.2.2.1 d.2.2.2.1 d.2.2.2.2.1 d.2.2.2.2.2.1 else some (noRecN d.2.2.2.2.2.2)) (fun k => ?_) (Ev.bind g1 (Ev.bind g2 (Ev.bind g3 (Ev.bind g4 ?_))))
          · simp only [impl_GetRecord.j1]
            rw [w2, w4, w8, wA]
            rfl
          · rw [hnn, hty, hcl, htt]
            refine Ev.bind id' ?_
            by_cases cd : d.2.2.2.2.2.2 = 0
            · rw [if_pos cd]
              refine Ev_if cd ?_
              have hnb := hcode cd
              have wn : wrap64 (nm.2.1 + 10 + n) = nm.2.1 + 10 + n := wrap_id (by omega) (by omega)
              have hj3 : ∀ f : Bool, Ev (fun k => impl_GetRecord.j3 k nm.2.1 n f nm.1 d.2.1 tt.1 d.2.2.2.1 d.2.2.2.2.1 d.2.2.2.2.2.1) (if f = true then noRecN 2 else (nm.1, d.2.1, tt.1, d.2.2.2.1, d.2.2.2.2.1, d.2.2.2.2.2.1, nm.2.1 + 10 + n, 0)) := by
                intro f
                refine Ev.step (f := fun _ => some (if f = true then noRecN 2 else (nm.1, d.2.1, tt.1, d.2.2.2.1, d.2.2.2.2.1, d.2.2.2.2.2.1, nm.2.1 + 10 + n, 0))) (fun k => ?_) (Ev_some _)
                simp only [impl_GetRecord.j3]
                rw [wA, wn]
                split <;> rfl
              unfold recIf
              by_cases q2 : cl = 1
              · by_cases q1 : tt.2 = true
                · refine Ev.step (f := fun k => (impl_RecordOk.f k nm.1 d.2.1 tt.1 d.2.2.2.1 d.2.2.2.2.1 d.2.2.2.2.2.1).bind fun t => impl_GetRecord.j3 k nm.2.1 n (!t) nm.1 d.2.1 tt.1 d.2.2.2.1 d.2.2.2.2.1 d.2.2.2.2.2.1) (fun k => ?_) (Ev.bind (impl_RecordOk_eq _ _ _ _ _ _ (by omega) (by omega) (by omega)) ?_)
                  · simp only [impl_GetRecord.j2]
                    rw [if_pos q2, if_pos q1]
                  · cases q3 : recOk nm.1 d.2.1 tt.1 d.2.2.2.1 d.2.2.2.2.1 d.2.2.2.2.2.1 with
                    | true =>
                      rw [if_pos ⟨⟨q1, q2⟩, rfl⟩]
                      exact hj3 false
                    | false =>
                      rw [if_neg (fun z => by cases z.2)]
                      exact hj3 true
                · rw [if_neg (fun z => q1 z.1.1)]
                  refine Ev.step (fun k => ?_) (hj3 true)
                  simp only [impl_GetRecord.j2]
                  rw [if_pos q2, if_neg q1]
              · rw [if_neg (fun z => q2 z.1.2)]
                refine Ev.step (fun k => ?_) (hj3 true)
                simp only [impl_GetRecord.j2]
                rw [if_neg q2]
            · rw [if_neg cd]
              exact Ev_ifn cd (Ev_some _)
        refine ⟨Ev.bind s1 (Ev_if c0 (Ev.step (fun k => ?_) sj1)), Ev.bind i1 (Ev_if c0 (Ev.step (fun k => ?_) ij1)), ?_⟩
        · simp only [spec_GetRecord.j0]
          rw [w10, if_neg cs]
        · simp only [impl_GetRecord.j0]
          rw [wd, if_neg (by omega)]
        · by_cases cd : d.2.2.2.2.2.2 = 0
          · rw [if_pos cd]
            have hnb := hcode cd
            unfold recIf
            by_cases q : (tt.2 = true ∧ cl = 1) ∧ recOk nm.1 d.2.1 tt.1 d.2.2.2.1 d.2.2.2.2.1 d.2.2.2.2.2.1 = true
            · rw [if_pos q]
              refine .inl ⟨rfl, q.2, ?_, ?_⟩
              · show i < nm.2.1 + 10 + n
                omega
              · show nm.2.1 + 10 + n ≤ (b.length : Int) + 300
                omega
            · rw [if_neg q]
              exact bad 2 (by decide)
          · rw [if_neg cd]
            exact bad _ cd
    · exact absurd c0 hp.1
  · rw [if_neg c0]
    exact ⟨Ev.bind s1 (Ev_ifn c0 (Ev_some _)), Ev.bind i1 (Ev_ifn c0 (Ev_some _)), bad _ c0⟩
theorem rec_total (b : List Int) (hn : b.length ≤ 140737488350000) (hb : Bytes b) (i : Int) (hi : -9223372036854775808 ≤ i ∧ i ≤ 9223372036854775807) :
    ∃ r : RecN, Ev (fun k => spec_GetRecord.f k b i) r ∧ Ev (fun k => impl_GetRecord.f k b i) r ∧ RecPost b i r := by
  obtain ⟨nm, s1, i1, hp⟩ := name_get b hn hb i hi
  by_cases c : nm.2.2.1 = 0 ∧ nm.2.1 ≤ (b.length : Int) - 10
  · have hpos : 0 ≤ nm.2.1 := by
      obtain ⟨_, hp | hp⟩ := hp
      · exact hp.2.2.2.2.1
      · exact absurd c.1 hp.1
    obtain ⟨nm2, s2, i2, hq⟩ := name_get b hn hb (nm.2.1 + 10) (by omega)
    exact ⟨_, rec_eq b hn hb i nm nm2 s1 i1 hp (fun _ _ => ⟨s2, i2, hq⟩)⟩
  · exact ⟨_, rec_eq b hn hb i nm nm s1 i1 hp (fun c1 c2 => absurd ⟨c1, c2⟩ c)⟩
/-- A record out of what GetRecord hands back. -/
def recOf (r : RecN) : S33 := ⟨r.1, r.2.1, r.2.2.1, r.2.2.2.1, r.2.2.2.2.1, r.2.2.2.2.2.1⟩
theorem recs_loop (b : List Int) (hn : b.length ≤ 140737488350000) (hb : Bytes b) (m : Nat) (hm : m ≤ 8) : ∀ (d i : Nat) (p : Int) (acc : List S33), i + d = m → acc.length = i → (-9223372036854775808 ≤ p ∧ p ≤ 9223372036854775807) →
    ∃ r : List S33 × Int × Int, Ev (fun k => spec_GetRecords.l0 k b p (m : Int) acc (i : Int)) r ∧ Ev (fun k => impl_GetRecords.l0 k b p acc (m : Int) (i : Int)) r ∧ r.1.length ≤ 8 ∧ (r.2.2 = 0 → r.1.length = m) := by
  intro d
  induction d with
  | zero =>
    intro i p acc hi ha hp
    refine ⟨(acc, p, 0), Ev.step (f := fun _ => some (acc, p, 0)) (fun k => ?_) (Ev_some _), Ev.step (f := fun _ => some (acc, p, 0)) (fun k => ?_) (Ev_some _), by show acc.length ≤ 8; omega, fun _ => by show acc.length = m; omega⟩
    · simp only [spec_GetRecords.l0]
      rw [if_neg (by omega)]
    · simp only [impl_GetRecords.l0]
      rw [if_neg (by omega)]
  | succ d ih =>
    intro i p acc hi ha hp
    have w := wrap_succ i m (by omega) (by omega)
    obtain ⟨r, s1, i1, hpost⟩ := rec_total b hn hb p hp
    have key : ∃ q : List S33 × Int × Int, Ev (fun k => if r.2.2.2.2.2.2.2 = 0 then (if acc.length < 1954687338268 then spec_GetRecords.l0 k b r.2.2.2.2.2.2.1 (m : Int) (acc ++ [recOf r]) ((i + 1 : Nat) : Int) else none) else some ([], 0, r.2.2.2.2.2.2.2)) q ∧ Ev (fun k => if r.2.2.2.2.2.2.2 = 0 then (if acc.length < 1954687338268 then impl_GetRecords.l0 k b r.2.2.2.2.2.2.1 (acc ++ [recOf r]) (m : Int) ((i + 1 : Nat) : Int) else none) else some ([], 0, r.2.2.2.2.2.2.2)) q ∧ q.1.length ≤ 8 ∧ (q.2.2 = 0 → q.1.length = m) := by
      rcases hpost with ⟨c, _, c1, c2⟩ | ⟨c, _⟩
      · obtain ⟨q, q1, q2, q3⟩ := ih (i + 1) r.2.2.2.2.2.2.1 (acc ++ [recOf r]) (by omega) (by simp; omega) (by omega)
        exact ⟨q, Ev_if c (Ev_if (by omega) q1), Ev_if c (Ev_if (by omega) q2), q3⟩
      · exact ⟨([], 0, r.2.2.2.2.2.2.2), Ev_ifn c (Ev_some _), Ev_ifn c (Ev_some _), by simp, fun z => absurd z c⟩
    obtain ⟨q, q1, q2, q3⟩ := key
    refine ⟨q, Ev.step (f := fun k => (spec_GetRecord.f k b p).bind fun r => if r.2.2.2.2.2.2.2 = 0 then (if acc.length < 1954687338268 then spec_GetRecords.l0 k b r.2.2.2.2.2.2.1 (m : Int) (acc ++ [recOf r]) ((i + 1 : Nat) : Int) else none) else some ([], 0, r.2.2.2.2.2.2.2)) (fun k => ?_) (Ev.bind s1 q1), Ev.step (f := fun k => (impl_GetRecord.f k b p).bind fun r => if r.2.2.2.2.2.2.2 = 0 then (if acc.length < 1954687338268 then impl_GetRecords.l0 k b r.2.2.2.2.2.2.1 (acc ++ [recOf r]) (m : Int) ((i + 1 : Nat) : Int) else none) else some ([], 0, r.2.2.2.2.2.2.2)) (fun k => ?_) (Ev.bind i1 q2), q3⟩
    · simp only [spec_GetRecords.l0]
      rw [if_pos (by omega), w]
      rfl
    · simp only [impl_GetRecords.l0]
      rw [if_pos (by omega), w]
      rfl
theorem recs_total (b : List Int) (hn : b.length ≤ 140737488350000) (hb : Bytes b) (p m : Int) (hp : -9223372036854775808 ≤ p ∧ p ≤ 9223372036854775807) :
    ∃ r : List S33 × Int × Int, Ev (fun k => spec_GetRecords.f k b p m) r ∧ Ev (fun k => impl_GetRecords.f k b p m) r ∧ r.1.length ≤ 8 ∧ (r.2.2 = 0 → (r.1.length : Int) = m) := by
  unfold spec_GetRecords.f impl_GetRecords.f
  rw [l1In_dec]
  simp only [Option.bind_some]
  have bad : Ev (fun k => impl_GetRecords.j0 k b p m true) (([] : List S33), (0 : Int), (2 : Int)) := by
    refine Ev.step (f := fun _ => some (([] : List S33), (0 : Int), (2 : Int))) (fun k => ?_) (Ev_some _)
    simp only [impl_GetRecords.j0, if_true]
  by_cases c : 0 ≤ m ∧ m ≤ 8
  · obtain ⟨n, rfl⟩ := Int.eq_ofNat_of_zero_le c.1
    obtain ⟨r, r1, r2, r3, r4⟩ := recs_loop b hn hb n (by omega) n 0 p [] (by omega) rfl hp
    rw [decide_eq_true c.1, decide_eq_true c.2]
    refine ⟨r, Ev_if rfl r1, Ev_ifn (by omega) ?_, r3, fun z => by rw [r4 z]⟩
    rw [decide_eq_false (show ¬ ((n : Int) > 8) by omega)]
    refine Ev.step (fun k => ?_) r2
    simp only [impl_GetRecords.j0]
    rw [if_neg (by decide)]
    rfl
  · have hd : (decide (0 ≤ m) && decide (m ≤ 8)) = false := by
      rw [Bool.and_eq_false_iff, decide_eq_false_iff_not, decide_eq_false_iff_not]
      omega
    rw [hd]
    refine ⟨([], 0, 2), Ev_ifn (by decide) (Ev_some _), ?_, by simp, fun z => absurd z (by decide)⟩
    by_cases h0 : m < 0
    · exact Ev_if h0 bad
    · refine Ev_ifn h0 ?_
      rw [decide_eq_true (show m > 8 by omega)]
      exact bad
/-- What the laws write into bytes: a, a + 1, .. -/
def marks : Nat → Int → List Int
  | 0, _ => []
  | n + 1, a => a % 256 :: marks n (a + 1)
theorem marks_snoc : ∀ (n : Nat) (a : Int), marks (n + 1) a = marks n a ++ [(a + n) % 256]
  | 0, a => by simp [marks]
  | n + 1, a => by
    rw [marks, marks_snoc n (a + 1), marks]
    simp only [List.cons_append]
    congr 3
    omega
theorem markByteS_loop (a : Int) (ha : 0 ≤ a ∧ a ≤ 4000000000000000000) : ∀ (d i : Nat) (m : List Int), i + d = m.length → m.length ≤ 140737488355328 → m.take i = marks i a →
    Ev (fun k => laws_markByteS.l0 k m (a + i) (i : Int)) (a + m.length, marks m.length a) := by
  intro d
  induction d with
  | zero =>
    intro i m hi hm ht
    rw [List.take_of_length_le (by omega)] at ht
    refine Ev.step (f := fun _ => some (a + i, m)) (fun k => ?_) ⟨0, fun _ _ => ?_⟩
    · simp only [laws_markByteS.l0]
      rw [if_neg (by omega)]
    · have e : i = m.length := by omega
      rw [← e, ← ht]
  | succ d ih =>
    intro i m hi hm ht
    have hl : (m.set i ((a + i) % 256)).length = m.length := List.length_set
    have hw := wrap_succ i m.length (by omega) hm
    have := ih (i + 1) (m.set i ((a + i) % 256)) (by omega) (by omega) (by
      rw [List.take_add_one, List.take_set_of_le (Nat.le_refl _), ht, List.getElem?_set_self (by omega), marks_snoc]
      rfl)
    rw [hl] at this
    refine Ev.step (f := fun k => laws_markByteS.l0 k (m.set i ((a + i) % 256)) (a + ((i + 1 : Nat) : Int)) ((i + 1 : Nat) : Int)) (fun k => ?_) this
    simp only [laws_markByteS.l0]
    rw [if_pos (by omega), if_pos (by omega), hw, Int.toNat_natCast, wrap_id (x := a + (i : Int) + 1) (by omega) (by omega)]
    congr 1
    omega
theorem markByteS_eq (m : List Int) (hm : m.length ≤ 140737488355328) : Ev (fun k => laws_markByteS.f k m 1) (1 + (m.length : Int), marks m.length 1) := by
  have := markByteS_loop 1 (by omega) m.length 0 m (by omega) hm rfl
  unfold laws_markByteS.f
  simpa using this
theorem rdR_getElem (l : List S33) (i : Nat) (h : i < l.length) : rd_T33 l i = l[i] := by
  unfold rd_T33
  rw [Int.toNat_natCast, List.getD_eq_getElem?_getD, List.getElem?_eq_getElem h, Option.getD_some]
theorem eqRecord_self (x : S33) : laws_eqRecord.f x.f0 x.f1 x.f2 x.f3 x.f4 x.f5 x.f0 x.f1 x.f2 x.f3 x.f4 x.f5 = some true := by
  unfold laws_eqRecord.f
  simp
theorem eqRecordS_loop (a : List S33) (hn : a.length ≤ 140737488351232) : ∀ (d i : Nat), i + d = a.length → Ev (fun k => laws_eqRecordS.l0 k a a (i : Int)) true := by
  intro d
  induction d with
  | zero =>
    intro i hi
    refine Ev.step (f := fun _ => some true) (fun k => ?_) ⟨0, fun _ _ => rfl⟩
    simp only [laws_eqRecordS.l0]
    rw [if_neg (by omega)]
  | succ d ih =>
    intro i hi
    have hw := wrap_succ i a.length (by omega) (by omega)
    refine Ev.step (f := fun k => laws_eqRecordS.l0 k a a ((i + 1 : Nat) : Int)) (fun k => ?_) (ih (i + 1) (by omega))
    simp only [laws_eqRecordS.l0]
    rw [if_pos (by omega), if_pos (by omega), if_pos (by omega), eqRecord_self, hw]
    rfl
theorem eqRecordS_same (a : List S33) (hn : a.length ≤ 140737488351232) : Ev (fun k => laws_eqRecordS.f k a a) true := by
  unfold laws_eqRecordS.f
  simp only [if_true]
  exact eqRecordS_loop a hn a.length 0 (by omega)
/-- What the laws write into a text: m and digits. -/
def mt (a : Int) : ByteArray := if a ≤ 0 then (⟨#[109, 48]⟩ : ByteArray) else strOfNums (109 :: decZ a.toNat)
theorem markText_loop : ∀ (m : Nat) (s : List Int), m ≤ 4000000000000000000 → (decZ m).length + s.length ≤ 100 → Ev (fun k => laws_markText.l0 k (m : Int) (strOfNums s)) (strOfNums (109 :: (decZ m ++ s))) := by
  intro m
  induction m using Nat.strongRecOn with
  | _ m ih =>
    intro s hm hl
    by_cases hz : m = 0
    · subst hz
      refine Ev.step (f := fun _ => some (strOfNums (109 :: s))) (fun k => ?_) ⟨0, fun _ _ => by rw [decZ_zero, List.nil_append]⟩
      simp only [laws_markText.l0]
      rw [if_neg (by omega), if_pos (by rw [strOfNums_size]; omega), show (109 :: s) = [109] ++ s from rfl, strOfNums_append]
      rfl
    · have hd := decZ_pos m hz
      have hl2 : (decZ m).length = (decZ (m / 10)).length + 1 := by rw [hd, List.length_append]; rfl
      have := ih (m / 10) (by omega) ((48 + ((m % 10 : Nat) : Int)) :: s) (by omega) (by rw [List.length_cons]; omega)
      have e : decZ (m / 10) ++ (48 + ((m % 10 : Nat) : Int)) :: s = decZ m ++ s := by rw [hd, List.append_assoc]; rfl
      rw [e] at this
      refine Ev.step (f := fun k => laws_markText.l0 k ((m / 10 : Nat) : Int) (strOfNums ((48 + ((m % 10 : Nat) : Int)) :: s))) (fun k => ?_) this
      simp only [laws_markText.l0]
      rw [if_pos (by omega), tmod_pos, tdiv_pos]
      have w1 : wrap64 (48 + ((m % 10 : Nat) : Int)) % 256 = 48 + ((m % 10 : Nat) : Int) := by rw [wrap_id (by omega) (by omega)]; omega
      have w2 : wrap64 ((m / 10 : Nat) : Int) = ((m / 10 : Nat) : Int) := wrap_id (by omega) (by omega)
      rw [w1, w2]
      simp only [Option.bind_some]
      rw [if_pos (by rw [strOfNums_size, strOfNums_size]; simp; omega), ← strOfNums_append]
      rfl
theorem markText_eq (a : Int) (ha : a ≤ 4000000000000000000) : Ev (fun k => laws_markText.f k a) (mt a) := by
  unfold laws_markText.f mt
  by_cases h : a ≤ 0
  · simp only [if_pos h]
    exact Ev.now _
  · simp only [if_neg h]
    have := markText_loop a.toNat [] (by omega) (by have := decZ_le a.toNat (by omega); simp; omega)
    rw [show ((a.toNat : Int)) = a by omega, List.append_nil] at this
    exact this
/-- What the laws write into records. -/
def recMarks : Nat → Int → List S33
  | 0, _ => []
  | n + 1, a => ⟨mt a, a + 1, a + 1 + 1, a + 1 + 1 + 1, mt (a + 1 + 1 + 1 + 1), mt (a + 1 + 1 + 1 + 1 + 1)⟩ :: recMarks n (a + 6)
theorem recMarks_length : ∀ (n : Nat) (a : Int), (recMarks n a).length = n
  | 0, _ => rfl
  | n + 1, a => by rw [recMarks, List.length_cons, recMarks_length n]
theorem recMarks_snoc : ∀ (n : Nat) (a b : Int), b = a + 6 * n → recMarks (n + 1) a = recMarks n a ++ [⟨mt b, b + 1, b + 1 + 1, b + 1 + 1 + 1, mt (b + 1 + 1 + 1 + 1), mt (b + 1 + 1 + 1 + 1 + 1)⟩]
  | 0, a, b, h => by
    have e : b = a := by omega
    subst e
    rfl
  | n + 1, a, b, h => by
    rw [recMarks, recMarks_snoc n (a + 6) b (by omega), recMarks]
    rfl
theorem recMarks_take (n : Nat) (a : Int) : ∀ i, i ≤ n → (recMarks n a).take i = recMarks i a := by
  induction n generalizing a with
  | zero =>
    intro i hi
    obtain rfl : i = 0 := by omega
    rfl
  | succ n ih =>
    intro i hi
    cases i with
    | zero => rfl
    | succ i => rw [recMarks, List.take_succ_cons, ih (a + 6) i (by omega), recMarks]
theorem recMarks_rd (n : Nat) (a b : Int) (i : Nat) (h : i < n) (hb : b = a + 6 * i) : rd_T33 (recMarks n a) i = ⟨mt b, b + 1, b + 1 + 1, b + 1 + 1 + 1, mt (b + 1 + 1 + 1 + 1), mt (b + 1 + 1 + 1 + 1 + 1)⟩ := by
  rw [rdR_getElem _ _ (by rw [recMarks_length]; exact h)]
  have e : (recMarks n a).take (i + 1) = recMarks (i + 1) a := recMarks_take n a (i + 1) (by omega)
  rw [recMarks_snoc i a b hb] at e
  have hl : i < ((recMarks n a).take (i + 1)).length := by rw [List.length_take, recMarks_length]; omega
  have : ((recMarks n a).take (i + 1))[i]'hl = ⟨mt b, b + 1, b + 1 + 1, b + 1 + 1 + 1, mt (b + 1 + 1 + 1 + 1), mt (b + 1 + 1 + 1 + 1 + 1)⟩ := by
    simp only [e]
    rw [List.getElem_append_right (by rw [recMarks_length]; omega)]
    simp [recMarks_length]
  rw [List.getElem_take] at this
  exact this
theorem rdR_set (m : List S33) (i : Nat) (h : i < m.length) (v : S33) : rd_T33 (m.set i v) i = v := by
  rw [rdR_getElem _ _ (by rw [List.length_set]; exact h), List.getElem_set_self]
theorem markRecordS_loop (a : Int) (ha : 0 ≤ a ∧ a ≤ 1000000000000000000) : ∀ (d i : Nat) (m : List S33) (b : Int), i + d = m.length → m.length ≤ 140737488355328 → b = a + 6 * i → m.take i = recMarks i a →
    Ev (fun k => laws_markRecordS.l0 k m b (i : Int)) (a + 6 * m.length, recMarks m.length a) := by
  intro d
  induction d with
  | zero =>
    intro i m b hi hm hb ht
    rw [List.take_of_length_le (by omega)] at ht
    refine Ev.step (f := fun _ => some (b, m)) (fun k => ?_) ⟨0, fun _ _ => ?_⟩
    · simp only [laws_markRecordS.l0]
      rw [if_neg (by omega)]
    · have e : i = m.length := by omega
      rw [← e, ← ht, hb]
  | succ d ih =>
    intro i m b hi hm hb ht
    have him : i < m.length := by omega
    have hw := wrap_succ i m.length him hm
    obtain ⟨v, hv⟩ : ∃ v : S33, v = ⟨mt b, b + 1, b + 1 + 1, b + 1 + 1 + 1, mt (b + 1 + 1 + 1 + 1), mt (b + 1 + 1 + 1 + 1 + 1)⟩ := ⟨_, rfl⟩
    have hl : (m.set i v).length = m.length := List.length_set
    have := ih (i + 1) (m.set i v) (b + 1 + 1 + 1 + 1 + 1 + 1) (by omega) (by omega) (by omega) (by
      rw [List.take_add_one, List.take_set_of_le (Nat.le_refl _), ht, List.getElem?_set_self him, recMarks_snoc i a b hb, hv]
      rfl)
    rw [hl] at this
    have w1 : wrap64 (b + 1) = b + 1 := wrap_id (by omega) (by omega)
    have w2 : wrap64 (b + 1 + 1) = b + 1 + 1 := wrap_id (by omega) (by omega)
    have w3 : wrap64 (b + 1 + 1 + 1) = b + 1 + 1 + 1 := wrap_id (by omega) (by omega)
    have w4 : wrap64 (b + 1 + 1 + 1 + 1) = b + 1 + 1 + 1 + 1 := wrap_id (by omega) (by omega)
    have w5 : wrap64 (b + 1 + 1 + 1 + 1 + 1) = b + 1 + 1 + 1 + 1 + 1 := wrap_id (by omega) (by omega)
    have w6 : wrap64 (b + 1 + 1 + 1 + 1 + 1 + 1) = b + 1 + 1 + 1 + 1 + 1 + 1 := wrap_id (by omega) (by omega)
    have p0 : (0 : Int) ≤ (i : Int) := by omega
    have p1 : (i : Int) < (m.length : Int) := by omega
    refine Ev.step (f := fun k => (laws_markText.f k b).bind fun t1 => (laws_markText.f k (b + 1 + 1 + 1 + 1)).bind fun t2 => (laws_markText.f k (b + 1 + 1 + 1 + 1 + 1)).bind fun t3 => laws_markRecordS.l0 k (m.set i ⟨t1, b + 1, b + 1 + 1, b + 1 + 1 + 1, t2, t3⟩) (b + 1 + 1 + 1 + 1 + 1 + 1) ((i + 1 : Nat) : Int)) (fun k => ?_)
      (Ev.bind (markText_eq b (by omega)) (Ev.bind (markText_eq _ (by omega)) (Ev.bind (markText_eq _ (by omega)) (by rw [← hv]; exact this))))
    simp only [laws_markRecordS.l0, if_pos p0, if_pos p1, w1, w2, w3, w4, w5, w6, hw, Int.toNat_natCast, Option.bind_some, rdR_set m i him, List.set_set]
theorem markRecordS_eq (m : List S33) (hm : m.length ≤ 140737488355328) (a : Int) (ha : 0 ≤ a ∧ a ≤ 1000000000000000000) : Ev (fun k => laws_markRecordS.f k m a) (a + 6 * (m.length : Int), recMarks m.length a) := by
  have := markRecordS_loop a ha m.length 0 m a (by omega) hm (by omega) rfl
  unfold laws_markRecordS.f
  simpa using this
theorem heldRecordS_loop (n : Nat) (hn : n ≤ 140737488355328) (a : Int) (ha : 0 ≤ a ∧ a ≤ 1000000000000000000) : ∀ (d i : Nat) (b : Int), i + d = n → b = a + 6 * i →
    Ev (fun k => laws_heldRecordS.l0 k (recMarks n a) b (i : Int)) (a + 6 * n) := by
  intro d
  have hl := recMarks_length n a
  induction d with
  | zero =>
    intro i b hi hb
    refine Ev.step (f := fun _ => some b) (fun k => ?_) ⟨0, fun _ _ => by rw [hb, show i = n by omega]⟩
    simp only [laws_heldRecordS.l0]
    rw [if_neg (by omega)]
  | succ d ih =>
    intro i b hi hb
    have hw := wrap_succ i n (by omega) hn
    have w1 : wrap64 (b + 1) = b + 1 := wrap_id (by omega) (by omega)
    have w2 : wrap64 (b + 1 + 1) = b + 1 + 1 := wrap_id (by omega) (by omega)
    have w3 : wrap64 (b + 1 + 1 + 1) = b + 1 + 1 + 1 := wrap_id (by omega) (by omega)
    have w4 : wrap64 (b + 1 + 1 + 1 + 1) = b + 1 + 1 + 1 + 1 := wrap_id (by omega) (by omega)
    have w5 : wrap64 (b + 1 + 1 + 1 + 1 + 1) = b + 1 + 1 + 1 + 1 + 1 := wrap_id (by omega) (by omega)
    have w6 : wrap64 (b + 1 + 1 + 1 + 1 + 1 + 1) = b + 1 + 1 + 1 + 1 + 1 + 1 := wrap_id (by omega) (by omega)
    have p0 : (0 : Int) ≤ (i : Int) := by omega
    have p1 : (i : Int) < ((recMarks n a).length : Int) := by omega
    have hr := recMarks_rd n a b i (by omega) hb
    refine Ev.step (f := fun k => (laws_markText.f k b).bind fun t1 => if (mt b).toList = t1.toList then (laws_markText.f k (b + 1 + 1 + 1 + 1)).bind fun t2 => if (mt (b + 1 + 1 + 1 + 1)).toList = t2.toList then (laws_markText.f k (b + 1 + 1 + 1 + 1 + 1)).bind fun t3 => if (mt (b + 1 + 1 + 1 + 1 + 1)).toList = t3.toList then laws_heldRecordS.l0 k (recMarks n a) (b + 1 + 1 + 1 + 1 + 1 + 1) ((i + 1 : Nat) : Int) else some (-1) else some (-1) else some (-1)) (fun k => ?_) ?_
    · simp only [laws_heldRecordS.l0, if_pos p0, if_pos p1, w1, w2, w3, w4, w5, w6, hw, hr, if_true]
    · refine Ev.bind (markText_eq b (by omega)) ?_
      simp only [if_true]
      refine Ev.bind (markText_eq _ (by omega)) ?_
      simp only [if_true]
      refine Ev.bind (markText_eq _ (by omega)) ?_
      simp only [if_true]
      exact ih (i + 1) _ (by omega) (by omega)
theorem heldRecordS_eq (n : Nat) (hn : n ≤ 140737488355328) (a : Int) (ha : 0 ≤ a ∧ a ≤ 1000000000000000000) : Ev (fun k => laws_heldRecordS.f k (recMarks n a) a) (a + 6 * (n : Int)) := by
  have := heldRecordS_loop n hn a ha n 0 a (by omega) (by omega)
  unfold laws_heldRecordS.f
  simpa using this

end Go.Proofs.YtfmnofjijodgcaaDoor.Lem
