/- Lemmas on the printed functions, of this session. -/
import Derived.Test.YtdigilidomimdaaY
import Derived.Test.YtdigilidomimdaaPrx0
import Derived.Test.YtdigilidomimdaaPrx1
import Derived.Test.YtdigilidomimdaaPrx2
import Derived.Test.YtdigilidomimdaaPrx3
import Derived.Test.YtdigilidomimdaaPrx4
namespace Go.Proofs.Ytdigilidomimdaa.Lem
open Go.RowKit Go.Proofs.Ytdigilidomimdaa.Pr Go.Proofs.Ytdigilidomimdaa.X Go.Proofs.Ytdigilidomimdaa.Y Go.Proofs.YtdigilidomimdaaW.PrintWords Go.Proofs.YtdigilidomimdaaW.PrintLast Go.Proofs.YtdigilidomimdaaW.PrintMore
set_option linter.unusedVariables false
set_option linter.unusedSimpArgs false
theorem rdS_getElem (l : List ByteArray) (i : Nat) (h : i < l.length) : rdOf ByteArray.empty l i = l[i] := by
  unfold rdOf
  rw [Int.toNat_natCast, List.getD_eq_getElem?_getD, List.getElem?_eq_getElem h, Option.getD_some]
theorem Ev_if {α : Type} {c : Prop} [Decidable c] {f g : Nat → Option α} {x : α} (h : c) (h1 : Ev f x) : Ev (fun k => if c then f k else g k) x := by
  simp only [if_pos h]
  exact h1
theorem Ev_ifn {α : Type} {c : Prop} [Decidable c] {f g : Nat → Option α} {x : α} (h : ¬ c) (h1 : Ev g x) : Ev (fun k => if c then f k else g k) x := by
  simp only [if_neg h]
  exact h1
/-- A byte of a label. -/
def okB (c : Int) : Bool := (decide (97 ≤ c) && decide (c ≤ 122)) || (decide (48 ≤ c) && decide (c ≤ 57)) || decide (c = 45) || decide (c = 95)
/-- A label: what LabelOk answers. -/
def labelOk (s : ByteArray) : Bool := (bytesOf s).all okB && (decide (1 ≤ s.size) && decide (s.size ≤ 12))
theorem l1In_dec (a b c : Int) : spec_l1In.f a b c = some (decide (b ≤ a) && decide (a ≤ c)) := by
  unfold spec_l1In.f
  by_cases h : a ≥ b
  · rw [if_pos h]
    have h' : b ≤ a := h
    simp [h']
  · rw [if_neg h]
    have h' : ¬ b ≤ a := h
    simp [h']
theorem l2Byte_eq (c : Int) (h0 : 0 ≤ c) (h1 : c ≤ 255) : spec_l2Byte.f c = some (okB c) := by
  unfold spec_l2Byte.f okB
  rw [wrap_id (x := c) (by omega) (by omega), l1In_dec, l1In_dec]
  simp only [Option.bind_some]
  by_cases a : (decide (97 ≤ c) && decide (c ≤ 122)) = true
  · simp [a]
  · by_cases b : (decide (48 ≤ c) && decide (c ≤ 57)) = true
    · simp [a, b]
    · by_cases d : c = 45
      · simp [a, b, d]
      · simp only [Bool.not_eq_true] at a b
        have e : (c == 95) = decide (c = 95) := by by_cases z : c = 95 <;> simp [z]
        simp [a, b, d, e]
theorem drop_bytesOf (s : ByteArray) (i : Nat) (h : i < s.size) : (bytesOf s).drop i = bt s i :: (bytesOf s).drop (i + 1) := by
  rw [rd_drop _ i (by rw [bytesOf_length]; exact h), rd_bytesOf]
theorem spec_LabelOk_loop (s : ByteArray) (hn : s.size ≤ 140737488355328) : ∀ (d i : Nat), i + d = s.size →
    Ev (fun k => spec_LabelOk.l0 k s (i : Int)) (((bytesOf s).drop i).all okB && (decide (1 ≤ s.size) && decide (s.size ≤ 12))) := by
  intro d
  induction d with
  | zero =>
    intro i hi
    refine Ev.step (f := fun _ => some (decide (1 ≤ s.size) && decide (s.size ≤ 12))) (fun k => ?_) ⟨0, fun _ _ => by rw [List.drop_of_length_le (by rw [bytesOf_length]; omega)]; rfl⟩
    simp only [spec_LabelOk.l0]
    rw [if_neg (by omega), l1In_dec]
    have e1 : decide ((1 : Int) ≤ (s.size : Int)) = decide (1 ≤ s.size) := decide_eq_decide.2 (by omega)
    have e2 : decide ((s.size : Int) ≤ 12) = decide (s.size ≤ 12) := decide_eq_decide.2 (by omega)
    rw [e1, e2]
    rfl
  | succ d ih =>
    intro i hi
    have hb := bt_range s i
    have hw := wrap_succ i s.size (by omega) hn
    rw [drop_bytesOf s i (by omega), List.all_cons]
    cases h : okB (bt s i) with
    | true =>
      rw [Bool.true_and]
      refine Ev.step (f := fun k => spec_LabelOk.l0 k s ((i + 1 : Nat) : Int)) (fun k => ?_) (ih (i + 1) (by omega))
      simp only [spec_LabelOk.l0]
      rw [if_pos (by omega), if_pos (by omega), l2Byte_eq _ hb.1 hb.2, h, hw]
      rfl
    | false =>
      refine Ev.step (f := fun _ => some false) (fun k => ?_) ⟨0, fun _ _ => rfl⟩
      simp only [spec_LabelOk.l0]
      rw [if_pos (by omega), if_pos (by omega), l2Byte_eq _ hb.1 hb.2, h]
      rfl
theorem impl_LabelOk_body (c : Int) (x : Option Bool) :
    (if c < 97 then (if c < 48 then (if c = 45 then x else (if c = 95 then x else (some false))) else (if c > 57 then (if c = 45 then x else (if c = 95 then x else (some false))) else x))
      else (if c > 122 then (if c < 48 then (if c = 45 then x else (if c = 95 then x else (some false))) else (if c > 57 then (if c = 45 then x else (if c = 95 then x else (some false))) else x)) else x)) = if okB c = true then x else some false := by
  have hk : okB c = true ↔ (97 ≤ c ∧ c ≤ 122) ∨ (48 ≤ c ∧ c ≤ 57) ∨ c = 45 ∨ c = 95 := by simp [okB, or_assoc]
  by_cases h : okB c = true
  · have h' := hk.1 h
    rw [show (if okB c = true then x else some false) = x from if_pos h]
    repeat' split
    all_goals first | rfl | (exfalso; omega)
  · have h' : ¬ ((97 ≤ c ∧ c ≤ 122) ∨ (48 ≤ c ∧ c ≤ 57) ∨ c = 45 ∨ c = 95) := fun z => h (hk.2 z)
    rw [show (if okB c = true then x else some false) = some false from if_neg h]
    repeat' split
    all_goals first | rfl | (exfalso; omega)
theorem impl_LabelOk_loop (s : ByteArray) (hn : s.size ≤ 140737488355328) : ∀ (d i : Nat), i + d = s.size →
    Ev (fun k => impl_LabelOk.l0 k s (s.size : Int) (i : Int)) (((bytesOf s).drop i).all okB && (decide (1 ≤ s.size) && decide (s.size ≤ 12))) := by
  intro d
  induction d with
  | zero =>
    intro i hi
    refine Ev.step (f := fun _ => some (decide (1 ≤ s.size) && decide (s.size ≤ 12))) (fun k => ?_) ⟨0, fun _ _ => by rw [List.drop_of_length_le (by rw [bytesOf_length]; omega)]; rfl⟩
    simp only [impl_LabelOk.l0]
    rw [if_neg (by omega)]
    have e2 : decide ((s.size : Int) ≤ 12) = decide (s.size ≤ 12) := decide_eq_decide.2 (by omega)
    by_cases h : (s.size : Int) ≥ 1
    · rw [if_pos h, e2, decide_eq_true (show 1 ≤ s.size by omega), Bool.true_and]
    · rw [if_neg h, decide_eq_false (show ¬ 1 ≤ s.size by omega), Bool.false_and]
  | succ d ih =>
    intro i hi
    have hw := wrap_succ i s.size (by omega) hn
    rw [drop_bytesOf s i (by omega), List.all_cons]
    refine Ev.step (f := fun k => if okB (bt s i) = true then impl_LabelOk.l0 k s (s.size : Int) ((i + 1 : Nat) : Int) else some false) (fun k => ?_) ?_
    · simp only [impl_LabelOk.l0]
      rw [if_pos (by omega), if_pos (by omega), if_pos (by omega), hw]
      exact impl_LabelOk_body _ _
    · cases h : okB (bt s i) with
      | true =>
        have := ih (i + 1) (by omega)
        simpa using this
      | false => exact ⟨0, fun _ _ => by simp⟩
theorem spec_LabelOk_eq (s : ByteArray) (hn : s.size ≤ 140737488355328) : Ev (fun k => spec_LabelOk.f k s) (labelOk s) := by
  have := spec_LabelOk_loop s hn s.size 0 (by omega)
  unfold spec_LabelOk.f labelOk
  simpa using this
theorem impl_LabelOk_eq (s : ByteArray) (hn : s.size ≤ 140737488355328) : Ev (fun k => impl_LabelOk.f k s) (labelOk s) := by
  have := impl_LabelOk_loop s hn s.size 0 (by omega)
  unfold impl_LabelOk.f labelOk
  simpa using this
theorem Ev_some {α : Type} (x : α) : Ev (fun _ => some x) x := ⟨0, fun _ _ => rfl⟩
theorem Ev_ret {α : Type} {f : Nat → Option α} {x : α} (h : Ev f x) : Ev (fun k => (f k).bind fun t => some t) x := Ev.bind h (Ev_some x)
theorem Ev_c {α : Type} {o : Option α} {x : α} (h : o = some x) : Ev (fun _ => o) x := ⟨0, fun _ _ => h⟩
theorem and255 (y : Int) : 0 ≤ Go.bits .and .i64 y 255 ∧ Go.bits .and .i64 y 255 ≤ 255 := by
  have h : (BitVec.ofInt 64 y &&& BitVec.ofInt 64 255).toNat ≤ 255 := by
    rw [BitVec.toNat_and]
    exact Nat.le_trans Nat.and_le_right (by decide)
  have e : Go.bits .and .i64 y 255 = IntKind.i64.wrap ((BitVec.ofInt 64 y &&& BitVec.ofInt 64 255).toNat : Int) := rfl
  rw [e, Go.IntKind.wrap_i64]
  omega
/-- A place in a draw's bytes. -/
def CurOk (b : List Int) (i : Int) : Prop := 0 ≤ i ∧ i ≤ (b.length : Int)
/-- A draw that answers: what it draws is so, and the place stays one. -/
def Dr {α : Type} (b : List Int) (f : Option (α × Int × Int)) (P : α → Prop) : Prop := ∃ x j g, f = some (x, j, g) ∧ P x ∧ CurOk b j
theorem l1Byte_dr (b : List Int) (hn : b.length ≤ 140737488351232) (i h : Int) (c : CurOk b i) : Dr b (spec_l1Byte.f b i h) (fun x => 0 ≤ x ∧ x ≤ 255) := by
  unfold spec_l1Byte.f
  obtain ⟨c0, c1⟩ := c
  by_cases q : i < (b.length : Int)
  · rw [if_pos q, if_pos c0]
    have w : wrap64 (i + 1) = i + 1 := wrap_id (by omega) (by omega)
    refine ⟨_, _, _, rfl, and255 _, ?_⟩
    rw [w]
    exact ⟨by omega, by omega⟩
  · rw [if_neg q]
    exact ⟨_, _, _, rfl, and255 _, ⟨c0, c1⟩⟩
theorem tmod_rng (x n : Int) (hx : 0 ≤ x) (hn : 0 < n) : 0 ≤ Int.tmod x n ∧ Int.tmod x n < n := by
  rw [Int.tmod_eq_emod_of_nonneg hx]
  exact ⟨Int.emod_nonneg _ (by omega), Int.emod_lt_of_pos _ hn⟩
theorem l1Below_dr (b : List Int) (hn : b.length ≤ 140737488351232) (i h n : Int) (c : CurOk b i) : Dr b (spec_l1Below.f b i h n) (fun x => 0 ≤ x ∧ (0 < n → x < n) ∧ (n ≤ 0 → x = 0)) := by
  unfold spec_l1Below.f
  by_cases q : n ≤ 0
  · rw [if_pos q]
    exact ⟨_, _, _, rfl, ⟨Int.le_refl _, fun z => by omega, fun _ => rfl⟩, c⟩
  · rw [if_neg q]
    by_cases q2 : n ≤ 256
    · rw [if_pos q2]
      obtain ⟨x, j, g, e, p, c2⟩ := l1Byte_dr b hn i h c
      rw [e]
      simp only [Option.bind_some]
      rw [if_neg (by omega)]
      have t := tmod_rng x n p.1 (by omega)
      exact ⟨_, _, _, rfl, ⟨t.1, fun _ => t.2, fun z => by omega⟩, c2⟩
    · rw [if_neg q2]
      obtain ⟨x, j, g, e, p, c2⟩ := l1Byte_dr b hn i h c
      rw [e]
      simp only [Option.bind_some]
      obtain ⟨x2, j2, g2, e2, p2, c3⟩ := l1Byte_dr b hn j g c2
      rw [e2]
      simp only [Option.bind_some]
      obtain ⟨x3, j3, g3, e3, p3, c4⟩ := l1Byte_dr b hn j2 g2 c3
      rw [e3]
      simp only [Option.bind_some]
      rw [if_neg (by omega)]
      have w1 : wrap64 (x * 65536) = x * 65536 := wrap_id (by omega) (by omega)
      have w2 : wrap64 (x2 * 256) = x2 * 256 := wrap_id (by omega) (by omega)
      have w3 : wrap64 (x * 65536 + x2 * 256) = x * 65536 + x2 * 256 := wrap_id (by omega) (by omega)
      have w4 : wrap64 (x * 65536 + x2 * 256 + x3) = x * 65536 + x2 * 256 + x3 := wrap_id (by omega) (by omega)
      rw [w1, w2, w3, w4]
      have t := tmod_rng (x * 65536 + x2 * 256 + x3) n (by omega) (by omega)
      exact ⟨_, _, _, rfl, ⟨t.1, fun _ => t.2, fun z => by omega⟩, c4⟩
theorem l1Once_dr (b : List Int) (hn : b.length ≤ 140737488351232) (i h n : Int) (c : CurOk b i) : Dr b (spec_l1Once.f b i h n) (fun _ => True) := by
  unfold spec_l1Once.f
  obtain ⟨x, j, g, e, p, c2⟩ := l1Below_dr b hn i h n c
  rw [e]
  exact ⟨_, _, _, rfl, trivial, c2⟩
theorem l1Int_dr (b : List Int) (hn : b.length ≤ 140737488351232) (i h : Int) (l : List Int) (hl : 0 < l.length) (c : CurOk b i) : Dr b (spec_l1Int.f b i h l) (fun x => x ∈ l) := by
  unfold spec_l1Int.f
  obtain ⟨x, j, g, e, p, c2⟩ := l1Below_dr b hn i h (l.length : Int) c
  rw [e]
  simp only [Option.bind_some]
  have := p.2.1 (by omega)
  rw [if_pos p.1, if_pos this]
  exact ⟨_, _, _, rfl, rd_mem l x p.1 this, c2⟩
theorem rdS_mem (l : List ByteArray) (x : Int) (h0 : 0 ≤ x) (h : x < (l.length : Int)) : rdOf ByteArray.empty l x ∈ l := by
  obtain ⟨n, rfl⟩ := Int.eq_ofNat_of_zero_le h0
  rw [rdS_getElem l n (by omega)]
  exact List.getElem_mem _
theorem l1Str_dr (b : List Int) (hn : b.length ≤ 140737488351232) (i h : Int) (l : List ByteArray) (hl : 0 < l.length) (c : CurOk b i) : Dr b (spec_l1Str.f b i h l) (fun x => x ∈ l) := by
  unfold spec_l1Str.f
  obtain ⟨x, j, g, e, p, c2⟩ := l1Below_dr b hn i h (l.length : Int) c
  rw [e]
  simp only [Option.bind_some]
  have := p.2.1 (by omega)
  rw [if_pos p.1, if_pos this]
  exact ⟨_, _, _, rfl, rdS_mem l x p.1 this, c2⟩
def I64 (x : Int) : Prop := -9223372036854775808 ≤ x ∧ x ≤ 9223372036854775807
theorem i64_all (l : List Int) (h : l.all (fun x => decide (-9223372036854775808 ≤ x) && decide (x ≤ 9223372036854775807)) = true) : ∀ x ∈ l, I64 x := by
  intro x hx
  have := List.all_eq_true.1 h x hx
  rw [Bool.and_eq_true, decide_eq_true_eq, decide_eq_true_eq] at this
  exact this
theorem l1New_loop (l : List Int) (hn : l.length ≤ 140737488351232) : ∀ (d i : Nat) (h : Int), i + d = l.length → ∃ g, Ev (fun k => spec_l1New.l0 k l h (i : Int)) (l, 0, g) := by
  intro d
  induction d with
  | zero =>
    intro i h hi
    refine ⟨h, Ev.step (f := fun _ => some (l, 0, h)) (fun k => ?_) (Ev_some _)⟩
    simp only [spec_l1New.l0]
    rw [if_neg (by omega)]
  | succ d ih =>
    intro i h hi
    have w := wrap_succ i l.length (by omega) (by omega)
    by_cases q : i < 4000
    · obtain ⟨g, e⟩ := ih (i + 1) (Go.bits .and .i64 (wrap64 ((wrap64 ((wrap64 (h * 137)) + (wrap64 (rd l (i : Int))))) + 11)) 1073741823) (by omega)
      refine ⟨g, Ev.step (fun k => ?_) e⟩
      simp only [spec_l1New.l0]
      rw [if_pos (by omega), if_pos (by omega), if_pos (by omega), w]
    · refine ⟨h, Ev.step (f := fun _ => some (l, 0, h)) (fun k => ?_) (Ev_some _)⟩
      simp only [spec_l1New.l0]
      rw [if_pos (by omega), if_neg (by omega)]
theorem l1New_ev (l : List Int) (hn : l.length ≤ 140737488351232) : ∃ g, Ev (fun k => spec_l1New.f k l) (l, 0, g) := by
  unfold spec_l1New.f
  exact l1New_loop l hn l.length 0 _ (by omega)
theorem cur0 (l : List Int) : CurOk l 0 := ⟨Int.le_refl _, by omega⟩
theorem l1Bytes_loop (b : List Int) (hn : b.length ≤ 140737488351232) (n : Nat) (hN : n ≤ 1000000) : ∀ (d i : Nat) (acc : List Int) (j g : Int), i + d = n → acc.length = i → Bytes acc → CurOk b j →
    ∃ xs j' g', Ev (fun k => spec_l1Bytes.l0 k (n : Int) acc (i : Int) b j g) (xs, j', g') ∧ Bytes xs ∧ xs.length = n ∧ CurOk b j' := by
  intro d
  induction d with
  | zero =>
    intro i acc j g hi ha hb hc
    refine ⟨acc, j, g, Ev.step (f := fun _ => some (acc, j, g)) (fun k => ?_) (Ev_some _), hb, by omega, hc⟩
    simp only [spec_l1Bytes.l0]
    rw [if_neg (by omega)]
  | succ d ih =>
    intro i acc j g hi ha hb hc
    have w := wrap_succ i n (by omega) (by omega)
    obtain ⟨x, j2, g2, e, p, c2⟩ := l1Byte_dr b hn j g hc
    obtain ⟨xs, j', g', h1, h2⟩ := ih (i + 1) (acc ++ [x % 256]) j2 g2 (by omega) (by simp; omega) (hb.append (fun y hy => by rw [List.mem_singleton.1 hy]; omega)) c2
    refine ⟨xs, j', g', Ev.step (fun k => ?_) h1, h2⟩
    simp only [spec_l1Bytes.l0]
    rw [if_pos (by omega), e]
    simp only [Option.bind_some]
    rw [if_pos (by omega), w]
theorem l1Bytes_ev (b : List Int) (hn : b.length ≤ 140737488351232) (i h n : Int) (c : CurOk b i) (h0 : 0 ≤ n) (h1 : n ≤ 1000000) : ∃ xs j g, Ev (fun k => spec_l1Bytes.f k b i h n) (xs, j, g) ∧ Bytes xs ∧ (xs.length : Int) = n ∧ CurOk b j := by
  obtain ⟨m, rfl⟩ := Int.eq_ofNat_of_zero_le h0
  obtain ⟨xs, j, g, e, p, q, r⟩ := l1Bytes_loop b hn m (by omega) m 0 [] i h (by omega) rfl (fun x hx => by cases hx) c
  unfold spec_l1Bytes.f
  exact ⟨xs, j, g, e, p, by omega, r⟩
theorem same_loop (a : List Int) (hn : a.length ≤ 140737488351232) : ∀ (d i : Nat), i + d = a.length → Ev (fun k => laws_same.l0 k a a (i : Int)) true := by
  intro d
  induction d with
  | zero =>
    intro i hi
    refine Ev.step (f := fun _ => some true) (fun k => ?_) (Ev_some _)
    simp only [laws_same.l0]
    rw [if_neg (by omega)]
  | succ d ih =>
    intro i hi
    have w := wrap_succ i a.length (by omega) (by omega)
    refine Ev.step (fun k => ?_) (ih (i + 1) (by omega))
    simp only [laws_same.l0]
    rw [if_pos (by omega), if_pos (by omega), if_pos (by omega), if_pos trivial, w]
theorem same_eq (a : List Int) (hn : a.length ≤ 140737488351232) : Ev (fun k => laws_same.f k a a) true := by
  unfold laws_same.f
  exact Ev_if rfl (same_loop a hn a.length 0 (by omega))
theorem big_eq (l : List Int) : laws_big.f l = some (decide ((l.length : Int) > 1048576)) := by
  unfold laws_big.f
  rfl
theorem clone_bytes_eq (l : List Int) (h : l.length < 140737488355328) : slices_Clone_byte.f l = some l := by
  unfold slices_Clone_byte.f
  simp [h]
/-- What PutLabel returns. -/
def putLabel (l : List Int) (s : ByteArray) : List Int := if labelOk s = true then l ++ ((s.size : Int) :: bytesOf s) else l
theorem labelOk_size {s : ByteArray} (h : labelOk s = true) : 1 ≤ s.size ∧ s.size ≤ 12 := by
  unfold labelOk at h
  simp only [Bool.and_eq_true, decide_eq_true_eq] at h
  exact h.2
theorem putLabel_le (l : List Int) (s : ByteArray) : (putLabel l s).length ≤ l.length + 13 := by
  unfold putLabel
  split
  · rename_i h
    have := labelOk_size h
    rw [List.length_append, List.length_cons, bytesOf_length]
    omega
  · omega
theorem spec_PutLabel_eq (l : List Int) (hl : l.length ≤ 140737488351232) (s : ByteArray) (hs : s.size ≤ 140737488355328) : Ev (fun k => spec_PutLabel.f k l s) (putLabel l s) := by
  unfold spec_PutLabel.f putLabel
  simp only [Option.bind_some, List.length_nil, List.nil_append, Nat.zero_add]
  have h1 : l.length < 140737488355328 := by omega
  simp only [if_pos h1]
  refine Ev.bind (spec_LabelOk_eq s hs) ?_
  cases h : labelOk s with
  | true =>
    have hz := labelOk_size h
    refine ⟨0, fun _ _ => ?_⟩
    simp only [if_true, Option.bind_some]
    rw [if_pos (by rw [List.length_append]; simp; omega), List.append_assoc, show ((s.size : Int)) % 256 = (s.size : Int) by omega]
    rfl
  | false => exact ⟨0, fun _ _ => rfl⟩
theorem impl_PutLabel_eq (l : List Int) (hl : l.length ≤ 140737488351232) (s : ByteArray) (hs : s.size ≤ 140737488355328) : Ev (fun k => impl_PutLabel.f k l s) (putLabel l s) := by
  unfold impl_PutLabel.f putLabel
  simp only [clone_bytes_eq l (by omega), Option.bind_some]
  refine Ev.bind (impl_LabelOk_eq s hs) ?_
  have h1 : l.length < 140737488355328 := by omega
  cases h : labelOk s with
  | true =>
    have hz := labelOk_size h
    refine ⟨0, fun _ _ => ?_⟩
    simp only [if_true, if_pos h1, Option.bind_some]
    rw [if_pos (by rw [List.length_append]; simp; omega), List.append_assoc, show ((s.size : Int)) % 256 = (s.size : Int) by omega]
    rfl
  | false => exact ⟨0, fun _ _ => rfl⟩
/-- The folded bytes behind the length byte at i. -/
def labAt (l : List Int) (i : Int) : ByteArray := strOfNums (((l.drop (i.toNat + 1)).take (rd l i).toNat).map foldB)
/-- What GetLabel returns. -/
def getLabel (l : List Int) (i : Int) : ByteArray × Int × Bool :=
  if (0 ≤ i ∧ i < (l.length : Int) ∧ rd l i ≤ 12 ∧ rd l i < (l.length : Int) - i) ∧ labelOk (labAt l i) = true then (labAt l i, i + 1 + rd l i, true) else ((⟨#[]⟩ : ByteArray), 0, false)
theorem labelOk_empty : labelOk (⟨#[]⟩ : ByteArray) = false := by
  unfold labelOk
  simp [show (⟨#[]⟩ : ByteArray).size = 0 from rfl]
theorem cut_label (l : List Int) (i n : Int) (h0 : 0 ≤ i) (hn : 0 ≤ n) : (l.take ((i + 1 + n : Int)).toNat).drop ((i + 1 : Int)).toNat = (l.drop (i.toNat + 1)).take n.toNat := by
  rw [List.drop_take]
  have e1 : (i + 1).toNat = i.toNat + 1 := by omega
  have e2 : (i + 1 + n).toNat - (i + 1).toNat = n.toNat := by omega
  rw [e2, e1]
theorem fold_cut (l : List Int) (hb : Bytes l) (i : Int) : strOfNums ((bytesOf (strOfNums ((l.drop (i.toNat + 1)).take (rd l i).toNat))).map foldB) = labAt l i := by
  rw [bytesOf_strOfNums ((hb.drop _).take _)]
  rfl
theorem strOfNums_cut_size (l : List Int) (hn : l.length ≤ 140737488351232) (a b : Nat) : (strOfNums ((l.drop a).take b)).size ≤ 140737488355328 := by
  rw [strOfNums_size, List.length_take, List.length_drop]
  omega
theorem labAt_size (l : List Int) (hn : l.length ≤ 140737488351232) (i : Int) : (labAt l i).size ≤ 140737488355328 := by
  unfold labAt
  rw [strOfNums_size, List.length_map, List.length_take, List.length_drop]
  omega
theorem impl_GetLabel_eq (l : List Int) (hn : l.length ≤ 140737488351232) (hb : Bytes l) (i : Int) (hi : -9223372036854775808 ≤ i ∧ i ≤ 9223372036854775807) : Ev (fun k => impl_GetLabel.f k l i) (getLabel l i) := by
  have hr := rd_byte hb i
  have fail : ¬ ((0 ≤ i ∧ i < (l.length : Int) ∧ rd l i ≤ 12 ∧ rd l i < (l.length : Int) - i)) → Ev (fun k => impl_GetLabel.j0 k l i true) (getLabel l i) := by
    intro h
    refine Ev.step (f := fun _ => some ((⟨#[]⟩ : ByteArray), 0, false)) (fun k => ?_) ⟨0, fun _ _ => ?_⟩
    · simp only [impl_GetLabel.j0]
      rfl
    · unfold getLabel
      rw [if_neg (fun q => h q.1)]
  unfold impl_GetLabel.f
  by_cases h0 : i < 0
  · simp only [if_pos h0]
    exact fail (by omega)
  · simp only [if_neg h0]
    by_cases h1 : i ≥ (l.length : Int)
    · simp only [if_pos h1]
      exact fail (by omega)
    · have g0 : 0 ≤ i := by omega
      have g1 : i < (l.length : Int) := by omega
      simp only [if_neg h1, if_pos g0, if_pos g1]
      by_cases h2 : rd l i > 12
      · simp only [if_pos h2]
        exact fail (by omega)
      · simp only [if_neg h2, wrap_id (x := rd l i) (by omega) (by omega), wrap_id (x := (l.length : Int) - i) (by omega) (by omega)]
        by_cases h3 : rd l i ≥ (l.length : Int) - i
        · simp only [decide_eq_true h3]
          exact fail (by omega)
        · simp only [decide_eq_false h3]
          refine Ev.step (f := fun k => (impl_LabelOk.f k (labAt l i)).bind fun t => if t = true then some (labAt l i, i + 1 + rd l i, true) else some ((⟨#[]⟩ : ByteArray), 0, false)) (fun k => ?_) (Ev.bind (impl_LabelOk_eq (labAt l i) (labAt_size l hn i)) ?_)
          · simp only [impl_GetLabel.j0]
            rw [if_neg (by decide), if_pos g0, if_pos g1, wrap_id (x := i + 1) (by omega) (by omega), wrap_id (x := rd l i) (by omega) (by omega), wrap_id (x := i + 1 + rd l i) (by omega) (by omega), if_pos (by omega), if_pos (by omega), if_pos (by omega), cut_label l i (rd l i) g0 hr.1]
            unfold impl_Fold.f
            rw [if_pos (strOfNums_cut_size l hn _ _), fold_cut l hb i]
            rfl
          · refine ⟨0, fun _ _ => ?_⟩
            unfold getLabel
            cases h : labelOk (labAt l i) with
            | true =>
              rw [if_pos rfl, if_pos ⟨⟨g0, g1, by omega, by omega⟩, rfl⟩]
            | false =>
              rw [if_neg (by decide), if_neg (fun q => by cases q.2)]
theorem spec_GetLabel_eq (l : List Int) (hn : l.length ≤ 140737488351232) (hb : Bytes l) (i : Int) (hi : -9223372036854775808 ≤ i ∧ i ≤ 9223372036854775807) : Ev (fun k => spec_GetLabel.f k l i) (getLabel l i) := by
  have hr := rd_byte hb i
  have none1 : ∀ n, ¬ ((0 ≤ i ∧ i < (l.length : Int) ∧ rd l i ≤ 12 ∧ rd l i < (l.length : Int) - i) ∧ labelOk (labAt l i) = true) → Ev (fun k => spec_GetLabel.j1 k l i n true) (getLabel l i) := by
    intro n h
    refine Ev.step (f := fun _ => some ((⟨#[]⟩ : ByteArray), 0, false)) (fun k => ?_) ⟨0, fun _ _ => ?_⟩
    · simp only [spec_GetLabel.j1]
      rfl
    · unfold getLabel
      rw [if_neg h]
  have fail : ¬ (0 ≤ i ∧ i < (l.length : Int)) → Ev (fun k => spec_GetLabel.j0 k l i true) (getLabel l i) := by
    intro h
    refine Ev.step (f := fun _ => some ((⟨#[]⟩ : ByteArray), 0, false)) (fun k => ?_) ⟨0, fun _ _ => ?_⟩
    · simp only [spec_GetLabel.j0]
      rfl
    · unfold getLabel
      rw [if_neg (fun q => h ⟨q.1.1, q.1.2.1⟩)]
  unfold spec_GetLabel.f
  by_cases h0 : i < 0
  · simp only [if_pos h0]
    exact fail (by omega)
  · simp only [if_neg h0]
    by_cases h1 : i ≥ (l.length : Int)
    · simp only [decide_eq_true h1]
      exact fail (by omega)
    · have g0 : 0 ≤ i := by omega
      have g1 : i < (l.length : Int) := by omega
      simp only [decide_eq_false h1]
      refine Ev.step (f := fun k => if (decide (1 ≤ rd l i) && decide (rd l i ≤ 12)) = true then spec_GetLabel.j1 k l i (rd l i) (decide (rd l i > (l.length : Int) - i - 1)) else spec_GetLabel.j1 k l i (rd l i) true) (fun k => ?_) ?_
      · simp only [spec_GetLabel.j0]
        rw [if_neg (by decide), if_pos g0, if_pos g1, wrap_id (x := rd l i) (by omega) (by omega), wrap_id (x := (l.length : Int) - i) (by omega) (by omega), wrap_id (x := (l.length : Int) - i - 1) (by omega) (by omega), l1In_dec]
        rfl
      · by_cases h2 : 1 ≤ rd l i ∧ rd l i ≤ 12
        · have e2 : (decide (1 ≤ rd l i) && decide (rd l i ≤ 12)) = true := by simp [h2.1, h2.2]
          simp only [e2, if_true]
          by_cases h3 : rd l i > (l.length : Int) - i - 1
          · simp only [decide_eq_true h3]
            exact none1 _ (by omega)
          · simp only [decide_eq_false h3]
            refine Ev.step (f := fun k => (spec_LabelOk.f k (labAt l i)).bind fun t => if t = true then some (labAt l i, i + 1 + rd l i, true) else some ((⟨#[]⟩ : ByteArray), 0, false)) (fun k => ?_) (Ev.bind (spec_LabelOk_eq (labAt l i) (labAt_size l hn i)) ?_)
            · simp only [spec_GetLabel.j1]
              rw [if_neg (by decide), wrap_id (x := i + 1) (by omega) (by omega), wrap_id (x := i + 1 + rd l i) (by omega) (by omega), if_pos (by omega), if_pos (by omega), if_pos (by omega), cut_label l i (rd l i) g0 hr.1]
              unfold spec_Fold.f
              rw [if_pos (strOfNums_cut_size l hn _ _), fold_cut l hb i]
              rfl
            · refine ⟨0, fun _ _ => ?_⟩
              unfold getLabel
              cases h : labelOk (labAt l i) with
              | true =>
                rw [if_pos rfl, if_pos ⟨⟨g0, g1, by omega, by omega⟩, rfl⟩]
              | false =>
                rw [if_neg (by decide), if_neg (fun q => by cases q.2)]
        · have e2 : (decide (1 ≤ rd l i) && decide (rd l i ≤ 12)) = false := by
            rw [Bool.and_eq_false_iff, decide_eq_false_iff_not, decide_eq_false_iff_not]
            omega
          simp only [e2, if_neg (show ¬ (false = true) by decide)]
          refine none1 _ (fun q => ?_)
          have hz : rd l i = 0 := by omega
          have : labAt l i = (⟨#[]⟩ : ByteArray) := by
            unfold labAt
            rw [hz]
            rfl
          rw [this, labelOk_empty] at q
          cases q.2
/-- A label as bytes: its length, and itself. -/
def labW (x : ByteArray) : List Int := (x.size : Int) :: bytesOf x
theorem putLabel_ok (l : List Int) (x : ByteArray) (h : labelOk x = true) : putLabel l x = l ++ labW x := by
  unfold putLabel labW
  rw [if_pos h]
theorem bytes_nil : Bytes [] := fun x hx => by cases hx
theorem bytes_labW {x : ByteArray} (h : labelOk x = true) : Bytes (labW x) := by
  intro y hy
  have hs := labelOk_size h
  unfold labW at hy
  rcases List.mem_cons.1 hy with e | e
  · omega
  · exact bytes_bytesOf x y e
theorem rd_app (b l : List Int) (j : Nat) (i : Int) (h : i = (b.length : Int) + (j : Int)) : rd (b ++ l) i = rd l (j : Int) := by
  have e : i.toNat = b.length + j := by omega
  unfold rd
  rw [e, Int.toNat_natCast, List.getD_eq_getElem?_getD, List.getD_eq_getElem?_getD, List.getElem?_append_right (by omega)]
  congr 2
  omega
theorem foldB_ok {c : Int} (h : okB c = true) : foldB c = c := by
  unfold foldB
  have hk : (97 ≤ c ∧ c ≤ 122) ∨ (48 ≤ c ∧ c ≤ 57) ∨ c = 45 ∨ c = 95 := by simpa [okB, or_assoc] using h
  rw [if_neg (by omega)]
theorem fold_ok (s : ByteArray) (h : labelOk s = true) : strOfNums ((bytesOf s).map foldB) = s := by
  unfold labelOk at h
  rw [Bool.and_eq_true] at h
  have e : (bytesOf s).map foldB = bytesOf s := by
    conv => rhs; rw [← List.map_id (bytesOf s)]
    exact List.map_congr_left fun x hx => foldB_ok (List.all_eq_true.1 h.1 x hx)
  rw [e, strOfNums_bytesOf]
theorem foldB_foldB (c : Int) : foldB (foldB c) = foldB c := by
  unfold foldB
  by_cases h : 65 ≤ c ∧ c ≤ 90
  · rw [if_pos h, if_neg (by omega)]
  · rw [if_neg h, if_neg h]
/-- A label that stands at the place i is read there. -/
theorem rt_label (b : List Int) (s : ByteArray) (rest : List Int) (h : labelOk s = true) : getLabel (b ++ (labW s ++ rest)) (b.length : Int) = (s, (b.length : Int) + 1 + (s.size : Int), true) := by
  have hs := labelOk_size h
  have hl := bytesOf_length s
  have e0 := rd_app b (labW s ++ rest) 0 (b.length : Int) (by omega)
  have d0 : rd (labW s ++ rest) ((0 : Nat) : Int) = (s.size : Int) := rfl
  have la : labAt (b ++ (labW s ++ rest)) (b.length : Int) = s := by
    unfold labAt
    rw [e0, d0, Int.toNat_natCast, Int.toNat_natCast]
    have e : (b ++ (labW s ++ rest)).drop (b.length + 1) = bytesOf s ++ rest := by
      rw [List.drop_append, List.drop_of_length_le (by omega)]
      simp [labW]
    rw [e, List.take_append_of_le_length (by omega), List.take_of_length_le (by omega)]
    exact fold_ok s h
  unfold getLabel
  have hc : (0 ≤ (b.length : Int) ∧ (b.length : Int) < ((b ++ (labW s ++ rest)).length : Int) ∧ rd (b ++ (labW s ++ rest)) (b.length : Int) ≤ 12 ∧ rd (b ++ (labW s ++ rest)) (b.length : Int) < ((b ++ (labW s ++ rest)).length : Int) - (b.length : Int)) ∧ labelOk (labAt (b ++ (labW s ++ rest)) (b.length : Int)) = true := by
    rw [e0, d0, la]
    have hlen : (b ++ (labW s ++ rest)).length = b.length + (1 + s.size + rest.length) := by simp [labW, hl]; omega
    rw [hlen]
    exact ⟨⟨by omega, by omega, by omega, by omega⟩, h⟩
  rw [if_pos hc, la, e0, d0]
theorem small_all (l : List ByteArray) (n : Nat) (h : l.all (fun x => decide (x.size ≤ n)) = true) : ∀ x ∈ l, x.size ≤ n := by
  intro x hx
  have := List.all_eq_true.1 h x hx
  rwa [decide_eq_true_eq] at this
theorem l2Label_dr (b : List Int) (hn : b.length ≤ 140737488351232) (i h : Int) (c : CurOk b i) : Dr b (spec_l2Label.f b i h) (fun s => s.size ≤ 20) := by
  unfold spec_l2Label.f
  obtain ⟨x, j, g, e, p, c2⟩ := l1Str_dr b hn i h [(⟨#[97]⟩ : ByteArray), (⟨#[98]⟩ : ByteArray), (⟨#[99]⟩ : ByteArray), (⟨#[119, 119, 119]⟩ : ByteArray), (⟨#[110, 115]⟩ : ByteArray), (⟨#[110, 115, 49]⟩ : ByteArray), (⟨#[99, 111, 109]⟩ : ByteArray), (⟨#[111, 114, 103]⟩ : ByteArray), (⟨#[101, 120]⟩ : ByteArray), (⟨#[116, 119, 101, 108, 118, 101, 98, 121, 116, 101, 115, 48]⟩ : ByteArray), (⟨#[120, 45, 121]⟩ : ByteArray), (⟨#[95, 116]⟩ : ByteArray)] (by simp) c
  rw [e]
  exact ⟨_, _, _, rfl, small_all _ 20 (by decide) x p, c2⟩
theorem l2Any_dr (b : List Int) (hn : b.length ≤ 140737488351232) (i h : Int) (c : CurOk b i) : Dr b (spec_l2Any.f b i h) (fun s => s.size ≤ 20) := by
  unfold spec_l2Any.f
  obtain ⟨x, j, g, e, p, c2⟩ := l1Once_dr b hn i h 4 c
  rw [e]
  simp only [Option.bind_some]
  by_cases q : x = true
  · rw [if_pos q]
    obtain ⟨y, j2, g2, e2, p2, c3⟩ := l1Str_dr b hn j g [(⟨#[]⟩ : ByteArray), (⟨#[65]⟩ : ByteArray), (⟨#[87, 119, 119]⟩ : ByteArray), (⟨#[116, 104, 105, 114, 116, 101, 101, 110, 98, 121, 116, 101, 115]⟩ : ByteArray), (⟨#[97, 32, 98]⟩ : ByteArray), (⟨#[97, 46, 98]⟩ : ByteArray), (⟨#[0]⟩ : ByteArray), (⟨#[123]⟩ : ByteArray), (⟨#[64]⟩ : ByteArray)] (by simp) c2
    rw [e2]
    exact ⟨_, _, _, rfl, small_all _ 20 (by decide) y p2, c3⟩
  · rw [if_neg q]
    obtain ⟨y, j2, g2, e2, p2, c3⟩ := l2Label_dr b hn j g c2
    rw [e2]
    exact ⟨_, _, _, rfl, p2, c3⟩
theorem bytes_set {l : List Int} (h : Bytes l) (i : Nat) (v : Int) (hv : 0 ≤ v ∧ v ≤ 255) : Bytes (l.set i v) := by
  intro x hx
  rcases List.mem_or_eq_of_mem_set hx with q | q
  · exact h x q
  · rw [q]
    exact hv
theorem xor8_rng (x y : Int) : 0 ≤ Go.bits .xor .u8 x y ∧ Go.bits .xor .u8 x y ≤ 255 := by
  have h := (BitVec.ofInt 8 x ^^^ BitVec.ofInt 8 y).isLt
  have e : Go.bits .xor .u8 x y = IntKind.u8.wrap ((BitVec.ofInt 8 x ^^^ BitVec.ofInt 8 y).toNat : Int) := rfl
  rw [e, Go.IntKind.wrap_u8]
  omega
theorem l1Bent_dr (b : List Int) (hn : b.length ≤ 140737488351232) (i h : Int) (l : List Int) (hl : l.length ≤ 1000000) (hb : Bytes l) (c : CurOk b i) : Dr b (spec_l1Bent.f b i h l) (fun r => Bytes r ∧ r.length ≤ l.length + 1) := by
  unfold spec_l1Bent.f
  simp only [Option.bind_some, List.length_nil, List.nil_append, Nat.zero_add]
  rw [if_pos (by omega)]
  obtain ⟨x, j, g, e, p, c2⟩ := l1Below_dr b hn i h 7 c
  rw [e]
  simp only [Option.bind_some]
  by_cases q0 : x = 0
  · rw [if_pos q0]
    by_cases z : (l.length : Int) > 0
    · rw [if_pos z]
      obtain ⟨y, j2, g2, e2, p2, c3⟩ := l1Below_dr b hn j g (l.length : Int) c2
      rw [e2]
      simp only [Option.bind_some]
      obtain ⟨v, j3, g3, e3, p3, c4⟩ := l1Below_dr b hn j2 g2 256 c3
      rw [e3]
      simp only [Option.bind_some]
      rw [if_pos p2.1, if_pos (p2.2.1 (by omega))]
      exact ⟨_, _, _, rfl, ⟨bytes_set hb _ _ (by omega), by rw [List.length_set]; omega⟩, c4⟩
    · rw [if_neg z]
      exact ⟨_, _, _, rfl, ⟨hb, by omega⟩, c2⟩
  · rw [if_neg q0]
    by_cases q1 : x = 1
    · rw [if_pos q1, wrap_id (x := (l.length : Int) + 1) (by omega) (by omega)]
      obtain ⟨y, j2, g2, e2, p2, c3⟩ := l1Below_dr b hn j g ((l.length : Int) + 1) c2
      rw [e2]
      simp only [Option.bind_some]
      have := p2.2.1 (by omega)
      rw [if_pos p2.1, if_pos (by omega)]
      exact ⟨_, _, _, rfl, ⟨hb.take _, by rw [List.length_take]; omega⟩, c3⟩
    · rw [if_neg q1]
      by_cases q2 : x = 2
      · rw [if_pos q2]
        obtain ⟨y, j2, g2, e2, p2, c3⟩ := l1Int_dr b hn j g [0, 1, 192, 255] (by decide) c2
        rw [e2]
        simp only [Option.bind_some]
        rw [if_pos (by omega)]
        exact ⟨_, _, _, rfl, ⟨hb.append (fun v hv => by rw [List.mem_singleton.1 hv]; omega), by simp⟩, c3⟩
      · rw [if_neg q2]
        by_cases q3 : x = 3
        · rw [if_pos q3]
          by_cases z : (l.length : Int) > 0
          · rw [if_pos z]
            obtain ⟨y, j2, g2, e2, p2, c3⟩ := l1Below_dr b hn j g (l.length : Int) c2
            rw [e2]
            simp only [Option.bind_some]
            rw [if_pos p2.1, if_pos (p2.2.1 (by omega))]
            obtain ⟨v, j3, g3, e3, p3, c4⟩ := l1Below_dr b hn j2 g2 8 c3
            rw [e3]
            simp only [Option.bind_some]
            rw [if_pos p3.1]
            exact ⟨_, _, _, rfl, ⟨bytes_set hb _ _ (xor8_rng _ _), by rw [List.length_set]; omega⟩, c4⟩
          · rw [if_neg z]
            exact ⟨_, _, _, rfl, ⟨hb, by omega⟩, c2⟩
        · rw [if_neg q3]
          exact ⟨_, _, _, rfl, ⟨hb, by omega⟩, c2⟩
theorem bytes_putLabel {l : List Int} (hb : Bytes l) (s : ByteArray) : Bytes (putLabel l s) := by
  unfold putLabel
  split
  · rename_i h
    exact hb.append (bytes_labW h)
  · exact hb
theorem drawPutLabel_ev (l : List Int) (hn : l.length ≤ 140737488351232) : ∃ b s, Ev (fun k => spec_DrawPutLabel.f k l) (b, s) ∧ Bytes b ∧ b.length ≤ 3 ∧ s.size ≤ 20 := by
  unfold spec_DrawPutLabel.f
  obtain ⟨g, e0⟩ := l1New_ev l hn
  obtain ⟨x, j1, g1, e1, p1, c1⟩ := l1Below_dr l hn 0 g 3 (cur0 l)
  have q1 := p1.2.1 (by omega)
  obtain ⟨xs, j2, g2, e2, p2, q2, c2⟩ := l1Bytes_ev l hn j1 g1 x c1 p1.1 (by omega)
  obtain ⟨s, j3, g3, e3, p3, c3⟩ := l2Any_dr l hn j2 g2 c2
  exact ⟨xs, s, Ev.bind e0 (Ev.bind (Ev_c e1) (Ev.bind e2 (Ev.bind (Ev_c e3) (Ev_some _)))), p2, by omega, p3⟩
theorem drawGetLabel_ev (l : List Int) (hn : l.length ≤ 140737488351232) : ∃ b i, Ev (fun k => spec_DrawGetLabel.f k l) (b, i) ∧ Bytes b ∧ b.length ≤ 100 ∧ I64 i := by
  unfold spec_DrawGetLabel.f
  obtain ⟨g, e0⟩ := l1New_ev l hn
  obtain ⟨s, j1, g1, e1, p1, c1⟩ := l2Label_dr l hn 0 g (cur0 l)
  have pl := putLabel_le [] s
  simp only [List.length_nil] at pl
  have pb := bytes_putLabel bytes_nil s
  obtain ⟨x, j2, g2, e2, _, c2⟩ := l1Once_dr l hn j1 g1 3 c1
  have key : ∀ d : Bool, (d = true → 1 < (putLabel [] s).length) → ∃ b i, Ev (fun k => spec_DrawGetLabel.j0 k (putLabel [] s) d l j2 g2) (b, i) ∧ Bytes b ∧ b.length ≤ 100 ∧ I64 i := by
    intro d hd
    cases d with
    | true =>
      have h1 := hd rfl
      obtain ⟨y, j3, g3, e3, p3, c3⟩ := l1Int_dr l hn j2 g2 [65, 90, 91, 32, 46] (by decide) c2
      obtain ⟨z, j4, g4, e4, p4, c4⟩ := l1Bent_dr l hn j3 g3 ((putLabel [] s).set (1 : Int).toNat (y % 256)) (by rw [List.length_set]; omega) (bytes_set pb _ _ (by omega)) c3
      obtain ⟨i, j5, g5, e5, p5, c5⟩ := l1Int_dr l hn j4 g4 [0, 0, 0, 0, 1, (-1), 20] (by decide) c4
      refine ⟨z, i, Ev.step (f := fun _ => some (z, i)) (fun k => ?_) (Ev_some _), p4.1, by have := p4.2; rw [List.length_set] at this; omega, i64_all _ (by decide) i p5⟩
      simp only [spec_DrawGetLabel.j0, if_true]
      rw [e3]
      simp only [Option.bind_some]
      rw [if_pos (by omega), e4]
      simp only [Option.bind_some]
      rw [e5]
      rfl
    | false =>
      obtain ⟨z, j4, g4, e4, p4, c4⟩ := l1Bent_dr l hn j2 g2 (putLabel [] s) (by omega) pb c2
      obtain ⟨i, j5, g5, e5, p5, c5⟩ := l1Int_dr l hn j4 g4 [0, 0, 0, 0, 1, (-1), 20] (by decide) c4
      refine ⟨z, i, Ev.step (f := fun _ => some (z, i)) (fun k => ?_) (Ev_some _), p4.1, by have := p4.2; omega, i64_all _ (by decide) i p5⟩
      simp only [spec_DrawGetLabel.j0]
      rw [if_neg (by decide), e4]
      simp only [Option.bind_some]
      rw [e5]
      rfl
  have sp := spec_PutLabel_eq [] (by simp) s (by omega)
  by_cases q : x = true
  · obtain ⟨b, i, e, r⟩ := key (decide (((putLabel [] s).length : Int) > 1)) (fun z => by rw [decide_eq_true_eq] at z; omega)
    exact ⟨b, i, Ev.bind e0 (Ev.bind (Ev_c e1) (Ev.bind sp (Ev.bind (Ev_c e2) (Ev_if q e)))), r⟩
  · obtain ⟨b, i, e, r⟩ := key false (fun z => by cases z)
    exact ⟨b, i, Ev.bind e0 (Ev.bind (Ev_c e1) (Ev.bind sp (Ev.bind (Ev_c e2) (Ev_ifn q e)))), r⟩
theorem drawFold_ev (l : List Int) (hn : l.length ≤ 140737488351232) : ∃ s, Ev (fun k => spec_DrawFold.f k l) s ∧ s.size ≤ 20 := by
  unfold spec_DrawFold.f
  obtain ⟨g, e0⟩ := l1New_ev l hn
  obtain ⟨y, j2, g2, e2, p2, c2⟩ := l1Str_dr l hn 0 g [(⟨#[]⟩ : ByteArray), (⟨#[65]⟩ : ByteArray), (⟨#[87, 119, 87, 46, 69, 120]⟩ : ByteArray), (⟨#[91]⟩ : ByteArray), (⟨#[64]⟩ : ByteArray), (⟨#[90, 123]⟩ : ByteArray), (⟨#[97, 98, 99]⟩ : ByteArray), (⟨#[195, 128, 90]⟩ : ByteArray)] (by simp) (cur0 l)
  exact ⟨y, Ev.bind e0 (Ev.bind (Ev_c e2) (Ev_some _)), small_all _ 20 (by decide) y p2⟩
/-- A string, folded. -/
def foldS (s : ByteArray) : ByteArray := strOfNums ((bytesOf s).map X.foldB)
theorem foldS_size (s : ByteArray) : (foldS s).size = s.size := by
  unfold foldS
  rw [strOfNums_size, List.length_map, bytesOf_length]
theorem foldS_foldS (s : ByteArray) : foldS (foldS s) = foldS s := by
  unfold foldS
  rw [bytesOf_strOfNums (bytes_map_foldB (bytes_bytesOf s)), List.map_map]
  congr 1
  exact List.map_congr_left fun x _ => foldB_foldB x
theorem fold_both (s : ByteArray) (h : s.size ≤ 140737488355328) : impl_Fold.f s = some (foldS s) ∧ spec_Fold.f s = some (foldS s) := by
  unfold impl_Fold.f spec_Fold.f foldS
  exact ⟨if_pos h, if_pos h⟩
theorem getLabel_good {b : List Int} (hb : Bytes b) {i : Int} (h : (getLabel b i).2.2 = true) :
    labelOk (getLabel b i).1 = true ∧ (getLabel b i).2.1 = i + 1 + rd b i ∧ 1 ≤ rd b i ∧ rd b i ≤ 12 ∧ rd b i < (b.length : Int) - i ∧ 1 ≤ (getLabel b i).1.size ∧ (getLabel b i).1.size ≤ 12 := by
  have hr := rd_byte hb i
  unfold getLabel at h ⊢
  split at h
  · rename_i c
    rw [if_pos c]
    obtain ⟨⟨c1, c2, c3, c4⟩, c5⟩ := c
    have hs := labelOk_size c5
    refine ⟨c5, rfl, ?_, c3, c4, hs⟩
    have e : (labAt b i).size = (rd b i).toNat := by
      unfold labAt
      rw [strOfNums_size, List.length_map, List.length_take, List.length_drop]
      omega
    omega
  · cases h

end Go.Proofs.Ytdigilidomimdaa.Lem
