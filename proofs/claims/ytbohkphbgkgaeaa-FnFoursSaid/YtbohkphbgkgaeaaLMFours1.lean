/- Lemmas on the printed functions, of this session. -/
import Derived.Test.YtbohkphbgkgaeaaY
import Derived.Test.YtbohkphbgkgaeaaPrx0
import Derived.Test.YtbohkphbgkgaeaaPrx1
import Derived.Test.YtbohkphbgkgaeaaPrx2
import Derived.Test.YtbohkphbgkgaeaaPrx3
import Derived.Test.YtbohkphbgkgaeaaPrx4
import Derived.Test.YtbohkphbgkgaeaaPrx9
namespace Go.Proofs.Ytbohkphbgkgaeaa.Lem
open Go.RowKit Go.Proofs.Ytbohkphbgkgaeaa.Pr Go.Proofs.Ytbohkphbgkgaeaa.X Go.Proofs.Ytbohkphbgkgaeaa.Y Go.Proofs.YtbohkphbgkgaeaaW.PrintWords Go.Proofs.YtbohkphbgkgaeaaW.PrintLast Go.Proofs.YtbohkphbgkgaeaaW.PrintMore
set_option linter.unusedVariables false
set_option linter.unusedSimpArgs false
theorem Ev_if {α : Type} {c : Prop} [Decidable c] {f g : Nat → Option α} {x : α} (h : c) (h1 : Ev f x) : Ev (fun k => if c then f k else g k) x := by
  simp only [if_pos h]
  exact h1
theorem Ev_ifn {α : Type} {c : Prop} [Decidable c] {f g : Nat → Option α} {x : α} (h : ¬ c) (h1 : Ev g x) : Ev (fun k => if c then f k else g k) x := by
  simp only [if_neg h]
  exact h1
theorem l1In_dec (a b c : Int) : spec_l1In.f a b c = some (decide (b ≤ a) && decide (a ≤ c)) := by
  unfold spec_l1In.f
  by_cases h : a ≥ b
  · rw [if_pos h]
    have h' : b ≤ a := h
    simp [h']
  · rw [if_neg h]
    have h' : ¬ b ≤ a := h
    simp [h']
theorem Ev_some {α : Type} (x : α) : Ev (fun _ => some x) x := ⟨0, fun _ _ => rfl⟩
theorem Ev_ret {α : Type} {f : Nat → Option α} {x : α} (h : Ev f x) : Ev (fun k => (f k).bind fun t => some t) x := Ev.bind h (Ev_some x)
theorem Ev_c {α : Type} {o : Option α} {x : α} (h : o = some x) : Ev (fun _ => o) x := ⟨0, fun _ _ => h⟩
theorem and255 (y : Int) : 0 ≤ Go.bits .and .i64 y 255 ∧ Go.bits .and .i64 y 255 ≤ 255 := by
  have h : (BitVec.ofInt 64 y &&& BitVec.ofInt 64 255).toNat ≤ 255 := by
    rw [BitVec.toNat_and]
    exact Nat.le_trans Nat.and_le_right (by decide)
  have e : Go.bits .and .i64 y 255 = IntKind.i64.wrap ((BitVec.ofInt 64 y &&& BitVec.ofInt 64 255).toNat : Int) := rfl
  rw [e, Go.IntKind.wrap_i64]
  omega
/-- A place in a draw's bytes. -/
def CurOk (b : List Int) (i : Int) : Prop := 0 ≤ i ∧ i ≤ (b.length : Int)
/-- A draw that answers: what it draws is so, and the place stays one. -/
def Dr {α : Type} (b : List Int) (f : Option (α × Int × Int)) (P : α → Prop) : Prop := ∃ x j g, f = some (x, j, g) ∧ P x ∧ CurOk b j
theorem l1Byte_dr (b : List Int) (hn : b.length ≤ 140737488351232) (i h : Int) (c : CurOk b i) : Dr b (spec_l1Byte.f b i h) (fun x => 0 ≤ x ∧ x ≤ 255) := by
  unfold spec_l1Byte.f
  obtain ⟨c0, c1⟩ := c
  by_cases q : i < (b.length : Int)
  · rw [if_pos q, if_pos c0]
    have w : wrap64 (i + 1) = i + 1 := wrap_id (by omega) (by omega)
    refine ⟨_, _, _, rfl, and255 _, ?_⟩
    rw [w]
    exact ⟨by omega, by omega⟩
  · rw [if_neg q]
    exact ⟨_, _, _, rfl, and255 _, ⟨c0, c1⟩⟩
theorem tmod_rng (x n : Int) (hx : 0 ≤ x) (hn : 0 < n) : 0 ≤ Int.tmod x n ∧ Int.tmod x n < n := by
  rw [Int.tmod_eq_emod_of_nonneg hx]
  exact ⟨Int.emod_nonneg _ (by omega), Int.emod_lt_of_pos _ hn⟩
theorem l1Below_dr (b : List Int) (hn : b.length ≤ 140737488351232) (i h n : Int) (c : CurOk b i) : Dr b (spec_l1Below.f b i h n) (fun x => 0 ≤ x ∧ (0 < n → x < n) ∧ (n ≤ 0 → x = 0)) := by
  unfold spec_l1Below.f
  by_cases q : n ≤ 0
  · rw [if_pos q]
    exact ⟨_, _, _, rfl, ⟨Int.le_refl _, fun z => by omega, fun _ => rfl⟩, c⟩
  · rw [if_neg q]
    by_cases q2 : n ≤ 256
    · rw [if_pos q2]
      obtain ⟨x, j, g, e, p, c2⟩ := l1Byte_dr b hn i h c
      rw [e]
      simp only [Option.bind_some]
      rw [if_neg (by omega)]
      have t := tmod_rng x n p.1 (by omega)
      exact ⟨_, _, _, rfl, ⟨t.1, fun _ => t.2, fun z => by omega⟩, c2⟩
    · rw [if_neg q2]
      obtain ⟨x, j, g, e, p, c2⟩ := l1Byte_dr b hn i h c
      rw [e]
      simp only [Option.bind_some]
      obtain ⟨x2, j2, g2, e2, p2, c3⟩ := l1Byte_dr b hn j g c2
      rw [e2]
      simp only [Option.bind_some]
      obtain ⟨x3, j3, g3, e3, p3, c4⟩ := l1Byte_dr b hn j2 g2 c3
      rw [e3]
      simp only [Option.bind_some]
      rw [if_neg (by omega)]
      have w1 : wrap64 (x * 65536) = x * 65536 := wrap_id (by omega) (by omega)
      have w2 : wrap64 (x2 * 256) = x2 * 256 := wrap_id (by omega) (by omega)
      have w3 : wrap64 (x * 65536 + x2 * 256) = x * 65536 + x2 * 256 := wrap_id (by omega) (by omega)
      have w4 : wrap64 (x * 65536 + x2 * 256 + x3) = x * 65536 + x2 * 256 + x3 := wrap_id (by omega) (by omega)
      rw [w1, w2, w3, w4]
      have t := tmod_rng (x * 65536 + x2 * 256 + x3) n (by omega) (by omega)
      exact ⟨_, _, _, rfl, ⟨t.1, fun _ => t.2, fun z => by omega⟩, c4⟩
theorem l1Once_dr (b : List Int) (hn : b.length ≤ 140737488351232) (i h n : Int) (c : CurOk b i) : Dr b (spec_l1Once.f b i h n) (fun _ => True) := by
  unfold spec_l1Once.f
  obtain ⟨x, j, g, e, p, c2⟩ := l1Below_dr b hn i h n c
  rw [e]
  exact ⟨_, _, _, rfl, trivial, c2⟩
theorem l1Int_dr (b : List Int) (hn : b.length ≤ 140737488351232) (i h : Int) (l : List Int) (hl : 0 < l.length) (c : CurOk b i) : Dr b (spec_l1Int.f b i h l) (fun x => x ∈ l) := by
  unfold spec_l1Int.f
  obtain ⟨x, j, g, e, p, c2⟩ := l1Below_dr b hn i h (l.length : Int) c
  rw [e]
  simp only [Option.bind_some]
  have := p.2.1 (by omega)
  rw [if_pos p.1, if_pos this]
  exact ⟨_, _, _, rfl, rd_mem l x p.1 this, c2⟩
def I64 (x : Int) : Prop := -9223372036854775808 ≤ x ∧ x ≤ 9223372036854775807
theorem i64_all (l : List Int) (h : l.all (fun x => decide (-9223372036854775808 ≤ x) && decide (x ≤ 9223372036854775807)) = true) : ∀ x ∈ l, I64 x := by
  intro x hx
  have := List.all_eq_true.1 h x hx
  rw [Bool.and_eq_true, decide_eq_true_eq, decide_eq_true_eq] at this
  exact this
theorem l1Odd_dr (b : List Int) (hn : b.length ≤ 140737488351232) (i h : Int) (c : CurOk b i) : Dr b (spec_l1Odd.f b i h) I64 := by
  unfold spec_l1Odd.f
  obtain ⟨x, j, g, e, p, c2⟩ := l1Int_dr b hn i h [(-1), 0, 1, 2, 255, 256, 65535, 2147483647, 2147483648, 4294967295, 4294967296, (-2147483648), 9223372036854775807, (-9223372036854775808)] (by decide) c
  rw [e]
  exact ⟨_, _, _, rfl, i64_all _ (by decide) x p, c2⟩
theorem l1Raw_dr (b : List Int) (hn : b.length ≤ 140737488351232) (i h : Int) (c : CurOk b i) : Dr b (spec_l1Raw.f b i h) I64 := by
  unfold spec_l1Raw.f
  obtain ⟨x, j, g, e, p, c2⟩ := l1Once_dr b hn i h 2 c
  rw [e]
  simp only [Option.bind_some]
  by_cases q : x = true
  · rw [if_pos q]
    obtain ⟨y, j2, g2, e2, p2, c3⟩ := l1Odd_dr b hn j g c2
    rw [e2]
    exact ⟨_, _, _, rfl, p2, c3⟩
  · rw [if_neg q]
    obtain ⟨y, j2, g2, e2, p2, c3⟩ := l1Int_dr b hn j g [(-1), 65535, 65536, 2147483647, 2147483648] (by decide) c2
    rw [e2]
    exact ⟨_, _, _, rfl, i64_all _ (by decide) y p2, c3⟩
def Num31 (x : Int) : Prop := 0 ≤ x ∧ x ≤ 2147483647
theorem l1Num_dr (b : List Int) (hn : b.length ≤ 140737488351232) (i h : Int) (c : CurOk b i) : Dr b (spec_l1Num.f b i h) Num31 := by
  unfold spec_l1Num.f
  obtain ⟨x, j, g, e, p, c2⟩ := l1Below_dr b hn i h 4 c
  rw [e]
  simp only [Option.bind_some]
  by_cases q0 : x = 0
  · rw [if_pos q0]
    obtain ⟨y, j2, g2, e2, p2, c3⟩ := l1Below_dr b hn j g 70000 c2
    rw [e2]
    have := p2.2.1 (by omega)
    exact ⟨_, _, _, rfl, ⟨p2.1, by omega⟩, c3⟩
  · rw [if_neg q0]
    by_cases q1 : x = 1
    · rw [if_pos q1]
      obtain ⟨y, j2, g2, e2, p2, c3⟩ := l1Int_dr b hn j g [0, 1, 255, 256, 65535, 65536, 2147483647] (by decide) c2
      rw [e2]
      refine ⟨_, _, _, rfl, ?_, c3⟩
      simp only [List.mem_cons, List.not_mem_nil, or_false] at p2
      unfold Num31
      show 0 ≤ y ∧ y ≤ 2147483647
      omega
    · rw [if_neg q1]
      by_cases q2 : x = 2
      · rw [if_pos q2]
        obtain ⟨y, j2, g2, e2, p2, c3⟩ := l1Below_dr b hn j g 40000 c2
        rw [e2]
        simp only [Option.bind_some]
        obtain ⟨z, j3, g3, e3, p3, c4⟩ := l1Below_dr b hn j2 g2 50000 c3
        rw [e3]
        simp only [Option.bind_some]
        have h1 := p2.2.1 (by omega)
        have h2 := p3.2.1 (by omega)
        have h3 : 0 ≤ y * z := Int.mul_nonneg p2.1 p3.1
        have h4 : y * z ≤ 40000 * 50000 := Int.mul_le_mul (by omega) (by omega) p3.1 (by omega)
        have w : wrap64 (y * z) = y * z := wrap_id (by omega) (by omega)
        refine ⟨_, _, _, rfl, ?_, c4⟩
        rw [w]
        exact ⟨h3, by omega⟩
      · rw [if_neg q2]
        obtain ⟨y, j2, g2, e2, p2, c3⟩ := l1Below_dr b hn j g 20 c2
        rw [e2]
        have := p2.2.1 (by omega)
        exact ⟨_, _, _, rfl, ⟨p2.1, by omega⟩, c3⟩
theorem l1One_dr (b : List Int) (hn : b.length ≤ 140737488351232) (i h : Int) (c : CurOk b i) : Dr b (spec_l1One.f b i h) I64 := by
  unfold spec_l1One.f
  obtain ⟨x, j, g, e, p, c2⟩ := l1Once_dr b hn i h 6 c
  rw [e]
  simp only [Option.bind_some]
  by_cases q : x = true
  · rw [if_pos q]
    obtain ⟨y, j2, g2, e2, p2, c3⟩ := l1Raw_dr b hn j g c2
    rw [e2]
    exact ⟨_, _, _, rfl, p2, c3⟩
  · rw [if_neg q]
    obtain ⟨y, j2, g2, e2, p2, c3⟩ := l1Num_dr b hn j g c2
    rw [e2]
    exact ⟨_, _, _, rfl, ⟨by have := p2.1; show (-9223372036854775808 : Int) ≤ y; omega, by have := p2.2; show y ≤ 9223372036854775807; omega⟩, c3⟩
theorem l1New_loop (l : List Int) (hn : l.length ≤ 140737488351232) : ∀ (d i : Nat) (h : Int), i + d = l.length → ∃ g, Ev (fun k => spec_l1New.l0 k l h (i : Int)) (l, 0, g) := by
  intro d
  induction d with
  | zero =>
    intro i h hi
    refine ⟨h, Ev.step (f := fun _ => some (l, 0, h)) (fun k => ?_) (Ev_some _)⟩
    simp only [spec_l1New.l0]
    rw [if_neg (by omega)]
  | succ d ih =>
    intro i h hi
    have w := wrap_succ i l.length (by omega) (by omega)
    by_cases q : i < 4000
    · obtain ⟨g, e⟩ := ih (i + 1) (Go.bits .and .i64 (wrap64 ((wrap64 ((wrap64 (h * 137)) + (wrap64 (rd l (i : Int))))) + 11)) 1073741823) (by omega)
      refine ⟨g, Ev.step (fun k => ?_) e⟩
      simp only [spec_l1New.l0]
      rw [if_pos (by omega), if_pos (by omega), if_pos (by omega), w]
    · refine ⟨h, Ev.step (f := fun _ => some (l, 0, h)) (fun k => ?_) (Ev_some _)⟩
      simp only [spec_l1New.l0]
      rw [if_pos (by omega), if_neg (by omega)]
theorem l1New_ev (l : List Int) (hn : l.length ≤ 140737488351232) : ∃ g, Ev (fun k => spec_l1New.f k l) (l, 0, g) := by
  unfold spec_l1New.f
  exact l1New_loop l hn l.length 0 _ (by omega)
theorem cur0 (l : List Int) : CurOk l 0 := ⟨Int.le_refl _, by omega⟩
theorem l1Bytes_loop (b : List Int) (hn : b.length ≤ 140737488351232) (n : Nat) (hN : n ≤ 1000000) : ∀ (d i : Nat) (acc : List Int) (j g : Int), i + d = n → acc.length = i → Bytes acc → CurOk b j →
    ∃ xs j' g', Ev (fun k => spec_l1Bytes.l0 k (n : Int) acc (i : Int) b j g) (xs, j', g') ∧ Bytes xs ∧ xs.length = n ∧ CurOk b j' := by
  intro d
  induction d with
  | zero =>
    intro i acc j g hi ha hb hc
    refine ⟨acc, j, g, Ev.step (f := fun _ => some (acc, j, g)) (fun k => ?_) (Ev_some _), hb, by omega, hc⟩
    simp only [spec_l1Bytes.l0]
    rw [if_neg (by omega)]
  | succ d ih =>
    intro i acc j g hi ha hb hc
    have w := wrap_succ i n (by omega) (by omega)
    obtain ⟨x, j2, g2, e, p, c2⟩ := l1Byte_dr b hn j g hc
    obtain ⟨xs, j', g', h1, h2⟩ := ih (i + 1) (acc ++ [x % 256]) j2 g2 (by omega) (by simp; omega) (hb.append (fun y hy => by rw [List.mem_singleton.1 hy]; omega)) c2
    refine ⟨xs, j', g', Ev.step (fun k => ?_) h1, h2⟩
    simp only [spec_l1Bytes.l0]
    rw [if_pos (by omega), e]
    simp only [Option.bind_some]
    rw [if_pos (by omega), w]
theorem l1Bytes_ev (b : List Int) (hn : b.length ≤ 140737488351232) (i h n : Int) (c : CurOk b i) (h0 : 0 ≤ n) (h1 : n ≤ 1000000) : ∃ xs j g, Ev (fun k => spec_l1Bytes.f k b i h n) (xs, j, g) ∧ Bytes xs ∧ (xs.length : Int) = n ∧ CurOk b j := by
  obtain ⟨m, rfl⟩ := Int.eq_ofNat_of_zero_le h0
  obtain ⟨xs, j, g, e, p, q, r⟩ := l1Bytes_loop b hn m (by omega) m 0 [] i h (by omega) rfl (fun x hx => by cases hx) c
  unfold spec_l1Bytes.f
  exact ⟨xs, j, g, e, p, by omega, r⟩
theorem same_loop (a : List Int) (hn : a.length ≤ 140737488351232) : ∀ (d i : Nat), i + d = a.length → Ev (fun k => laws_same.l0 k a a (i : Int)) true := by
  intro d
  induction d with
  | zero =>
    intro i hi
    refine Ev.step (f := fun _ => some true) (fun k => ?_) (Ev_some _)
    simp only [laws_same.l0]
    rw [if_neg (by omega)]
  | succ d ih =>
    intro i hi
    have w := wrap_succ i a.length (by omega) (by omega)
    refine Ev.step (fun k => ?_) (ih (i + 1) (by omega))
    simp only [laws_same.l0]
    rw [if_pos (by omega), if_pos (by omega), if_pos (by omega), if_pos trivial, w]
theorem same_eq (a : List Int) (hn : a.length ≤ 140737488351232) : Ev (fun k => laws_same.f k a a) true := by
  unfold laws_same.f
  exact Ev_if rfl (same_loop a hn a.length 0 (by omega))
def be4 (n : Int) : List Int := [n / 16777216 % 256, n / 65536 % 256, n / 256 % 256, n % 256]
def put4 (l : List Int) (n : Int) : List Int := if 0 ≤ n ∧ n ≤ 2147483647 then l ++ be4 n else l
theorem clone_bytes_eq (l : List Int) (h : l.length < 140737488355328) : slices_Clone_byte.f l = some l := by
  unfold slices_Clone_byte.f
  simp [h]
theorem bits_low8 (n : Int) (h0 : 0 ≤ n) (h1 : n < 2 ^ 62) : Go.bits .and .i64 n 255 = n % 256 :=
  Go.bits_mask .i64 62 (by decide) (fun n h0 h1 => by rw [Go.IntKind.wrap_i64]; omega) 8 (by decide) n h0 h1
/-- The bytes that putBytes appends: from the byte with number c - 1 down to the byte with number 0. -/
def beTo (n : Int) : Nat → List Int
  | 0 => []
  | c + 1 => (n / 2 ^ (8 * c)) % 256 :: beTo n c
theorem putBytes_loop (n : Int) : ∀ (c : Nat) (l : List Int), c ≤ 4 → l.length + c ≤ 140737488355000 → Ev (fun k => impl_putBytes.l0 k n l ((c : Int) - 1)) (l ++ beTo n c) := by
  intro c
  induction c with
  | zero =>
    intro l _ _
    refine Ev.step (f := fun _ => some l) (fun k => ?_) ⟨0, fun _ _ => by rw [beTo, List.append_nil]⟩
    simp only [impl_putBytes.l0]
    rw [if_neg (by omega)]
  | succ c ih =>
    intro l hc hl
    have hs : shr .i64 n (8 * (c : Int)) = n / 2 ^ (8 * c) := by
      unfold shr
      have e : min ((8 * (c : Int)).toNat) (IntKind.bits .i64) = 8 * c := by
        have : IntKind.bits .i64 = 64 := rfl
        omega
      rw [e]
    have e1 : ((c + 1 : Nat) : Int) - 1 = (c : Int) := by omega
    rw [e1]
    have := ih (l ++ [(n / 2 ^ (8 * c)) % 256]) (by omega) (by rw [List.length_append]; simp; omega)
    rw [List.append_assoc] at this
    refine Ev.step (f := fun k => impl_putBytes.l0 k n (l ++ [(n / 2 ^ (8 * c)) % 256]) ((c : Int) - 1)) (fun k => ?_) this
    simp only [impl_putBytes.l0]
    rw [if_pos (by omega), wrap_id (x := 8 * (c : Int)) (by omega) (by omega), if_pos (by omega), if_pos (by omega), hs, wrap_id (x := (c : Int) - 1) (by omega) (by omega)]
theorem putBytes_eq (l : List Int) (hl : l.length ≤ 140737488351232) (n : Int) (c : Nat) (hc : c ≤ 4) (m : Int) : Ev (fun k => impl_putBytes.f k l n c m) (if 0 ≤ n ∧ n ≤ m then l ++ beTo n c else l) := by
  unfold impl_putBytes.f
  simp only [clone_bytes_eq l (by omega), Option.bind_some]
  by_cases h : 0 ≤ n ∧ n ≤ m
  · have h0 : ¬ n < 0 := by omega
    have h1 : ¬ n > m := by omega
    simp only [if_neg h0, decide_eq_false h1, if_pos h]
    refine Ev.step (f := fun k => impl_putBytes.l0 k n l ((c : Int) - 1)) (fun k => ?_) (putBytes_loop n c l hc (by omega))
    simp only [impl_putBytes.j0]
    rw [if_neg (by decide), wrap_id (x := (c : Int) - 1) (by omega) (by omega)]
  · rw [if_neg h]
    by_cases h0 : n < 0
    · simp only [if_pos h0]
      refine Ev.step (f := fun _ => some l) (fun k => ?_) ⟨0, fun _ _ => rfl⟩
      simp only [impl_putBytes.j0]
      rfl
    · have h1 : n > m := by omega
      simp only [if_neg h0, decide_eq_true h1]
      refine Ev.step (f := fun _ => some l) (fun k => ?_) ⟨0, fun _ _ => rfl⟩
      simp only [impl_putBytes.j0]
      rfl
theorem put4_le (l : List Int) (n : Int) : (put4 l n).length ≤ l.length + 4 := by
  unfold put4
  split
  · simp [be4]
  · omega
theorem bytes_be4 (n : Int) : Bytes (be4 n) := by
  intro x hx
  unfold be4 at hx
  simp only [List.mem_cons, List.not_mem_nil, or_false] at hx
  omega
theorem bytes_put4 {b : List Int} (hb : Bytes b) (n : Int) : Bytes (put4 b n) := by
  unfold put4
  split
  · exact hb.append (bytes_be4 n)
  · exact hb
theorem spec_Put4_eq (l : List Int) (hl : l.length ≤ 140737488351232) (n : Int) : spec_Put4.f l n = some (put4 l n) := by
  unfold spec_Put4.f put4
  simp only [Option.bind_some, List.length_nil, List.nil_append, Nat.zero_add]
  rw [if_pos (by omega), l1In_dec]
  simp only [Option.bind_some]
  by_cases h : 0 ≤ n ∧ n ≤ 2147483647
  · rw [if_pos h, decide_eq_true h.1, decide_eq_true h.2, bits_low8 n h.1 (by omega), bits_low8 (n / 65536) (by omega) (by omega), bits_low8 (n / 256) (by omega) (by omega)]
    simp only [Bool.and_self, if_true, List.length_cons, List.length_nil]
    rw [if_pos (by omega)]
    congr 2
    unfold be4
    simp only [Int.emod_emod]
  · rw [if_neg h]
    have : (decide (0 ≤ n) && decide (n ≤ 2147483647)) = false := by
      rw [Bool.and_eq_false_iff, decide_eq_false_iff_not, decide_eq_false_iff_not]
      omega
    rw [this]
    rfl
theorem impl_Put4_eq (l : List Int) (hl : l.length ≤ 140737488351232) (n : Int) : Ev (fun k => impl_Put4.f k l n) (put4 l n) := by
  unfold impl_Put4.f
  refine Ev.bind (putBytes_eq l hl n 4 (by decide) 2147483647) ⟨0, fun _ _ => ?_⟩
  unfold put4
  by_cases h : 0 ≤ n ∧ n ≤ 2147483647
  · rw [if_pos h, if_pos h]
    congr 2
    simp [beTo, be4]
  · rw [if_neg h, if_neg h]
theorem drawPut4_ev (l : List Int) (hn : l.length ≤ 140737488351232) : ∃ b n, Ev (fun k => spec_DrawPut4.f k l) (b, n) ∧ Bytes b ∧ b.length ≤ 3 ∧ I64 n := by
  unfold spec_DrawPut4.f
  obtain ⟨g, e0⟩ := l1New_ev l hn
  obtain ⟨x, j1, g1, e1, p1, c1⟩ := l1Below_dr l hn 0 g 3 (cur0 l)
  have q1 := p1.2.1 (by omega)
  obtain ⟨xs, j2, g2, e2, p2, q2, c2⟩ := l1Bytes_ev l hn j1 g1 x c1 p1.1 (by omega)
  obtain ⟨n, j3, g3, e3, p3, c3⟩ := l1One_dr l hn j2 g2 c2
  exact ⟨xs, n, Ev.bind e0 (Ev.bind (Ev_c e1) (Ev.bind e2 (Ev.bind (Ev_c e3) (Ev_some _)))), p2, by omega, p3⟩
theorem drawGet4_ev (l : List Int) (hn : l.length ≤ 140737488351232) : ∃ b n, Ev (fun k => spec_DrawGet4.f k l) (b, n) ∧ Bytes b ∧ b.length ≤ 20 ∧ (-1 ≤ n ∧ n ≤ 6) := by
  unfold spec_DrawGet4.f
  obtain ⟨g, e0⟩ := l1New_ev l hn
  obtain ⟨x, j1, g1, e1, _, c1⟩ := l1Once_dr l hn 0 g 2 (cur0 l)
  by_cases q : x = true
  · obtain ⟨xs, j2, g2, e2, p2, q2, c2⟩ := l1Bytes_ev l hn j1 g1 2 c1 (by omega) (by omega)
    obtain ⟨n, j3, g3, e3, p3, c3⟩ := l1Num_dr l hn j2 g2 c2
    have h4 := put4_le xs n
    exact ⟨put4 xs n, 2, Ev.bind e0 (Ev.bind (Ev_c e1) (Ev_if q (Ev.bind e2 (Ev.bind (Ev_c e3) (Ev.bind (Ev_c (spec_Put4_eq xs (by omega) n)) (Ev_some _)))))), bytes_put4 p2 n, by omega, by omega⟩
  · obtain ⟨y, j2, g2, e2, p2, c2⟩ := l1Below_dr l hn j1 g1 8 c1
    have q2 := p2.2.1 (by omega)
    obtain ⟨xs, j3, g3, e3, p3, q3, c3⟩ := l1Bytes_ev l hn j2 g2 y c2 p2.1 (by omega)
    obtain ⟨n, j4, g4, e4, p4, c4⟩ := l1Below_dr l hn j3 g3 6 c3
    have q4 := p4.2.1 (by omega)
    have w : wrap64 (n - 1) = n - 1 := wrap_id (by have := p4.1; omega) (by omega)
    refine ⟨xs, n - 1, Ev.bind e0 (Ev.bind (Ev_c e1) (Ev_ifn q (Ev.bind (Ev_c e2) (Ev.bind e3 (Ev.bind (Ev_c e4) ⟨0, fun _ _ => ?_⟩))))), p3, by omega, by have := p4.1; omega⟩
    simp only [w]
theorem drawLeast_ev (l : List Int) (hn : l.length ≤ 140737488351232) : ∃ a b, Ev (fun k => spec_DrawLeast.f k l) (a, b) := by
  unfold spec_DrawLeast.f
  obtain ⟨g, e0⟩ := l1New_ev l hn
  obtain ⟨x, j1, g1, e1, _, c1⟩ := l1One_dr l hn 0 g (cur0 l)
  obtain ⟨y, j2, g2, e2, _, c2⟩ := l1One_dr l hn j1 g1 c1
  exact ⟨x, y, Ev.bind e0 (Ev.bind (Ev_c e1) (Ev.bind (Ev_c e2) (Ev_some _)))⟩
theorem big_eq (l : List Int) : laws_big.f l = some (decide ((l.length : Int) > 1048576)) := by
  unfold laws_big.f
  rfl
theorem getBytes_loop (l : List Int) (m : Int) (hl : l.length ≤ 4) (hb : Bytes l) : ∀ (d i : Nat) (n : Int), i + d = l.length → 0 ≤ n → n < 256 ^ i →
    Ev (fun k => impl_getBytes.l0 k m n l (l.length : Int) (i : Int)) (if numOf n (l.drop i) > m then (0, false) else (numOf n (l.drop i), true)) := by
  intro d
  induction d with
  | zero =>
    intro i n hi h0 h1
    refine Ev.step (f := fun _ => if n > m then some (0, false) else some (n, true)) (fun k => ?_) ⟨0, fun _ _ => ?_⟩
    · simp only [impl_getBytes.l0]
      rw [if_neg (by omega)]
    · rw [List.drop_of_length_le (by omega)]
      unfold numOf
      split <;> rfl
  | succ d ih =>
    intro i n hi h0 h1
    have hd := rd_drop l i (by omega)
    have hm := rd_byte hb (i : Int)
    have hi4 : i ≤ 3 := by omega
    have hp : (256 : Int) ^ i ≤ 16777216 := by
      have : i = 0 ∨ i = 1 ∨ i = 2 ∨ i = 3 := by omega
      rcases this with rfl | rfl | rfl | rfl <;> decide
    have hps : (256 : Int) ^ (i + 1) = 256 ^ i * 256 := by rw [Int.pow_succ]
    have w1 : wrap64 (256 * n) = 256 * n := wrap_id (by omega) (by omega)
    have w2 : wrap64 (rd l i) = rd l i := wrap_id (by omega) (by omega)
    have w3 : wrap64 (256 * n + rd l i) = 256 * n + rd l i := wrap_id (by omega) (by omega)
    have w4 : wrap64 ((i : Int) + 1) = ((i + 1 : Nat) : Int) := wrap_succ i 4 (by omega) (by decide)
    rw [hd]
    refine Ev.step (f := fun k => impl_getBytes.l0 k m (256 * n + rd l i) l (l.length : Int) ((i + 1 : Nat) : Int)) (fun k => ?_) (ih (i + 1) _ (by omega) (by omega) (by omega))
    simp only [impl_getBytes.l0]
    rw [if_pos (by omega), if_pos (by omega), if_pos (by omega), w1, w2, w3, w4]
/-- getBytes at an offset that fits, and at one that does not. -/
theorem getBytes_eq (l : List Int) (hn : l.length ≤ 140737488351232) (hb : Bytes l) (i : Int) (hi : -9223372036854775808 ≤ i ∧ i ≤ 9223372036854775807) (c : Nat) (hc : c ≤ 4) (m : Int) :
    Ev (fun k => impl_getBytes.f k l i c m) (if 0 ≤ i ∧ i ≤ (l.length : Int) - c then (if numOf 0 ((l.drop i.toNat).take c) > m then (0, false) else (numOf 0 ((l.drop i.toNat).take c), true)) else (0, false)) := by
  have hw : wrap64 ((l.length : Int) - c) = (l.length : Int) - c := wrap_id (by omega) (by omega)
  unfold impl_getBytes.f
  rw [hw]
  by_cases h : 0 ≤ i ∧ i ≤ (l.length : Int) - c
  · have h0 : ¬ i < 0 := by omega
    have h1 : ¬ i > (l.length : Int) - c := by omega
    simp only [if_neg h0, decide_eq_false h1, if_pos h]
    have w2 : wrap64 (i + c) = i + c := wrap_id (by omega) (by omega)
    have hq : ((l.take ((i + c : Int)).toNat).drop (i : Int).toNat) = (l.drop i.toNat).take c := by
      rw [List.drop_take]
      congr 1
      omega
    have hl : ((l.drop i.toNat).take c).length = c := by
      rw [List.length_take, List.length_drop]
      omega
    refine Ev.step (f := fun k => impl_getBytes.l0 k m 0 ((l.drop i.toNat).take c) (((l.drop i.toNat).take c).length : Int) 0) (fun k => ?_) ?_
    · simp only [impl_getBytes.j0]
      rw [if_neg (by decide), w2, if_pos h.1, if_pos (by omega), if_pos (by omega), hq]
      rfl
    · have := getBytes_loop ((l.drop i.toNat).take c) m (by omega) ((hb.drop _).take _) c 0 0 (by omega) (by omega) (by decide)
      simpa using this
  · rw [if_neg h]
    by_cases h0 : i < 0
    · simp only [if_pos h0]
      refine Ev.step (f := fun _ => some (0, false)) (fun k => ?_) ⟨0, fun _ _ => rfl⟩
      simp only [impl_getBytes.j0]
      rfl
    · have h1 : i > (l.length : Int) - c := by omega
      simp only [if_neg h0, decide_eq_true h1]
      refine Ev.step (f := fun _ => some (0, false)) (fun k => ?_) ⟨0, fun _ _ => rfl⟩
      simp only [impl_getBytes.j0]
      rfl
/-- What Get4 returns: the four bytes at an offset, if they are there and the number is no greater than MaxFour. -/
def get4 (l : List Int) (i : Int) : Int × Bool :=
  if 0 ≤ i ∧ i ≤ (l.length : Int) - 4 then
    (if 16777216 * rd l i + 65536 * rd l (i + 1) + 256 * rd l (i + 2) + rd l (i + 3) > 2147483647 then (0, false)
     else (16777216 * rd l i + 65536 * rd l (i + 1) + 256 * rd l (i + 2) + rd l (i + 3), true)) else (0, false)
theorem spec_Get4_eq (l : List Int) (hn : l.length ≤ 140737488351232) (hb : Bytes l) (i : Int) (hi : -9223372036854775808 ≤ i ∧ i ≤ 9223372036854775807) : Ev (fun k => spec_Get4.f k l i) (get4 l i) := by
  unfold spec_Get4.f get4
  have hw : wrap64 ((l.length : Int) - 4) = (l.length : Int) - 4 := wrap_id (by omega) (by omega)
  rw [hw]
  by_cases h : 0 ≤ i ∧ i ≤ (l.length : Int) - 4
  · have h0 : ¬ i < 0 := by omega
    have h1 : ¬ i > (l.length : Int) - 4 := by omega
    simp only [if_neg h0, decide_eq_false h1, if_pos h]
    have b0 := rd_byte hb i
    have b1 := rd_byte hb (i + 1)
    have b2 := rd_byte hb (i + 2)
    have b3 := rd_byte hb (i + 3)
    have v1 : wrap64 (i + 1) = i + 1 := wrap_id (by omega) (by omega)
    have v2 : wrap64 (i + 2) = i + 2 := wrap_id (by omega) (by omega)
    have v3 : wrap64 (i + 3) = i + 3 := wrap_id (by omega) (by omega)
    have w0 : wrap64 (rd l i) = rd l i := wrap_id (by omega) (by omega)
    have w1 : wrap64 (rd l (i + 1)) = rd l (i + 1) := wrap_id (by omega) (by omega)
    have w2 : wrap64 (rd l (i + 2)) = rd l (i + 2) := wrap_id (by omega) (by omega)
    have w3 : wrap64 (rd l (i + 3)) = rd l (i + 3) := wrap_id (by omega) (by omega)
    have u0 : wrap64 (rd l i * 16777216) = rd l i * 16777216 := wrap_id (by omega) (by omega)
    have u1 : wrap64 (rd l (i + 1) * 65536) = rd l (i + 1) * 65536 := wrap_id (by omega) (by omega)
    have u2 : wrap64 (rd l (i + 2) * 256) = rd l (i + 2) * 256 := wrap_id (by omega) (by omega)
    have s1 : Go.bits .or .i64 (rd l i * 16777216) (rd l (i + 1) * 65536) = rd l i * 16777216 + rd l (i + 1) * 65536 := bits_or64 24 _ _ (by omega) (by omega) (by omega) (by omega) (by omega) (by omega)
    have s2 : Go.bits .or .i64 (rd l i * 16777216 + rd l (i + 1) * 65536) (rd l (i + 2) * 256) = rd l i * 16777216 + rd l (i + 1) * 65536 + rd l (i + 2) * 256 := bits_or64 16 _ _ (by omega) (by omega) (by omega) (by omega) (by omega) (by omega)
    have s3 : Go.bits .or .i64 (rd l i * 16777216 + rd l (i + 1) * 65536 + rd l (i + 2) * 256) (rd l (i + 3)) = rd l i * 16777216 + rd l (i + 1) * 65536 + rd l (i + 2) * 256 + rd l (i + 3) := bits_or64 8 _ _ (by omega) (by omega) (by omega) (by omega) (by omega) (by omega)
    have e : rd l i * 16777216 + rd l (i + 1) * 65536 + rd l (i + 2) * 256 + rd l (i + 3) = 16777216 * rd l i + 65536 * rd l (i + 1) + 256 * rd l (i + 2) + rd l (i + 3) := by omega
    refine Ev.step (f := fun _ => if 16777216 * rd l i + 65536 * rd l (i + 1) + 256 * rd l (i + 2) + rd l (i + 3) > 2147483647 then some (0, false) else some (16777216 * rd l i + 65536 * rd l (i + 1) + 256 * rd l (i + 2) + rd l (i + 3), true)) (fun k => ?_) ⟨0, fun _ _ => by split <;> rfl⟩
    simp only [spec_Get4.j0]
    rw [if_neg (by decide), v1, v2, v3, if_pos h.1, if_pos (by omega), if_pos (by omega), if_pos (by omega), if_pos (by omega), if_pos (by omega), if_pos (by omega), if_pos (by omega),
      w0, w1, w2, w3, u0, u1, u2, s1, s2, s3, e]
  · rw [if_neg h]
    by_cases h0 : i < 0
    · simp only [if_pos h0]
      refine Ev.step (f := fun _ => some (0, false)) (fun k => ?_) ⟨0, fun _ _ => rfl⟩
      simp only [spec_Get4.j0]
      rfl
    · have h1 : i > (l.length : Int) - 4 := by omega
      simp only [if_neg h0, decide_eq_true h1]
      refine Ev.step (f := fun _ => some (0, false)) (fun k => ?_) ⟨0, fun _ _ => rfl⟩
      simp only [spec_Get4.j0]
      rfl
theorem take4 (l : List Int) (i : Int) (h0 : 0 ≤ i) (h1 : i ≤ (l.length : Int) - 4) : (l.drop i.toNat).take 4 = [rd l i, rd l (i + 1), rd l (i + 2), rd l (i + 3)] := by
  obtain ⟨n, rfl⟩ := Int.eq_ofNat_of_zero_le h0
  have e1 : ((n : Int) + 1) = ((n + 1 : Nat) : Int) := by omega
  have e2 : ((n : Int) + 2) = ((n + 1 + 1 : Nat) : Int) := by omega
  have e3 : ((n : Int) + 3) = ((n + 1 + 1 + 1 : Nat) : Int) := by omega
  rw [e1, e2, e3, Int.toNat_natCast, rd_drop l n (by omega), rd_drop l (n + 1) (by omega), rd_drop l (n + 1 + 1) (by omega), rd_drop l (n + 1 + 1 + 1) (by omega)]
  rfl
theorem impl_Get4_eq (l : List Int) (hn : l.length ≤ 140737488351232) (hb : Bytes l) (i : Int) (hi : -9223372036854775808 ≤ i ∧ i ≤ 9223372036854775807) : Ev (fun k => impl_Get4.f k l i) (get4 l i) := by
  unfold impl_Get4.f
  refine Ev.bind (a := get4 l i) ?_ ⟨0, fun _ _ => rfl⟩
  have := getBytes_eq l hn hb i hi 4 (by decide) 2147483647
  unfold get4
  by_cases h : 0 ≤ i ∧ i ≤ (l.length : Int) - 4
  · rw [if_pos h]
    rw [if_pos (by exact h), take4 l i h.1 h.2] at this
    have e : numOf 0 [rd l i, rd l (i + 1), rd l (i + 2), rd l (i + 3)] = 16777216 * rd l i + 65536 * rd l (i + 1) + 256 * rd l (i + 2) + rd l (i + 3) := by
      simp only [numOf]
      omega
    rw [e] at this
    exact this
  · rw [if_neg h]
    rw [if_neg (by exact h)] at this
    exact this
theorem least_both (a b : Int) : ∃ x, impl_Least.f a b = some x ∧ spec_Least.f a b = some x := by
  unfold impl_Least.f spec_Least.f mn
  by_cases h : b < a
  · exact ⟨b, by rw [if_pos h], by rw [if_pos h]⟩
  · exact ⟨a, by rw [if_neg h], by rw [if_neg h]⟩
theorem most_both (a b : Int) : ∃ x, impl_Most.f a b = some x ∧ spec_Most.f a b = some x := by
  unfold impl_Most.f spec_Most.f mx
  by_cases h : a < b
  · exact ⟨b, by rw [if_pos h], by rw [if_pos (show b > a by omega)]⟩
  · exact ⟨a, by rw [if_neg h], by rw [if_neg (show ¬ b > a by omega)]⟩
theorem rd_app (b l : List Int) (j : Nat) (i : Int) (h : i = (b.length : Int) + (j : Int)) : rd (b ++ l) i = rd l (j : Int) := by
  have e : i.toNat = b.length + j := by omega
  unfold rd
  rw [e, Int.toNat_natCast, List.getD_eq_getElem?_getD, List.getD_eq_getElem?_getD, List.getElem?_append_right (by omega)]
  congr 2
  omega
theorem rt_get4 (b : List Int) (n : Int) (rest : List Int) (h : 0 ≤ n ∧ n ≤ 2147483647) : get4 (put4 b n ++ rest) (b.length : Int) = (n, true) := by
  unfold put4
  rw [if_pos h, List.append_assoc]
  unfold get4
  have e0 := rd_app b (be4 n ++ rest) 0 (b.length : Int) (by omega)
  have e1 := rd_app b (be4 n ++ rest) 1 ((b.length : Int) + 1) (by omega)
  have e2 := rd_app b (be4 n ++ rest) 2 ((b.length : Int) + 2) (by omega)
  have e3 := rd_app b (be4 n ++ rest) 3 ((b.length : Int) + 3) (by omega)
  have d0 : rd (be4 n ++ rest) ((0 : Nat) : Int) = n / 16777216 % 256 := rfl
  have d1 : rd (be4 n ++ rest) ((1 : Nat) : Int) = n / 65536 % 256 := rfl
  have d2 : rd (be4 n ++ rest) ((2 : Nat) : Int) = n / 256 % 256 := rfl
  have d3 : rd (be4 n ++ rest) ((3 : Nat) : Int) = n % 256 := rfl
  rw [if_pos ⟨by omega, by simp [be4]; omega⟩, e0, e1, e2, e3, d0, d1, d2, d3]
  have z : 16777216 * (n / 16777216 % 256) + 65536 * (n / 65536 % 256) + 256 * (n / 256 % 256) + n % 256 = n := by omega
  rw [z, if_neg (by omega)]
theorem rt_put4 (c : List Int) (i : Int) (hb : Bytes c) (h : (get4 c i).2 = true) : put4 [] (get4 c i).1 = (c.drop i.toNat).take 4 := by
  unfold get4 at h ⊢
  split at h
  · rename_i q
    have h1 := rd_byte hb i
    have h2 := rd_byte hb (i + 1)
    have h3 := rd_byte hb (i + 2)
    have h4 := rd_byte hb (i + 3)
    rw [if_pos q, take4 c i q.1 q.2]
    split at h
    · cases h
    · rename_i q2
      rw [if_neg q2]
      show put4 [] (16777216 * rd c i + 65536 * rd c (i + 1) + 256 * rd c (i + 2) + rd c (i + 3)) = _
      unfold put4 be4
      rw [if_pos (by omega), List.nil_append]
      congr 1
      · omega
      · congr 1
        · omega
        · congr 1
          · omega
          · congr 1
            omega
  · cases h

end Go.Proofs.Ytbohkphbgkgaeaa.Lem
