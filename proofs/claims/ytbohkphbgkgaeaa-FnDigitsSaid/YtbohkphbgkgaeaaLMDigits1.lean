/- Lemmas on the printed functions, of this session. -/
import Derived.Test.YtbohkphbgkgaeaaY
import Derived.Test.YtbohkphbgkgaeaaPrx0
import Derived.Test.YtbohkphbgkgaeaaPrx1
import Derived.Test.YtbohkphbgkgaeaaPrx2
namespace Go.Proofs.Ytbohkphbgkgaeaa.Lem
open Go.RowKit Go.Proofs.Ytbohkphbgkgaeaa.Pr Go.Proofs.Ytbohkphbgkgaeaa.X Go.Proofs.Ytbohkphbgkgaeaa.Y Go.Proofs.YtbohkphbgkgaeaaW.PrintWords Go.Proofs.YtbohkphbgkgaeaaW.PrintLast Go.Proofs.YtbohkphbgkgaeaaW.PrintMore
set_option linter.unusedVariables false
set_option linter.unusedSimpArgs false
theorem Ev_if {α : Type} {c : Prop} [Decidable c] {f g : Nat → Option α} {x : α} (h : c) (h1 : Ev f x) : Ev (fun k => if c then f k else g k) x := by
  simp only [if_pos h]
  exact h1
theorem Ev_ifn {α : Type} {c : Prop} [Decidable c] {f g : Nat → Option α} {x : α} (h : ¬ c) (h1 : Ev g x) : Ev (fun k => if c then f k else g k) x := by
  simp only [if_neg h]
  exact h1
theorem rdS_getElem (l : List ByteArray) (i : Nat) (h : i < l.length) : rdOf ByteArray.empty l i = l[i] := by
  unfold rdOf
  rw [Int.toNat_natCast, List.getD_eq_getElem?_getD, List.getElem?_eq_getElem h, Option.getD_some]
theorem Ev_some {α : Type} (x : α) : Ev (fun _ => some x) x := ⟨0, fun _ _ => rfl⟩
theorem Ev_c {α : Type} {o : Option α} {x : α} (h : o = some x) : Ev (fun _ => o) x := ⟨0, fun _ _ => h⟩
theorem and255 (y : Int) : 0 ≤ Go.bits .and .i64 y 255 ∧ Go.bits .and .i64 y 255 ≤ 255 := by
  have h : (BitVec.ofInt 64 y &&& BitVec.ofInt 64 255).toNat ≤ 255 := by
    rw [BitVec.toNat_and]
    exact Nat.le_trans Nat.and_le_right (by decide)
  have e : Go.bits .and .i64 y 255 = IntKind.i64.wrap ((BitVec.ofInt 64 y &&& BitVec.ofInt 64 255).toNat : Int) := rfl
  rw [e, Go.IntKind.wrap_i64]
  omega
/-- A place in a draw's bytes. -/
def CurOk (b : List Int) (i : Int) : Prop := 0 ≤ i ∧ i ≤ (b.length : Int)
/-- A draw that answers: what it draws is so, and the place stays one. -/
def Dr {α : Type} (b : List Int) (f : Option (α × Int × Int)) (P : α → Prop) : Prop := ∃ x j g, f = some (x, j, g) ∧ P x ∧ CurOk b j
theorem l1Byte_dr (b : List Int) (hn : b.length ≤ 140737488351232) (i h : Int) (c : CurOk b i) : Dr b (spec_l1Byte.f b i h) (fun x => 0 ≤ x ∧ x ≤ 255) := by
  unfold spec_l1Byte.f
  obtain ⟨c0, c1⟩ := c
  by_cases q : i < (b.length : Int)
  · rw [if_pos q, if_pos c0]
    have w : wrap64 (i + 1) = i + 1 := wrap_id (by omega) (by omega)
    refine ⟨_, _, _, rfl, and255 _, ?_⟩
    rw [w]
    exact ⟨by omega, by omega⟩
  · rw [if_neg q]
    exact ⟨_, _, _, rfl, and255 _, ⟨c0, c1⟩⟩
theorem tmod_rng (x n : Int) (hx : 0 ≤ x) (hn : 0 < n) : 0 ≤ Int.tmod x n ∧ Int.tmod x n < n := by
  rw [Int.tmod_eq_emod_of_nonneg hx]
  exact ⟨Int.emod_nonneg _ (by omega), Int.emod_lt_of_pos _ hn⟩
theorem l1Below_dr (b : List Int) (hn : b.length ≤ 140737488351232) (i h n : Int) (c : CurOk b i) : Dr b (spec_l1Below.f b i h n) (fun x => 0 ≤ x ∧ (0 < n → x < n) ∧ (n ≤ 0 → x = 0)) := by
  unfold spec_l1Below.f
  by_cases q : n ≤ 0
  · rw [if_pos q]
    exact ⟨_, _, _, rfl, ⟨Int.le_refl _, fun z => by omega, fun _ => rfl⟩, c⟩
  · rw [if_neg q]
    by_cases q2 : n ≤ 256
    · rw [if_pos q2]
      obtain ⟨x, j, g, e, p, c2⟩ := l1Byte_dr b hn i h c
      rw [e]
      simp only [Option.bind_some]
      rw [if_neg (by omega)]
      have t := tmod_rng x n p.1 (by omega)
      exact ⟨_, _, _, rfl, ⟨t.1, fun _ => t.2, fun z => by omega⟩, c2⟩
    · rw [if_neg q2]
      obtain ⟨x, j, g, e, p, c2⟩ := l1Byte_dr b hn i h c
      rw [e]
      simp only [Option.bind_some]
      obtain ⟨x2, j2, g2, e2, p2, c3⟩ := l1Byte_dr b hn j g c2
      rw [e2]
      simp only [Option.bind_some]
      obtain ⟨x3, j3, g3, e3, p3, c4⟩ := l1Byte_dr b hn j2 g2 c3
      rw [e3]
      simp only [Option.bind_some]
      rw [if_neg (by omega)]
      have w1 : wrap64 (x * 65536) = x * 65536 := wrap_id (by omega) (by omega)
      have w2 : wrap64 (x2 * 256) = x2 * 256 := wrap_id (by omega) (by omega)
      have w3 : wrap64 (x * 65536 + x2 * 256) = x * 65536 + x2 * 256 := wrap_id (by omega) (by omega)
      have w4 : wrap64 (x * 65536 + x2 * 256 + x3) = x * 65536 + x2 * 256 + x3 := wrap_id (by omega) (by omega)
      rw [w1, w2, w3, w4]
      have t := tmod_rng (x * 65536 + x2 * 256 + x3) n (by omega) (by omega)
      exact ⟨_, _, _, rfl, ⟨t.1, fun _ => t.2, fun z => by omega⟩, c4⟩
theorem l1Once_dr (b : List Int) (hn : b.length ≤ 140737488351232) (i h n : Int) (c : CurOk b i) : Dr b (spec_l1Once.f b i h n) (fun _ => True) := by
  unfold spec_l1Once.f
  obtain ⟨x, j, g, e, p, c2⟩ := l1Below_dr b hn i h n c
  rw [e]
  exact ⟨_, _, _, rfl, trivial, c2⟩
theorem l1Int_dr (b : List Int) (hn : b.length ≤ 140737488351232) (i h : Int) (l : List Int) (hl : 0 < l.length) (c : CurOk b i) : Dr b (spec_l1Int.f b i h l) (fun x => x ∈ l) := by
  unfold spec_l1Int.f
  obtain ⟨x, j, g, e, p, c2⟩ := l1Below_dr b hn i h (l.length : Int) c
  rw [e]
  simp only [Option.bind_some]
  have := p.2.1 (by omega)
  rw [if_pos p.1, if_pos this]
  exact ⟨_, _, _, rfl, rd_mem l x p.1 this, c2⟩
theorem rdS_mem (l : List ByteArray) (x : Int) (h0 : 0 ≤ x) (h : x < (l.length : Int)) : rdOf ByteArray.empty l x ∈ l := by
  obtain ⟨n, rfl⟩ := Int.eq_ofNat_of_zero_le h0
  rw [rdS_getElem l n (by omega)]
  exact List.getElem_mem _
theorem l1Str_dr (b : List Int) (hn : b.length ≤ 140737488351232) (i h : Int) (l : List ByteArray) (hl : 0 < l.length) (c : CurOk b i) : Dr b (spec_l1Str.f b i h l) (fun x => x ∈ l) := by
  unfold spec_l1Str.f
  obtain ⟨x, j, g, e, p, c2⟩ := l1Below_dr b hn i h (l.length : Int) c
  rw [e]
  simp only [Option.bind_some]
  have := p.2.1 (by omega)
  rw [if_pos p.1, if_pos this]
  exact ⟨_, _, _, rfl, rdS_mem l x p.1 this, c2⟩
def I64 (x : Int) : Prop := -9223372036854775808 ≤ x ∧ x ≤ 9223372036854775807
theorem i64_all (l : List Int) (h : l.all (fun x => decide (-9223372036854775808 ≤ x) && decide (x ≤ 9223372036854775807)) = true) : ∀ x ∈ l, I64 x := by
  intro x hx
  have := List.all_eq_true.1 h x hx
  rw [Bool.and_eq_true, decide_eq_true_eq, decide_eq_true_eq] at this
  exact this
theorem l1Odd_dr (b : List Int) (hn : b.length ≤ 140737488351232) (i h : Int) (c : CurOk b i) : Dr b (spec_l1Odd.f b i h) I64 := by
  unfold spec_l1Odd.f
  obtain ⟨x, j, g, e, p, c2⟩ := l1Int_dr b hn i h [(-1), 0, 1, 2, 255, 256, 65535, 2147483647, 2147483648, 4294967295, 4294967296, (-2147483648), 9223372036854775807, (-9223372036854775808)] (by decide) c
  rw [e]
  exact ⟨_, _, _, rfl, i64_all _ (by decide) x p, c2⟩
theorem l1Raw_dr (b : List Int) (hn : b.length ≤ 140737488351232) (i h : Int) (c : CurOk b i) : Dr b (spec_l1Raw.f b i h) I64 := by
  unfold spec_l1Raw.f
  obtain ⟨x, j, g, e, p, c2⟩ := l1Once_dr b hn i h 2 c
  rw [e]
  simp only [Option.bind_some]
  by_cases q : x = true
  · rw [if_pos q]
    obtain ⟨y, j2, g2, e2, p2, c3⟩ := l1Odd_dr b hn j g c2
    rw [e2]
    exact ⟨_, _, _, rfl, p2, c3⟩
  · rw [if_neg q]
    obtain ⟨y, j2, g2, e2, p2, c3⟩ := l1Int_dr b hn j g [(-1), 65535, 65536, 2147483647, 2147483648] (by decide) c2
    rw [e2]
    exact ⟨_, _, _, rfl, i64_all _ (by decide) y p2, c3⟩
def Num31 (x : Int) : Prop := 0 ≤ x ∧ x ≤ 2147483647
theorem l1Num_dr (b : List Int) (hn : b.length ≤ 140737488351232) (i h : Int) (c : CurOk b i) : Dr b (spec_l1Num.f b i h) Num31 := by
  unfold spec_l1Num.f
  obtain ⟨x, j, g, e, p, c2⟩ := l1Below_dr b hn i h 4 c
  rw [e]
  simp only [Option.bind_some]
  by_cases q0 : x = 0
  · rw [if_pos q0]
    obtain ⟨y, j2, g2, e2, p2, c3⟩ := l1Below_dr b hn j g 70000 c2
    rw [e2]
    have := p2.2.1 (by omega)
    exact ⟨_, _, _, rfl, ⟨p2.1, by omega⟩, c3⟩
  · rw [if_neg q0]
    by_cases q1 : x = 1
    · rw [if_pos q1]
      obtain ⟨y, j2, g2, e2, p2, c3⟩ := l1Int_dr b hn j g [0, 1, 255, 256, 65535, 65536, 2147483647] (by decide) c2
      rw [e2]
      refine ⟨_, _, _, rfl, ?_, c3⟩
      simp only [List.mem_cons, List.not_mem_nil, or_false] at p2
      unfold Num31
      show 0 ≤ y ∧ y ≤ 2147483647
      omega
    · rw [if_neg q1]
      by_cases q2 : x = 2
      · rw [if_pos q2]
        obtain ⟨y, j2, g2, e2, p2, c3⟩ := l1Below_dr b hn j g 40000 c2
        rw [e2]
        simp only [Option.bind_some]
        obtain ⟨z, j3, g3, e3, p3, c4⟩ := l1Below_dr b hn j2 g2 50000 c3
        rw [e3]
        simp only [Option.bind_some]
        have h1 := p2.2.1 (by omega)
        have h2 := p3.2.1 (by omega)
        have h3 : 0 ≤ y * z := Int.mul_nonneg p2.1 p3.1
        have h4 : y * z ≤ 40000 * 50000 := Int.mul_le_mul (by omega) (by omega) p3.1 (by omega)
        have w : wrap64 (y * z) = y * z := wrap_id (by omega) (by omega)
        refine ⟨_, _, _, rfl, ?_, c4⟩
        rw [w]
        exact ⟨h3, by omega⟩
      · rw [if_neg q2]
        obtain ⟨y, j2, g2, e2, p2, c3⟩ := l1Below_dr b hn j g 20 c2
        rw [e2]
        have := p2.2.1 (by omega)
        exact ⟨_, _, _, rfl, ⟨p2.1, by omega⟩, c3⟩
theorem l1One_dr (b : List Int) (hn : b.length ≤ 140737488351232) (i h : Int) (c : CurOk b i) : Dr b (spec_l1One.f b i h) I64 := by
  unfold spec_l1One.f
  obtain ⟨x, j, g, e, p, c2⟩ := l1Once_dr b hn i h 6 c
  rw [e]
  simp only [Option.bind_some]
  by_cases q : x = true
  · rw [if_pos q]
    obtain ⟨y, j2, g2, e2, p2, c3⟩ := l1Raw_dr b hn j g c2
    rw [e2]
    exact ⟨_, _, _, rfl, p2, c3⟩
  · rw [if_neg q]
    obtain ⟨y, j2, g2, e2, p2, c3⟩ := l1Num_dr b hn j g c2
    rw [e2]
    exact ⟨_, _, _, rfl, ⟨by have := p2.1; show (-9223372036854775808 : Int) ≤ y; omega, by have := p2.2; show y ≤ 9223372036854775807; omega⟩, c3⟩
theorem l1New_loop (l : List Int) (hn : l.length ≤ 140737488351232) : ∀ (d i : Nat) (h : Int), i + d = l.length → ∃ g, Ev (fun k => spec_l1New.l0 k l h (i : Int)) (l, 0, g) := by
  intro d
  induction d with
  | zero =>
    intro i h hi
    refine ⟨h, Ev.step (f := fun _ => some (l, 0, h)) (fun k => ?_) (Ev_some _)⟩
    simp only [spec_l1New.l0]
    rw [if_neg (by omega)]
  | succ d ih =>
    intro i h hi
    have w := wrap_succ i l.length (by omega) (by omega)
    by_cases q : i < 4000
    · obtain ⟨g, e⟩ := ih (i + 1) (Go.bits .and .i64 (wrap64 ((wrap64 ((wrap64 (h * 137)) + (wrap64 (rd l (i : Int))))) + 11)) 1073741823) (by omega)
      refine ⟨g, Ev.step (fun k => ?_) e⟩
      simp only [spec_l1New.l0]
      rw [if_pos (by omega), if_pos (by omega), if_pos (by omega), w]
    · refine ⟨h, Ev.step (f := fun _ => some (l, 0, h)) (fun k => ?_) (Ev_some _)⟩
      simp only [spec_l1New.l0]
      rw [if_pos (by omega), if_neg (by omega)]
theorem l1New_ev (l : List Int) (hn : l.length ≤ 140737488351232) : ∃ g, Ev (fun k => spec_l1New.f k l) (l, 0, g) := by
  unfold spec_l1New.f
  exact l1New_loop l hn l.length 0 _ (by omega)
theorem cur0 (l : List Int) : CurOk l 0 := ⟨Int.le_refl _, by omega⟩
theorem spec_NumText_pos (x0 : Int) (hx : ¬ x0 < 0) : ∀ (m : Nat) (s : List Int), m ≤ 9223372036854775808 → (decZ m).length + s.length ≤ 100 →
    m ≤ 9223372036854775807 → Ev (fun k => spec_NumText.l0 k x0 (strOfNums s) (m : Int)) (strOfNums (decZ m ++ s)) := by
  intro m
  induction m using Nat.strongRecOn with
  | _ m ih =>
    intro s hm hl hm2
    by_cases hz : m = 0
    · subst hz
      refine Ev.step (f := fun _ => some (strOfNums s)) (fun k => ?_) ⟨0, fun _ _ => by rw [decZ_zero, List.nil_append]⟩
      simp only [spec_NumText.l0]
      rw [if_pos (by simp), if_neg hx]
    · have hd := decZ_pos m hz
      have hl2 : (decZ m).length = (decZ (m / 10)).length + 1 := by rw [hd, List.length_append]; rfl
      have := ih (m / 10) (by omega) ((48 + ((m % 10 : Nat) : Int)) :: s) (by omega) (by rw [List.length_cons]; omega) (by omega)
      have e : decZ (m / 10) ++ (48 + ((m % 10 : Nat) : Int)) :: s = decZ m ++ s := by rw [hd, List.append_assoc]; rfl
      rw [e] at this
      refine Ev.step (f := fun k => spec_NumText.l0 k x0 (strOfNums ((48 + ((m % 10 : Nat) : Int)) :: s)) ((m / 10 : Nat) : Int)) (fun k => ?_) this
      simp only [spec_NumText.l0]
      rw [if_neg (by omega), tmod_pos, tdiv_pos, if_neg (by omega)]
      have w1 : wrap64 (48 + ((m % 10 : Nat) : Int)) % 256 = 48 + ((m % 10 : Nat) : Int) := by rw [wrap_id (by omega) (by omega)]; omega
      have w2 : wrap64 ((m / 10 : Nat) : Int) = ((m / 10 : Nat) : Int) := wrap_id (by omega) (by omega)
      rw [w1, w2]
      simp only [Option.bind_some]
      rw [if_pos (by rw [strOfNums_size, strOfNums_size]; simp; omega), ← strOfNums_append]
      rfl
theorem spec_NumText_neg (x0 : Int) (hx : x0 < 0) : ∀ (m : Nat) (s : List Int), m ≤ 9223372036854775808 → (decZ m).length + s.length ≤ 100 →
    Ev (fun k => spec_NumText.l0 k x0 (strOfNums s) (-(m : Int))) (strOfNums (45 :: (decZ m ++ s))) := by
  intro m
  induction m using Nat.strongRecOn with
  | _ m ih =>
    intro s hm hl
    by_cases hz : m = 0
    · subst hz
      refine Ev.step (f := fun _ => some (strOfNums (45 :: s))) (fun k => ?_) ⟨0, fun _ _ => by rw [decZ_zero, List.nil_append]⟩
      simp only [spec_NumText.l0]
      rw [if_pos (by simp), if_pos hx, if_pos (by rw [strOfNums_size]; omega)]
      rw [show (45 :: s) = [45] ++ s from rfl, strOfNums_append]
      rfl
    · have hd := decZ_pos m hz
      have hl2 : (decZ m).length = (decZ (m / 10)).length + 1 := by rw [hd, List.length_append]; rfl
      have := ih (m / 10) (by omega) ((48 + ((m % 10 : Nat) : Int)) :: s) (by omega) (by rw [List.length_cons]; omega)
      have e : decZ (m / 10) ++ (48 + ((m % 10 : Nat) : Int)) :: s = decZ m ++ s := by rw [hd, List.append_assoc]; rfl
      rw [e] at this
      refine Ev.step (f := fun k => spec_NumText.l0 k x0 (strOfNums ((48 + ((m % 10 : Nat) : Int)) :: s)) (-((m / 10 : Nat) : Int))) (fun k => ?_) this
      simp only [spec_NumText.l0]
      rw [if_neg (by omega), tmod_neg, tdiv_neg]
      have w2 : wrap64 (-((m / 10 : Nat) : Int)) = -((m / 10 : Nat) : Int) := wrap_id (by omega) (by omega)
      have w3 : wrap64 (-(-((m % 10 : Nat) : Int))) = ((m % 10 : Nat) : Int) := by rw [Int.neg_neg]; exact wrap_id (by omega) (by omega)
      have w1 : wrap64 (48 + ((m % 10 : Nat) : Int)) % 256 = 48 + ((m % 10 : Nat) : Int) := by rw [wrap_id (by omega) (by omega)]; omega
      rw [w2, w3, w1]
      by_cases hn : -((m % 10 : Nat) : Int) < 0
      · rw [if_pos hn]
        simp only [Option.bind_some]
        rw [if_pos (by rw [strOfNums_size, strOfNums_size]; simp; omega), ← strOfNums_append]
        rfl
      · rw [if_neg hn]
        have hz : ((m % 10 : Nat) : Int) = 0 := by omega
        rw [hz]
        have w4 : wrap64 (48 + (-0 : Int)) % 256 = 48 + 0 := by unfold wrap64; omega
        rw [w4]
        simp only [Option.bind_some]
        rw [if_pos (by rw [strOfNums_size, strOfNums_size]; simp; omega), ← strOfNums_append]
        rfl
theorem spec_NumText_eq (n : Int) (h : -9223372036854775808 ≤ n ∧ n ≤ 9223372036854775807) : Ev (fun k => spec_NumText.f k n) (numText n) := by
  unfold spec_NumText.f numText numL
  by_cases hz : n = 0
  · subst hz
    simp only [if_true]
    rw [if_neg (by decide)]
    refine ⟨0, fun _ _ => ?_⟩
    rw [show (0 : Int).natAbs = 0 from rfl, decN_small 0 (by decide)]
    rfl
  · simp only [if_neg hz]
    by_cases hn : n < 0
    · rw [if_pos hn, decN_pos _ (by omega)]
      have := spec_NumText_neg n hn n.natAbs [] (by omega) (by have := decZ_le n.natAbs (by omega); simp; omega)
      rw [show (-(n.natAbs : Int)) = n by omega, List.append_nil] at this
      exact this
    · rw [if_neg hn, decN_pos _ (by omega)]
      have := spec_NumText_pos n hn n.natAbs [] (by omega) (by have := decZ_le n.natAbs (by omega); simp; omega) (by omega)
      rw [show ((n.natAbs : Int)) = n by omega, List.append_nil] at this
      exact this
theorem impl_NumText_pos : ∀ (m : Nat), m ≤ 9223372036854775807 → Ev (fun k => impl_NumText.f k (m : Int)) (strOfNums (decN m)) := by
  intro m
  induction m using Nat.strongRecOn with
  | _ m ih =>
    intro hm
    refine Ev.step (f := fun k => impl_NumText.j0 k (m : Int) false) (fun k => ?_) ?_
    · simp only [impl_NumText.f]
      rw [if_neg (by omega)]
    · by_cases hs : m < 10
      · refine Ev.step (f := fun _ => some (strOfNums (decN m))) (fun k => ?_) ⟨0, fun _ _ => rfl⟩
        simp only [impl_NumText.j0]
        rw [if_neg (by decide), if_neg (by omega), if_pos (by omega), wrap_id (by omega) (by omega), wrap32_id (by omega) (by omega), encode_digit _ (by omega) (by omega), decN_small m hs]
      · have hq := ih (m / 10) (by omega) (by omega)
        refine Ev.step (f := fun k => (impl_NumText.f k ((m / 10 : Nat) : Int)).bind fun t => if t.size + (strOfNums [48 + ((m % 10 : Nat) : Int)]).size ≤ 9223372036854775807 then some (t ++ strOfNums [48 + ((m % 10 : Nat) : Int)]) else none) (fun k => ?_) (Ev.bind hq ?_)
        · simp only [impl_NumText.j0]
          rw [if_neg (by decide), if_neg (by omega), if_neg (by omega), tdiv_pos, tmod_pos, wrap_id (x := ((m / 10 : Nat) : Int)) (by omega) (by omega), wrap_id (x := 48 + ((m % 10 : Nat) : Int)) (by omega) (by omega), wrap32_id (by omega) (by omega), encode_digit _ (by omega) (by omega)]
        · refine ⟨0, fun _ _ => ?_⟩
          have := decN_le (m / 10) (by omega)
          rw [if_pos (by rw [strOfNums_size, strOfNums_size]; simp; omega), ← strOfNums_append, ← decN_step m (by omega)]
theorem impl_NumText_neg : ∀ (m : Nat), m ≠ 0 → m ≤ 9223372036854775808 → Ev (fun k => impl_NumText.f k (-(m : Int))) (strOfNums (45 :: decN m)) := by
  intro m
  induction m using Nat.strongRecOn with
  | _ m ih =>
    intro hz hm
    by_cases hs : m < 10
    · refine Ev.step (f := fun k => impl_NumText.j0 k (-(m : Int)) true) (fun k => ?_) ?_
      · simp only [impl_NumText.f]
        rw [if_pos (by omega)]
        have : -(m : Int) > -10 := by omega
        rw [decide_eq_true this]
      · refine Ev.step (f := fun k => (impl_NumText.f k (m : Int)).bind fun t => if 1 + t.size ≤ 9223372036854775807 then some ((⟨#[45]⟩ : ByteArray) ++ t) else none) (fun k => ?_) (Ev.bind (impl_NumText_pos m (by omega)) ?_)
        · simp only [impl_NumText.j0]
          rw [if_pos trivial, Int.neg_neg, wrap_id (by omega) (by omega)]
        · refine ⟨0, fun _ _ => ?_⟩
          have := decN_le m (by omega)
          rw [if_pos (by rw [strOfNums_size]; omega), show (45 :: decN m) = [45] ++ decN m from rfl, strOfNums_append]
          rfl
    · refine Ev.step (f := fun k => impl_NumText.j0 k (-(m : Int)) false) (fun k => ?_) ?_
      · simp only [impl_NumText.f]
        rw [if_pos (by omega)]
        have : ¬ -(m : Int) > -10 := by omega
        rw [decide_eq_false this]
      · refine Ev.step (f := fun k => (impl_NumText.f k (-((m / 10 : Nat) : Int))).bind fun t => (impl_NumText.f k ((m % 10 : Nat) : Int)).bind fun u => if t.size + u.size ≤ 9223372036854775807 then some (t ++ u) else none) (fun k => ?_)
          (Ev.bind (ih (m / 10) (by omega) (by omega) (by omega)) (Ev.bind (impl_NumText_pos (m % 10) (by omega)) ?_))
        · simp only [impl_NumText.j0]
          rw [if_neg (by decide), if_pos (by omega), tdiv_neg, tmod_neg, Int.neg_neg, wrap_id (x := -((m / 10 : Nat) : Int)) (by omega) (by omega), wrap_id (x := ((m % 10 : Nat) : Int)) (by omega) (by omega)]
        · refine ⟨0, fun _ _ => ?_⟩
          have h1 := decN_le (m / 10) (by omega)
          have h2 := decN_le (m % 10) (by omega)
          rw [if_pos (by rw [strOfNums_size, strOfNums_size, List.length_cons]; omega), ← strOfNums_append, decN_small (m % 10) (by omega), decN_step m (by omega)]
          rfl
theorem impl_NumText_eq (n : Int) (h : -9223372036854775808 ≤ n ∧ n ≤ 9223372036854775807) : Ev (fun k => impl_NumText.f k n) (numText n) := by
  unfold numText numL
  by_cases hn : n < 0
  · rw [if_pos hn]
    have := impl_NumText_neg n.natAbs (by omega) (by omega)
    rw [show (-(n.natAbs : Int)) = n by omega] at this
    exact this
  · rw [if_neg hn]
    have := impl_NumText_pos n.natAbs (by omega)
    rw [show ((n.natAbs : Int)) = n by omega] at this
    exact this
/-- What ParseNum returns from a state on: n is read, l is still to be read, s is the whole text. -/
def parseL (s : ByteArray) : Int → List Int → Int × Bool
  | n, [] => if n > 2147483647 then (0, false) else if (numText n).toList = s.toList then (n, true) else (0, false)
  | n, x :: l => if 48 ≤ x ∧ x ≤ 57 then parseL s (10 * n + (x - 48)) l else (0, false)
/-- What ParseNum returns. -/
def parseNum (s : ByteArray) : Int × Bool := if 1 ≤ s.size ∧ s.size ≤ 10 then parseL s 0 (bytesOf s) else (0, false)
theorem drop_bytes (s : ByteArray) (i : Nat) (h : i < s.size) : (bytesOf s).drop i = bt s i :: (bytesOf s).drop (i + 1) := by
  rw [rd_drop _ i (by rw [bytesOf_length]; exact h), rd_bytesOf]
theorem l1In_eq (a b c : Int) : spec_l1In.f a b c = some (decide (b ≤ a ∧ a ≤ c)) := by
  unfold spec_l1In.f
  by_cases h : a ≥ b
  · rw [if_pos h]
    have h' : b ≤ a := h
    simp [h']
  · rw [if_neg h]
    have h' : ¬ b ≤ a := h
    simp [h']
theorem pow10 (i : Nat) (h : i ≤ 10) : (10 : Int) ^ i ≤ 10000000000 := by
  have : (10 : Nat) ^ i ≤ 10 ^ 10 := Nat.pow_le_pow_right (by decide) h
  have e : ((10 ^ i : Nat) : Int) = (10 : Int) ^ i := by simp
  have f : (10 : Nat) ^ 10 = 10000000000 := by decide
  omega
theorem spec_parse_loop (s : ByteArray) (hs : s.size ≤ 10) : ∀ (d i : Nat) (n : Int), i + d = s.size → 0 ≤ n → n < 10 ^ i →
    Ev (fun k => spec_ParseNum.l0 k s n (i : Int)) (parseL s n ((bytesOf s).drop i)) := by
  intro d
  induction d with
  | zero =>
    intro i n hi h0 h1
    have hp := pow10 i (by omega)
    rw [List.drop_of_length_le (by rw [bytesOf_length]; omega)]
    unfold parseL
    by_cases hb : n > 2147483647
    · refine Ev.step (f := fun _ => some (0, false)) (fun k => ?_) ⟨0, fun _ _ => by rw [if_pos hb]⟩
      simp only [spec_ParseNum.l0]
      rw [if_neg (by omega), if_pos hb]
    · rw [if_neg hb]
      refine Ev.step (f := fun k => (spec_NumText.f k n).bind fun t => if t.toList = s.toList then some (n, true) else some (0, false)) (fun k => ?_) (Ev.bind (spec_NumText_eq n (by omega)) ?_)
      · simp only [spec_ParseNum.l0]
        rw [if_neg (by omega), if_neg hb]
      · refine ⟨0, fun _ _ => ?_⟩
        split <;> rfl
  | succ d ih =>
    intro i n hi h0 h1
    have hp := pow10 i (by omega)
    have hps : (10 : Int) ^ (i + 1) = 10 ^ i * 10 := by rw [Int.pow_succ]
    rw [drop_bytes s i (by omega)]
    unfold parseL
    have hb := bt_range s i
    by_cases hd : 48 ≤ bt s i ∧ bt s i ≤ 57
    · rw [if_pos hd]
      refine Ev.step (f := fun k => spec_ParseNum.l0 k s (10 * n + (bt s i - 48)) ((i + 1 : Nat) : Int)) (fun k => ?_) (ih (i + 1) _ (by omega) (by omega) (by omega))
      simp only [spec_ParseNum.l0]
      rw [if_pos (by omega), if_pos (by omega), wrap_id (x := bt s i) (by omega) (by omega), l1In_eq, decide_eq_true hd]
      simp only [Option.bind_some, if_true]
      rw [wrap_id (x := 10 * n) (by omega) (by omega), show (bt s i - 48) % 256 = bt s i - 48 by omega, wrap_id (by omega) (by omega), wrap_succ i 10 (by omega) (by decide)]
    · rw [if_neg hd]
      refine Ev.step (f := fun _ => some (0, false)) (fun k => ?_) ⟨0, fun _ _ => rfl⟩
      simp only [spec_ParseNum.l0]
      rw [if_pos (by omega), if_pos (by omega), wrap_id (x := bt s i) (by omega) (by omega), l1In_eq, decide_eq_false hd]
      rfl
theorem spec_ParseNum_eq (s : ByteArray) : Ev (fun k => spec_ParseNum.f k s) (parseNum s) := by
  unfold spec_ParseNum.f parseNum
  rw [l1In_eq]
  simp only [Option.bind_some]
  by_cases h : 1 ≤ s.size ∧ s.size ≤ 10
  · rw [if_pos h, decide_eq_true (by omega)]
    simp only [if_true]
    have := spec_parse_loop s h.2 s.size 0 0 (by omega) (by omega) (by decide)
    simpa using this
  · rw [if_neg h, decide_eq_false (by omega)]
    exact ⟨0, fun _ _ => rfl⟩
theorem impl_parse_loop (s : ByteArray) (hs : s.size ≤ 10) : ∀ (d i : Nat) (n : Int), i + d = s.size → 0 ≤ n → n < 10 ^ i →
    Ev (fun k => impl_ParseNum.l0 k s n (s.size : Int) (i : Int)) (parseL s n ((bytesOf s).drop i)) := by
  intro d
  induction d with
  | zero =>
    intro i n hi h0 h1
    have hp := pow10 i (by omega)
    rw [List.drop_of_length_le (by rw [bytesOf_length]; omega)]
    unfold parseL
    by_cases hb : n > 2147483647
    · refine Ev.step (f := fun _ => some (0, false)) (fun k => ?_) ⟨0, fun _ _ => by rw [if_pos hb]⟩
      simp only [impl_ParseNum.l0]
      rw [if_neg (by omega), if_pos hb]
    · rw [if_neg hb]
      refine Ev.step (f := fun k => (impl_NumText.f k n).bind fun t => if t.toList = s.toList then some (n, true) else some (0, false)) (fun k => ?_) (Ev.bind (impl_NumText_eq n (by omega)) ?_)
      · simp only [impl_ParseNum.l0]
        rw [if_neg (by omega), if_neg hb]
      · refine ⟨0, fun _ _ => ?_⟩
        split <;> rfl
  | succ d ih =>
    intro i n hi h0 h1
    have hp := pow10 i (by omega)
    have hps : (10 : Int) ^ (i + 1) = 10 ^ i * 10 := by rw [Int.pow_succ]
    rw [drop_bytes s i (by omega)]
    unfold parseL
    have hb := bt_range s i
    by_cases hd : 48 ≤ bt s i ∧ bt s i ≤ 57
    · rw [if_pos hd]
      refine Ev.step (f := fun k => impl_ParseNum.l0 k s (10 * n + (bt s i - 48)) (s.size : Int) ((i + 1 : Nat) : Int)) (fun k => ?_) (ih (i + 1) _ (by omega) (by omega) (by omega))
      simp only [impl_ParseNum.l0]
      rw [if_pos (by omega), if_pos (by omega), if_pos (by omega), if_neg (by omega), if_neg (by omega),
        wrap_id (x := 10 * n) (by omega) (by omega), show (bt s i - 48) % 256 = bt s i - 48 by omega, wrap_id (by omega) (by omega), wrap_succ i 10 (by omega) (by decide)]
    · rw [if_neg hd]
      refine Ev.step (f := fun _ => some (0, false)) (fun k => ?_) ⟨0, fun _ _ => rfl⟩
      simp only [impl_ParseNum.l0]
      rw [if_pos (by omega), if_pos (by omega), if_pos (by omega)]
      by_cases h48 : bt s i < 48
      · rw [if_pos h48]
      · rw [if_neg h48, if_pos (by omega)]
theorem toList_nil (s : ByteArray) : s.toList = ([] : List UInt8) ↔ s.size = 0 := by
  rw [ByteArray.toList_eq]
  constructor
  · intro h
    have := congrArg List.length h
    rw [data_length] at this
    simpa using this
  · intro h
    exact List.eq_nil_of_length_eq_zero (by rw [data_length]; exact h)
theorem impl_ParseNum_eq (s : ByteArray) : Ev (fun k => impl_ParseNum.f k s) (parseNum s) := by
  unfold impl_ParseNum.f parseNum
  by_cases h0 : s.size = 0
  · simp only [if_pos ((toList_nil s).2 h0)]
    rw [if_neg (by omega)]
    refine Ev.step (f := fun _ => some (0, false)) (fun k => ?_) ⟨0, fun _ _ => rfl⟩
    simp only [impl_ParseNum.j0]
    rfl
  · have hne : ¬ s.toList = ([] : List UInt8) := fun e => h0 ((toList_nil s).1 e)
    simp only [if_neg hne]
    by_cases h1 : (s.size : Int) > 10
    · rw [if_neg (by omega), decide_eq_true h1]
      refine Ev.step (f := fun _ => some (0, false)) (fun k => ?_) ⟨0, fun _ _ => rfl⟩
      simp only [impl_ParseNum.j0]
      rfl
    · rw [if_pos (by omega), decide_eq_false h1]
      refine Ev.step (f := fun k => impl_ParseNum.l0 k s 0 (s.size : Int) 0) (fun k => ?_) ?_
      · simp only [impl_ParseNum.j0]
        rfl
      · have := impl_parse_loop s (by omega) s.size 0 0 (by omega) (by omega) (by decide)
        simpa using this
theorem parseL_digits (s : ByteArray) (rest : List Int) : ∀ (m : Nat), parseL s 0 (decZ m ++ rest) = parseL s (m : Int) rest := by
  intro m
  induction m using Nat.strongRecOn generalizing rest with
  | _ m ih =>
    by_cases h : m = 0
    · subst h
      rw [decZ_zero]
      rfl
    · rw [decZ_pos m h, List.append_assoc, ih (m / 10) (by omega)]
      show parseL s ((m / 10 : Nat) : Int) ((48 + ((m % 10 : Nat) : Int)) :: rest) = _
      rw [parseL, if_pos (by omega)]
      congr 1
      omega
theorem parseL_decN (s : ByteArray) (n : Nat) : parseL s 0 (decN n) = parseL s (n : Int) [] := by
  unfold decN
  rw [parseL_digits]
  have h : 48 ≤ 48 + ((n % 10 : Nat) : Int) ∧ 48 + ((n % 10 : Nat) : Int) ≤ 57 := by omega
  have e : 10 * ((n / 10 : Nat) : Int) + (48 + ((n % 10 : Nat) : Int) - 48) = (n : Int) := by omega
  rw [show parseL s ((n / 10 : Nat) : Int) [48 + ((n % 10 : Nat) : Int)] = parseL s (10 * ((n / 10 : Nat) : Int) + (48 + ((n % 10 : Nat) : Int) - 48)) [] from if_pos h, e]
theorem bytes_decZ : ∀ (m : Nat), Bytes (decZ m) := by
  intro m
  induction m using Nat.strongRecOn with
  | _ m ih =>
    by_cases h : m = 0
    · subst h
      rw [decZ_zero]
      intro x hx
      cases hx
    · rw [decZ_pos m h]
      refine (ih (m / 10) (by omega)).append (fun x hx => ?_)
      rw [List.mem_singleton.1 hx]
      omega
theorem bytes_decN (n : Nat) : Bytes (decN n) := by
  unfold decN
  refine (bytes_decZ _).append (fun x hx => ?_)
  rw [List.mem_singleton.1 hx]
  omega
/-- A number's text is parsed again: the number, if it is no greater than MaxFour and none below 0. -/
theorem parse_numText (n : Int) (h : I64 n) : parseNum (numText n) = if 0 ≤ n ∧ n ≤ 2147483647 then (n, true) else (0, false) := by
  obtain ⟨h1, h2⟩ := h
  unfold parseNum
  by_cases c0 : n < 0
  · rw [if_neg (show ¬ (0 ≤ n ∧ n ≤ 2147483647) by omega)]
    have e : numText n = strOfNums (45 :: decN n.natAbs) := by unfold numText numL; rw [if_pos c0]
    have hb : Bytes (45 :: decN n.natAbs) := by
      intro x hx
      rcases List.mem_cons.1 hx with q | q
      · omega
      · exact bytes_decN _ x q
    split
    · rw [e, bytesOf_strOfNums hb, parseL, if_neg (by omega)]
    · rfl
  · obtain ⟨m, rfl⟩ := Int.eq_ofNat_of_zero_le (Int.not_lt.1 c0)
    have e : numText (m : Int) = strOfNums (decN m) := by unfold numText numL; rw [if_neg c0, Int.natAbs_natCast]
    have sz : (numText (m : Int)).size = (decN m).length := by rw [e, strOfNums_size]
    have hpos : 1 ≤ (decN m).length := by unfold decN; simp
    have hpl : parseL (numText (m : Int)) 0 (bytesOf (numText (m : Int))) = parseL (numText (m : Int)) (m : Int) [] := by
      conv => lhs; rw [show bytesOf (numText (m : Int)) = decN m by rw [e, bytesOf_strOfNums (bytes_decN m)]]
      exact parseL_decN _ m
    by_cases c : (m : Int) ≤ 2147483647
    · have hl : (decN m).length ≤ 10 := by
        unfold decN
        have := decZ_length 9 (m / 10) (by omega)
        rw [List.length_append]
        simp
        omega
      rw [if_pos ⟨by omega, by omega⟩, hpl, if_pos ⟨by omega, c⟩, parseL, if_neg (by omega), if_pos rfl]
    · rw [if_neg (show ¬ (0 ≤ (m : Int) ∧ (m : Int) ≤ 2147483647) by omega)]
      split
      · rw [hpl, parseL, if_pos (by omega)]
      · rfl
theorem parseL_back (s : ByteArray) : ∀ (l : List Int) (n : Int), 0 ≤ n → 0 ≤ (parseL s n l).1 ∧ (parseL s n l).1 ≤ 2147483647 ∧ ((parseL s n l).2 = true → (numText (parseL s n l).1).toList = s.toList)
  | [], n, h0 => by
    unfold parseL
    split
    · exact ⟨by show (0 : Int) ≤ 0; omega, by show (0 : Int) ≤ 2147483647; omega, fun h => by cases h⟩
    · split
      · rename_i q q2
        exact ⟨h0, by show n ≤ 2147483647; omega, fun _ => q2⟩
      · exact ⟨by show (0 : Int) ≤ 0; omega, by show (0 : Int) ≤ 2147483647; omega, fun h => by cases h⟩
  | x :: l, n, h0 => by
    unfold parseL
    split
    · exact parseL_back s l _ (by omega)
    · exact ⟨by show (0 : Int) ≤ 0; omega, by show (0 : Int) ≤ 2147483647; omega, fun h => by cases h⟩
theorem parse_back (s : ByteArray) : 0 ≤ (parseNum s).1 ∧ (parseNum s).1 ≤ 2147483647 ∧ ((parseNum s).2 = true → (numText (parseNum s).1).toList = s.toList) := by
  unfold parseNum
  split
  · exact parseL_back s _ 0 (by omega)
  · exact ⟨by show (0 : Int) ≤ 0; omega, by show (0 : Int) ≤ 2147483647; omega, fun h => by cases h⟩
theorem drawNumText_ev (l : List Int) (hn : l.length ≤ 140737488351232) : ∃ n, Ev (fun k => spec_DrawNumText.f k l) n ∧ I64 n := by
  unfold spec_DrawNumText.f
  obtain ⟨g, e0⟩ := l1New_ev l hn
  obtain ⟨x, j1, g1, e1, p1, c1⟩ := l1One_dr l hn 0 g (cur0 l)
  exact ⟨x, Ev.bind e0 (Ev.bind (Ev_c e1) (Ev_some _)), p1⟩
theorem drawParseNum_ev (l : List Int) (hn : l.length ≤ 140737488351232) : ∃ s, Ev (fun k => spec_DrawParseNum.f k l) s := by
  unfold spec_DrawParseNum.f
  obtain ⟨g, e0⟩ := l1New_ev l hn
  obtain ⟨x, j1, g1, e1, _, c1⟩ := l1Once_dr l hn 0 g 2 (cur0 l)
  by_cases q : x = true
  · obtain ⟨y, j2, g2, e2, _, c2⟩ := l1Str_dr l hn j1 g1 [(⟨#[]⟩ : ByteArray), (⟨#[48]⟩ : ByteArray), (⟨#[48, 48]⟩ : ByteArray), (⟨#[45, 49]⟩ : ByteArray), (⟨#[48, 49]⟩ : ByteArray), (⟨#[55]⟩ : ByteArray), (⟨#[50, 49, 52, 55, 52, 56, 51, 54, 52, 55]⟩ : ByteArray), (⟨#[50, 49, 52, 55, 52, 56, 51, 54, 52, 56]⟩ : ByteArray), (⟨#[57, 57, 57, 57, 57, 57, 57, 57, 57, 57, 57]⟩ : ByteArray), (⟨#[49, 120]⟩ : ByteArray), (⟨#[32, 49]⟩ : ByteArray)] (by simp) c1
    exact ⟨y, Ev.bind e0 (Ev.bind (Ev_c e1) (Ev_if q (Ev.bind (Ev_c e2) (Ev_some _))))⟩
  · obtain ⟨y, j2, g2, e2, p2, c2⟩ := l1Num_dr l hn j1 g1 c1
    exact ⟨numText y, Ev.bind e0 (Ev.bind (Ev_c e1) (Ev_ifn q (Ev.bind (Ev_c e2) (Ev.bind (spec_NumText_eq y ⟨by have := p2.1; omega, by have := p2.2; omega⟩) (Ev_some _)))))⟩
theorem big_eq (l : List Int) : laws_big.f l = some (decide ((l.length : Int) > 1048576)) := by
  unfold laws_big.f
  rfl

end Go.Proofs.Ytbohkphbgkgaeaa.Lem
