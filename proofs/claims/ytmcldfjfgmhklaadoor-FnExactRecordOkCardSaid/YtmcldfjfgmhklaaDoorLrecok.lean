/- Lemmas on the printed functions, of this session. -/
import Derived.Test.YtmcldfjfgmhklaaDoorY
import Derived.Test.YtmcldfjfgmhklaaDoorLev
import Derived.Test.YtmcldfjfgmhklaaDoorLlabel
import Derived.Test.YtmcldfjfgmhklaaDoorLname
import Derived.Test.YtmcldfjfgmhklaaDoorPrx0
import Derived.Test.YtmcldfjfgmhklaaDoorPrx2
import Derived.Test.YtmcldfjfgmhklaaDoorPrx6
import Derived.Test.YtmcldfjfgmhklaaDoorPrx7
namespace Go.Proofs.YtmcldfjfgmhklaaDoor.Lem
open Go.RowKit Go.Proofs.YtmcldfjfgmhklaaDoor.Pr Go.Proofs.YtmcldfjfgmhklaaDoor.X Go.Proofs.YtmcldfjfgmhklaaDoor.Y Go.Proofs.YtmcldfjfgmhklaaDoorW.PrintWords Go.Proofs.YtmcldfjfgmhklaaDoorW.PrintLast Go.Proofs.YtmcldfjfgmhklaaDoorW.PrintMore
set_option linter.unusedVariables false
set_option linter.unusedSimpArgs false
/-- The bytes of a text. -/
def textOk (s : ByteArray) : Bool := (bytesOf s).all (fun c => decide (33 ≤ c) && decide (c ≤ 126)) && decide (s.size ≤ 12)
theorem spec_l5Text_loop (s : ByteArray) (hn : s.size ≤ 140737488355328) : ∀ (d i : Nat), i + d = s.size →
    Ev (fun k => spec_l5Text.l0 k s (i : Int)) (((bytesOf s).drop i).all (fun c => decide (33 ≤ c) && decide (c ≤ 126)) && decide (s.size ≤ 12)) := by
  intro d
  induction d with
  | zero =>
    intro i hi
    refine Ev.step (f := fun _ => some (decide (s.size ≤ 12))) (fun k => ?_) ⟨0, fun _ _ => by rw [List.drop_of_length_le (by rw [bytesOf_length]; omega)]; rfl⟩
    simp only [spec_l5Text.l0]
    rw [if_neg (by omega)]
    congr 1
    exact decide_eq_decide.2 (by omega)
  | succ d ih =>
    intro i hi
    have hb := bt_range s i
    have hw := wrap_succ i s.size (by omega) hn
    rw [drop_bytesOf s i (by omega), List.all_cons]
    have hs : ∀ k, spec_l5Text.l0 (k + 1) s (i : Int) = if (decide (33 ≤ bt s i) && decide (bt s i ≤ 126)) = true then spec_l5Text.l0 k s ((i + 1 : Nat) : Int) else some false := by
      intro k
      simp only [spec_l5Text.l0]
      rw [if_pos (by omega), if_pos (by omega), wrap_id (x := bt s i) (by omega) (by omega), l1In_dec, Option.bind_some, hw]
    refine Ev.step hs ?_
    cases h : (decide (33 ≤ bt s i) && decide (bt s i ≤ 126)) with
    | true => exact Ev_if rfl (by rw [Bool.true_and]; exact ih (i + 1) (by omega))
    | false => exact Ev_ifn (by decide) ⟨0, fun _ _ => rfl⟩
theorem spec_l5Text_eq (s : ByteArray) (hn : s.size ≤ 140737488355328) : Ev (fun k => spec_l5Text.f k s) (textOk s) := by
  have := spec_l5Text_loop s hn s.size 0 (by omega)
  unfold spec_l5Text.f textOk
  simpa using this
theorem impl_isText_loop (s : ByteArray) (hn : s.size ≤ 140737488355328) : ∀ (d i : Nat), i + d = s.size →
    Ev (fun k => impl_isText.l0 k s (s.size : Int) (i : Int)) (((bytesOf s).drop i).all (fun c => decide (33 ≤ c) && decide (c ≤ 126)) && decide (s.size ≤ 12)) := by
  intro d
  induction d with
  | zero =>
    intro i hi
    refine Ev.step (f := fun _ => some (decide (s.size ≤ 12))) (fun k => ?_) ⟨0, fun _ _ => by rw [List.drop_of_length_le (by rw [bytesOf_length]; omega)]; rfl⟩
    simp only [impl_isText.l0]
    rw [if_neg (by omega)]
    congr 1
    exact decide_eq_decide.2 (by omega)
  | succ d ih =>
    intro i hi
    have hb := bt_range s i
    have hw := wrap_succ i s.size (by omega) hn
    rw [drop_bytesOf s i (by omega), List.all_cons]
    have hs : ∀ k, impl_isText.l0 (k + 1) s (s.size : Int) (i : Int) = if bt s i < 33 then some false else if bt s i > 126 then some false else impl_isText.l0 k s (s.size : Int) ((i + 1 : Nat) : Int) := by
      intro k
      simp only [impl_isText.l0]
      rw [if_pos (by omega), if_pos (by omega), if_pos (by omega), hw]
    refine Ev.step hs ?_
    by_cases c1 : bt s i < 33
    · refine Ev_if c1 ⟨0, fun _ _ => ?_⟩
      rw [decide_eq_false (show ¬ 33 ≤ bt s i by omega)]
      rfl
    · refine Ev_ifn c1 ?_
      rw [decide_eq_true (show 33 ≤ bt s i by omega), Bool.true_and]
      by_cases c2 : bt s i > 126
      · refine Ev_if c2 ⟨0, fun _ _ => ?_⟩
        rw [decide_eq_false (show ¬ bt s i ≤ 126 by omega)]
        rfl
      · refine Ev_ifn c2 ?_
        rw [decide_eq_true (show bt s i ≤ 126 by omega), Bool.true_and]
        exact ih (i + 1) (by omega)
theorem impl_isText_eq (s : ByteArray) (hn : s.size ≤ 140737488355328) : Ev (fun k => impl_isText.f k s) (textOk s) := by
  have := impl_isText_loop s hn s.size 0 (by omega)
  unfold impl_isText.f textOk
  simpa using this
/-- A number from 0 to m. -/
def inTo (x m : Int) : Bool := decide (0 ≤ x) && decide (x ≤ m)
theorem l1In_to (x m : Int) : spec_l1In.f x 0 m = some (inTo x m) := l1In_dec x 0 m
theorem isTtl_eq (x : Int) : impl_isTtl.f x = some (inTo x 100000) := by
  unfold impl_isTtl.f inTo
  by_cases h : x ≥ 0
  · rw [if_pos h, decide_eq_true (show 0 ≤ x by omega), Bool.true_and]
  · rw [if_neg h, decide_eq_false (show ¬ 0 ≤ x by omega), Bool.false_and]
theorem isFour_eq (x : Int) : impl_isFour.f x = some (inTo x 2147483647) := by
  unfold impl_isFour.f inTo
  by_cases h : x ≥ 0
  · rw [if_pos h, decide_eq_true (show 0 ≤ x by omega), Bool.true_and]
  · rw [if_neg h, decide_eq_false (show ¬ 0 ≤ x by omega), Bool.false_and]
def isE (s : ByteArray) : Bool := s.toList == ([] : List UInt8)
theorem isE_if {α : Type} (s : ByteArray) (x y : α) : (if s.toList = ([] : List UInt8) then x else y) = if isE s = true then x else y := by
  unfold isE
  by_cases h : s.toList = []
  · rw [if_pos h, if_pos (by rw [h]; rfl)]
  · rw [if_neg h, if_neg (fun e => h (by simpa using e))]
/-- What RecordOk answers. -/
def recOk (a0 : ByteArray) (a1 a2 a3 : Int) (a4 a5 : ByteArray) : Bool :=
  nameOk a0 && (inTo a2 100000 && (if a1 = 1 then inTo a3 2147483647 && (isE a4 && isE a5) else if a1 = 2 ∨ a1 = 5 then decide (a3 = 0) && (nameOk a4 && isE a5) else if a1 = 6 then inTo a3 100000 && (nameOk a4 && isE a5) else if a1 = 16 then decide (a3 = 0) && (isE a4 && textOk a5) else false))
theorem Ev_and {f : Nat → Option Bool} {a b : Bool} {g : Nat → Option Bool} (h : Ev f a) (h2 : a = true → Ev g b) : Ev (fun k => (f k).bind fun t => if t = true then g k else some false) (a && b) := by
  refine Ev.bind h ?_
  cases a with
  | true => exact Ev_if rfl (by rw [Bool.true_and]; exact h2 rfl)
  | false => exact Ev_ifn (by decide) ⟨0, fun _ _ => rfl⟩
theorem Ev_andp {p : Prop} [Decidable p] {b : Bool} {g : Nat → Option Bool} (h2 : p → Ev g b) : Ev (fun k => if p then g k else some false) (decide p && b) := by
  by_cases h : p
  · rw [decide_eq_true h, Bool.true_and]
    exact Ev_if h (h2 h)
  · rw [decide_eq_false h, Bool.false_and]
    exact Ev_ifn h ⟨0, fun _ _ => rfl⟩
theorem Ev_andE (s : ByteArray) {b : Bool} {g : Nat → Option Bool} (h2 : Ev g b) : Ev (fun k => if s.toList = ([] : List UInt8) then g k else some false) (isE s && b) := by
  unfold isE
  by_cases h : s.toList = []
  · rw [show (s.toList == ([] : List UInt8)) = true by rw [h]; rfl, Bool.true_and]
    exact Ev_if h h2
  · rw [show (s.toList == ([] : List UInt8)) = false by simpa using h, Bool.false_and]
    exact Ev_ifn h ⟨0, fun _ _ => rfl⟩
theorem Ev_some {α : Type} (x : α) : Ev (fun _ => some x) x := ⟨0, fun _ _ => rfl⟩
theorem Ev_ret {α : Type} {f : Nat → Option α} {x : α} (h : Ev f x) : Ev (fun k => (f k).bind fun t => some t) x := Ev.bind h (Ev_some x)
theorem spec_RecordOk_eq (a0 : ByteArray) (a1 a2 a3 : Int) (a4 a5 : ByteArray) (h0 : a0.size ≤ 1048576) (h4 : a4.size ≤ 1048576) (h5 : a5.size ≤ 1048576) : Ev (fun k => spec_RecordOk.f k a0 a1 a2 a3 a4 a5) (recOk a0 a1 a2 a3 a4 a5) := by
  unfold spec_RecordOk.f recOk
  refine Ev.bind (spec_NameOk_eq a0 h0) ?_
  cases hn : nameOk a0 with
  | false =>
    refine Ev_ifn (by decide) ?_
    refine Ev.step (f := fun _ => some false) (fun k => ?_) (Ev_some _)
    simp only [spec_RecordOk.j0]
    rfl
  | true =>
    rw [Bool.true_and]
    refine Ev_if rfl ?_
    simp only [l1In_to, Option.bind_some]
    cases ht : inTo a2 100000 with
    | false =>
      refine Ev.step (f := fun _ => some false) (fun k => ?_) (Ev_some _)
      simp only [spec_RecordOk.j0]
      rfl
    | true =>
      rw [Bool.true_and]
      have key : ∀ (b : Bool), b = decide (a1 = 2 ∨ a1 = 5) → a1 ≠ 1 → Ev (fun k => spec_RecordOk.j1 k a1 b a0 a1 a2 a3 a4 a5) (if a1 = 2 ∨ a1 = 5 then decide (a3 = 0) && (nameOk a4 && isE a5) else if a1 = 6 then inTo a3 100000 && (nameOk a4 && isE a5) else if a1 = 16 then decide (a3 = 0) && (isE a4 && textOk a5) else false) := by
        intro b hb h1
        by_cases c : a1 = 2 ∨ a1 = 5
        · rw [if_pos c]
          rw [decide_eq_true c] at hb
          subst hb
          refine Ev.step (fun k => ?_) (Ev_andp fun _ => Ev_and (spec_NameOk_eq a4 h4) fun _ => Ev_some _)
          simp only [spec_RecordOk.j1, if_true]
          rfl
        · rw [if_neg c]
          rw [decide_eq_false c] at hb
          subst hb
          by_cases c6 : a1 = 6
          · rw [if_pos c6]
            refine Ev.step (fun k => ?_) (Ev_and (f := fun _ => some (inTo a3 100000)) (Ev_some _) fun _ => Ev_and (spec_NameOk_eq a4 h4) fun _ => Ev_some _)
            simp only [spec_RecordOk.j1]
            rw [if_neg (by decide), if_pos c6, l1In_to]
            rfl
          · rw [if_neg c6]
            by_cases c16 : a1 = 16
            · rw [if_pos c16]
              refine Ev.step (fun k => ?_) (Ev_andp fun _ => Ev_andE a4 (Ev_ret (spec_l5Text_eq a5 (by omega))))
              simp only [spec_RecordOk.j1]
              rw [if_neg (by decide), if_neg c6, if_pos c16]
            · rw [if_neg c16]
              refine Ev.step (f := fun _ => some false) (fun k => ?_) (Ev_some _)
              simp only [spec_RecordOk.j1]
              rw [if_neg (by decide), if_neg c6, if_neg c16]
      by_cases c1 : a1 = 1
      · rw [if_pos c1]
        refine Ev.step (fun k => ?_) (Ev_and (f := fun _ => some (inTo a3 2147483647)) (Ev_some _) fun _ => Ev_andE a4 (Ev_some _))
        simp only [spec_RecordOk.j0]
        rw [if_neg (by decide), if_pos c1, l1In_to]
        rfl
      · rw [if_neg c1]
        by_cases c2 : a1 = 2
        · refine Ev.step (fun k => ?_) (key (a1 == 2) (by rw [decide_eq_true (Or.inl c2)]; simpa using c2) c1)
          simp only [spec_RecordOk.j0]
          rw [if_neg (by decide), if_neg c1, if_pos c2]
        · refine Ev.step (fun k => ?_) (key (a1 == 5) (by by_cases c5 : a1 = 5 <;> simp [c2, c5]) c1)
          simp only [spec_RecordOk.j0]
          rw [if_neg (by decide), if_neg c1, if_neg c2]
theorem impl_RecordOk_eq (a0 : ByteArray) (a1 a2 a3 : Int) (a4 a5 : ByteArray) (h0 : a0.size ≤ 1048576) (h4 : a4.size ≤ 1048576) (h5 : a5.size ≤ 1048576) : Ev (fun k => impl_RecordOk.f k a0 a1 a2 a3 a4 a5) (recOk a0 a1 a2 a3 a4 a5) := by
  unfold impl_RecordOk.f recOk
  refine Ev.bind (impl_NameOk_eq a0 h0) ?_
  cases hn : nameOk a0 with
  | false =>
    refine Ev_ifn (by decide) ?_
    refine Ev.step (f := fun _ => some false) (fun k => ?_) (Ev_some _)
    simp only [impl_RecordOk.j0]
    rfl
  | true =>
    rw [Bool.true_and]
    refine Ev_if rfl ?_
    simp only [isTtl_eq, Option.bind_some]
    cases ht : inTo a2 100000 with
    | false =>
      refine Ev.step (f := fun _ => some false) (fun k => ?_) (Ev_some _)
      simp only [impl_RecordOk.j0]
      rfl
    | true =>
      rw [Bool.true_and]
      have key : ∀ (b : Bool), b = decide (a1 = 2 ∨ a1 = 5) → a1 ≠ 1 → Ev (fun k => impl_RecordOk.j1 k a1 b a0 a1 a2 a3 a4 a5) (if a1 = 2 ∨ a1 = 5 then decide (a3 = 0) && (nameOk a4 && isE a5) else if a1 = 6 then inTo a3 100000 && (nameOk a4 && isE a5) else if a1 = 16 then decide (a3 = 0) && (isE a4 && textOk a5) else false) := by
        intro b hb h1
        by_cases c : a1 = 2 ∨ a1 = 5
        · rw [if_pos c]
          rw [decide_eq_true c] at hb
          subst hb
          refine Ev.step (fun k => ?_) (Ev_andp fun _ => Ev_and (impl_NameOk_eq a4 h4) fun _ => Ev_some _)
          simp only [impl_RecordOk.j1, if_true]
          rfl
        · rw [if_neg c]
          rw [decide_eq_false c] at hb
          subst hb
          by_cases c6 : a1 = 6
          · rw [if_pos c6]
            refine Ev.step (fun k => ?_) (Ev_and (f := fun _ => some (inTo a3 100000)) (Ev_some _) fun _ => Ev_and (impl_NameOk_eq a4 h4) fun _ => Ev_some _)
            simp only [impl_RecordOk.j1]
            rw [if_neg (by decide), if_pos c6, isTtl_eq]
            rfl
          · rw [if_neg c6]
            by_cases c16 : a1 = 16
            · rw [if_pos c16]
              refine Ev.step (fun k => ?_) (Ev_andp fun _ => Ev_andE a4 (Ev_ret (impl_isText_eq a5 (by omega))))
              simp only [impl_RecordOk.j1]
              rw [if_neg (by decide), if_neg c6, if_pos c16]
            · rw [if_neg c16]
              refine Ev.step (f := fun _ => some false) (fun k => ?_) (Ev_some _)
              simp only [impl_RecordOk.j1]
              rw [if_neg (by decide), if_neg c6, if_neg c16]
      by_cases c1 : a1 = 1
      · rw [if_pos c1]
        refine Ev.step (fun k => ?_) (Ev_and (f := fun _ => some (inTo a3 2147483647)) (Ev_some _) fun _ => Ev_andE a4 (Ev_some _))
        simp only [impl_RecordOk.j0]
        rw [if_neg (by decide), if_pos c1, isFour_eq]
        rfl
      · rw [if_neg c1]
        by_cases c2 : a1 = 2
        · refine Ev.step (fun k => ?_) (key (a1 == 2) (by rw [decide_eq_true (Or.inl c2)]; simpa using c2) c1)
          simp only [impl_RecordOk.j0]
          rw [if_neg (by decide), if_neg c1, if_pos c2]
        · refine Ev.step (fun k => ?_) (key (a1 == 5) (by by_cases c5 : a1 = 5 <;> simp [c2, c5]) c1)
          simp only [impl_RecordOk.j0]
          rw [if_neg (by decide), if_neg c1, if_neg c2]

end Go.Proofs.YtmcldfjfgmhklaaDoor.Lem
