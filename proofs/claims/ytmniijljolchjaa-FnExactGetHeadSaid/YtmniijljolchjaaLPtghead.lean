/- Lemmas on the printed functions, of this session. -/
import Derived.Test.YtmniijljolchjaaY
import Derived.Test.YtmniijljolchjaaLPtget2
import Derived.Test.YtmniijljolchjaaPtx0
import Derived.Test.YtmniijljolchjaaPtx6
import Derived.Test.YtmniijljolchjaaPtx7
namespace Go.Proofs.Ytmniijljolchjaa.Lem
open Go.RowKit Go.Proofs.Ytmniijljolchjaa.Pt Go.Proofs.Ytmniijljolchjaa.X Go.Proofs.Ytmniijljolchjaa.Y Go.Proofs.YtmniijljolchjaaW.PrintWords Go.Proofs.YtmniijljolchjaaW.PrintLast Go.Proofs.YtmniijljolchjaaW.PrintMore
set_option linter.unusedVariables false
set_option linter.unusedSimpArgs false
theorem byte_all (P : Int → Prop) [∀ x, Decidable (P x)] (h : (List.range 256).all (fun n => decide (P (n : Int))) = true) (x : Int) (h0 : 0 ≤ x) (h1 : x ≤ 255) : P x := by
  have := List.all_eq_true.1 h x.toNat (List.mem_range.2 (by omega))
  rw [show ((x.toNat : Int)) = x by omega] at this
  exact of_decide_eq_true this
theorem byte_and128 (x : Int) (h0 : 0 ≤ x) (h1 : x ≤ 255) : Go.bits .and .i64 x 128 = Go.bits .and .u8 x 128 := byte_all (fun x => Go.bits .and .i64 x 128 = Go.bits .and .u8 x 128) (by decide +kernel) x h0 h1
theorem byte_and4 (x : Int) (h0 : 0 ≤ x) (h1 : x ≤ 255) : Go.bits .and .i64 x 4 = Go.bits .and .u8 x 4 := byte_all (fun x => Go.bits .and .i64 x 4 = Go.bits .and .u8 x 4) (by decide +kernel) x h0 h1
theorem byte_and2 (x : Int) (h0 : 0 ≤ x) (h1 : x ≤ 255) : Go.bits .and .i64 x 2 = Go.bits .and .u8 x 2 := byte_all (fun x => Go.bits .and .i64 x 2 = Go.bits .and .u8 x 2) (by decide +kernel) x h0 h1
theorem byte_and1 (x : Int) (h0 : 0 ≤ x) (h1 : x ≤ 255) : Go.bits .and .i64 x 1 = Go.bits .and .u8 x 1 := byte_all (fun x => Go.bits .and .i64 x 1 = Go.bits .and .u8 x 1) (by decide +kernel) x h0 h1
theorem byte_and15 (x : Int) (h0 : 0 ≤ x) (h1 : x ≤ 255) : Go.bits .and .i64 x 15 = wrap64 (Go.bits .and .u8 x 15) := byte_all (fun x => Go.bits .and .i64 x 15 = wrap64 (Go.bits .and .u8 x 15)) (by decide +kernel) x h0 h1
theorem byte_not135 (x : Int) (h0 : 0 ≤ x) (h1 : x ≤ 255) : Go.bits .andNot .i64 x 135 = 0 ↔ Go.bits .and .u8 x 120 = 0 := byte_all (fun x => Go.bits .andNot .i64 x 135 = 0 ↔ Go.bits .and .u8 x 120 = 0) (by decide +kernel) x h0 h1
theorem byte_not143 (x : Int) (h0 : 0 ≤ x) (h1 : x ≤ 255) : Go.bits .andNot .i64 x 143 = 0 ↔ Go.bits .and .u8 x 112 = 0 := byte_all (fun x => Go.bits .andNot .i64 x 143 = 0 ↔ Go.bits .and .u8 x 112 = 0) (by decide +kernel) x h0 h1
/-- What GetHead answers. -/
abbrev HeadT : Type := Int × Bool × Bool × Bool × Bool × Bool × Int × ByteArray × Int × (List (S73)) × (List (S73)) × (List (S73)) × Int × Int × Int × Bool
def noHead : HeadT := (0, false, false, false, false, false, 0, (⟨#[]⟩ : ByteArray), 0, [], [], [], 0, 0, 0, false)
def yesHead (l : List Int) : HeadT := ((get2 l 0).1, ((Go.bits .and .u8 (rd l 2) 128) != 0), ((Go.bits .and .u8 (rd l 2) 4) != 0), ((Go.bits .and .u8 (rd l 2) 2) != 0), ((Go.bits .and .u8 (rd l 2) 1) != 0), ((Go.bits .and .u8 (rd l 3) 128) != 0), wrap64 (Go.bits .and .u8 (rd l 3) 15), (⟨#[]⟩ : ByteArray), 0, [], [], [], (get2 l 6).1, (get2 l 8).1, (get2 l 10).1, true)
def headOf (l : List Int) : HeadT :=
  if (l.length : Int) < 12 then noHead else if Go.bits .and .u8 (rd l 2) 120 = 0 then (if Go.bits .and .u8 (rd l 3) 112 = 0 then (if (get2 l 4).1 = 1 then yesHead l else noHead) else noHead) else noHead
theorem spec_GetHead_eq (l : List Int) (hn : l.length ≤ 140737488351232) (hb : Bytes l) : Ev (fun k => spec_GetHead.f k l) (headOf l) := by
  have g (i : Int) (h0 : 0 ≤ i) (h1 : i ≤ 10) := spec_Get2_eq l hn hb i (by omega)
  have jt : Ev (fun k => spec_GetHead.j0 k l true) noHead := by
    refine Ev.step (f := fun _ => some noHead) (fun k => ?_) ⟨0, fun _ _ => rfl⟩
    simp only [spec_GetHead.j0, if_true]
    rfl
  unfold spec_GetHead.f headOf
  by_cases c : (l.length : Int) < 12
  · simp only [if_pos c]
    exact jt
  · simp only [if_neg c, if_pos (show (2 : Int) < (l.length : Int) by omega)]
    by_cases c2 : Go.bits .and .u8 (rd l 2) 120 = 0
    · simp only [if_pos c2, if_pos (show (3 : Int) < (l.length : Int) by omega)]
      by_cases c3 : Go.bits .and .u8 (rd l 3) 112 = 0
      · have e3 : (Go.bits .and .u8 (rd l 3) 112 != 0) = false := bne_eq_false_iff_eq.mpr c3
        simp only [if_pos c3, e3]
        refine Ev.step (f := fun _ => some (if (get2 l 4).1 = 1 then yesHead l else noHead)) (fun k => ?_) ⟨0, fun _ _ => rfl⟩
        simp only [spec_GetHead.j0]
        rw [if_neg (by decide), g 0 (by decide) (by decide), g 4 (by decide) (by decide), g 6 (by decide) (by decide), g 8 (by decide) (by decide), g 10 (by decide) (by decide)]
        simp only [Option.bind_some]
        by_cases c4 : (get2 l 4).1 = 1
        · rw [if_pos c4, if_pos c4, if_pos (by omega), if_pos (by omega)]
          rfl
        · rw [if_neg c4, if_neg c4]
          rfl
      · have e3 : (Go.bits .and .u8 (rd l 3) 112 != 0) = true := bne_iff_ne.mpr c3
        simp only [if_neg c3, e3]
        exact jt
    · simp only [if_neg c2]
      exact jt
theorem impl_GetHead_eq (l : List Int) (hn : l.length ≤ 140737488351232) (hb : Bytes l) : Ev (fun k => impl_GetHead.f k l) (headOf l) := by
  have g (i : Int) (h0 : 0 ≤ i) (h1 : i ≤ 10) := impl_Get2_eq l hn hb i (by omega)
  have b2 := rd_byte hb 2
  have b3 := rd_byte hb 3
  have w2 : wrap64 (rd l 2) = rd l 2 := wrap_id (by omega) (by omega)
  have w3 : wrap64 (rd l 3) = rd l 3 := wrap_id (by omega) (by omega)
  have jt (x y : Int) : Ev (fun k => impl_GetHead.j0 k l x y true) noHead := by
    refine Ev.step (f := fun _ => some noHead) (fun k => ?_) ⟨0, fun _ _ => rfl⟩
    simp only [impl_GetHead.j0, if_true]
    rfl
  unfold impl_GetHead.f headOf
  by_cases c : (l.length : Int) < 12
  · simp only [if_pos c]
    exact ⟨0, fun _ _ => rfl⟩
  · simp only [if_neg c, if_pos (show (2 : Int) < (l.length : Int) by omega), if_pos (show (3 : Int) < (l.length : Int) by omega), w2, w3]
    refine Ev.bind (g 4 (by decide) (by decide)) ?_
    by_cases c2 : Go.bits .and .u8 (rd l 2) 120 = 0
    · simp only [if_pos ((byte_not135 _ b2.1 (by omega)).2 c2), if_pos c2]
      by_cases c3 : Go.bits .and .u8 (rd l 3) 112 = 0
      · simp only [if_pos ((byte_not143 _ b3.1 (by omega)).2 c3), if_pos c3]
        by_cases c4 : (get2 l 4).1 = 1
        · have e4 : ((get2 l 4).1 != 1) = false := bne_eq_false_iff_eq.mpr c4
          simp only [if_pos c4, e4]
          refine Ev.step (f := fun k => (impl_Get2.f k l 0).bind fun b0 => (impl_Get2.f k l 6).bind fun b6 => (impl_Get2.f k l 8).bind fun b8 => (impl_Get2.f k l 10).bind fun b10 => some (b0.1, ((Go.bits .and .u8 (rd l 2) 128) != 0), ((Go.bits .and .u8 (rd l 2) 4) != 0), ((Go.bits .and .u8 (rd l 2) 2) != 0), ((Go.bits .and .u8 (rd l 2) 1) != 0), ((Go.bits .and .u8 (rd l 3) 128) != 0), wrap64 (Go.bits .and .u8 (rd l 3) 15), (⟨#[]⟩ : ByteArray), 0, [], [], [], b6.1, b8.1, b10.1, true)) (fun k => ?_) ?_
          · simp only [impl_GetHead.j0]
            rw [if_neg (by decide), byte_and128 _ b2.1 (by omega), byte_and4 _ b2.1 (by omega), byte_and2 _ b2.1 (by omega), byte_and1 _ b2.1 (by omega), byte_and128 _ b3.1 (by omega), byte_and15 _ b3.1 (by omega)]
          · refine Ev.bind (g 0 (by decide) (by decide)) (Ev.bind (g 6 (by decide) (by decide)) (Ev.bind (g 8 (by decide) (by decide)) (Ev.bind (g 10 (by decide) (by decide)) ?_)))
            exact ⟨0, fun _ _ => rfl⟩
        · have e4 : ((get2 l 4).1 != 1) = true := bne_iff_ne.mpr c4
          simp only [if_neg c4, e4]
          exact jt _ _
      · simp only [if_neg (fun e => c3 ((byte_not143 _ b3.1 (by omega)).1 e)), if_neg c3]
        exact jt _ _
    · simp only [if_neg (fun e => c2 ((byte_not135 _ b2.1 (by omega)).1 e)), if_neg c2]
      exact jt _ _
theorem headOf_lists (l : List Int) : (headOf l).2.2.2.2.2.2.2.2.2.1 = [] ∧ (headOf l).2.2.2.2.2.2.2.2.2.2.1 = [] ∧ (headOf l).2.2.2.2.2.2.2.2.2.2.2.1 = [] := by
  unfold headOf
  repeat' split
  all_goals exact ⟨rfl, rfl, rfl⟩

end Go.Proofs.Ytmniijljolchjaa.Lem
