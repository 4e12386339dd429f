/- For whatever is drawn: a name that is read is well formed and ends behind the place it was read from, and within the bytes; where none is read there is nothing; the jumps are at most as many as the bytes; what PlaceOf finds is read there; and the program's GetName, JumpsIn, PlaceOf and CodeName return what the reference's return. No condition. -/
import Derived.Test.YtbohkphbgkgaeaaDoorY
import Derived.Test.YtbohkphbgkgaeaaDoorLMWiresBent1
import Derived.Test.YtbohkphbgkgaeaaDoorPrx0
import Derived.Test.YtbohkphbgkgaeaaDoorPrx1
import Derived.Test.YtbohkphbgkgaeaaDoorPrx2
import Derived.Test.YtbohkphbgkgaeaaDoorPrx7
import Derived.Test.YtbohkphbgkgaeaaDoorPrx8
namespace Go.Proofs.YtbohkphbgkgaeaaDoor.Pure
open Go.RowKit Go.Proofs.YtbohkphbgkgaeaaDoor.Pr Go.Proofs.YtbohkphbgkgaeaaDoor.X Go.Proofs.YtbohkphbgkgaeaaDoor.Y Go.Proofs.YtbohkphbgkgaeaaDoor.Lem Go.Proofs.YtbohkphbgkgaeaaDoorW.PrintWords Go.Proofs.YtbohkphbgkgaeaaDoorW.PrintLast Go.Proofs.YtbohkphbgkgaeaaDoorW.PrintMore
set_option linter.unusedVariables false
set_option linter.unusedSimpArgs false
theorem codeName_same (a : Int) : spec_CodeName.f a = impl_CodeName.f a := by
  by_cases h : a = 0 ∨ a = 1 ∨ a = 2 ∨ a = 3 ∨ a = 4
  · rcases h with rfl | rfl | rfl | rfl | rfl <;> decide +kernel
  · have h0 : ¬ a = 0 := fun e => h (.inl e)
    have h1 : ¬ a = 1 := fun e => h (.inr (.inl e))
    have h2 : ¬ a = 2 := fun e => h (.inr (.inr (.inl e)))
    have h3 : ¬ a = 3 := fun e => h (.inr (.inr (.inr (.inl e))))
    have h4 : ¬ a = 4 := fun e => h (.inr (.inr (.inr (.inr e))))
    have hi : impl_CodeName.f a = some (⟨#[]⟩ : ByteArray) := by
      unfold impl_CodeName.f
      rw [if_neg h0, if_neg h1, if_neg h2, if_neg h3, if_neg h4]
    rw [hi]
    unfold spec_CodeName.f
    simp only [Option.bind_some, List.length_cons, List.length_nil]
    have hw : wrap64 (((0 + 1 + 1 + 1 + 1 + 1 : Nat) : Int) - 1) = 4 := by unfold wrap64; omega
    rw [hw]
    have hl : spec_l1In.f a 0 4 = some false := by
      unfold spec_l1In.f
      by_cases hp : a ≥ 0
      · rw [if_pos hp]
        have : ¬ a ≤ 4 := by omega
        simp [this]
      · rw [if_neg hp]
    rw [hl]
    simp
theorem codeName_some (a : Int) : ∃ t, impl_CodeName.f a = some t := by
  unfold impl_CodeName.f
  repeat' split
  all_goals exact ⟨_, rfl⟩
theorem codeName_both (n : Int) : ∃ s, impl_CodeName.f n = some s ∧ spec_CodeName.f n = some s := by
  obtain ⟨s, h⟩ := codeName_some n
  exact ⟨s, h, by rw [codeName_same, h]⟩
theorem FnWiresBent : laws_FnWiresBent.Pure := by
  intro l hl
  obtain ⟨_, hn, hw⟩ := hl
  refine Ev.rounds ?_ (r := true)
  unfold laws_FnWiresBent.f
  rw [big_eq]
  simp only [Option.bind_some, decide_eq_true_eq]
  by_cases hbig : (l.length : Int) > 1048576
  · exact Ev_if hbig (Ev.now _)
  · refine Ev_ifn hbig ?_
    obtain ⟨b, i, d1, hb, hbn, hi⟩ := drawGetName_ev l (by omega)
    obtain ⟨c, s, d2, hc, hcn, hs⟩ := drawPlaceOf_ev l (by omega)
    obtain ⟨n, d3, hn3⟩ := drawCodeName_ev l (by omega)
    obtain ⟨r, s1, i1, js, ji, post⟩ := name_total b (by omega) hb i hi
    obtain ⟨p, p1, p2, pp⟩ := place_total c (by omega) hc s
    obtain ⟨x, x1, x2⟩ := codeName_both n
    have rest : Ev (fun k => if r.2.2.1 = 0 then (impl_NameOk.f k r.1).bind fun t1076 => (if t1076 = true then (if r.2.1 > i then (if r.2.1 ≤ (b.length : Int) then ((impl_JumpsIn.f k b i).bind fun t1077 => (some (decide (t1077 ≤ (b.length : Int))))) else (some false)) else (some false)) else (some false)) else (if r.1.toList = ([] : List UInt8) then (some (r.2.1 == 0)) else (some false))) true := by
      obtain ⟨⟨j0, j1⟩, q | q⟩ := post
      · obtain ⟨q0, q1, q2, q3, q4, q5⟩ := q
        have sz := (nameOk_all q1).2.1
        have nk := impl_NameOk_eq r.1 (by omega)
        rw [q1] at nk
        refine Ev_if q0 (Ev.bind nk (Ev_if rfl (Ev_if (by have := q2 (by omega); omega) (Ev_if q5 (Ev.bind ji (Ev_c ?_))))))
        rw [decide_eq_true j1]
      · obtain ⟨q0, q1, q2, q3, q4⟩ := q
        refine Ev_ifn q0 (Ev_if (by rw [q3]; exact empty_toList) (Ev_c ?_))
        rw [q4]
        rfl
    refine Ev.bind d1 (Ev.bind i1 (Ev.bind s1 (Ev.bind d2 (Ev.bind d3 (Ev.bind p2 (Ev_if rfl (Ev_if rfl (Ev_if rfl (Ev.bind ji (Ev.bind js (Ev_if rfl (Ev.bind p1 (Ev_if rfl (Ev.bind (Ev_c x1) (Ev.bind (Ev_c x2) (Ev_if rfl ?_))))))))))))))))
    rcases pp with q | ⟨q0, q1, q2, nx, j, q3, q4⟩
    · exact Ev_ifn (by omega) rest
    · exact Ev_if q0 (Ev.bind q3 (Ev_if rfl (Ev_if rfl rest)))

end Go.Proofs.YtbohkphbgkgaeaaDoor.Pure
