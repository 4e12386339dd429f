/- For whatever is drawn: records that PutRecords puts behind a row of bytes are read again by GetRecords, all of them, and the end is the row's end; and the program's PutRecords returns what the reference's returns. No condition. -/
import Derived.Test.YtdigilidomimdaaDoorY
import Derived.Test.YtdigilidomimdaaDoorLMLists1
import Derived.Test.YtdigilidomimdaaDoorPrx0
import Derived.Test.YtdigilidomimdaaDoorPrx12
import Derived.Test.YtdigilidomimdaaDoorPrx16
import Derived.Test.YtdigilidomimdaaDoorPrx8
namespace Go.Proofs.YtdigilidomimdaaDoor.Pure
open Go.RowKit Go.Proofs.YtdigilidomimdaaDoor.Pr Go.Proofs.YtdigilidomimdaaDoor.X Go.Proofs.YtdigilidomimdaaDoor.Y Go.Proofs.YtdigilidomimdaaDoor.Lem Go.Proofs.YtdigilidomimdaaDoorW.PrintWords Go.Proofs.YtdigilidomimdaaDoorW.PrintLast Go.Proofs.YtdigilidomimdaaDoorW.PrintMore
set_option linter.unusedVariables false
set_option linter.unusedSimpArgs false
theorem FnLists : laws_FnLists.Pure := by
  intro l hl
  obtain ⟨_, hn, hw⟩ := hl
  refine Ev.rounds ?_ (r := true)
  unfold laws_FnLists.f
  rw [big_eq]
  simp only [Option.bind_some, decide_eq_true_eq]
  by_cases hbig : (l.length : Int) > 1048576
  · exact Ev_if hbig (Ev.now _)
  · refine Ev_ifn hbig ?_
    obtain ⟨b, r, d1, b1, b2, r1, r2⟩ := drawPutRecords_ev l (by omega)
    obtain ⟨z, z1, z2, z3⟩ := putRecords_chain r (fun y hy => smallR_fit (r2 y hy)) (by omega) r.length 0 b (by omega) (by omega) b1
    rw [List.drop_zero] at z3
    have zb := chain_bytes z3 b1
    have zl := chain_le z3 (fun y hy => Nat.le_trans (r2 y hy).2.2 (by decide))
    have s1 := same_eq z (by omega)
    have lo := lists_loop b r z (by omega) r2 (by omega) zb z3 r.length 0 (by omega) (fun x hx => by simp at hx)
    have i1 : Ev (fun k => impl_PutRecords.f k b r) z := by
      unfold impl_PutRecords.f
      simp only [Option.bind_some, List.length_nil, List.nil_append, Nat.zero_add]
      exact Ev_if (by omega) z2
    have i2 : Ev (fun k => spec_PutRecords.f k b r) z := by
      unfold spec_PutRecords.f
      simp only [Option.bind_some, List.length_nil, List.nil_append, Nat.zero_add]
      exact Ev_if (by omega) z1
    exact Ev.bind d1 (Ev.bind i1 (Ev.bind i2 (Ev.bind s1 (Ev_if rfl lo))))

end Go.Proofs.YtdigilidomimdaaDoor.Pure
