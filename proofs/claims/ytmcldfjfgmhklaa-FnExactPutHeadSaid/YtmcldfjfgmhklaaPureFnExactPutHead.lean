/- For all messages the program's PutHead returns what the reference's returns, in memory of its own, and leaves its argument alone. No condition. -/
import Derived.Test.YtmcldfjfgmhklaaY
import Derived.Test.YtmcldfjfgmhklaaLbytes
import Derived.Test.YtmcldfjfgmhklaaLev
import Derived.Test.YtmcldfjfgmhklaaLmark
import Derived.Test.YtmcldfjfgmhklaaLmark2
import Derived.Test.YtmcldfjfgmhklaaLmsg
import Derived.Test.YtmcldfjfgmhklaaLmsg2
import Derived.Test.YtmcldfjfgmhklaaLmsg4
import Derived.Test.YtmcldfjfgmhklaaLphead
import Derived.Test.YtmcldfjfgmhklaaLrec
import Derived.Test.YtmcldfjfgmhklaaPrx0
import Derived.Test.YtmcldfjfgmhklaaPrx7
import Derived.Test.YtmcldfjfgmhklaaPrx9
namespace Go.Proofs.Ytmcldfjfgmhklaa.Pure
open Go.RowKit Go.Proofs.Ytmcldfjfgmhklaa.Pr Go.Proofs.Ytmcldfjfgmhklaa.X Go.Proofs.Ytmcldfjfgmhklaa.Y Go.Proofs.Ytmcldfjfgmhklaa.Lem Go.Proofs.YtmcldfjfgmhklaaW.PrintWords Go.Proofs.YtmcldfjfgmhklaaW.PrintLast Go.Proofs.YtmcldfjfgmhklaaW.PrintMore
set_option linter.unusedVariables false
set_option linter.unusedSimpArgs false
theorem FnExactPutHead : laws_FnExactPutHead.Pure := by
  intro a0 a1 a2 a3 a4 a5 a6 a7 a8 l9 l10 l11 h
  obtain ⟨h7, h9, h10, h11⟩ := g_okM h
  refine Ev.rounds ?_ (r := true)
  unfold laws_FnExactPutHead.f
  obtain ⟨r, e, b, c, d⟩ := szMsg_eq a0 a1 a2 a3 a4 a5 a6 a7 a8 l9 l10 l11 h7 h9 h10 h11
  refine Ev.bind e ?_
  by_cases z : r < 0
  · exact Ev_if z (Ev.now _)
  · refine Ev_ifn z ?_
    obtain ⟨m9, m10, m11⟩ := d (by omega)
    have c9 : (l9.map cvR).length ≤ 281474976710 := by rw [List.length_map]; omega
    have c10 : (l10.map cvR).length ≤ 281474976710 := by rw [List.length_map]; omega
    have c11 : (l11.map cvR).length ≤ 281474976710 := by rw [List.length_map]; omega
    have tm := toMsg_eq a0 a1 a2 a3 a4 a5 a6 a7 a8 l9 l10 l11 m9 m10 m11
    obtain ⟨_, _, _, _, _, hl⟩ := hdr_lens a0 a1 a2 a3 a4 a5 a6 (l9.map cvR).length (l10.map cvR).length (l11.map cvR).length
    have es := spec_PutHead_eq a0 a1 a2 a3 a4 a5 a6 a7 a8 (l9.map cvR) (l10.map cvR) (l11.map cvR)
    have ei := impl_PutHead_eq a0 a1 a2 a3 a4 a5 a6 a7 a8 (l9.map cvR) (l10.map cvR) (l11.map cvR)
    revert hl es ei
    generalize hdr a0 a1 a2 a3 a4 a5 a6 (l9.map cvR).length (l10.map cvR).length (l11.map cvR).length = y
    intro hl es ei
    have es' : Ev (fun _ => spec_PutHead.f a0 a1 a2 a3 a4 a5 a6 a7 a8 (l9.map cvR) (l10.map cvR) (l11.map cvR)) y := ⟨0, fun _ _ => es⟩
    have ee := eqByteS_same y (by omega)
    have em := eqMsg_same a0 a1 a2 a3 a4 a5 a6 a7 a8 (l9.map cvR) (l10.map cvR) (l11.map cvR) (by omega) (by omega) (by omega)
    have mm := markMsg_eq a0 a1 a2 a3 a4 a5 a6 a7 a8 (l9.map cvR) (l10.map cvR) (l11.map cvR) c9 c10 c11
    have p : ¬ (1 + 6 * ((l9.map cvR).length : Int) + 6 * ((l10.map cvR).length : Int) + 6 * ((l11.map cvR).length : Int)) < 0 := by omega
    have q : ¬ (1 + (y.length : Int)) < 0 := by omega
    refine Ev.bind tm (Ev.bind es' (Ev.bind tm (Ev.bind ei (Ev.bind ee (Ev_if rfl (Ev.bind tm (Ev.bind em (Ev_if rfl (Ev.bind mm ?_)))))))))
    refine Ev_ifn p (Ev.bind ee (Ev_if rfl (Ev.bind (markByteS_eq y (by omega)) (Ev.bind (heldByteS_eq y.length (by omega)) (Ev_ifn q (Ev_if rfl ?_))))))
    refine Ev.bind tm (Ev.bind ei (Ev.bind ee (Ev_if rfl (Ev.bind (heldByteS_eq y.length (by omega)) (Ev_ifn q (Ev_if rfl (Ev.now _)))))))

end Go.Proofs.Ytmcldfjfgmhklaa.Pure
