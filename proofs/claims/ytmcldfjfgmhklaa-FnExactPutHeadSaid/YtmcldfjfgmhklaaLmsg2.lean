/- Lemmas on the printed functions, of this session. -/
import Derived.Test.YtmcldfjfgmhklaaY
import Derived.Test.YtmcldfjfgmhklaaLmsg
import Derived.Test.YtmcldfjfgmhklaaPrx0
import Derived.Test.YtmcldfjfgmhklaaPrx3
import Derived.Test.YtmcldfjfgmhklaaPrx6
namespace Go.Proofs.Ytmcldfjfgmhklaa.Lem
open Go.RowKit Go.Proofs.Ytmcldfjfgmhklaa.Pr Go.Proofs.Ytmcldfjfgmhklaa.X Go.Proofs.Ytmcldfjfgmhklaa.Y Go.Proofs.YtmcldfjfgmhklaaW.PrintWords Go.Proofs.YtmcldfjfgmhklaaW.PrintLast Go.Proofs.YtmcldfjfgmhklaaW.PrintMore
set_option linter.unusedVariables false
set_option linter.unusedSimpArgs false
theorem markMsg_eq (a0 : Int) (a1 a2 a3 a4 a5 : Bool) (a6 : Int) (a7 : ByteArray) (a8 : Int) (l9 l10 l11 : List S52) (h9 : l9.length ≤ 281474976710) (h10 : l10.length ≤ 281474976710) (h11 : l11.length ≤ 281474976710) :
    Ev (fun k => laws_markMsg.f k a0 a1 a2 a3 a4 a5 a6 a7 a8 l9 l10 l11 1) (1 + 6 * (l9.length : Int) + 6 * (l10.length : Int) + 6 * (l11.length : Int), recMarks l9.length 1, recMarks l10.length (1 + 6 * (l9.length : Int)), recMarks l11.length (1 + 6 * (l9.length : Int) + 6 * (l10.length : Int))) := by
  unfold laws_markMsg.f
  refine Ev.bind (markRecordS_eq l9 (by omega) 1 (by omega)) ?_
  refine Ev.bind (markRecordS_eq l10 (by omega) _ (by omega)) ?_
  refine Ev.bind (markRecordS_eq l11 (by omega) _ (by omega)) ?_
  exact Ev.now _
theorem heldMsg_eq (a0 : Int) (a1 a2 a3 a4 a5 : Bool) (a6 : Int) (a7 : ByteArray) (a8 : Int) (n9 n10 n11 : Nat) (h9 : n9 ≤ 281474976710) (h10 : n10 ≤ 281474976710) (h11 : n11 ≤ 281474976710) :
    Ev (fun k => laws_heldMsg.f k a0 a1 a2 a3 a4 a5 a6 a7 a8 (recMarks n9 1) (recMarks n10 (1 + 6 * (n9 : Int))) (recMarks n11 (1 + 6 * (n9 : Int) + 6 * (n10 : Int))) 1) (1 + 6 * (n9 : Int) + 6 * (n10 : Int) + 6 * (n11 : Int)) := by
  unfold laws_heldMsg.f
  have p1 : ¬ (1 + 6 * (n9 : Int)) < 0 := by omega
  have p2 : ¬ (1 + 6 * (n9 : Int) + 6 * (n10 : Int)) < 0 := by omega
  have p3 : ¬ (1 + 6 * (n9 : Int) + 6 * (n10 : Int) + 6 * (n11 : Int)) < 0 := by omega
  refine Ev.bind (heldRecordS_eq n9 (by omega) 1 (by omega)) ?_
  simp only [if_neg p1]
  refine Ev.bind (heldRecordS_eq n10 (by omega) _ (by omega)) ?_
  simp only [if_neg p2]
  refine Ev.bind (heldRecordS_eq n11 (by omega) _ (by omega)) ?_
  simp only [if_neg p3]
  exact Ev.now _

end Go.Proofs.Ytmcldfjfgmhklaa.Lem
