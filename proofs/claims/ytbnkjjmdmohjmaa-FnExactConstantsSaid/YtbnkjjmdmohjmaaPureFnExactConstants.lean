/- The program's constants are the document's: the law FnExactConstants returns true. No condition. -/
import Derived.Test.YtbnkjjmdmohjmaaPFnExactConstantsx1
namespace Go.Proofs.Ytbnkjjmdmohjmaa.Pure
open Go.RowKit Go.Proofs.Ytbnkjjmdmohjmaa.PFnExactConstants Go.Proofs.YtbnkjjmdmohjmaaW.PrintWords Go.Proofs.YtbnkjjmdmohjmaaW.PrintLast

theorem FnExactConstants : laws_FnExactConstants.Pure := by
  unfold laws_FnExactConstants.Pure laws_FnExactConstants.f
  rfl

end Go.Proofs.Ytbnkjjmdmohjmaa.Pure
