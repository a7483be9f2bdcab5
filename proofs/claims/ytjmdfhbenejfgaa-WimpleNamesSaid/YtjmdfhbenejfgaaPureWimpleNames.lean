/- Every error, limit and kind is the document's. Conditions: none (a closed statement). -/
import Derived.Test.YtjmdfhbenejfgaaPx5
namespace Go.Proofs.Ytjmdfhbenejfgaa.Pure

theorem WimpleNames : Go.Proofs.Ytjmdfhbenejfgaa.P.wimplelaw0_WimpleNames.Pure := by
  show Go.Proofs.Ytjmdfhbenejfgaa.P.wimplelaw0_WimpleNames.f = some true
  decide +kernel

end Go.Proofs.Ytjmdfhbenejfgaa.Pure
