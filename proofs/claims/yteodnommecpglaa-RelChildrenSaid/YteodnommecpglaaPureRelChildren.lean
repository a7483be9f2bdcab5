/- Which labels may stand ahead of which names. Conditions: none (every input that can be read). -/
import Derived.Test.YteodnommecpglaaSChildren
namespace Go.Proofs.Yteodnommecpglaa.Pure

theorem RelChildren : Go.Proofs.Yteodnommecpglaa.P.wimplelaw2_RelChildren.Pure := Go.Proofs.Yteodnommecpglaa.M.RelChildren_pure

end Go.Proofs.Yteodnommecpglaa.Pure
