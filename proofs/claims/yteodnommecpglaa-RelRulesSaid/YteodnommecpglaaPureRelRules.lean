/- A child's parent is it; the row of names does not turn back. Conditions: none (every input that can be read). -/
import Derived.Test.YteodnommecpglaaSRules
namespace Go.Proofs.Yteodnommecpglaa.Pure

theorem RelRules : Go.Proofs.Yteodnommecpglaa.P.wimplelaw2_RelRules.Pure := Go.Proofs.Yteodnommecpglaa.M.RelRules_pure

end Go.Proofs.Yteodnommecpglaa.Pure
