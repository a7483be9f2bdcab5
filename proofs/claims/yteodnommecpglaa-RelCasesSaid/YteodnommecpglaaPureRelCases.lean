/- Letters count alike in both cases. Conditions: none (every input that can be read). -/
import Derived.Test.YteodnommecpglaaSCases
namespace Go.Proofs.Yteodnommecpglaa.Pure

theorem RelCases : Go.Proofs.Yteodnommecpglaa.P.wimplelaw2_RelCases.Pure := Go.Proofs.Yteodnommecpglaa.M.RelCases_pure

end Go.Proofs.Yteodnommecpglaa.Pure
