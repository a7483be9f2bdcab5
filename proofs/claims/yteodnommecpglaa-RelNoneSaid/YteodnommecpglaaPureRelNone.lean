/- What is no name is above nothing and the same as nothing. Conditions: none (every input that can be read). -/
import Derived.Test.YteodnommecpglaaSNone
namespace Go.Proofs.Yteodnommecpglaa.Pure

theorem RelNone : Go.Proofs.Yteodnommecpglaa.P.wimplelaw2_RelNone.Pure := Go.Proofs.Yteodnommecpglaa.M.RelNone_pure

end Go.Proofs.Yteodnommecpglaa.Pure
