/- A length that is a letter's byte is not folded. Conditions: none (every input that can be read). -/
import Derived.Test.YteodnommecpglaaSLengths2
namespace Go.Proofs.Yteodnommecpglaa.Pure

theorem RelLengths : Go.Proofs.Yteodnommecpglaa.P.wimplelaw2_RelLengths.Pure := Go.Proofs.Yteodnommecpglaa.M.RelLengths_pure

end Go.Proofs.Yteodnommecpglaa.Pure
