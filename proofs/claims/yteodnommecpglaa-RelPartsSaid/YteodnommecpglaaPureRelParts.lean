/- A name's last labels, each the parent of the next. Conditions: none (every input that can be read). -/
import Derived.Test.YteodnommecpglaaSParts
namespace Go.Proofs.Yteodnommecpglaa.Pure

theorem RelParts : Go.Proofs.Yteodnommecpglaa.P.wimplelaw2_RelParts.Pure := Go.Proofs.Yteodnommecpglaa.M.RelParts_pure

end Go.Proofs.Yteodnommecpglaa.Pure
