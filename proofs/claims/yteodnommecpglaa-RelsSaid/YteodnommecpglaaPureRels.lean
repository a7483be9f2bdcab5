/- Every call of package rel answers as the reference's. Conditions: none (every input that can be read). -/
import Derived.Test.YteodnommecpglaaSRels
namespace Go.Proofs.Yteodnommecpglaa.Pure

theorem Rels : Go.Proofs.Yteodnommecpglaa.P.wimplelaw2_Rels.Pure := Go.Proofs.Yteodnommecpglaa.M.Rels_pure

end Go.Proofs.Yteodnommecpglaa.Pure
