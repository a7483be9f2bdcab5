/- A statement on package qmin. Conditions: none (every input that can be read). -/
import Derived.Test.YtbcflinledkgjaaSQFull
namespace Go.Proofs.Ytbcflinledkgjaa.Pure

theorem QminFull : Go.Proofs.Ytbcflinledkgjaa.P.wimplelaw17_QminFull.Pure := Go.Proofs.Ytbcflinledkgjaa.M.QminFull_pure

end Go.Proofs.Ytbcflinledkgjaa.Pure
