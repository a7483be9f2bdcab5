/- A statement on package qmin. Conditions: none (every input that can be read). -/
import Derived.Test.YtbcflinledkgjaaSQSizes
namespace Go.Proofs.Ytbcflinledkgjaa.Pure

theorem QminSizes : Go.Proofs.Ytbcflinledkgjaa.P.wimplelaw17_QminSizes.Pure := Go.Proofs.Ytbcflinledkgjaa.M.QminSizes_pure

end Go.Proofs.Ytbcflinledkgjaa.Pure
