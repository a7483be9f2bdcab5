/- A statement on package qmin. Conditions: none (every input that can be read). -/
import Derived.Test.YtbcflinledkgjaaSQWalk
namespace Go.Proofs.Ytbcflinledkgjaa.Pure

theorem QminWalk : Go.Proofs.Ytbcflinledkgjaa.P.wimplelaw17_QminWalk.Pure := Go.Proofs.Ytbcflinledkgjaa.M.QminWalk_pure

end Go.Proofs.Ytbcflinledkgjaa.Pure
