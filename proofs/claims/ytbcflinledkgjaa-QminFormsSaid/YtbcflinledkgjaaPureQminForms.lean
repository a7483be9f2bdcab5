/- A statement on package qmin. Conditions: none (every input that can be read). -/
import Derived.Test.YtbcflinledkgjaaSQForms
namespace Go.Proofs.Ytbcflinledkgjaa.Pure

theorem QminForms : Go.Proofs.Ytbcflinledkgjaa.P.wimplelaw17_QminForms.Pure := Go.Proofs.Ytbcflinledkgjaa.M.QminForms_pure

end Go.Proofs.Ytbcflinledkgjaa.Pure
