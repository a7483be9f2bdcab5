/- Names of more labels than count. Conditions: none (every input that can be read). -/
import Derived.Test.YtbcflinledkgjaaSQLong
namespace Go.Proofs.Ytbcflinledkgjaa.Pure

theorem QminLong : Go.Proofs.Ytbcflinledkgjaa.P.wimplelaw17_QminLong.Pure := Go.Proofs.Ytbcflinledkgjaa.M.QminLong_pure

end Go.Proofs.Ytbcflinledkgjaa.Pure
