/- Texts that Text never gives are refused by Parse. Conditions: none (every input that can be read). -/
import Derived.Test.YtefmomphapjfiaaSLimits
namespace Go.Proofs.Ytefmomphapjfiaa.Pure

theorem NameWrong : Go.Proofs.Ytefmomphapjfiaa.P.wimplelaw1_NameWrong.Pure := Go.Proofs.Ytefmomphapjfiaa.M.NameWrong_pure

end Go.Proofs.Ytefmomphapjfiaa.Pure
