/- Names and texts go there and back. Conditions: none (every input that can be read). -/
import Derived.Test.YtefmomphapjfiaaSNames
namespace Go.Proofs.Ytefmomphapjfiaa.Pure

theorem NameBack : Go.Proofs.Ytefmomphapjfiaa.P.wimplelaw1_NameBack.Pure := Go.Proofs.Ytefmomphapjfiaa.M.NameBack_pure

end Go.Proofs.Ytefmomphapjfiaa.Pure
