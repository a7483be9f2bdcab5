/- A label ahead of a name makes one label more, and its text has as many dots of its own. Conditions: none (every input that can be read). -/
import Derived.Test.YtefmomphapjfiaaSCounts
namespace Go.Proofs.Ytefmomphapjfiaa.Pure

theorem NameCounts : Go.Proofs.Ytefmomphapjfiaa.P.wimplelaw1_NameCounts.Pure := Go.Proofs.Ytefmomphapjfiaa.M.NameCounts_pure

end Go.Proofs.Ytefmomphapjfiaa.Pure
