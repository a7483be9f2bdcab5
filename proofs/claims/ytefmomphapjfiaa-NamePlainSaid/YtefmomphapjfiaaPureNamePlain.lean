/- Plain signs stand as they are in a name's text, every other byte as three digits behind a mark. Conditions: none (every input that can be read). -/
import Derived.Test.YtefmomphapjfiaaSLimits
namespace Go.Proofs.Ytefmomphapjfiaa.Pure

theorem NamePlain : Go.Proofs.Ytefmomphapjfiaa.P.wimplelaw1_NamePlain.Pure := Go.Proofs.Ytefmomphapjfiaa.M.NamePlain_pure

end Go.Proofs.Ytefmomphapjfiaa.Pure
