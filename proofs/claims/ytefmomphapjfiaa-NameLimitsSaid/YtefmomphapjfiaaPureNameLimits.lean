/- Labels of at most 63 bytes and names of at most 255 are names, longer ones are none. Conditions: none (every input that can be read). -/
import Derived.Test.YtefmomphapjfiaaSLimits
namespace Go.Proofs.Ytefmomphapjfiaa.Pure

theorem NameLimits : Go.Proofs.Ytefmomphapjfiaa.P.wimplelaw1_NameLimits.Pure := Go.Proofs.Ytefmomphapjfiaa.M.NameLimits_pure

end Go.Proofs.Ytefmomphapjfiaa.Pure
