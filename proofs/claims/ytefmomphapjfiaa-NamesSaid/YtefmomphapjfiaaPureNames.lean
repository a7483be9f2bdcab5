/- For any bytes as a name and any text as one, name.Text, Parse, May and Count answer what the reference answers. Conditions: none (every input that can be read). -/
import Derived.Test.YtefmomphapjfiaaSNames
namespace Go.Proofs.Ytefmomphapjfiaa.Pure

theorem Names : Go.Proofs.Ytefmomphapjfiaa.P.wimplelaw1_Names.Pure := Go.Proofs.Ytefmomphapjfiaa.M.Names_pure

end Go.Proofs.Ytefmomphapjfiaa.Pure
