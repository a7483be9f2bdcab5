/- Steps one behind the other. Conditions: none (every input that can be read). -/
import Derived.Test.YtgphnnnhhhmemaaSWalk
namespace Go.Proofs.Ytgphnnnhhhmemaa.Pure

theorem TaskWalk : Go.Proofs.Ytgphnnnhhhmemaa.P.wimplelaw22_TaskWalk.Pure := Go.Proofs.Ytgphnnnhhhmemaa.M.TaskWalk_pure

end Go.Proofs.Ytgphnnnhhhmemaa.Pure
