/- A statement on tasks. Conditions: none (every input that can be read). -/
import Derived.Test.YtgphnnnhhhmemaaSFresh
namespace Go.Proofs.Ytgphnnnhhhmemaa.Pure

theorem TaskFresh : Go.Proofs.Ytgphnnnhhhmemaa.P.wimplelaw22_TaskFresh.Pure := Go.Proofs.Ytgphnnnhhhmemaa.M.TaskFresh_pure

end Go.Proofs.Ytgphnnnhhhmemaa.Pure
