/- A statement on tasks. Conditions: none (every input that can be read). -/
import Derived.Test.YtgphnnnhhhmemaaSTries
namespace Go.Proofs.Ytgphnnnhhhmemaa.Pure

theorem TaskTries : Go.Proofs.Ytgphnnnhhhmemaa.P.wimplelaw22_TaskTries.Pure := Go.Proofs.Ytgphnnnhhhmemaa.M.TaskTries_pure

end Go.Proofs.Ytgphnnnhhhmemaa.Pure
