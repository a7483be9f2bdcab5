/- A statement on tasks. Conditions: none (every input that can be read). -/
import Derived.Test.YtgphnnnhhhmemaaSTForms
namespace Go.Proofs.Ytgphnnnhhhmemaa.Pure

theorem TaskForms : Go.Proofs.Ytgphnnnhhhmemaa.P.wimplelaw22_TaskForms.Pure := Go.Proofs.Ytgphnnnhhhmemaa.M.TaskForms_pure

end Go.Proofs.Ytgphnnnhhhmemaa.Pure
