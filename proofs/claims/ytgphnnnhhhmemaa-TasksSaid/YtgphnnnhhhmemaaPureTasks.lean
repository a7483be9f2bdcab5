/- Tasks: any names, any task: every call of New, Take and Lost is as the document says. Conditions: none (every input that can be read). -/
import Derived.Test.YtgphnnnhhhmemaaSTasks
namespace Go.Proofs.Ytgphnnnhhhmemaa.Pure

open Go Go.Proofs.Ytgphnnnhhhmemaa.P
theorem Tasks (n0 : ByteArray) (t0 : Int) (c0 n : ByteArray) (t : Int) (c kn : ByteArray) (st : Int) (fb : Bool) (sv tr : Int) (sn : ByteArray) (sty cl s r : Int) : ∃ k, wimplelaw22_Tasks.f k n0 t0 c0 n t c kn st fb sv tr sn sty cl s r = some true :=
  Go.Proofs.Ytgphnnnhhhmemaa.M.Tasks_pure n0 t0 c0 n t c kn st fb sv tr sn sty cl s r

end Go.Proofs.Ytgphnnnhhhmemaa.Pure
