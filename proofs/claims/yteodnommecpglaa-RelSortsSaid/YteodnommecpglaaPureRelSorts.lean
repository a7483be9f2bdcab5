/- RelSorts: names stand in one row, whatever row they came in; beneath a name stands what is beneath it, together. Conditions: none (every input that can be read). -/
import Derived.Test.YteodnommecpglaaSSorts
namespace Go.Proofs.Yteodnommecpglaa.Pure
open Go Go.Proofs.Yteodnommecpglaa.P
theorem RelSorts (x0 : List ByteArray) : ∃ k, wimplelaw2_RelSorts.f k x0 = some true :=
  Go.Proofs.Yteodnommecpglaa.M.RelSorts_pure x0

end Go.Proofs.Yteodnommecpglaa.Pure
