/- Answers known beforehand, borne out. -/
import Derived.Test.YtmlipiegjgklcaaGreatXe
import Derived.KernelRfl
/- Answers known beforehand, borne out. -/
noncomputable section
namespace Go.Ax.Top
theorem m9 : tabOk (callQ P rngC KC fns3 80) 9 tab9 = true := by kernel_rfl
end Go.Ax.Top
end
