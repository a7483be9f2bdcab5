/- Answers known beforehand, borne out. -/
import Derived.Test.YtmlipiegjgklcaaGreatXe
import Derived.KernelRfl
/- Answers known beforehand, borne out. -/
noncomputable section
namespace Go.Ax.Top
theorem m100 : tabOk (callQ P rngC KC fns1 80) 100 tab100 = true := by kernel_rfl
theorem m120 : tabOk (callQ P rngC KC fns1 80) 120 tab120 = true := by kernel_rfl
end Go.Ax.Top
end
/- Answers known beforehand, borne out. -/
noncomputable section
namespace Go.Ax.Top
theorem m75 : tabOk (callQ P rngC KC fns2 80) 75 tab75 = true := by kernel_rfl
theorem m119 : tabOk (callQ P rngC KC fns2 80) 119 tab119 = true := by kernel_rfl
end Go.Ax.Top
end
