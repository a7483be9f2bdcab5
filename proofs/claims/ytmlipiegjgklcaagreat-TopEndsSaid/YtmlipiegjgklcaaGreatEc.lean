/- Known steps, borne out. -/
import Derived.Test.YtmlipiegjgklcaaGreatEa
import Derived.KernelRfl
/- Known steps, borne out. -/
noncomputable section
set_option linter.unusedVariables false
namespace Go.Ax.Top
theorem k_e0 : trOk e0 (callQ P rngC KC fns5 80 11 e0.args (hOf e0.L e0.n)) = true := by kernel_rfl
theorem k_e7 : trOk e7 (callQ P rngC KC fns5 80 11 e7.args (hOf e7.L e7.n)) = true := by kernel_rfl
theorem k_e14 : trOk e14 (callQ P rngC KC fns5 80 11 e14.args (hOf e14.L e14.n)) = true := by kernel_rfl
theorem k_e21 : trOk e21 (callQ P rngC KC fns5 80 11 e21.args (hOf e21.L e21.n)) = true := by kernel_rfl
theorem k_e28 : trOk e28 (callQ P rngC KC fns5 80 11 e28.args (hOf e28.L e28.n)) = true := by kernel_rfl
theorem k_e35 : trOk e35 (callQ P rngC KC fns5 80 11 e35.args (hOf e35.L e35.n)) = true := by kernel_rfl
end Go.Ax.Top
end
/- Known steps, borne out. -/
noncomputable section
set_option linter.unusedVariables false
namespace Go.Ax.Top
theorem k_e1 : trOk e1 (callQ P rngC KC fns5 80 11 e1.args (hOf e1.L e1.n)) = true := by kernel_rfl
theorem k_e8 : trOk e8 (callQ P rngC KC fns5 80 11 e8.args (hOf e8.L e8.n)) = true := by kernel_rfl
theorem k_e15 : trOk e15 (callQ P rngC KC fns5 80 11 e15.args (hOf e15.L e15.n)) = true := by kernel_rfl
theorem k_e22 : trOk e22 (callQ P rngC KC fns5 80 11 e22.args (hOf e22.L e22.n)) = true := by kernel_rfl
theorem k_e29 : trOk e29 (callQ P rngC KC fns5 80 11 e29.args (hOf e29.L e29.n)) = true := by kernel_rfl
end Go.Ax.Top
end
