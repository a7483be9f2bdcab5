/- Known steps, borne out. -/
import Derived.Test.YtmlipiegjgklcaaGreatIa
import Derived.KernelRfl
/- Known steps, borne out. -/
noncomputable section
set_option linter.unusedVariables false
namespace Go.Ax.Top
theorem k_e0 : trOk e0 (callQ P rngC KC fns5 80 11 e0.args (hOf e0.L e0.n)) = true := by kernel_rfl
theorem k_e7 : trOk e7 (callQ P rngC KC fns5 80 11 e7.args (hOf e7.L e7.n)) = true := by kernel_rfl
theorem k_e14 : trOk e14 (callQ P rngC KC fns5 80 11 e14.args (hOf e14.L e14.n)) = true := by kernel_rfl
theorem k_e21 : trOk e21 (callQ P rngC KC fns5 80 11 e21.args (hOf e21.L e21.n)) = true := by kernel_rfl
end Go.Ax.Top
end
/- Known steps, borne out. -/
noncomputable section
set_option linter.unusedVariables false
namespace Go.Ax.Top
theorem k_e1 : trOk e1 (callQ P rngC KC fns5 80 11 e1.args (hOf e1.L e1.n)) = true := by kernel_rfl
theorem k_e8 : trOk e8 (callQ P rngC KC fns5 80 11 e8.args (hOf e8.L e8.n)) = true := by kernel_rfl
theorem k_e15 : trOk e15 (callQ P rngC KC fns5 80 11 e15.args (hOf e15.L e15.n)) = true := by kernel_rfl
theorem k_e22 : trOk e22 (callQ P rngC KC fns5 80 11 e22.args (hOf e22.L e22.n)) = true := by kernel_rfl
end Go.Ax.Top
end
/- Known steps, borne out. -/
noncomputable section
set_option linter.unusedVariables false
namespace Go.Ax.Top
theorem l_0 : okI (runI (rngR 0) treeR0) = true := by kernel_rfl
theorem l_1 : okI (runI (rngR 1) treeR1) = true := by kernel_rfl
theorem l_2 : okI (runI (rngR 2) treeR2) = true := by kernel_rfl
end Go.Ax.Top
end
