/- Known steps, borne out. -/
import Derived.Test.YtmlipiegjgklcaaGreatRa
import Derived.KernelRfl
/- Known steps, borne out. -/
noncomputable section
set_option linter.unusedVariables false
namespace Go.Ax.Top
theorem k_e1 : trOk e1 (callQ P rngC KC fns5 80 11 e1.args (hOf e1.L e1.n)) = true := by kernel_rfl
theorem k_e8 : trOk e8 (callQ P rngC KC fns5 80 11 e8.args (hOf e8.L e8.n)) = true := by kernel_rfl
theorem k_e15 : trOk e15 (callQ P rngC KC fns5 80 11 e15.args (hOf e15.L e15.n)) = true := by kernel_rfl
theorem k_e22 : trOk e22 (callQ P rngC KC fns5 80 11 e22.args (hOf e22.L e22.n)) = true := by kernel_rfl
theorem k_e29 : trOk e29 (callQ P rngC KC fns5 80 11 e29.args (hOf e29.L e29.n)) = true := by kernel_rfl
theorem k_e36 : trOk e36 (callQ P rngC KC fns5 80 11 e36.args (hOf e36.L e36.n)) = true := by kernel_rfl
theorem k_e43 : trOk e43 (callQ P rngC KC fns5 80 11 e43.args (hOf e43.L e43.n)) = true := by kernel_rfl
theorem k_e50 : trOk e50 (callQ P rngC KC fns5 80 11 e50.args (hOf e50.L e50.n)) = true := by kernel_rfl
end Go.Ax.Top
end
/- Known steps, borne out. -/
noncomputable section
set_option linter.unusedVariables false
namespace Go.Ax.Top
theorem k_e2 : trOk e2 (callQ P rngC KC fns5 80 11 e2.args (hOf e2.L e2.n)) = true := by kernel_rfl
theorem k_e9 : trOk e9 (callQ P rngC KC fns5 80 11 e9.args (hOf e9.L e9.n)) = true := by kernel_rfl
theorem k_e16 : trOk e16 (callQ P rngC KC fns5 80 11 e16.args (hOf e16.L e16.n)) = true := by kernel_rfl
theorem k_e23 : trOk e23 (callQ P rngC KC fns5 80 11 e23.args (hOf e23.L e23.n)) = true := by kernel_rfl
theorem k_e30 : trOk e30 (callQ P rngC KC fns5 80 11 e30.args (hOf e30.L e30.n)) = true := by kernel_rfl
theorem k_e37 : trOk e37 (callQ P rngC KC fns5 80 11 e37.args (hOf e37.L e37.n)) = true := by kernel_rfl
theorem k_e44 : trOk e44 (callQ P rngC KC fns5 80 11 e44.args (hOf e44.L e44.n)) = true := by kernel_rfl
theorem k_e51 : trOk e51 (callQ P rngC KC fns5 80 11 e51.args (hOf e51.L e51.n)) = true := by kernel_rfl
end Go.Ax.Top
end
