/- Known steps, borne out. -/
import Derived.Test.YtmlipiegjgklcaaGreatIa
import Derived.KernelRfl
/- Known steps, borne out. -/
noncomputable section
set_option linter.unusedVariables false
namespace Go.Ax.Top
theorem k_eN : trOk eN (callQ P rngC KC fns5 80 22 eN.args (hOf eN.L eN.n)) = true := by kernel_rfl
theorem k_e5 : trOk e5 (callQ P rngC KC fns5 80 11 e5.args (hOf e5.L e5.n)) = true := by kernel_rfl
theorem k_e12 : trOk e12 (callQ P rngC KC fns5 80 11 e12.args (hOf e12.L e12.n)) = true := by kernel_rfl
theorem k_e19 : trOk e19 (callQ P rngC KC fns5 80 11 e19.args (hOf e19.L e19.n)) = true := by kernel_rfl
end Go.Ax.Top
end
/- Known steps, borne out. -/
noncomputable section
set_option linter.unusedVariables false
namespace Go.Ax.Top
theorem k_ePl : trOk ePl (callQ P rngC KC fns4 80 21 ePl.args (hOf ePl.L ePl.n)) = true := by kernel_rfl
theorem k_e6 : trOk e6 (callQ P rngC KC fns5 80 11 e6.args (hOf e6.L e6.n)) = true := by kernel_rfl
theorem k_e13 : trOk e13 (callQ P rngC KC fns5 80 11 e13.args (hOf e13.L e13.n)) = true := by kernel_rfl
theorem k_e20 : trOk e20 (callQ P rngC KC fns5 80 11 e20.args (hOf e20.L e20.n)) = true := by kernel_rfl
end Go.Ax.Top
end
