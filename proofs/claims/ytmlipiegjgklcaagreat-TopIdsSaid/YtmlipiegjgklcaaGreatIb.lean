/- Known steps, borne out. -/
import Derived.Test.YtmlipiegjgklcaaGreatIa
import Derived.KernelRfl
/- Known steps, borne out. -/
noncomputable section
set_option linter.unusedVariables false
namespace Go.Ax.Top
theorem k_eMayT : trOk eMayT (callQ P rngC KC fns4 80 40 eMayT.args (hOf eMayT.L eMayT.n)) = true := by kernel_rfl
theorem k_e2 : trOk e2 (callQ P rngC KC fns5 80 11 e2.args (hOf e2.L e2.n)) = true := by kernel_rfl
theorem k_e9 : trOk e9 (callQ P rngC KC fns5 80 11 e9.args (hOf e9.L e9.n)) = true := by kernel_rfl
theorem k_e16 : trOk e16 (callQ P rngC KC fns5 80 11 e16.args (hOf e16.L e16.n)) = true := by kernel_rfl
theorem k_e23 : trOk e23 (callQ P rngC KC fns5 80 11 e23.args (hOf e23.L e23.n)) = true := by kernel_rfl
end Go.Ax.Top
end
/- Known steps, borne out. -/
noncomputable section
set_option linter.unusedVariables false
namespace Go.Ax.Top
theorem k_eMayC : trOk eMayC (callQ P rngC KC fns4 80 40 eMayC.args (hOf eMayC.L eMayC.n)) = true := by kernel_rfl
theorem k_e3 : trOk e3 (callQ P rngC KC fns5 80 11 e3.args (hOf e3.L e3.n)) = true := by kernel_rfl
theorem k_e10 : trOk e10 (callQ P rngC KC fns5 80 11 e10.args (hOf e10.L e10.n)) = true := by kernel_rfl
theorem k_e17 : trOk e17 (callQ P rngC KC fns5 80 11 e17.args (hOf e17.L e17.n)) = true := by kernel_rfl
theorem k_e24 : trOk e24 (callQ P rngC KC fns5 80 11 e24.args (hOf e24.L e24.n)) = true := by kernel_rfl
end Go.Ax.Top
end
/- Known steps, borne out. -/
noncomputable section
set_option linter.unusedVariables false
namespace Go.Ax.Top
theorem k_eM : trOk eM (callQ P rngC KC fns5 80 10 eM.args (hOf eM.L eM.n)) = true := by kernel_rfl
theorem k_e4 : trOk e4 (callQ P rngC KC fns5 80 11 e4.args (hOf e4.L e4.n)) = true := by kernel_rfl
theorem k_e11 : trOk e11 (callQ P rngC KC fns5 80 11 e11.args (hOf e11.L e11.n)) = true := by kernel_rfl
theorem k_e18 : trOk e18 (callQ P rngC KC fns5 80 11 e18.args (hOf e18.L e18.n)) = true := by kernel_rfl
theorem k_e25 : trOk e25 (callQ P rngC KC fns5 80 11 e25.args (hOf e25.L e25.n)) = true := by kernel_rfl
end Go.Ax.Top
end
