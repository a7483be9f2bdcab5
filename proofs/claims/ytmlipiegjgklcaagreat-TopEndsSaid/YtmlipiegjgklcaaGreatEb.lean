/- Known steps, borne out. -/
import Derived.Test.YtmlipiegjgklcaaGreatEa
import Derived.KernelRfl
/- Known steps, borne out. -/
noncomputable section
set_option linter.unusedVariables false
namespace Go.Ax.Top
theorem k_eMayT : trOk eMayT (callQ P rngC KC fns4 80 40 eMayT.args (hOf eMayT.L eMayT.n)) = true := by kernel_rfl
theorem k_e4 : trOk e4 (callQ P rngC KC fns5 80 11 e4.args (hOf e4.L e4.n)) = true := by kernel_rfl
theorem k_e11 : trOk e11 (callQ P rngC KC fns5 80 11 e11.args (hOf e11.L e11.n)) = true := by kernel_rfl
theorem k_e18 : trOk e18 (callQ P rngC KC fns5 80 11 e18.args (hOf e18.L e18.n)) = true := by kernel_rfl
theorem k_e25 : trOk e25 (callQ P rngC KC fns5 80 11 e25.args (hOf e25.L e25.n)) = true := by kernel_rfl
theorem k_e32 : trOk e32 (callQ P rngC KC fns5 80 11 e32.args (hOf e32.L e32.n)) = true := by kernel_rfl
end Go.Ax.Top
end
/- Known steps, borne out. -/
noncomputable section
set_option linter.unusedVariables false
namespace Go.Ax.Top
theorem k_eMayC : trOk eMayC (callQ P rngC KC fns4 80 40 eMayC.args (hOf eMayC.L eMayC.n)) = true := by kernel_rfl
theorem k_e5 : trOk e5 (callQ P rngC KC fns5 80 11 e5.args (hOf e5.L e5.n)) = true := by kernel_rfl
theorem k_e12 : trOk e12 (callQ P rngC KC fns5 80 11 e12.args (hOf e12.L e12.n)) = true := by kernel_rfl
theorem k_e19 : trOk e19 (callQ P rngC KC fns5 80 11 e19.args (hOf e19.L e19.n)) = true := by kernel_rfl
theorem k_e26 : trOk e26 (callQ P rngC KC fns5 80 11 e26.args (hOf e26.L e26.n)) = true := by kernel_rfl
theorem k_e33 : trOk e33 (callQ P rngC KC fns5 80 11 e33.args (hOf e33.L e33.n)) = true := by kernel_rfl
end Go.Ax.Top
end
/- Known steps, borne out. -/
noncomputable section
set_option linter.unusedVariables false
namespace Go.Ax.Top
theorem k_eM : trOk eM (callQ P rngC KC fns5 80 10 eM.args (hOf eM.L eM.n)) = true := by kernel_rfl
theorem k_e6 : trOk e6 (callQ P rngC KC fns5 80 11 e6.args (hOf e6.L e6.n)) = true := by kernel_rfl
theorem k_e13 : trOk e13 (callQ P rngC KC fns5 80 11 e13.args (hOf e13.L e13.n)) = true := by kernel_rfl
theorem k_e20 : trOk e20 (callQ P rngC KC fns5 80 11 e20.args (hOf e20.L e20.n)) = true := by kernel_rfl
theorem k_e27 : trOk e27 (callQ P rngC KC fns5 80 11 e27.args (hOf e27.L e27.n)) = true := by kernel_rfl
theorem k_e34 : trOk e34 (callQ P rngC KC fns5 80 11 e34.args (hOf e34.L e34.n)) = true := by kernel_rfl
end Go.Ax.Top
end
