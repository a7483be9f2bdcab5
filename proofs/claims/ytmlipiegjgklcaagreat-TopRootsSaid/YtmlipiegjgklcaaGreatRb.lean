/- Known steps, borne out. -/
import Derived.Test.YtmlipiegjgklcaaGreatRa
import Derived.KernelRfl
/- Known steps, borne out. -/
noncomputable section
set_option linter.unusedVariables false
namespace Go.Ax.Top
theorem k_eMayT : trOk eMayT (callQ P rngC KC fns4 80 40 eMayT.args (hOf eMayT.L eMayT.n)) = true := by kernel_rfl
theorem k_e4 : trOk e4 (callQ P rngC KC fns5 80 11 e4.args (hOf e4.L e4.n)) = true := by kernel_rfl
theorem k_e11 : trOk e11 (callQ P rngC KC fns5 80 11 e11.args (hOf e11.L e11.n)) = true := by kernel_rfl
theorem k_e18 : trOk e18 (callQ P rngC KC fns5 80 11 e18.args (hOf e18.L e18.n)) = true := by kernel_rfl
theorem k_e25 : trOk e25 (callQ P rngC KC fns5 80 11 e25.args (hOf e25.L e25.n)) = true := by kernel_rfl
theorem k_e32 : trOk e32 (callQ P rngC KC fns5 80 11 e32.args (hOf e32.L e32.n)) = true := by kernel_rfl
theorem k_e39 : trOk e39 (callQ P rngC KC fns5 80 11 e39.args (hOf e39.L e39.n)) = true := by kernel_rfl
theorem k_e46 : trOk e46 (callQ P rngC KC fns5 80 11 e46.args (hOf e46.L e46.n)) = true := by kernel_rfl
end Go.Ax.Top
end
/- Known steps, borne out. -/
noncomputable section
set_option linter.unusedVariables false
namespace Go.Ax.Top
theorem k_eMayC : trOk eMayC (callQ P rngC KC fns4 80 40 eMayC.args (hOf eMayC.L eMayC.n)) = true := by kernel_rfl
theorem k_e5 : trOk e5 (callQ P rngC KC fns5 80 11 e5.args (hOf e5.L e5.n)) = true := by kernel_rfl
theorem k_e12 : trOk e12 (callQ P rngC KC fns5 80 11 e12.args (hOf e12.L e12.n)) = true := by kernel_rfl
theorem k_e19 : trOk e19 (callQ P rngC KC fns5 80 11 e19.args (hOf e19.L e19.n)) = true := by kernel_rfl
theorem k_e26 : trOk e26 (callQ P rngC KC fns5 80 11 e26.args (hOf e26.L e26.n)) = true := by kernel_rfl
theorem k_e33 : trOk e33 (callQ P rngC KC fns5 80 11 e33.args (hOf e33.L e33.n)) = true := by kernel_rfl
theorem k_e40 : trOk e40 (callQ P rngC KC fns5 80 11 e40.args (hOf e40.L e40.n)) = true := by kernel_rfl
theorem k_e47 : trOk e47 (callQ P rngC KC fns5 80 11 e47.args (hOf e47.L e47.n)) = true := by kernel_rfl
end Go.Ax.Top
end
