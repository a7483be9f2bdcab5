/- Known steps, borne out. -/
import Derived.Test.YtmlipiegjgklcaaGreatRa
import Derived.KernelRfl
/- Known steps, borne out. -/
noncomputable section
set_option linter.unusedVariables false
namespace Go.Ax.Top
theorem k_eM : trOk eM (callQ P rngC KC fns5 80 10 eM.args (hOf eM.L eM.n)) = true := by kernel_rfl
theorem k_e6 : trOk e6 (callQ P rngC KC fns5 80 11 e6.args (hOf e6.L e6.n)) = true := by kernel_rfl
theorem k_e13 : trOk e13 (callQ P rngC KC fns5 80 11 e13.args (hOf e13.L e13.n)) = true := by kernel_rfl
theorem k_e20 : trOk e20 (callQ P rngC KC fns5 80 11 e20.args (hOf e20.L e20.n)) = true := by kernel_rfl
theorem k_e27 : trOk e27 (callQ P rngC KC fns5 80 11 e27.args (hOf e27.L e27.n)) = true := by kernel_rfl
theorem k_e34 : trOk e34 (callQ P rngC KC fns5 80 11 e34.args (hOf e34.L e34.n)) = true := by kernel_rfl
theorem k_e41 : trOk e41 (callQ P rngC KC fns5 80 11 e41.args (hOf e41.L e41.n)) = true := by kernel_rfl
theorem k_e48 : trOk e48 (callQ P rngC KC fns5 80 11 e48.args (hOf e48.L e48.n)) = true := by kernel_rfl
end Go.Ax.Top
end
/- Known steps, borne out. -/
noncomputable section
set_option linter.unusedVariables false
namespace Go.Ax.Top
theorem k_e0 : trOk e0 (callQ P rngC KC fns5 80 11 e0.args (hOf e0.L e0.n)) = true := by kernel_rfl
theorem k_e7 : trOk e7 (callQ P rngC KC fns5 80 11 e7.args (hOf e7.L e7.n)) = true := by kernel_rfl
theorem k_e14 : trOk e14 (callQ P rngC KC fns5 80 11 e14.args (hOf e14.L e14.n)) = true := by kernel_rfl
theorem k_e21 : trOk e21 (callQ P rngC KC fns5 80 11 e21.args (hOf e21.L e21.n)) = true := by kernel_rfl
theorem k_e28 : trOk e28 (callQ P rngC KC fns5 80 11 e28.args (hOf e28.L e28.n)) = true := by kernel_rfl
theorem k_e35 : trOk e35 (callQ P rngC KC fns5 80 11 e35.args (hOf e35.L e35.n)) = true := by kernel_rfl
theorem k_e42 : trOk e42 (callQ P rngC KC fns5 80 11 e42.args (hOf e42.L e42.n)) = true := by kernel_rfl
theorem k_e49 : trOk e49 (callQ P rngC KC fns5 80 11 e49.args (hOf e49.L e49.n)) = true := by kernel_rfl
end Go.Ax.Top
end
