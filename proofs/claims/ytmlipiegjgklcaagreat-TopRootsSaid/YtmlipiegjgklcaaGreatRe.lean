/- Known steps, borne out. -/
import Derived.Test.YtmlipiegjgklcaaGreatRa
import Derived.KernelRfl
/- Known steps, borne out. -/
noncomputable section
set_option linter.unusedVariables false
namespace Go.Ax.Top
theorem k_e3 : trOk e3 (callQ P rngC KC fns5 80 11 e3.args (hOf e3.L e3.n)) = true := by kernel_rfl
theorem k_e10 : trOk e10 (callQ P rngC KC fns5 80 11 e10.args (hOf e10.L e10.n)) = true := by kernel_rfl
theorem k_e17 : trOk e17 (callQ P rngC KC fns5 80 11 e17.args (hOf e17.L e17.n)) = true := by kernel_rfl
theorem k_e24 : trOk e24 (callQ P rngC KC fns5 80 11 e24.args (hOf e24.L e24.n)) = true := by kernel_rfl
theorem k_e31 : trOk e31 (callQ P rngC KC fns5 80 11 e31.args (hOf e31.L e31.n)) = true := by kernel_rfl
theorem k_e38 : trOk e38 (callQ P rngC KC fns5 80 11 e38.args (hOf e38.L e38.n)) = true := by kernel_rfl
theorem k_e45 : trOk e45 (callQ P rngC KC fns5 80 11 e45.args (hOf e45.L e45.n)) = true := by kernel_rfl
end Go.Ax.Top
end
/- Known steps, borne out. -/
noncomputable section
set_option linter.unusedVariables false
namespace Go.Ax.Top
theorem l_00 : okT (callQ P (rngR 0 0) KC (fnsOf treeR00) 80 4 [symR 0, symR 1] h0) = true := by kernel_rfl
theorem l_01 : okT (callQ P (rngR 0 1) KC (fnsOf treeR01) 80 4 [symR 0, symR 1] h0) = true := by kernel_rfl
end Go.Ax.Top
end
/- Known steps, borne out. -/
noncomputable section
set_option linter.unusedVariables false
namespace Go.Ax.Top
theorem l_10 : okT (callQ P (rngR 1 0) KC (fnsOf treeR10) 80 4 [symR 0, symR 1] h0) = true := by kernel_rfl
theorem l_11 : okT (callQ P (rngR 1 1) KC (fnsOf treeR11) 80 4 [symR 0, symR 1] h0) = true := by kernel_rfl
end Go.Ax.Top
end
