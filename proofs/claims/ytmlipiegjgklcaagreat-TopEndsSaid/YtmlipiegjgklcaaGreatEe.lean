/- Known steps, borne out. -/
import Derived.Test.YtmlipiegjgklcaaGreatEa
import Derived.KernelRfl
/- Known steps, borne out. -/
noncomputable section
set_option linter.unusedVariables false
namespace Go.Ax.Top
theorem l_0 : okT (callQ P (rngR 0) KC (fnsOf treeR0) 80 8 [symR 0, symR 1] h0) = true := by kernel_rfl
theorem l_1 : okT (callQ P (rngR 1) KC (fnsOf treeR1) 80 8 [symR 0, symR 1] h0) = true := by kernel_rfl
end Go.Ax.Top
end
/- Known steps, borne out. -/
noncomputable section
set_option linter.unusedVariables false
namespace Go.Ax.Top
theorem l_2 : okT (callQ P (rngR 2) KC (fnsOf treeR2) 80 8 [symR 0, symR 1] h0) = true := by kernel_rfl
theorem l_3 : okT (callQ P (rngR 3) KC (fnsOf treeR3) 80 8 [symR 0, symR 1] h0) = true := by kernel_rfl
end Go.Ax.Top
end
