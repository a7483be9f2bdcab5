/- Known steps, borne out. -/
import Derived.Test.YtmlipiegjgklcaaGreatRa
import Derived.KernelRfl
/- Known steps, borne out. -/
noncomputable section
set_option linter.unusedVariables false
namespace Go.Ax.Top
theorem l_20 : okT (callQ P (rngR 2 0) KC (fnsOf treeR20) 80 4 [symR 0, symR 1] h0) = true := by kernel_rfl
theorem l_21 : okT (callQ P (rngR 2 1) KC (fnsOf treeR21) 80 4 [symR 0, symR 1] h0) = true := by kernel_rfl
end Go.Ax.Top
end
/- Known steps, borne out. -/
noncomputable section
set_option linter.unusedVariables false
namespace Go.Ax.Top
theorem l_30 : okT (callQ P (rngR 3 0) KC (fnsOf treeR30) 80 4 [symR 0, symR 1] h0) = true := by kernel_rfl
theorem l_31 : okT (callQ P (rngR 3 1) KC (fnsOf treeR31) 80 4 [symR 0, symR 1] h0) = true := by kernel_rfl
end Go.Ax.Top
end
