/- The reference's last labels. -/
import Derived.Test.YtgphnnnhhhmemaaSAwake22
import Derived.Test.YtgphnnnhhhmemaaPx22

set_option linter.unusedVariables false
set_option linter.unusedSimpArgs false
namespace Go.Proofs.Ytgphnnnhhhmemaa.M
open Go Go.RowKit Go.Proofs.YtgphnnnhhhmemaaW.PrintWords Go.Proofs.Ytgphnnnhhhmemaa.P

/-- The reference's last labels of a name. -/
theorem rLast_ev (s : ByteArray) (ls : List Bytes) (h : nm (B s) = some ls) (j : Nat) (hj : j ≤ ls.length) : Ev (fun q => wimpleref1_Last.f q s (j : Int)) (mkB (wire (ls.drop (ls.length - j))), 0) := by
  have hM := refMay_ev s
  have hC := refCount_ev s
  rw [h] at hM
  have c : cnt (B s) = (ls.length : Int) := by unfold cnt; rw [h]
  rw [c] at hC
  unfold wimpleref1_Last.f
  exact Ev.bind hM (Ev.pos rfl (Ev.neg (by omega) (Ev.bind hC (Ev.neg (by omega) (Ev.bind (reflast_ev s ls h j hj) (Ev.pure _))))))

theorem above_drop {s : Bytes} {ls : List Bytes} (h : nm s = some ls) (i : Nat) : aboveS (wire (ls.drop i)) s = true := by
  rw [aboveS_some (nm_drop h i) h, List.map_drop]
  exact decide_eq_true (List.drop_suffix _ _)

end Go.Proofs.Ytgphnnnhhhmemaa.M
