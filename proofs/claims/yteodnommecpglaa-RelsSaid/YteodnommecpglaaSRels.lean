/- Rels. -/
import Derived.Test.YteodnommecpglaaSAwake2
import Derived.Test.YteodnommecpglaaPx9

set_option linter.unusedVariables false
set_option linter.unusedSimpArgs false
namespace Go.Proofs.Yteodnommecpglaa.M
open Go Go.RowKit Go.Proofs.YteodnommecpglaaW.PrintWords Go.Proofs.Yteodnommecpglaa.P

theorem Rels_ev (a b : ByteArray) (k : Int) (l : ByteArray) : Ev (fun q => wimplelaw2_Rels.f q a b k l) true := by
  unfold wimplelaw2_Rels.f
  refine Ev.bind (Parent_ev a) (Ev.bind (refParent_ev a) (Ev.bind (Last_ev a k) (Ev.bind (refLast_ev a k) (Ev.bind (Child_ev l b) (Ev.bind (refChild_ev l b) (Ev.bind (Fold_ev a) (Ev.bind (refFold_ev a) (Ev.pos rfl (Ev.bind (Same_ev a b) (Ev.bind (refSame_ev a b) (Ev.pos (by simp) ?_)))))))))))
  refine Ev.bind (Above_ev a b) (Ev.bind (refAbove_ev a b) (Ev.pos (by simp) (Ev.pos rfl (Ev.bindp (num_eq _) (Ev.pos rfl (Ev.pos rfl (Ev.bindp (num_eq _) (Ev.pos rfl (Ev.pos rfl (Ev.bindp (num_eq _) (Ev.pos rfl ?_)))))))))))
  exact Ev.bind (Compare_ev a b) (Ev.bind (refCompare_ev a b) (Ev.pos rfl (Ev.bind awake_ev (Ev.pure _))))

theorem Rels_pure : Go.Proofs.Yteodnommecpglaa.P.wimplelaw2_Rels.Pure := fun a0 a1 a2 a3 _ _ _ _ => (Rels_ev a0 a1 a2 a3).rounds
end Go.Proofs.Yteodnommecpglaa.M
