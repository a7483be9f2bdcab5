/- The awake call of the filter's statements. -/
import Derived.Test.YtimkafkiphfacaaSFilter
import Derived.Test.YtimkafkiphfacaaPx23

set_option linter.unusedVariables false
set_option linter.unusedSimpArgs false
namespace Go.Proofs.Ytimkafkiphfacaa.M
open Go Go.RowKit Go.Proofs.YtimkafkiphfacaaW.PrintWords Go.Proofs.Ytimkafkiphfacaa.P

theorem awake_ev : Ev (fun k => wimplelaw12_awake.f k) true := by
  have nC : nm [1, 67, 0] = some [[67]] := nm_some.2 ⟨good_of (by decide), by decide, by decide⟩
  have nA : nm [1, 97, 1, 99, 0] = some [[97], [99]] := nm_some.2 ⟨good_of (by decide), by decide, by decide⟩
  have nB : nm [1, 97, 1, 100, 0] = some [[97], [100]] := nm_some.2 ⟨good_of (by decide), by decide, by decide⟩
  have a1 : aboveS [1, 67, 0] [1, 97, 1, 99, 0] = true := (aboveS_some nC nA).trans (by decide)
  have a2 : aboveS [1, 67, 0] [1, 97, 1, 100, 0] = false := (aboveS_some nC nB).trans (by decide)
  have k1 : keepS (B ⟨#[1, 67, 0]⟩) [(⟨(⟨#[1, 97, 1, 99, 0]⟩ : ByteArray), 1, 1, 0, (⟨#[97, 98, 99, 100]⟩ : ByteArray)⟩ : S42), (⟨(⟨#[1, 97, 1, 100, 0]⟩ : ByteArray), 1, 1, 0, (⟨#[97, 98, 99, 100]⟩ : ByteArray)⟩ : S42)] = [(⟨(⟨#[1, 97, 1, 99, 0]⟩ : ByteArray), 1, 1, 0, (⟨#[97, 98, 99, 100]⟩ : ByteArray)⟩ : S42)] := by
    rw [keepS, List.filter_cons_of_pos (by show (1 == (1 : Int) && aboveS [1, 67, 0] [1, 97, 1, 99, 0]) = true; rw [a1]; rfl), List.filter_cons_of_neg (by show ¬ ((1 == (1 : Int) && aboveS [1, 67, 0] [1, 97, 1, 100, 0]) = true); rw [a2]; decide), List.filter_nil]
  have k2 : keepS (B ⟨#[1, 67, 0]⟩) [(⟨(⟨#[1, 97, 1, 99, 0]⟩ : ByteArray), 1, 3, 0, (⟨#[97, 98, 99, 100]⟩ : ByteArray)⟩ : S42), (⟨(⟨#[1, 97, 1, 99, 0]⟩ : ByteArray), 1, 1, 0, (⟨#[97, 98, 99, 100]⟩ : ByteArray)⟩ : S42)] = [(⟨(⟨#[1, 97, 1, 99, 0]⟩ : ByteArray), 1, 1, 0, (⟨#[97, 98, 99, 100]⟩ : ByteArray)⟩ : S42)] := by
    rw [keepS, List.filter_cons_of_neg (by show ¬ ((3 == (1 : Int) && aboveS [1, 67, 0] [1, 97, 1, 99, 0]) = true); rw [a1]; decide), List.filter_cons_of_pos (by show (1 == (1 : Int) && aboveS [1, 67, 0] [1, 97, 1, 99, 0]) = true; rw [a1]; rfl), List.filter_nil]
  have f1 := Filter_ok 0 false 0 false false false false 0 0 [] [(⟨(⟨#[1, 97, 1, 99, 0]⟩ : ByteArray), 1, 1, 0, (⟨#[97, 98, 99, 100]⟩ : ByteArray)⟩ : S42), (⟨(⟨#[1, 97, 1, 100, 0]⟩ : ByteArray), 1, 1, 0, (⟨#[97, 98, 99, 100]⟩ : ByteArray)⟩ : S42)] [] [(⟨(⟨#[1, 97, 1, 99, 0]⟩ : ByteArray), 1, 3, 0, (⟨#[97, 98, 99, 100]⟩ : ByteArray)⟩ : S42), (⟨(⟨#[1, 97, 1, 99, 0]⟩ : ByteArray), 1, 1, 0, (⟨#[97, 98, 99, 100]⟩ : ByteArray)⟩ : S42)] (⟨#[1, 67, 0]⟩ : ByteArray) (by rw [show nm (B ⟨#[1, 67, 0]⟩) = some [[67]] from nC]; rfl) (by decide) (by decide) (by decide) (by decide)
  rw [k1, k2] at f1
  have f2 := Filter_no 0 false 0 false false false false 0 0 ([] : List S71) [(⟨(⟨#[1, 97, 1, 99, 0]⟩ : ByteArray), 1, 1, 0, (⟨#[97, 98, 99, 100]⟩ : ByteArray)⟩ : S42)] [] [(⟨(⟨#[1, 97, 1, 99, 0]⟩ : ByteArray), 1, 1, 0, (⟨#[97, 98, 99, 100]⟩ : ByteArray)⟩ : S42)] (⟨#[]⟩ : ByteArray) (by rw [show nm (B ⟨#[]⟩) = none from nm_nil]; rfl)
  unfold wimplelaw12_awake.f
  refine Ev.bind f1 (Ev.bind f2 (Ev.pos rfl (Ev.pos (by decide) (Ev.pos ?_ (Ev.pos rfl (Ev.bindp (num_eq _) (Ev.pos rfl (Ev.bindp (num_eq _) (Ev.eq (Ev.pure _) (by decide))))))))))
  simp only [toL]
  decide
end Go.Proofs.Ytimkafkiphfacaa.M
