/- An OPT that came in, opened. -/
import Derived.Test.YtjmdfhbenejfgaaHRowG
import Derived.Test.YtjmdfhbenejfgaaHAgg6
set_option linter.unusedVariables false
namespace Go.Proofs.Ytjmdfhbenejfgaa.M
open Go Go.Joins Go.ChangeShapes Go.WideShapes Go.RowKit Go.Deep Go.Proofs.YtjmdfhbenejfgaaW.PrintWords Go.Proofs.Ytjmdfhbenejfgaa.P
section
variable {H : Type} {enc : TypeId × Value → H} {P : Program} {w : World} {held : Bool}
theorem open_opts {t e : TypeId} {f0 f1 : Field} {n : Nat} {v : Value} {y : DataW H × List MemPlace} (ht : P.underlying t = some (.slice e)) (he : P.underlying e = some (.struct #[f0, f1])) (hone : oneCellFields P #[f0, f1] = true) (hC : P.cellsOf e = 2)
    (h0 : P.underlying f0.type = some (.int .i64)) (h1 : P.underlying f1.type = some .string)
    (h : DataW.trod enc P w 0 (fun _ => true) held n t [v] = some y) : ∃ (A : Option Addr) (c : Nat) (xs : List S52), v = .slice A xs.length c ∧ xs.length ≤ c ∧ Kd.C k52 w A xs.length xs ∧ (xs.length = 0 ∨ ∃ es sp, y.1 = .slice es sp ∧ es.length = xs.length) := by
  haveI : Inhabited S52 := ⟨z52⟩
  refine open_row k52 z52 (fun x => [.int .i64 x.f0, .string x.f1]) (fun x => k52_mk w x) ht he hone hC rfl h (fun a i m hf => ?_)
  obtain ⟨v0, y0, c0, r0⟩ := hf 0 f0 rfl
  obtain ⟨v1, y1, c1, r1⟩ := hf 1 f1 rfl
  obtain ⟨s0, rfl, _⟩ := fld_int h0 r0
  obtain ⟨s1, rfl, _⟩ := fld_string h1 r1
  refine ⟨⟨s0, s1⟩, fun j u hj => ?_⟩
  match j, hj with
  | 0, hj => obtain rfl := Option.some.inj hj; exact c0
  | 1, hj => obtain rfl := Option.some.inj hj; exact c1
end
end Go.Proofs.Ytjmdfhbenejfgaa.M
