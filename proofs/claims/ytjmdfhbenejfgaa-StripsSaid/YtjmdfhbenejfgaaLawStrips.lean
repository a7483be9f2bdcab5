-- Written by a program of this session's prover; Lean checks it.
import Derived.Test.YtjmdfhbenejfgaaRows
import Derived.Test.YtjmdfhbenejfgaaHEcs6
import Derived.Test.YtjmdfhbenejfgaaPureStrips
import Derived.Test.YtjmdfhbenejfgaaHOpt
import Derived.WalkKit
import Derived.ProofKit
import Derived.OpenShut
import Derived.ShutString
import Derived.ChangeOld
import Derived.Below
import Derived.SizedLaws
import Derived.Lib.SmallJoins
namespace Go.Proofs.Ytjmdfhbenejfgaa.strips
open Go.ChangeShapes Go.WideShapes Go.ChangeAt Go.RowKit Go.Joins Go.Proofs.Ytjmdfhbenejfgaa.M
open Go.ChangeMaps (open_string shut_string)
set_option linter.unusedVariables false
theorem own : ownKnob Try.prog.godebug = none := by kernel_rfl
theorem laidOut : laidOutB Try.prog = true := by kernel_rfl
set_option maxRecDepth 100000 in
theorem lifted (os : Os) (started : os.Started) (H : Type) (enc : TypeId × Value → H) :
    ReturnsInHanded {} Try.checked os 6 .any (Rows.stripsSpec.pre6 enc Try.prog Try.f6 Rows.stripsRow.domain false) (Rows.stripsSpec.post enc Try.prog Try.f6 false true false false) := by
  refine returnsInHanded_of_change_sized (C := Try.checked) own started (by kernel_rfl) Try.func6
    (ChangeSpec.witness6 (enc := enc) (C := Try.checked) false ⟨#[], #[.agg #[.int .i64 0, .int .i64 0, .int .i64 0, .bool false, .int .i64 0, .slice none 0 0]], []⟩ 8 (by kernel_rfl) (by kernel_rfl) (by kernel_rfl) (by kernel_rfl)) ?_
  intro W base args ds gs before hval0 hW hcnd hsz0 _
  have hsz : (DataW.weightsEach Try.prog (Try.f6.params.toList ++ Rows.stripsSpec.plain.varTypes Try.prog) (ds ++ gs)).all (· ≤ reachBytes) = true := hsz0
  have hval : ∀ (j : Nat) t v, Try.f6.params[j]? = some t → args[j]? = some v → Value.okWide Try.prog W .any base t v := hval0
  have hW' := hW
  obtain ⟨p, q, hA0, hV, rfl, hfz, hnd⟩ := hW
  have hA : DataW.TrodAll enc Try.prog W 0 (fun _ => true) true Try.f6.params.toList args.toList ds p := hA0
  rw [Try.params6] at hA hval hsz
  obtain ⟨v0, vs0, d0, ds0, p0, q0, hargs, rfl, rfl, h0, r0⟩ := trodAll_cons hA
  obtain ⟨rfl, rfl, rfl⟩ := trodAll_nil r0
  obtain rfl : args = #[v0] := by cases args; simp_all
  obtain ⟨rfl, rfl⟩ := trodVars_none hV
  have k0 := h0
  have lt0 : ∀ x ∈ p0, x.block < W.heap.size := by obtain ⟨m, hm⟩ := k0; exact DataW.trod_lt m _ _ _ hm
  obtain ⟨c0_0, c0_1, c0_2, c0_3, c0_4, c0_5, y0_0, y0_1, y0_2, y0_3, y0_4, y0_5, n0, rfl, rfl, rfl, h0_0, h0_1, h0_2, h0_3, h0_4, h0_5⟩ := open_agg6 Try.underlying44 (by kernel_rfl) (by kernel_rfl) (hval 0 44 v0 rfl rfl) h0
  obtain ⟨a0_0, rfl, rfl, w0_0⟩ := field_int Try.underlying3 h0_0
  obtain ⟨a0_1, rfl, rfl, w0_1⟩ := field_int Try.underlying3 h0_1
  obtain ⟨a0_2, rfl, rfl, w0_2⟩ := field_int Try.underlying3 h0_2
  obtain ⟨a0_3, rfl, rfl⟩ := field_bool Try.underlying4 h0_3
  obtain ⟨a0_4, rfl, rfl, w0_4⟩ := field_int Try.underlying3 h0_4
  obtain ⟨A0_5, d0_5, a0_5, rfl, l0_5, r0_5, z0_5⟩ := open_opts Try.underlying42 Try.underlying52 (by kernel_rfl) (by kernel_rfl) Try.underlying3 Try.underlying9 h0_5
  have b0_5 : a0_5.length * 24 ≤ 140737488351232 := sized_field hsz (j := 0) (i := 5) rfl rfl Try.underlying44 rfl rfl Try.underlying42 (by kernel_rfl) z0_5
  clear hA0 hval0 hsz0 hsz

  refine (M.Strips_calls W a0_0 a0_1 a0_2 a0_3 a0_4 A0_5 d0_5 a0_5 r0_5 l0_5 (by omega)).mono fun e W' ⟨he, bel⟩ => ?_
  subst he
  exact ⟨_, rfl, _, _, _, [], _, [], hW', trodAll_mk1 (shut_bool Try.underlying4 _), (trodAll_cons_mk (Below.trod laidOut (by kernel_rfl) (of_decide_eq_true (by kernel_rfl)) k0 bel lt0) trodAll_mk0), rfl, bel.frame _, fun h => by cases h⟩
theorem over : Rows.stripsRow.holds Try.pinned (OpenSpec.ofChange Rows.stripsSpec) :=
  OpenClaim.holds_of_wide 6 Try.f6 rfl rfl rfl rfl rfl rfl rfl ⟨rfl, rfl, rfl, rfl, rfl⟩ rfl rfl rfl rfl rfl (by kernel_rfl) Try.func6 (by kernel_rfl)
    (of_decide_eq_true (by kernel_rfl)) (by unfold Func.isWrapper; first | (rw [if_pos (by decide +kernel)]; kernel_rfl) | (rw [if_neg (by decide +kernel)]; exact ⟨rfl, rfl⟩))
    (fun os started H enc _ => lifted os started H enc)
theorem proved : Rows.StripsSaid := over
#print axioms proved
end Go.Proofs.Ytjmdfhbenejfgaa.strips
namespace Go.Proofs.Ytjmdfhbenejfgaa
/-- The row, under a short name, for the claim. -/
theorem strips_holds : Rows.StripsSaid := strips.proved
end Go.Proofs.Ytjmdfhbenejfgaa
