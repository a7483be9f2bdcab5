-- Written by a program of this session's prover; Lean checks it.
import Derived.Test.YtimkafkiphfacaaRows
import Derived.Test.YtimkafkiphfacaaHFilters
import Derived.Test.YtimkafkiphfacaaPureFilters
import Derived.Test.YtimkafkiphfacaaHMsg
import Derived.WalkKit
import Derived.ProofKit
import Derived.OpenShut
import Derived.ShutString
import Derived.ChangeOld
import Derived.Below
import Derived.SizedLaws
import Derived.Lib.SmallJoins
namespace Go.Proofs.Ytimkafkiphfacaa.filters
open Go.ChangeShapes Go.WideShapes Go.ChangeAt Go.RowKit Go.Joins Go.Proofs.Ytimkafkiphfacaa.M
open Go.ChangeMaps (open_string shut_string)
set_option linter.unusedVariables false
theorem own : ownKnob Try.prog.godebug = none := by kernel_rfl
theorem laidOut : laidOutB Try.prog = true := by kernel_rfl
set_option maxRecDepth 100000 in
theorem lifted (os : Os) (started : os.Started) (H : Type) (enc : TypeId × Value → H) :
    ReturnsInHanded {} Try.checked os 3 .any (Rows.filtersSpec.pre6 enc Try.prog Try.f3 Rows.filtersRow.domain false) (Rows.filtersSpec.post enc Try.prog Try.f3 false true false false) := by
  refine returnsInHanded_of_change_sized (C := Try.checked) own started (by kernel_rfl) Try.func3
    (ChangeSpec.witness6 (enc := enc) (C := Try.checked) false ⟨#[], #[.agg #[.int .i64 0, .bool false, .int .i64 0, .bool false, .bool false, .bool false, .bool false, .int .i64 0, .int .i64 0, .slice none 0 0, .slice none 0 0, .slice none 0 0, .slice none 0 0], .string ByteArray.empty], []⟩ 8 (by kernel_rfl) (by kernel_rfl) (by kernel_rfl) (by kernel_rfl)) ?_
  intro W base args ds gs before hval0 hW hcnd hsz0 _
  have hsz : (DataW.weightsEach Try.prog (Try.f3.params.toList ++ Rows.filtersSpec.plain.varTypes Try.prog) (ds ++ gs)).all (· ≤ reachBytes) = true := hsz0
  have hval : ∀ (j : Nat) t v, Try.f3.params[j]? = some t → args[j]? = some v → Value.okWide Try.prog W .any base t v := hval0
  have hW' := hW
  obtain ⟨p, q, hA0, hV, rfl, hfz, hnd⟩ := hW
  have hA : DataW.TrodAll enc Try.prog W 0 (fun _ => true) true Try.f3.params.toList args.toList ds p := hA0
  rw [Try.params3] at hA hval hsz
  obtain ⟨v0, vs0, d0, ds0, p0, q0, hargs, rfl, rfl, h0, r0⟩ := trodAll_cons hA
  obtain ⟨v1, vs1, d1, ds1, p1, q1, rfl, rfl, rfl, h1, r1⟩ := trodAll_cons r0
  obtain ⟨rfl, rfl, rfl⟩ := trodAll_nil r1
  obtain rfl : args = #[v0, v1] := by cases args; simp_all
  obtain ⟨rfl, rfl⟩ := trodVars_none hV
  have k0 := h0
  have lt0 : ∀ x ∈ p0, x.block < W.heap.size := by obtain ⟨m, hm⟩ := k0; exact DataW.trod_lt m _ _ _ hm
  obtain ⟨c0_0, c0_1, c0_2, c0_3, c0_4, c0_5, c0_6, c0_7, c0_8, c0_9, c0_10, c0_11, c0_12, n0, m0, yH0, y0_0, y0_1, y0_2, y0_3, y0_4, y0_5, y0_6, y0_7, y0_8, y0_9, y0_10, y0_11, y0_12, rfl, rfl, g0_0, g0_1, g0_2, g0_3, g0_4, g0_5, g0_6, g0_7, g0_8, g0_9, g0_10, g0_11, g0_12⟩ := open_msg Try.underlying27 Try.underlying23 (by kernel_rfl) (by kernel_rfl) rfl (by kernel_rfl) rfl (by kernel_rfl) rfl (by kernel_rfl) rfl (by kernel_rfl) rfl (by kernel_rfl) (hval 0 27 v0 rfl rfl) h0
  obtain ⟨a0_0, rfl, -⟩ := fld_int Try.underlying3 g0_0
  obtain ⟨a0_1, rfl⟩ := fld_bool Try.underlying4 g0_1
  obtain ⟨a0_2, rfl, -⟩ := fld_int Try.underlying3 g0_2
  obtain ⟨a0_3, rfl⟩ := fld_bool Try.underlying4 g0_3
  obtain ⟨a0_4, rfl⟩ := fld_bool Try.underlying4 g0_4
  obtain ⟨a0_5, rfl⟩ := fld_bool Try.underlying4 g0_5
  obtain ⟨a0_6, rfl⟩ := fld_bool Try.underlying4 g0_6
  obtain ⟨a0_7, rfl, -⟩ := fld_int Try.underlying3 g0_7
  obtain ⟨a0_8, rfl, -⟩ := fld_int Try.underlying3 g0_8
  obtain ⟨A0_9, d0_9, a0_9, rfl, l0_9, r0_9, z0_9⟩ := open_qs Try.underlying24 Try.underlying71 (by kernel_rfl) (by kernel_rfl) Try.underlying9 Try.underlying3 Try.underlying3 g0_9
  have b0_9 : a0_9.length * 32 ≤ 140737488351232 := sized_field hsz (j := 0) (i := 1) rfl rfl Try.underlying27 rfl rfl Try.underlying24 (by kernel_rfl) z0_9
  obtain ⟨A0_10, d0_10, a0_10, rfl, l0_10, r0_10, z0_10⟩ := open_rrs Try.underlying25 Try.underlying42 (by kernel_rfl) (by kernel_rfl) Try.underlying9 Try.underlying3 Try.underlying3 Try.underlying3 Try.underlying9 g0_10
  have b0_10 : a0_10.length * 56 ≤ 140737488351232 := sized_field hsz (j := 0) (i := 2) rfl rfl Try.underlying27 rfl rfl Try.underlying25 (by kernel_rfl) z0_10
  obtain ⟨A0_11, d0_11, a0_11, rfl, l0_11, r0_11, z0_11⟩ := open_rrs Try.underlying25 Try.underlying42 (by kernel_rfl) (by kernel_rfl) Try.underlying9 Try.underlying3 Try.underlying3 Try.underlying3 Try.underlying9 g0_11
  have b0_11 : a0_11.length * 56 ≤ 140737488351232 := sized_field hsz (j := 0) (i := 3) rfl rfl Try.underlying27 rfl rfl Try.underlying25 (by kernel_rfl) z0_11
  obtain ⟨A0_12, d0_12, a0_12, rfl, l0_12, r0_12, z0_12⟩ := open_rrs Try.underlying25 Try.underlying42 (by kernel_rfl) (by kernel_rfl) Try.underlying9 Try.underlying3 Try.underlying3 Try.underlying3 Try.underlying9 g0_12
  have b0_12 : a0_12.length * 56 ≤ 140737488351232 := sized_field hsz (j := 0) (i := 4) rfl rfl Try.underlying27 rfl rfl Try.underlying25 (by kernel_rfl) z0_12
  obtain ⟨a1, rfl, rfl, rfl, w1⟩ := open_string Try.underlying9 (hval 1 9 v1 rfl rfl) h1
  clear hA0 hval0 hsz0 hsz

  refine (M.Filters_calls W a0_0 a0_1 a0_2 a0_3 a0_4 a0_5 a0_6 a0_7 a0_8 A0_9 d0_9 a0_9 A0_10 d0_10 a0_10 A0_11 d0_11 a0_11 A0_12 d0_12 a0_12 a1 r0_9 l0_9 r0_10 l0_10 r0_11 l0_11 r0_12 l0_12 (by omega) (by omega) (by omega) (by omega)).mono fun e W' ⟨he, bel⟩ => ?_
  subst he
  exact ⟨_, rfl, _, _, _, [], _, [], hW', trodAll_mk1 (shut_bool Try.underlying4 _), (trodAll_cons_mk (Below.trod laidOut (by kernel_rfl) (of_decide_eq_true (by kernel_rfl)) k0 bel lt0) (trodAll_cons_mk (shut_string Try.underlying9 w1) trodAll_mk0)), rfl, bel.frame _, fun h => by cases h⟩
theorem over : Rows.filtersRow.holds Try.pinned (OpenSpec.ofChange Rows.filtersSpec) :=
  OpenClaim.holds_of_wide 3 Try.f3 rfl rfl rfl rfl rfl rfl rfl ⟨rfl, rfl, rfl, rfl, rfl⟩ rfl rfl rfl rfl rfl (by kernel_rfl) Try.func3 (by kernel_rfl)
    (of_decide_eq_true (by kernel_rfl)) (by unfold Func.isWrapper; first | (rw [if_pos (by decide +kernel)]; kernel_rfl) | (rw [if_neg (by decide +kernel)]; exact ⟨rfl, rfl⟩))
    (fun os started H enc _ => lifted os started H enc)
theorem proved : Rows.FiltersSaid := over
#print axioms proved
end Go.Proofs.Ytimkafkiphfacaa.filters
namespace Go.Proofs.Ytimkafkiphfacaa
/-- The row, under a short name, for the claim. -/
theorem filters_holds : Rows.FiltersSaid := filters.proved
end Go.Proofs.Ytimkafkiphfacaa
