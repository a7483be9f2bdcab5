/- What the functions do, level by level. -/
import Derived.Test.YtmlipiegjgklcaaGreatXf
import Derived.Test.YtmlipiegjgklcaaGreatXg
import Derived.Test.YtmlipiegjgklcaaGreatXh
import Derived.Test.YtmlipiegjgklcaaGreatXi
import Derived.Test.YtmlipiegjgklcaaGreatXd
import Derived.Test.YtmlipiegjgklcaaGreatXc
import Derived.Test.YtmlipiegjgklcaaGreatXe
/- What the functions do, level by level. -/
noncomputable section
set_option linter.unusedVariables false
namespace Go.Ax.Top
def mapT (t : TypeId) : Bool := match P.underlying t with | some (.map _ _) => true | _ => false
theorem mapT_ok {t : TypeId} (h : mapT t = true) : ∃ k e, P.underlying t = some (.map k e) := by
  unfold mapT at h
  split at h
  · rename_i k e hu; exact ⟨k, e, hu⟩
  · cases h
def dstB (n : Nat) (l : List Oper) : Bool := allL (fun o => Option.rec true (fun d => Nat.blt d n) o.dst) l
theorem dstB_ok {n : Nat} {l : List Oper} (h : dstB n l = true) : ∀ o ∈ l, ∀ d, o.dst = some d → d < n := by
  intro o ho d hd
  have := allL_ok h o ho
  rw [hd] at this
  exact Nat.blt_eq.mp this
theorem d200_ok : d200.Ok P x200.n := ⟨⟨by kernel_rfl, by kernel_rfl, by kernel_rfl⟩, ⟨by kernel_rfl, by kernel_rfl, by kernel_rfl⟩, ⟨by kernel_rfl, by kernel_rfl, by kernel_rfl⟩, ⟨by kernel_rfl, by kernel_rfl, by kernel_rfl⟩, ⟨by kernel_rfl, by kernel_rfl, by kernel_rfl⟩, mapT_ok (by kernel_rfl), wfB_ok (by kernel_rfl), dstB_ok (by kernel_rfl), Nat.le_of_ble_eq_true (by kernel_rfl)⟩
theorem d200_fn : ∃ fn, P.funcs[200]? = some fn ∧ fn.body = some d200.body ∧ fn.results.toList = [] ∧ fn.ntmps = x200.n ∧ (fn.name == "runtime.NumGoroutine") = false := ⟨Go.Proofs.Tryz.f200, Go.Proofs.Tryz.func200, by kernel_rfl, by kernel_rfl, by kernel_rfl, by kernel_rfl⟩
theorem d276_ok : d276.Ok P x276.n := ⟨⟨by kernel_rfl, by kernel_rfl, by kernel_rfl⟩, ⟨by kernel_rfl, by kernel_rfl, by kernel_rfl⟩, ⟨by kernel_rfl, by kernel_rfl, by kernel_rfl⟩, ⟨by kernel_rfl, by kernel_rfl, by kernel_rfl⟩, ⟨by kernel_rfl, by kernel_rfl, by kernel_rfl⟩, mapT_ok (by kernel_rfl), wfB_ok (by kernel_rfl), dstB_ok (by kernel_rfl), Nat.le_of_ble_eq_true (by kernel_rfl)⟩
theorem d276_fn : ∃ fn, P.funcs[276]? = some fn ∧ fn.body = some d276.body ∧ fn.results.toList = [] ∧ fn.ntmps = x276.n ∧ (fn.name == "runtime.NumGoroutine") = false := ⟨Go.Proofs.Tryz.f276, Go.Proofs.Tryz.func276, by kernel_rfl, by kernel_rfl, by kernel_rfl, by kernel_rfl⟩
theorem d281_ok : d281.Ok P x281.n := ⟨⟨by kernel_rfl, by kernel_rfl, by kernel_rfl⟩, ⟨by kernel_rfl, by kernel_rfl, by kernel_rfl⟩, ⟨by kernel_rfl, by kernel_rfl, by kernel_rfl⟩, ⟨by kernel_rfl, by kernel_rfl, by kernel_rfl⟩, ⟨by kernel_rfl, by kernel_rfl, by kernel_rfl⟩, mapT_ok (by kernel_rfl), wfB_ok (by kernel_rfl), dstB_ok (by kernel_rfl), Nat.le_of_ble_eq_true (by kernel_rfl)⟩
theorem d281_fn : ∃ fn, P.funcs[281]? = some fn ∧ fn.body = some d281.body ∧ fn.results.toList = [] ∧ fn.ntmps = x281.n ∧ (fn.name == "runtime.NumGoroutine") = false := ⟨Go.Proofs.Tryz.f281, Go.Proofs.Tryz.func281, by kernel_rfl, by kernel_rfl, by kernel_rfl, by kernel_rfl⟩
variable {ρ : Nat → Int} {rng : Rng}
theorem sum200 : FunOk P rng KC ρ 200 (.sum (deleteM d200 x200.mask)) := by
  intro E e1 e2 e3 hE args h v h' e
  have z := deleteM_ok hE (by rw [e1]; exact mixed) (n := x200.n) (by rw [e1]; exact d200_ok) (f := 200) (by rw [e1]; exact d200_fn) e
  rw [e1] at z; exact z
theorem sum276 : FunOk P rng KC ρ 276 (.sum (deleteM d276 x276.mask)) := by
  intro E e1 e2 e3 hE args h v h' e
  have z := deleteM_ok hE (by rw [e1]; exact mixed) (n := x276.n) (by rw [e1]; exact d276_ok) (f := 276) (by rw [e1]; exact d276_fn) e
  rw [e1] at z; exact z
theorem sum281 : FunOk P rng KC ρ 281 (.sum (deleteM d281 x281.mask)) := by
  intro E e1 e2 e3 hE args h v h' e
  have z := deleteM_ok hE (by rw [e1]; exact mixed) (n := x281.n) (by rw [e1]; exact d281_ok) (f := 281) (by rw [e1]; exact d281_fn) e
  rw [e1] at z; exact z
def AllF (ρ : Nat → Int) (rng : Rng) : FL → Prop
  | [] => True
  | p :: l => FunOk P rng KC ρ p.1 p.2 ∧ AllF ρ rng l
def OkT (ρ : Nat → Int) (rng : Rng) (t : PT Fun) : Prop := ∀ f, FunOk P rng KC ρ f (PT.get .none (pos f) t)
theorem OkT.list {t : PT Fun} (ht : OkT ρ rng t) : ∀ {l : FL}, AllF ρ rng l → OkT ρ rng (treeL l t)
  | [], _ => ht
  | p :: l, h => fun f => by
    show FunOk P rng KC ρ f (PT.get .none (pos f) (PT.set .none p.2 (pos p.1) (treeL l t)))
    rw [PT.get_set]
    by_cases e : pos f = pos p.1
    · rw [if_pos e, pos_inj e]; exact h.1
    · rw [if_neg e]; exact OkT.list ht h.2 f
theorem fl0_ok : AllF ρ rng fl0 := ⟨fo4, fo5, fo8, fo9, fo10, fo11, fo12, fo13, fo14, fo15, fo16, fo17, fo18, fo19, fo20, fo21, fo22, fo23, fo24, fo25, fo29, fo30, fo31, fo32, fo33, fo34, fo35, fo36, fo37, fo38, fo39, fo40, trivial⟩
theorem fl1_ok : AllF ρ rng fl1 := ⟨fo41, fo42, fo43, fo44, fo46, fo47, fo48, fo49, fo50, fo51, fo52, fo54, fo55, fo56, fo57, fo58, fo59, fo60, fo61, fo62, fo63, fo64, fo65, fo66, fo67, fo68, fo69, fo70, fo71, fo72, fo73, fo74, trivial⟩
theorem fl2_ok : AllF ρ rng fl2 := ⟨fo75, fo76, fo77, fo78, fo79, fo80, fo81, fo83, fo84, fo85, fo86, fo87, fo88, fo89, fo90, fo91, fo92, fo93, fo94, fo95, fo96, fo97, fo98, fo99, fo100, fo101, fo102, fo103, fo104, fo105, fo106, fo107, trivial⟩
theorem fl3_ok : AllF ρ rng fl3 := ⟨fo108, fo109, fo110, fo111, fo112, fo113, fo114, fo115, fo116, fo117, fo119, fo120, fo121, fo122, fo123, fo124, fo125, fo126, fo128, fo129, fo130, fo131, fo132, fo133, fo135, fo136, fo137, fo138, fo139, fo140, fo141, fo142, trivial⟩
theorem fl4_ok : AllF ρ rng fl4 := ⟨fo143, fo144, fo145, fo146, fo147, fo148, fo149, fo150, fo151, fo152, fo153, fo154, fo155, fo156, fo157, fo158, fo159, fo160, fo163, fo164, fo165, fo166, fo167, fo168, fo169, fo170, fo171, fo172, fo173, fo174, fo175, fo176, trivial⟩
theorem fl5_ok : AllF ρ rng fl5 := ⟨fo177, fo178, fo180, fo181, fo182, fo183, fo185, fo186, fo187, fo188, fo189, fo190, fo192, fo193, fo194, fo195, fo196, fo197, fo198, fo199, sum200, fo201, fo208, fo209, fo210, fo213, fo214, fo215, fo216, fo217, fo218, fo219, trivial⟩
theorem fl6_ok : AllF ρ rng fl6 := ⟨fo220, fo221, fo222, fo223, fo224, fo225, fo226, fo227, fo228, fo229, fo230, fo234, fo237, fo238, fo239, fo240, fo241, fo242, fo243, fo244, fo245, fo246, fo247, fo248, fo250, fo255, fo256, fo257, fo258, fo259, fo260, fo261, trivial⟩
theorem fl7_ok : AllF ρ rng fl7 := ⟨fo262, fo263, fo265, fo266, fo267, fo274, fo275, sum276, fo277, fo279, fo280, sum281, fo286, fo287, fo288, fo289, fo291, fo292, fo294, fo295, fo296, fo299, fo305, fo306, fo315, fo316, trivial⟩
theorem tree0_ok : OkT ρ rng tree0 := OkT.list (OkT.list (OkT.list (OkT.list (OkT.list (OkT.list (OkT.list (OkT.list ((fun f => by rw [PT.get_leaf]; trivial)) fl7_ok) fl6_ok) fl5_ok) fl4_ok) fl3_ok) fl2_ok) fl1_ok) fl0_ok
theorem r64_ok (hr : ∀ i, -9223372036854775808 ≤ ρ i ∧ ρ i ≤ 9223372036854775807) : Ranges ρ rngC := rngOf_ok hr
theorem tree1_ok : OkT ρ rng tree1 := OkT.list tree0_ok ⟨memoG_ok mixed fo72 tab72_ok, trivial⟩
theorem tab_of {t : PT Fun} (ht : OkT ρ rngC t) (hr : Ranges ρ rngC) {f : FuncId} {tb : Tab} (h : tabOk (callQ P rngC KC (fnsOf t) 80) f tb = true) : ∀ e ∈ tb, ∀ h, CallsOk P ρ f e.1 h e.2 h :=
  tabOk_ok hr kc mixed (fns := fnsOf t) ht (by rw [callQ_eq] at h; exact h)
section
theorem tree2_ok (hr : Ranges ρ rngC) : OkT ρ rng tree2 := OkT.list tree1_ok ⟨memoG_ok mixed fo100 (tab_of tree1_ok hr m100), memoG_ok mixed fo120 (tab_of tree1_ok hr m120), trivial⟩
theorem tree3_ok (hr : Ranges ρ rngC) : OkT ρ rng tree3 := OkT.list (tree2_ok hr) ⟨memoG_ok mixed fo75 (tab_of (tree2_ok hr) hr m75), memoG_ok mixed fo119 (tab_of (tree2_ok hr) hr m119), trivial⟩
theorem tree4_ok (hr : Ranges ρ rngC) : OkT ρ rng tree4 := OkT.list (tree3_ok hr) ⟨memoG_ok mixed fo9 (tab_of (tree3_ok hr) hr m9), trivial⟩
end
end Go.Ax.Top
end
/- From known steps to what a law's call does. -/
noncomputable section
set_option linter.unusedVariables false
namespace Go.Ax.Top
open Go.RowKit
theorem okT_ok {r : Res AV} (h : okT r = true) : ∃ h', r = .ok (.bool true) h' := by
  cases r with
  | ok v h' => exact ⟨h', by rw [eqV1_ok (x := v) (y := .bool true) h]⟩
  | er s => cases h
theorem symR_V {ρ : Nat → Int} {μ : Mu} (i : Nat) : V ρ μ (symR i) (.int .i64 (ρ i)) := by
  simp [symR, V, SE.val]
section
variable {ρ : Nat → Int} {rng : Rng}
theorem step_of (hr : Ranges ρ rngC) {t : PT Fun} (ht : OkT ρ rngC t) {f : FuncId} {E : Ent} (h : trOk E (callQ P rngC KC (fnsOf t) 80 f E.args (hOf E.L E.n)) = true) : Tr P ρ f E :=
  Tr_of_res (fun v h' e => by rw [callQ_eq] at e; exact callN_ok hr kc mixed (fns := fnsOf t) ht 80 f _ _ v h' e) h
theorem step_of' {rng : Rng} (hr : Ranges ρ rng) {t : PT Fun} (ht : OkT ρ rng t) {f : FuncId} {E : Ent} (h : trOk E (callQ P rng KC (fnsOf t) 80 f E.args (hOf E.L E.n)) = true) : Tr P ρ f E :=
  Tr_of_res (fun v h' e => by rw [callQ_eq] at e; exact callN_ok hr kc mixed (fns := fnsOf t) ht 80 f _ _ v h' e) h
/-- A law that answers true on the empty heap. -/
theorem law_of {rng : Rng} (hr : Ranges ρ rng) {t : PT Fun} (ht : OkT ρ rng t) {f : FuncId} {args : List AV} (h : okT (callQ P rng KC (fnsOf t) 80 f args h0) = true) (w : World) (vs : Array Value) (hv : VL ρ (fun _ => none) args vs.toList) :
    Calls P f vs w fun e w' => e = .returned (.bool true) ∧ Below w.heap.size w w' := by
  obtain ⟨h', hc⟩ := okT_ok h
  rw [callQ_eq] at hc
  obtain ⟨_, hent, k⟩ := callN_ok hr kc mixed (fns := fnsOf t) ht 80 f _ _ _ h' hc
  let C2 : Ctx := ⟨fun _ => True, h'.next.num, fun _ => .none, ⟨fun k => k < w.heap.size, fun k => w.heap[k]?, w⟩⟩
  have hview : C2.view h0 = fun _ => .none := by
    funext b
    unfold Ctx.view
    rw [if_neg (by simp [h0])]
  have st : St C2 ρ (fun _ => none) h0 w := by
    refine ⟨⟨fun k hk => ⟨hk, rfl⟩, fun b p hb => ?_, fun b hb => ?_, fun b b' p p' hb => ?_, Side.refl w⟩, fun b _ => ?_, fun b _ _ => rfl⟩
    · rw [hview] at hb; exact absurd rfl hb
    · rw [hview] at hb; exact absurd rfl hb
    · rw [hview] at hb; exact absurd rfl hb
    · rw [hview]; exact (PT.get_leaf _ _).symm
  refine Calls.mono (k C2 (fun _ => none) w vs ⟨fun _ _ => trivial, Nat.le_refl _⟩ st hv) fun e w' he => ?_
  obtain ⟨r, rfl, μ', _, _, hr, s'⟩ := he
  simp only [V] at hr
  subst hr
  have hb : ∀ k, k < w.heap.size → w'.heap[k]? = w.heap[k]? := fun k hk => (s'.rel.frz k hk).2
  have hs : ∀ k, k < w.heap.size → k < w'.heap.size := fun k hk => (s'.rel.frz k hk).1
  refine ⟨rfl, ⟨s'.rel.side.os, s'.rel.side.tape, s'.rel.side.output, ?_, hb⟩⟩
  by_cases hz : w.heap.size = 0
  · omega
  · have := hs (w.heap.size - 1) (by omega); omega
theorem wf_i64 {n : Int} (h : (Lit.int .i64 n).wf = true) : -9223372036854775808 ≤ n ∧ n ≤ 9223372036854775807 := by
  simp only [Lit.wf] at h
  have h2 := h
  simp [IntKind.min, IntKind.max, IntKind.bits, IntKind.signed] at h2
  omega
end
end Go.Ax.Top
end
