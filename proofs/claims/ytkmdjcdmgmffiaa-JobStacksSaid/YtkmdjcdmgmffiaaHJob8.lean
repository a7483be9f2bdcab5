/- Configs with one hint. -/
import Derived.Test.YtkmdjcdmgmffiaaHJob7
import Derived.Test.YtkmdjcdmgmffiaaPx1
set_option linter.unusedVariables false
set_option linter.unusedSimpArgs false
namespace Go.Proofs.Ytkmdjcdmgmffiaa.M
open Go Go.RowKit Go.ChangeMaps Go.Proofs.YtkmdjcdmgmffiaaW.PrintWords Go.Proofs.YtkmdjcdmgmffiaaW.PrintLast Go.Proofs.YtkmdjcdmgmffiaaW.PrintMore Go.Proofs.Ytkmdjcdmgmffiaa.P

theorem may_r : name_May.f 40 ⟨#[1, 114, 0]⟩ = some true := by kernel_rfl
theorem fold_r : rel_Fold.f 40 ⟨#[1, 114, 0]⟩ = some ⟨#[1, 114, 0]⟩ := by kernel_rfl
theorem task_A : task_New.f 40 ⟨#[1, 65, 0]⟩ 15 ⟨#[0]⟩ = some (⟨#[1, 97, 0]⟩, 15, ⟨#[0]⟩, ⟨#[0]⟩, 0, false, 0, 0, 0) := by kernel_rfl
theorem task_z : task_New.f 40 ⟨#[1, 122, 0]⟩ 15 ⟨#[0]⟩ = some (⟨#[1, 122, 0]⟩, 15, ⟨#[0]⟩, ⟨#[0]⟩, 0, false, 0, 0, 0) := by kernel_rfl

/-- One hint in memory: its cells, also in whatever comes behind. -/
theorem hint_cells {W0 : World} {base : Nat} {ok : Nat → Prop} {v0 : Value} {h : ByteArray} {a : Int} (R43 : Kd.R k43 43 W0 base ok v0 [⟨h, a⟩]) : ∃ q c, v0 = .slice (some ⟨q, 0, none⟩) 1 c ∧ ∀ W, Below W0.heap.size W0 W → W.cell? ⟨q, 0, none⟩ = some (.string h) ∧ W.cell? ⟨q, 1, none⟩ = some (.int .i64 a) := by
  obtain ⟨q, c, rfl, _⟩ := Kd.R_form R43 (by simp)
  refine ⟨q, c, rfl, fun W hb => ?_⟩
  have R : Kd.R k43 43 W base ok (.slice (some ⟨q, 0, none⟩) 1 c) [⟨h, a⟩] := Kd.R_below R43 hb
  obtain ⟨cs, hl, hM, hc, hf⟩ := Kd.R_elem R ⟨⟨#[]⟩, 0⟩ (0 : Int) (by omega) (by simp)
  obtain rfl := k43_openM hM
  exact ⟨hc 0 _ rfl, hc 1 _ rfl⟩
theorem may_one {W0 : World} {base : Nat} {ok : Nat → Prop} {v0 v10 : Value} {l10 : List Int} (h : ByteArray) (a : Int) (R43 : Kd.R k43 43 W0 base ok v0 [⟨h, a⟩]) (R10 : Kd.R (Kd.int .i64) 3 W0 base ok v10 l10) (x1 x2 x3 x4 x5 x6 x7 x8 x9 : Int) (b1 b2 b3 b4 b5 b6 b7 b8 b9 b10 : Bool) (h10 : decide (l10.length ≤ 1024) = b10)
    (h1 : job_in.f x1 1 256 = some b1) (h2 : job_in.f x2 1 16 = some b2) (h3 : job_in.f x3 1 64 = some b3) (h4 : job_in.f x4 0 4 = some b4) (h5 : job_in.f x5 0 8 = some b5) (h6 : job_in.f x6 1 1000 = some b6) (h7 : job_in.f x7 1 8 = some b7) (h8 : job_in.f x8 0 16 = some b8) (h9 : job_in.f x9 0 16 = some b9) (bm ba : Bool) (hm : name_May.f 40 h = some bm) (ha : cuts_addr.f a = some ba) (xf : ByteArray) (hf : rel_Fold.f 40 h = some xf) : ∃ A c A10 c10, v0 = .slice A 1 c ∧ v10 = .slice A10 l10.length c10 ∧ ∀ W, Below W0.heap.size W0 W → Calls Try.prog 22 #[cfg (.slice A 1 c) x1 x2 x3 x4 x5 x6 x7 x8 x9 (.slice A10 l10.length c10)] W fun e w' => e = .returned (.bool ((bm && ba) && b1 && b2 && b3 && b4 && b5 && b6 && b7 && b8 && b9 && b10)) ∧ Below W.heap.size W w' := by
  obtain ⟨q, c, rfl, hc⟩ := hint_cells R43
  obtain ⟨A10, c10, e10⟩ := Kd.R_slice R10
  refine ⟨_, _, _, _, rfl, e10, fun W hb => ?_⟩
  have hcut : ∀ o, Calls Try.prog 28 #[.slice (some ⟨q, 0, none⟩) 1 c] (W.alloc o) fun e w' => (∃ u, e = .returned (.tuple #[.pointer u, .int .i64 (if bm && ba then 0 else 1500)])) ∧ Below (W.alloc o).heap.size (W.alloc o) w' := by
    intro o
    obtain ⟨c0, c1⟩ := hc (W.alloc o) (below_then hb hb.size (below_alloc (Below.refl _ _) o))
    cases bm
    · exact (cuts_bad1 _ q c h a c0 c1 40 hm).mono (fun e w' hw => ⟨⟨_, hw.1⟩, hw.2⟩)
    · cases ba
      · exact (cuts_bad2 _ q c h a c0 c1 40 hm ha).mono (fun e w' hw => ⟨⟨_, hw.1⟩, hw.2⟩)
      · refine (cuts_good _ q c h a c0 c1 40 hm ha 40 xf hf).mono (fun e w' hw => ⟨?_, hw.2⟩)
        obtain ⟨g, hg⟩ := hw.1
        exact ⟨_, hg⟩
  exact May_calls W _ 1 c A10 l10.length c10 x1 x2 x3 x4 x5 x6 x7 x8 x9 _ (bm && ba) b1 b2 b3 b4 b5 b6 b7 b8 b9 b10 hcut (by cases bm <;> cases ba <;> rfl) h10 h1 h2 h3 h4 h5 h6 h7 h8 h9
/-- A config without a hint, or with many. -/
theorem may_none (W0 : World) (A A10 : Option Addr) (k c k10 c10 : Nat) (hk : k < 1 ∨ 8 < k) (x1 x2 x3 x4 x5 x6 x7 x8 x9 : Int) (W : World) : Calls Try.prog 22 #[cfg (.slice A k c) x1 x2 x3 x4 x5 x6 x7 x8 x9 (.slice A10 k10 c10)] W fun e w' => e = .returned (.bool false) ∧ Below W.heap.size W w' := by
  refine (May_calls W A k c A10 k10 c10 x1 x2 x3 x4 x5 x6 x7 x8 x9 1500 false _ _ _ _ _ _ _ _ _ _ (fun o => (cuts_none _ A k c hk).mono (fun e w' hw => ⟨⟨_, hw.1⟩, hw.2⟩)) rfl rfl (in_eq _ _ _ _ rfl) (in_eq _ _ _ _ rfl) (in_eq _ _ _ _ rfl) (in_eq _ _ _ _ rfl) (in_eq _ _ _ _ rfl) (in_eq _ _ _ _ rfl) (in_eq _ _ _ _ rfl) (in_eq _ _ _ _ rfl) (in_eq _ _ _ _ rfl)).mono (fun e w' hw => ⟨?_, hw.2⟩)
  simpa using hw.1
end Go.Proofs.Ytkmdjcdmgmffiaa.M
