/- A table's methods: New, Add. -/
import Derived.Test.YtojjkgnkdcekpaaHTab3
import Derived.Test.YtojjkgnkdcekpaaPx2
set_option linter.unusedVariables false
set_option linter.unusedSimpArgs false
namespace Go.Proofs.Ytojjkgnkdcekpaa.M
open Go Go.RowKit Go.ChangeMaps Go.Proofs.YtojjkgnkdcekpaaW.PrintWords Go.Proofs.YtojjkgnkdcekpaaW.PrintLast Go.Proofs.YtojjkgnkdcekpaaW.PrintMore Go.Proofs.Ytojjkgnkdcekpaa.P

/-- append as a step of a region that draws its order. -/
theorem step_R_append {P : Program} {ops : Array Oper} {o : Oper} {a : Act} {Q : Exit → Act → World → Prop} {Kc : Act → World → Prop} {E : Prop} {α : Type} (d : Kd α) {w0 W : World} (base : Nat) (hgd : o.guard = none) (s x : Operand) (t e : TypeId) (z : Value) (bytes : Nat)
    (ho : o.op = .call { callee := .builtin .append, args := #[s, x], argTypes := #[t, t] })
    (ht : P.underlying t = some (.slice e)) (hinfo : (P.info? e).map (fun i => (i.zero, i.size, i.bytes)) = some (some z, d.sz, bytes)) (hz : z.cells.size = d.sz) (hs0 : 0 < d.sz) (hb0 : 0 < bytes)
    (v : Value) (xs : List α) (p : α) (cs : List Value) (ok okp : Nat → Prop) (hs : a.eval s = v) (hx : a.eval x = .slice (some ⟨W.heap.size, 0, none⟩) 1 1) (hp : d.M W base okp p cs) (hokp : ∀ k, okp k → ok k ∧ some k ≠ v.ownBlock) (hfresh : ∀ k, W.heap.size ≤ k → ok k)
    (HO : d.R e W base ok v xs) (HB : Below base w0 W) (hbase : base ≤ W.heap.size) (hl : (xs.length + 1) * bytes ≤ 140737488355328)
    (h : ∀ v1 w1, d.R e w1 base ok v1 (xs ++ [p]) → Below base w0 w1 → W.grownBy w1 v.ownBlock → (v1.ownBlock = v.ownBlock ∨ ∃ b, v1.ownBlock = some b ∧ W.heap.size ≤ b) → Kc (a.put o.dst v1) w1) :
    if Region.wanted o (yielded ops a.tmps) = true then Oper.wp P o a (W.alloc (.cells cs.toArray e)) Kc Q else E := by
  have hw : Region.wanted o (yielded ops a.tmps) = true := by simp [Region.wanted, hgd]
  have := Kd.R_append_step (ops := ops) (Q := Q) d base hw s x t e z bytes ho ht hinfo hz hs0 hb0 v xs p cs ok okp hs hx hp hokp hfresh HO HB hbase hl h
  rw [if_pos hw] at this ⊢
  exact this

theorem step_R_append_drew {P : Program} {ops : Array Oper} {o : Oper} {a : Act} {Q : Exit → Act → World → Prop} {Kc : Act → World → Prop} {E : Prop} {α : Type} (d : Kd α) {W : World} (base : Nat) (hgd : o.guard = none) (s x : Operand) (t e : TypeId) (z : Value) (bytes : Nat)
    (ho : o.op = .call { callee := .builtin .append, args := #[s, x], argTypes := #[t, t] })
    (ht : P.underlying t = some (.slice e)) (hinfo : (P.info? e).map (fun i => (i.zero, i.size, i.bytes)) = some (some z, d.sz, bytes)) (hz : z.cells.size = d.sz) (hs0 : 0 < d.sz) (hb0 : 0 < bytes)
    (v : Value) (xs : List α) (p : α) (cs : List Value) (ok okp : Nat → Prop) (hs : a.eval s = v) (hx : a.eval x = .slice (some ⟨W.heap.size, 0, none⟩) 1 1) (hp : d.M W.drew base okp p cs) (hokp : ∀ k, okp k → ok k ∧ some k ≠ v.ownBlock) (hfresh : ∀ k, W.heap.size ≤ k → ok k)
    (HO : d.R e W base ok v xs) (hbase : base ≤ W.heap.size) (hl : (xs.length + 1) * bytes ≤ 140737488355328)
    (h : ∀ v1 w1, d.R e w1 base ok v1 (xs ++ [p]) → Below base W w1 → W.grownBy w1 v.ownBlock → (v1.ownBlock = v.ownBlock ∨ ∃ b, v1.ownBlock = some b ∧ W.heap.size ≤ b) → Kc (a.put o.dst v1) w1) :
    if Region.wanted o (yielded ops a.tmps) = true then Oper.wp P o a (W.alloc (.cells cs.toArray e)).drew Kc Q else E := by
  have hb : Below base W W.drew := below_lower (below_drew (Below.refl _ _)) hbase
  exact step_R_append (W := W.drew) (w0 := W) (ops := ops) (Q := Q) (E := E) d base hgd s x t e z bytes ho ht hinfo hz hs0 hb0 v xs p cs ok okp hs hx hp hokp hfresh (Kd.R_drew HO) hb hbase hl (fun v1 w1 h1 h2 h3 h4 => h v1 w1 h1 h2 ((grown_of_below (below_drew (Below.refl _ _)) v.ownBlock).trans h3) h4)

theorem info35 : (Try.prog.info? 35).map (fun i => (i.zero, i.size, i.bytes)) = some (some (.agg #[.int .i64 0, .int .i64 0, .int .i64 0, .string ⟨#[]⟩, .string ⟨#[]⟩, .string ⟨#[]⟩, .int .i64 0, .int .i64 0]), 8, 88) := by kernel_rfl
def mayS (h : ByteArray) : Bool := (nm (B h)).isSome
theorem may_calls (a : ByteArray) (w : World) : Calls Try.prog 23 #[.string a] w fun e w' => e = .returned (.bool (mayS a)) ∧ Below w.heap.size w w' := by
  obtain ⟨k, hk⟩ := Ev.rounds (May_ev a)
  exact name_May.calls k a _ w hk
def OkA (x : S35) : Prop := ¬ x.f1 < 0 ∧ ¬ x.f1 > 65535 ∧ ¬ x.f2 < 0 ∧ ¬ x.f2 > 4294967295 ∧ mayS x.f5.f0 = true ∧ ¬ x.f5.f1 < 1 ∧ ¬ x.f5.f1 > 65535
section
variable {w w' : World} {base b : Nat} {S S' : Nat → Prop} {g : Nat} {most : Int} {xs : List S35} {n : Nat} {f f' : K66 → Int} {v : Value} {m : Nat}
set_option maxHeartbeats 4000000 in
set_option maxRecDepth 100000 in
theorem New_bad (w : World) (most : Int) (h : most < 1 ∨ most > 16) : Calls Try.prog 8 #[.int .i64 most] w fun e w' => e = .returned (.tuple #[.pointer none, .int .i64 1900]) ∧ Below w.heap.size w w' := by
  go_enter Try.func8, Try.ntmps8
  by_cases h1 : most < 1
  · have e1 : decide (most < 1) = true := decide_eq_true h1
    go_wp2_with fail
    go_ret2
    exact ⟨rfl, Below.refl _ _⟩
  · have e1 : decide (most < 1) = false := decide_eq_false h1
    have h2 : most > 16 := by omega
    have e2 : decide (most > 16) = true := decide_eq_true h2
    have e3 : decide (16 < most) = true := decide_eq_true h2
    go_wp2_with fail
    go_ret2
    exact ⟨rfl, Below.refl _ _⟩
set_option maxHeartbeats 4000000 in
set_option maxRecDepth 100000 in
theorem New_good (w : World) (most : Int) (h : 1 ≤ most ∧ most ≤ 16) (S : Nat → Prop) (hS : ∀ k, w.heap.size ≤ k → S k) : Calls Try.prog 8 #[.int .i64 most] w fun e w' => (∃ g m, e = .returned (.tuple #[.pointer (some ⟨g, 0, none⟩), .int .i64 0]) ∧ TabAt w' w.heap.size S g most [] 0 (fun _ => 0) (.slice none 0 0) m) ∧ Below w.heap.size w w' := by
  have hmm := @run_makeMap Try.prog
  have e1 : decide (most < 1) = false := decide_eq_false (by omega)
  have e2 : decide (most > 16) = false := decide_eq_false (by omega)
  have e3 : decide (16 < most) = false := decide_eq_false (by omega)
  go_enter Try.func8, Try.ntmps8
  go_wp2_with fail
  go_ret2
  have hs := size_alloc' w (.map #[] 0)
  refine ⟨⟨w.heap.size + 1, w.heap.size, rfl, ?_, by omega, Nat.le_refl _, Kd.R_nil _ _ _ _ _, Many_below (Many_made w) (below_alloc (Below.refl _ _) _), hS _ (by omega), hS _ (Nat.le_refl _)⟩, below_alloc (below_alloc (Below.refl _ _) _) _⟩
  rw [← hs]
  exact blk_new _ _
set_option maxHeartbeats 4000000 in
set_option maxRecDepth 100000 in
theorem Add_bad (w : World) (g : Nat) (x : S35) (hbad : ¬ OkA x) : Calls Try.prog 12 #[.pointer (some ⟨g, 0, none⟩), v35 x] w fun e w' => e = .returned (.int .i64 1900) ∧ Below w.heap.size w w' := by
  unfold v35
  have HM := Aside0.mk (may_calls x.f5.f0)
  go_enter Try.func12, Try.ntmps12
  by_cases h0 : x.f1 < 0
  · have e0 : decide (x.f1 < 0) = true := decide_eq_true h0
    go_wp2_with fail
    go_ret
    exact ⟨rfl, below_alloc (Below.refl _ _) _⟩
  have e0 : decide (x.f1 < 0) = false := decide_eq_false h0
  by_cases h1 : x.f1 > 65535
  · have e1 : decide (x.f1 > 65535) = true := decide_eq_true h1
    have e1' : decide (65535 < x.f1) = true := decide_eq_true h1
    go_wp2_with fail
    go_ret
    exact ⟨rfl, below_alloc (Below.refl _ _) _⟩
  have e1 : decide (x.f1 > 65535) = false := decide_eq_false h1
  have e1' : decide (65535 < x.f1) = false := decide_eq_false h1
  by_cases h2 : x.f2 < 0
  · have e2 : decide (x.f2 < 0) = true := decide_eq_true h2
    go_wp2_with fail
    go_ret
    exact ⟨rfl, below_alloc (Below.refl _ _) _⟩
  have e2 : decide (x.f2 < 0) = false := decide_eq_false h2
  by_cases h3 : x.f2 > 4294967295
  · have e3 : decide (x.f2 > 4294967295) = true := decide_eq_true h3
    have e3' : decide (4294967295 < x.f2) = true := decide_eq_true h3
    go_wp2_with fail
    go_ret
    exact ⟨rfl, below_alloc (Below.refl _ _) _⟩
  have e3 : decide (x.f2 > 4294967295) = false := decide_eq_false h3
  have e3' : decide (4294967295 < x.f2) = false := decide_eq_false h3
  cases h4 : mayS x.f5.f0
  · rw [h4] at HM
    go_wp2_with fail
    refine (HM.out _).mono ?_
    rintro e w1 ⟨rfl, hb⟩
    have B1 := Aside0.mk (below_then (below_alloc (Below.refl w.heap.size w) _) (below_alloc (Below.refl w.heap.size w) _).size hb)
    clear hb
    simp only
    go_wp2_with fail
    go_ret
    exact ⟨rfl, B1.out⟩
  rw [h4] at HM
  by_cases h5 : x.f5.f1 < 1
  · have e5 : decide (x.f5.f1 < 1) = true := decide_eq_true h5
    go_wp2_with fail
    refine (HM.out _).mono ?_
    rintro e w1 ⟨rfl, hb⟩
    have BK := blk_below (blk_new w _) hb
    have c6 : w1.cell? ⟨w.heap.size, 6, none⟩ = some (.int .i64 x.f5.f1) := (blk_cell BK 6).trans rfl
    have B1 := Aside0.mk (below_then (below_alloc (Below.refl w.heap.size w) _) (below_alloc (Below.refl w.heap.size w) _).size hb)
    clear hb BK
    simp only
    go_wp2_with fail
    go_ret
    exact ⟨rfl, B1.out⟩
  have e5 : decide (x.f5.f1 < 1) = false := decide_eq_false h5
  by_cases h6 : x.f5.f1 > 65535
  · have e6 : decide (x.f5.f1 > 65535) = true := decide_eq_true h6
    have e6' : decide (65535 < x.f5.f1) = true := decide_eq_true h6
    go_wp2_with fail
    refine (HM.out _).mono ?_
    rintro e w1 ⟨rfl, hb⟩
    have BK := blk_below (blk_new w _) hb
    have c6 : w1.cell? ⟨w.heap.size, 6, none⟩ = some (.int .i64 x.f5.f1) := (blk_cell BK 6).trans rfl
    have B1 := Aside0.mk (below_then (below_alloc (Below.refl w.heap.size w) _) (below_alloc (Below.refl w.heap.size w) _).size hb)
    clear hb BK
    simp only
    go_wp2_with fail
    go_ret
    exact ⟨rfl, B1.out⟩
  have e6 : decide (x.f5.f1 > 65535) = false := decide_eq_false h6
  have e6' : decide (65535 < x.f5.f1) = false := decide_eq_false h6
  exact absurd ⟨h0, h1, h2, h3, h4, h5, h6⟩ hbad
end
end Go.Proofs.Ytojjkgnkdcekpaa.M
