/- A table in memory; one that is let go. -/
import Derived.Test.YtojjkgnkdcekpaaHTab2
set_option linter.unusedVariables false
set_option linter.unusedSimpArgs false
namespace Go.Proofs.Ytojjkgnkdcekpaa.M
open Go Go.RowKit Go.ChangeMaps Go.Proofs.YtojjkgnkdcekpaaW.PrintWords Go.Proofs.YtojjkgnkdcekpaaW.PrintLast Go.Proofs.YtojjkgnkdcekpaaW.PrintMore Go.Proofs.Ytojjkgnkdcekpaa.P

def c35 (x : S35) : List Value := [.int .i64 x.f0, .int .i64 x.f1, .int .i64 x.f2, .string x.f3, .string x.f4, .string x.f5.f0, .int .i64 x.f5.f1, .int .i64 x.f6]
def v35 (x : S35) : Value := .agg #[.int .i64 x.f0, .int .i64 x.f1, .int .i64 x.f2, .string x.f3, .string x.f4, .string x.f5.f0, .int .i64 x.f5.f1, .int .i64 x.f6]
theorem below_lower {b B : Nat} {w w' : World} (h : Below B w w') (hb : b ≤ B) : Below b w w' := ⟨h.os, h.tape, h.output, h.size, fun k hk => h.block k (Nat.lt_of_lt_of_le hk hb)⟩
theorem k35_E : k35.E = [] := rfl
theorem ne61 : ∀ q, q ∈ 35 :: k35.E → q ≠ 61 := by
  intro q hq
  rw [k35_E] at hq
  simp at hq
  omega
/-- A table: S: the blocks that may be written (fresh ones too); f: what its map counts. -/
structure TabAt (w : World) (base : Nat) (S : Nat → Prop) (g : Nat) (most : Int) (xs : List S35) (n : Nat) (f : K66 → Int) (v : Value) (m : Nat) : Prop where
  blk : w.heap[g]? = some (.cells #[.int .i64 most, v, .map (some m)] 61 (0, 0))
  lo : base ≤ g
  mlo : base ≤ m
  row : Kd.R k35 35 w base S v xs
  many : ManyAt w m n f
  sg : S g
  sm : S m
theorem wf_small (c : Int) (h : -9223372036854775808 ≤ c ∧ c ≤ 9223372036854775807) : (Lit.int .i64 c).wf = true := by
  have h1 := h.1
  have h2 := h.2
  simp [Lit.wf, IntKind.min, IntKind.max, IntKind.bits, IntKind.signed, h1, h2]
section
variable {w w' : World} {base b : Nat} {S S' : Nat → Prop} {g : Nat} {most : Int} {xs : List S35} {n : Nat} {f f' : K66 → Int} {v : Value} {m : Nat}
theorem TabAt.below (h : TabAt w base S g most xs n f v m) (hb : Below w.heap.size w w') : TabAt w' base S g most xs n f v m :=
  ⟨blk_below h.blk hb, h.lo, h.mlo, Kd.R_below h.row hb, Many_below h.many hb, h.sg, h.sm⟩
theorem TabAt.lower (h : TabAt w base S g most xs n f v m) (hb : b ≤ base) : TabAt w b S g most xs n f v m :=
  ⟨h.blk, Nat.le_trans hb h.lo, Nat.le_trans hb h.mlo, Kd.R_lower h.row hb, h.many, h.sg, h.sm⟩
theorem TabAt.mono (h : TabAt w base S g most xs n f v m) (hs : ∀ k, S k → S' k) : TabAt w base S' g most xs n f v m := ⟨h.blk, h.lo, h.mlo, Kd.R_mono h.row hs, h.many, hs _ h.sg, hs _ h.sm⟩
theorem TabAt.bound (h : TabAt w base S g most xs n f v m) : TabAt w base (fun k => S k ∧ k < w.heap.size) g most xs n f v m :=
  ⟨h.blk, h.lo, h.mlo, Kd.R_mono (Kd.R_bound h.row) (fun k hk => ⟨hk.1, hk.2.2.1⟩), h.many, ⟨h.sg, blk_lt h.blk⟩, ⟨h.sm, Many_lt h.many⟩⟩
theorem TabAt.congr (h : TabAt w base S g most xs n f v m) (hf : ∀ x, x.Good → f x = f' x) : TabAt w base S g most xs n f' v m := ⟨h.blk, h.lo, h.mlo, h.row, Many_congr h.many hf, h.sg, h.sm⟩
theorem TabAt.mg (h : TabAt w base S g most xs n f v m) : m ≠ g := by
  obtain ⟨es, clock, he⟩ := Many_map h.many
  rintro rfl
  rw [h.blk] at he
  cases he
theorem TabAt.mv (h : TabAt w base S g most xs n f v m) : some m ≠ v.ownBlock := by
  obtain ⟨es, clock, he⟩ := Many_map h.many
  intro e
  obtain ⟨cells, hc⟩ := Kd.R_typed h.row m e.symm
  rw [he] at hc
  cases hc
theorem TabAt.gv (h : TabAt w base S g most xs n f v m) : some g ≠ v.ownBlock := Kd.R_ne h.row h.blk (by decide)
theorem TabAt.size (h : TabAt w base S g most xs n f v m) : base ≤ w.heap.size := Nat.le_trans h.lo (Nat.le_of_lt (blk_lt h.blk))
/-- The map has turned. -/
theorem TabAt.turned (h : TabAt w base S g most xs n f v m) {n' : Nat} (hm : ManyAt w' m n' f') (hg : w.grownBy w' (some m)) : TabAt w' base S g most xs n' f' v m :=
  ⟨blk_grown h.blk hg (fun e => h.mg (by injection e with e; exact e.symm)), h.lo, h.mlo, Kd.R_mono (Kd.R_grown (Kd.R_tight k35_E h.row) hg (fun k hk e => h.mv (by rw [← e]; exact hk))) (fun k hk => h.row.1 k hk.symm), hm, h.sg, h.sm⟩
/-- The row is another one. -/
theorem TabAt.setAll {v' : Value} {xs' : List S35} (h : TabAt w base S g most xs n f v m) (hr : Kd.R k35 35 w base S v' xs') : TabAt (w.setCell ⟨g, 1, none⟩ v') base S g most xs' n f v' m :=
  ⟨blk_put h.blk 1 _ rfl, h.lo, h.mlo, Kd.R_set hr h.blk ne61 1 _, Many_set h.many h.mg _, h.sg, h.sm⟩
set_option maxHeartbeats 4000000 in
set_option maxRecDepth 100000 in
theorem gone_calls (h : TabAt w base S g most xs n f v m) (hn : n ≤ 1000000) (hS : ∀ k, w.heap.size ≤ k → S k) (b : Nat) (x : S35) (hx : (keyA x).Good) (hf : -1000000 ≤ f (keyA x) ∧ f (keyA x) ≤ 1000000) (d1 : w.cell? ⟨b, 1, none⟩ = some (.int .i64 x.f1)) (d2 : w.cell? ⟨b, 2, none⟩ = some (.int .i64 x.f2)) (d5 : w.cell? ⟨b, 5, none⟩ = some (.string x.f5.f0)) (d6 : w.cell? ⟨b, 6, none⟩ = some (.int .i64 x.f5.f1)) :
    Calls Try.prog 31 #[.pointer (some ⟨g, 0, none⟩), .pointer (some ⟨b, 0, none⟩)] w fun e w' => e = .returned (.tuple #[]) ∧ TabAt w' base S g most xs (n + 1) (upd f (keyA x) (f (keyA x) - 1)) v m ∧ Below base w w' ∧ Kept w w' S := by
  have H := Aside0.mk h
  have HX := Aside0.mk hx
  have HF := Aside0.mk hf
  clear h hx hf
  go_enter Try.func31, Try.ntmps31
  go_wp2_with fail
  refine (keyOf_calls w b x d1 d2 d5 d6).mono ?_
  rintro e w1 ⟨rfl, hb⟩
  have H1 := Aside0.mk (H.out.below hb)
  have K1 := Aside0.mk (Kept.of_below hb S)
  have B1 := Aside0.mk (below_lower hb H.out.size)
  have S1 : Aside0 (∀ k, w1.heap.size ≤ k → S k) := ⟨fun k hk => hS k (Nat.le_trans hb.size hk)⟩
  clear hb H d1 d2 d5 d6 hS
  obtain ⟨k, hk⟩ : ∃ k, keyA x = k := ⟨_, rfl⟩
  rw [hk] at HX HF ⊢
  unfold kv
  simp only
  go_wp2_with fail
  generalize hW : w1.alloc _ = W
  have HW : Aside0 (TabAt W base S g most xs n f v m) := ⟨by rw [← hW]; exact H1.out.below (below_alloc (Below.refl _ _) _)⟩
  have KW : Aside0 (Kept w W S) := ⟨by rw [← hW]; exact K1.out.alloc _⟩
  have BW : Aside0 (Below base w W) := ⟨by rw [← hW]; exact B1.out.alloc H1.out.size _⟩
  have KB : Aside0 (W.heap[w1.heap.size]? = some (.cells #[.int .i64 k.a, .int .i64 k.i, .string k.s, .int .i64 k.t] 66 (0, 0))) := ⟨by rw [← hW]; exact blk_new w1 _⟩
  have MN : Aside0 (m ≠ w1.heap.size) := ⟨Nat.ne_of_lt (Many_lt H1.out.many)⟩
  clear hW H1 K1 B1
  have c2 : W.drew.cell? ⟨g, 2, none⟩ = some (.map (some m)) := (blk_cell HW.out.blk 2).trans rfl
  have k0 : W.drew.cell? ⟨w1.heap.size, 0, none⟩ = some (.int .i64 k.a) := (blk_cell KB.out 0).trans rfl
  have k1 : W.drew.cell? ⟨w1.heap.size, 1, none⟩ = some (.int .i64 k.i) := (blk_cell KB.out 1).trans rfl
  have k2 : W.drew.cell? ⟨w1.heap.size, 2, none⟩ = some (.string k.s) := (blk_cell KB.out 2).trans rfl
  have k3 : W.drew.cell? ⟨w1.heap.size, 3, none⟩ = some (.int .i64 k.t) := (blk_cell KB.out 3).trans rfl
  have HWd := HW.out.below (below_drew (Below.refl _ _))
  have hlk := Many_look HWd.many k HX.out
  obtain ⟨v0, st, w2, hent, hm2, hg2, hst⟩ := Many_entry HWd.many k HX.out hn
  have hcw : wrap64 (f k - 1) = f k - 1 := IntWalk.wrap64_in _ (by have := HF.out; omega)
  have hcw2 : IntKind.i64.wrap (f k - 1) = f k - 1 := IntWalk.i64_in _ (by have := HF.out; omega)
  have hcf : (Lit.int .i64 (f k - 1)).wf = true := wf_small _ (by have := HF.out; omega)
  obtain ⟨w3, hsto, hm3, hg3⟩ := hst (f k - 1) hcf
  have hlk2 := Many_look hm2 k HX.out
  have hlk3 := Many_look hm3 k HX.out
  have H3 := Aside0.mk (HWd.turned hm3 hg3)
  have H2b := blk_grown HWd.blk hg2 (fun e => HWd.mg (by injection e with e; exact e.symm))
  have KB2 := blk_grown (w := W.drew) KB.out hg2 (fun e => MN.out (by injection e with e; exact e.symm))
  have KB3 := blk_grown (w := W.drew) KB.out hg3 (fun e => MN.out (by injection e with e; exact e.symm))
  have a2 : w2.cell? ⟨g, 2, none⟩ = some (.map (some m)) := (blk_cell H2b 2).trans rfl
  have a10 : w2.cell? ⟨w1.heap.size, 0, none⟩ = some (.int .i64 k.a) := (blk_cell KB2 0).trans rfl
  have a11 : w2.cell? ⟨w1.heap.size, 1, none⟩ = some (.int .i64 k.i) := (blk_cell KB2 1).trans rfl
  have a12 : w2.cell? ⟨w1.heap.size, 2, none⟩ = some (.string k.s) := (blk_cell KB2 2).trans rfl
  have a13 : w2.cell? ⟨w1.heap.size, 3, none⟩ = some (.int .i64 k.t) := (blk_cell KB2 3).trans rfl
  have HY : Aside0 (∀ o, TabAt (w3.drewN o) base S g most xs (n + 1) (upd f (keyA x) (f (keyA x) - 1)) v m) := ⟨fun o => by rw [hk]; exact H3.out.below (pw_below_drewN (Below.refl _ _) _)⟩
  have B3 : Aside0 (∀ o, Below base w (w3.drewN o)) := ⟨fun o => ((below_drew1 BW.out).grown hg3 HW.out.size (fun j hj => by cases hj; exact HW.out.mlo)).trans (below_lower (pw_below_drewN (Below.refl _ _) o) H3.out.size)⟩
  have b2 : ∀ o, (w3.drewN o).cell? ⟨g, 2, none⟩ = some (.map (some m)) := fun _ => (blk_cell H3.out.blk 2).trans rfl
  have b10 : ∀ o, (w3.drewN o).cell? ⟨w1.heap.size, 0, none⟩ = some (.int .i64 k.a) := fun _ => (blk_cell KB3 0).trans rfl
  have b11 : ∀ o, (w3.drewN o).cell? ⟨w1.heap.size, 1, none⟩ = some (.int .i64 k.i) := fun _ => (blk_cell KB3 1).trans rfl
  have b12 : ∀ o, (w3.drewN o).cell? ⟨w1.heap.size, 2, none⟩ = some (.string k.s) := fun _ => (blk_cell KB3 2).trans rfl
  have b13 : ∀ o, (w3.drewN o).cell? ⟨w1.heap.size, 3, none⟩ = some (.int .i64 k.t) := fun _ => (blk_cell KB3 3).trans rfl
  have z2 : w3.cell? ⟨g, 2, none⟩ = some (.map (some m)) := b2 0
  have z10 : w3.cell? ⟨w1.heap.size, 0, none⟩ = some (.int .i64 k.a) := b10 0
  have z11 : w3.cell? ⟨w1.heap.size, 1, none⟩ = some (.int .i64 k.i) := b11 0
  have z12 : w3.cell? ⟨w1.heap.size, 2, none⟩ = some (.string k.s) := b12 0
  have z13 : w3.cell? ⟨w1.heap.size, 3, none⟩ = some (.int .i64 k.t) := b13 0
  have K3 : Aside0 (Kept w w3 S) := ⟨Kept.of_grown hg3 KW.out.drew (fun j hj => by cases hj; exact Or.inl HW.out.sm)⟩
  have hlkq : ∀ o, (Instr.lookup 59 (.map (some m)) (kv k) false).run Try.prog (w3.drewN o) = .ok (.int .i64 (f k - 1)) (w3.drewN o) := fun o => by
    have := Many_look (w := w3.drewN o) (Many_below hm3 (pw_below_drewN (Below.refl _ _) o)) k HX.out
    rwa [upd_same] at this
  rw [upd_same] at hlk3
  have hdel : ∀ o ty, ∃ w4, (Builtin.delete_ #[59, 66] ty #[.map (some m), kv k]).run Try.prog (w3.drewN o).drew = .ok (.tuple #[]) w4 ∧ ManyAt w4 m (n + 1) (upd (upd f k (f k - 1)) k 0) ∧ (w3.drewN o).drew.grownBy w4 (some m) := fun o ty => Many_drop (Many_below hm3 (below_drew (pw_below_drewN (Below.refl _ _) o))) k HX.out ty
  have HD := Aside0.mk hdel
  obtain ⟨c, hc⟩ : ∃ c, f k = c := ⟨_, rfl⟩
  rw [hc] at hlk hsto hlkq hlk3 hcw hcw2 HD HF
  unfold kv at hlk hent hlk2 hlk3 hlkq
  clear hcf hst HWd hm2 hg2 hm3 hg3 H2b KB2 KB3 hdel
  go_region_held3 (fun w' => w'.cell? ⟨g, 2, none⟩ = some (.map (some m)) ∧ w'.cell? ⟨w1.heap.size, 0, none⟩ = some (.int .i64 k.a) ∧ w'.cell? ⟨w1.heap.size, 1, none⟩ = some (.int .i64 k.i) ∧ w'.cell? ⟨w1.heap.size, 2, none⟩ = some (.string k.s) ∧ w'.cell? ⟨w1.heap.size, 3, none⟩ = some (.int .i64 k.t))
    (first | ((try dsimp only); (repeat' apply And.intro) <;> with_reducible assumption))
    (fail)
  all_goals
    (try simp only [Exit.then])
    clear c2 k0 k1 k2 k3 a2 a10 a11 a12 a13 z2 z10 z11 z12 z13 hlk hent hlk2 hlk3 hsto
    by_cases hz : c - 1 = 0
    · have hz1 : decide (c - 1 = 0) = true := decide_eq_true hz
      have hz2 : (c - 1 == 0) = true := beq_iff_eq.2 hz
      go_wp2_with fail
      go_quiet (fail)
      (try simp only [Exit.then])
      obtain ⟨w5, hdel, hm5, hg5⟩ := HD.out nq 0
      have HZ : Aside0 (TabAt w5 base S g most xs (n + 1) (upd f (keyA x) (f (keyA x) - 1)) v m) := ⟨((HY.out nq).below (below_drew (Below.refl _ _))).turned (Many_congr hm5 (fun y hy => by
        rw [hk, hc, hz]
        by_cases e : y = k
        · subst e; rw [upd_same, upd_same]
        · rw [upd_other _ e, upd_other _ e])) hg5⟩
      have B5 : Aside0 (Below base w w5) := ⟨((B3.out nq).trans (below_lower (below_drew (Below.refl _ _)) (HY.out nq).size)).grown hg5 (HY.out nq).size (fun j hj => by cases hj; exact (HY.out nq).mlo)⟩
      have K5 : Aside0 (Kept w w5 S) := ⟨Kept.of_grown hg5 ((K3.out.drewN nq).drew) (fun j hj => by cases hj; exact Or.inl (HY.out nq).sm)⟩
      have hdel2 : (Builtin.delete_ #[59, 66] 0 #[.map (some m), kv k]).run Try.prog (w3.drewN (nq + 1)) = .ok (.tuple #[]) w5 := hdel
      unfold kv at hdel2
      clear hdel hlkq HD hm5 hg5
      go_wp2_with fail
      go_big_region
      (try simp only [Exit.then])
      go_wp2_with fail
      go_end0
      exact ⟨rfl, HZ.out, B5.out, K5.out⟩
    · have hz1 : decide (c - 1 = 0) = false := decide_eq_false hz
      have hz2 : (c - 1 == 0) = false := beq_eq_false_iff_ne.2 hz
      go_wp2_with fail
      go_quiet (fail)
      (try simp only [Exit.then])
      go_wp2_with fail
      go_end0
      exact ⟨rfl, HY.out _, B3.out _, K3.out.drewN _⟩
end
end Go.Proofs.Ytojjkgnkdcekpaa.M
