/- Table.Add of what may be. -/
import Derived.Test.YtojjkgnkdcekpaaHTab4
set_option linter.unusedVariables false
set_option linter.unusedSimpArgs false
namespace Go.Proofs.Ytojjkgnkdcekpaa.M
open Go Go.RowKit Go.ChangeMaps Go.Proofs.YtojjkgnkdcekpaaW.PrintWords Go.Proofs.YtojjkgnkdcekpaaW.PrintLast Go.Proofs.YtojjkgnkdcekpaaW.PrintMore Go.Proofs.Ytojjkgnkdcekpaa.P

section
variable {w w' : World} {base b : Nat} {S S' : Nat → Prop} {g : Nat} {most : Int} {xs : List S35} {n : Nat} {f f' : K66 → Int} {v : Value} {m : Nat}
set_option maxHeartbeats 4000000 in
set_option maxRecDepth 100000 in
theorem Add_full (h : TabAt w base S g most xs n f v m) (x : S35) (hx : OkA x) (hd : most ≤ (xs.length : Int)) : Calls Try.prog 12 #[.pointer (some ⟨g, 0, none⟩), v35 x] w fun e w' => e = .returned (.int .i64 1901) ∧ Below w.heap.size w w' := by
  have g1 : decide ((xs.length : Int) ≥ most) = true := decide_eq_true hd
  have g2 : decide (most ≤ (xs.length : Int)) = true := decide_eq_true hd
  obtain ⟨h0, h1, h2, h3, h4, h5, h6⟩ := hx
  obtain ⟨A, c, rfl, hl, _⟩ := Kd.R_reads h.row
  have H := Aside0.mk h
  have HM := Aside0.mk (may_calls x.f5.f0)
  rw [h4] at HM
  have e0 : decide (x.f1 < 0) = false := decide_eq_false h0
  have e1 : decide (x.f1 > 65535) = false := decide_eq_false h1
  have e1' : decide (65535 < x.f1) = false := decide_eq_false h1
  have e2 : decide (x.f2 < 0) = false := decide_eq_false h2
  have e3 : decide (x.f2 > 4294967295) = false := decide_eq_false h3
  have e3' : decide (4294967295 < x.f2) = false := decide_eq_false h3
  have e5 : decide (x.f5.f1 < 1) = false := decide_eq_false h5
  have e6 : decide (x.f5.f1 > 65535) = false := decide_eq_false h6
  have e6' : decide (65535 < x.f5.f1) = false := decide_eq_false h6
  clear h
  unfold v35
  go_enter Try.func12, Try.ntmps12
  go_wp2_with fail
  refine (HM.out _).mono ?_
  rintro e w1 ⟨rfl, hb⟩
  have BK := Aside0.mk (blk_below (blk_new w _) hb)
  have H1 := Aside0.mk ((H.out.below (below_alloc (Below.refl _ _) _)).below hb)
  have B1 := Aside0.mk (below_then (below_alloc (Below.refl w.heap.size w) _) (below_alloc (Below.refl w.heap.size w) _).size hb)
  have c6 : w1.cell? ⟨w.heap.size, 6, none⟩ = some (.int .i64 x.f5.f1) := (blk_cell BK.out 6).trans rfl
  have q0 : w1.cell? ⟨g, 0, none⟩ = some (.int .i64 most) := (blk_cell H1.out.blk 0).trans rfl
  have q1 : w1.cell? ⟨g, 1, none⟩ = some (.slice A xs.length c) := (blk_cell H1.out.blk 1).trans rfl
  clear hb
  simp only
  go_wp2_with fail
  go_quiet (fail)
  (try simp only [Exit.then])
  go_wp2_with fail
  go_ret
  exact ⟨rfl, pw_below_drewN B1.out _⟩
set_option maxHeartbeats 4000000 in
set_option maxRecDepth 100000 in
theorem Add_good (h : TabAt w base S g most xs n f v m) (x : S35) (hx : OkA x) (hk : (keyA x).Good) (hd : ((xs.length : Nat) : Int) < most) (hd2 : xs.length ≤ 1000000) (hn : n ≤ 1000000) (hf : -1000000 ≤ f (keyA x) ∧ f (keyA x) ≤ 1000000) (hS : ∀ k, w.heap.size ≤ k → S k) : Calls Try.prog 12 #[.pointer (some ⟨g, 0, none⟩), v35 x] w fun e w' => e = .returned (.int .i64 0) ∧ (∃ v', TabAt w' base S g most (xs ++ [x]) (n + 1) (upd f (keyA x) (f (keyA x) + 1)) v' m) ∧ Below base w w' ∧ Kept w w' S := by
  have g1 : decide ((xs.length : Int) ≥ most) = false := decide_eq_false (by omega)
  have g2 : decide (most ≤ (xs.length : Int)) = false := decide_eq_false (by omega)
  have HK := Aside0.mk hk
  have HF := Aside0.mk hf
  have HS := Aside0.mk hS
  clear hk hf hS
  obtain ⟨h0, h1, h2, h3, h4, h5, h6⟩ := hx
  obtain ⟨A, c, rfl, hl, _⟩ := Kd.R_reads h.row
  have H := Aside0.mk h
  have HM := Aside0.mk (may_calls x.f5.f0)
  rw [h4] at HM
  have e0 : decide (x.f1 < 0) = false := decide_eq_false h0
  have e1 : decide (x.f1 > 65535) = false := decide_eq_false h1
  have e1' : decide (65535 < x.f1) = false := decide_eq_false h1
  have e2 : decide (x.f2 < 0) = false := decide_eq_false h2
  have e3 : decide (x.f2 > 4294967295) = false := decide_eq_false h3
  have e3' : decide (4294967295 < x.f2) = false := decide_eq_false h3
  have e5 : decide (x.f5.f1 < 1) = false := decide_eq_false h5
  have e6 : decide (x.f5.f1 > 65535) = false := decide_eq_false h6
  have e6' : decide (65535 < x.f5.f1) = false := decide_eq_false h6
  clear h
  unfold v35
  go_enter Try.func12, Try.ntmps12
  go_wp2_with fail
  refine (HM.out _).mono ?_
  rintro e w1 ⟨rfl, hb⟩
  have BK := Aside0.mk (blk_below (blk_new w _) hb)
  have H1 := Aside0.mk ((H.out.below (below_alloc (Below.refl _ _) _)).below hb)
  have B1 := Aside0.mk (below_then (below_alloc (Below.refl w.heap.size w) _) (below_alloc (Below.refl w.heap.size w) _).size hb)
  have c6 : w1.cell? ⟨w.heap.size, 6, none⟩ = some (.int .i64 x.f5.f1) := (blk_cell BK.out 6).trans rfl
  have q0 : w1.cell? ⟨g, 0, none⟩ = some (.int .i64 most) := (blk_cell H1.out.blk 0).trans rfl
  have q1 : w1.cell? ⟨g, 1, none⟩ = some (.slice A xs.length c) := (blk_cell H1.out.blk 1).trans rfl
  clear hb
  simp only
  go_wp2_with fail
  go_quiet (fail)
  (try simp only [Exit.then])
  go_wp2_with fail
  clear h0 h1 h2 h3 h4 h5 h6 e0 e1 e1' e2 e3 e3' e5 e6 e6' c6 q0 q1 g1 g2
  generalize hW : World.drewN _ _ = W
  have TW : Aside0 (Below w.heap.size w W) := ⟨by rw [← hW]; exact pw_below_drewN B1.out _⟩
  have bx : W.heap[w.heap.size]? = some (.cells #[.int .i64 x.f0, .int .i64 x.f1, .int .i64 x.f2, .string x.f3, .string x.f4, .string x.f5.f0, .int .i64 x.f5.f1, .int .i64 x.f6] 35 (0, 0)) := by rw [← hW]; exact blk_drewN BK.out _
  have HW : Aside0 (TabAt W base S g most xs n f (.slice A xs.length c) m) := ⟨by rw [← hW]; exact H1.out.below (pw_below_drewN (Below.refl _ _) _)⟩
  clear hW BK H1 B1
  have HSW : Aside0 (∀ k, W.heap.size ≤ k → S k) := ⟨fun k hk => HS.out k (Nat.le_trans TW.out.size hk)⟩
  have d1 : W.cell? ⟨g, 1, none⟩ = some (.slice A xs.length c) := (blk_cell HW.out.blk 1).trans rfl
  have d1a : ∀ o, (W.alloc o).cell? ⟨g, 1, none⟩ = some (.slice A xs.length c) := fun o => alloc_cell d1 o
  have b0_ : W.cell? ⟨w.heap.size, 0, none⟩ = some (.int .i64 x.f0) := (blk_cell bx 0).trans rfl
  have b1_ : W.cell? ⟨w.heap.size, 1, none⟩ = some (.int .i64 x.f1) := (blk_cell bx 1).trans rfl
  have b2_ : W.cell? ⟨w.heap.size, 2, none⟩ = some (.int .i64 x.f2) := (blk_cell bx 2).trans rfl
  have b3_ : W.cell? ⟨w.heap.size, 3, none⟩ = some (.string x.f3) := (blk_cell bx 3).trans rfl
  have b4_ : W.cell? ⟨w.heap.size, 4, none⟩ = some (.string x.f4) := (blk_cell bx 4).trans rfl
  have b5_ : W.cell? ⟨w.heap.size, 5, none⟩ = some (.string x.f5.f0) := (blk_cell bx 5).trans rfl
  have b6_ : W.cell? ⟨w.heap.size, 6, none⟩ = some (.int .i64 x.f5.f1) := (blk_cell bx 6).trans rfl
  have b7_ : W.cell? ⟨w.heap.size, 7, none⟩ = some (.int .i64 x.f6) := (blk_cell bx 7).trans rfl
  have BX := Aside0.mk bx
  have SW : Aside0 (base ≤ W.heap.size) := ⟨HW.out.size⟩
  have XV : Aside0 (some w.heap.size ≠ (Value.slice A xs.length c).ownBlock) := ⟨fun e => by have := Kd.R_lt H.out.row _ e.symm; omega⟩
  have XG : Aside0 (w.heap.size ≠ g) := ⟨fun e => by have := blk_lt H.out.blk; omega⟩
  clear bx
  go_region_law
    ((refine step_R_append_drew k35 (W := W) base (by rfl) (.tmp 61) (.tmp 63) 46 35 (.agg #[.int .i64 0, .int .i64 0, .int .i64 0, .string ⟨#[]⟩, .string ⟨#[]⟩, .string ⟨#[]⟩, .int .i64 0, .int .i64 0]) 88 (by rfl) Try.underlying46 info35 rfl (by decide) (by omega) (.slice A xs.length c) xs x (c35 x) S (fun _ => False) (by rfl) (by rfl) (k35_mkM _ _ _ x) (fun _ hk => hk.elim) HSW.out HW.out.row SW.out (by omega) ?_; intro v1 w3 ho hb hg hat; obtain ⟨A1, c5, e5⟩ := Kd.R_slice ho; rw [show (xs ++ [x]).length = xs.length + 1 from by simp] at e5; subst e5; have G3 := Aside0.mk (blk_grown HW.out.blk hg HW.out.gv); have X3 := Aside0.mk (blk_grown BX.out hg XV.out); have V3 := Aside0.mk ho; have M3 := Aside0.mk (Many_kept HW.out.many hg HW.out.mv); have HB3 := Aside0.mk hb; have KP3 := Aside0.mk (Kept.of_grown hg (Kept.of_below TW.out S) (fun k hk => Or.inl (HW.out.row.1 k hk))); clear ho hb hg hat; have p1 : w3.cell? ⟨g, 1, none⟩ = some (.slice A xs.length c) := (blk_cell G3.out 1).trans rfl; have f1 : w3.frozen? ⟨g, 1, none⟩ = false := blk_frozen G3.out 1; have p20 : w3.cell? ⟨w.heap.size, 0, none⟩ = some (.int .i64 x.f0) := (blk_cell X3.out 0).trans rfl; have p21 : w3.cell? ⟨w.heap.size, 1, none⟩ = some (.int .i64 x.f1) := (blk_cell X3.out 1).trans rfl; have p22 : w3.cell? ⟨w.heap.size, 2, none⟩ = some (.int .i64 x.f2) := (blk_cell X3.out 2).trans rfl; have p23 : w3.cell? ⟨w.heap.size, 3, none⟩ = some (.string x.f3) := (blk_cell X3.out 3).trans rfl; have p24 : w3.cell? ⟨w.heap.size, 4, none⟩ = some (.string x.f4) := (blk_cell X3.out 4).trans rfl; have p25 : w3.cell? ⟨w.heap.size, 5, none⟩ = some (.string x.f5.f0) := (blk_cell X3.out 5).trans rfl; have p26 : w3.cell? ⟨w.heap.size, 6, none⟩ = some (.int .i64 x.f5.f1) := (blk_cell X3.out 6).trans rfl; have p27 : w3.cell? ⟨w.heap.size, 7, none⟩ = some (.int .i64 x.f6) := (blk_cell X3.out 7).trans rfl))
  all_goals
    (try simp only [Exit.then])
    have J : TabAt (w3.setCell ⟨g, 1, none⟩ (.slice A1 (xs.length + 1) c5)) base S g most (xs ++ [x]) n f (.slice A1 (xs.length + 1) c5) m := ⟨blk_put G3.out 1 _ rfl, HW.out.lo, HW.out.mlo, Kd.R_set V3.out G3.out ne61 1 _, Many_set M3.out HW.out.mg _, HW.out.sg, HW.out.sm⟩
    have J' := Aside0.mk J
    have K' := Aside0.mk (KP3.out.setCell (p := ⟨g, 1, none⟩) (Or.inl HW.out.sg) (.slice A1 (xs.length + 1) c5))
    have B' : Aside0 (Below base w (w3.setCell ⟨g, 1, none⟩ (.slice A1 (xs.length + 1) c5))) := ⟨((below_lower TW.out H.out.size).trans HB3.out).setCell (p := ⟨g, 1, none⟩) HW.out.lo _⟩
    have X' : Aside0 ((w3.setCell ⟨g, 1, none⟩ (.slice A1 (xs.length + 1) c5)).heap[w.heap.size]? = some (.cells #[.int .i64 x.f0, .int .i64 x.f1, .int .i64 x.f2, .string x.f3, .string x.f4, .string x.f5.f0, .int .i64 x.f5.f1, .int .i64 x.f6] 35 (0, 0))) := ⟨blk_far X3.out XG.out _⟩
    clear J p1 f1 p20 p21 p22 p23 p24 p25 p26 p27 b0_ b1_ b2_ b3_ b4_ b5_ b6_ b7_ d1 d1a G3 X3 V3 M3 HB3 KP3 HW HSW
    generalize w3.setCell ⟨g, 1, none⟩ (.slice A1 (xs.length + 1) c5) = W5 at *
    go_wp2_with fail
    obtain ⟨k, hk⟩ : ∃ k, keyA x = k := ⟨_, rfl⟩
    rw [hk] at HK HF
    have hKO : Calls Try.prog 24 #[.pointer (some ⟨w.heap.size, 0, none⟩)] W5.drew fun e w' => e = .returned (.agg #[.int .i64 k.a, .int .i64 k.i, .string k.s, .int .i64 k.t]) ∧ Below W5.drew.heap.size W5.drew w' := by
      have := keyOf_calls W5.drew w.heap.size x ((blk_cell X'.out 1).trans rfl) ((blk_cell X'.out 2).trans rfl) ((blk_cell X'.out 5).trans rfl) ((blk_cell X'.out 6).trans rfl)
      rw [hk] at this
      exact this
    have hKO := Aside0.mk hKO
    have hcw : wrap64 (f k + 1) = f k + 1 := IntWalk.wrap64_in _ (by have := HF.out; omega)
    have hcw2 : IntKind.i64.wrap (f k + 1) = f k + 1 := IntWalk.i64_in _ (by have := HF.out; omega)
    have hcf : Aside0 ((Lit.int .i64 (f k + 1)).wf = true) := ⟨wf_small _ (by have := HF.out; omega)⟩
    have c2 : W5.drew.cell? ⟨g, 2, none⟩ = some (.map (some m)) := (blk_cell J'.out.blk 2).trans rfl
    go_region_held3 (fun w' => w'.cell? ⟨g, 2, none⟩ = some (.map (some m)))
      (first | ((try dsimp only); with_reducible assumption))
      ((go_at_call 24; refine hKO.out.mono ?_; rintro e w6 ⟨rfl, hb⟩; have J6 := (J'.out.below (below_drew (Below.refl _ _))).below hb; have hlk := Many_look J6.many k HK.out; obtain ⟨v0, st, w7, hent, hm7, hg7, hst⟩ := Many_entry J6.many k HK.out hn; obtain ⟨w8, hsto, hm8, hg8⟩ := hst (f k + 1) hcf.out; have hlk7 := Many_look hm7 k HK.out; have H8 := Aside0.mk (J6.turned hm8 hg8); have KP8 := Aside0.mk (Kept.of_grown hg8 (K'.out.drew.below hb) (fun j hj => by cases hj; exact Or.inl J6.sm)); have BB8 := Aside0.mk (((below_drew1 B'.out).trans (below_lower hb J'.out.size)).grown hg8 J6.size (fun j hj => by cases hj; exact J6.mlo)); have a6 : w6.cell? ⟨g, 2, none⟩ = some (.map (some m)) := (blk_cell J6.blk 2).trans rfl; have a7 : w7.cell? ⟨g, 2, none⟩ = some (.map (some m)) := (blk_cell (J6.turned hm7 hg7).blk 2).trans rfl; have a8 : w8.cell? ⟨g, 2, none⟩ = some (.map (some m)) := (blk_cell H8.out.blk 2).trans rfl; clear J6 hm7 hg7 hm8 hg8 hst hb; unfold kv at hlk hent hlk7))
    all_goals
      (try simp only [Exit.then])
      clear a6 a7 a8 c2 hlk hent hlk7 hsto
      go_wp2_with fail
      go_ret
      exact ⟨rfl, ⟨_, by rw [hk]; exact H8.out⟩, BB8.out, KP8.out⟩
end
end Go.Proofs.Ytojjkgnkdcekpaa.M
